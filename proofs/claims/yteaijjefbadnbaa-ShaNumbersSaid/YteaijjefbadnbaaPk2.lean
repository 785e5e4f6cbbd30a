/-
  Texts of one seat, put together: MarkL, StrL.
  No conditions: lemmas over any program.
-/
import Derived.Test.YteaijjefbadnbaaPk1
import Derived.Lib.ConvBytes
namespace Go.Proofs.Yteaijjefbadnbaa
open Go.RowKit
set_option linter.unusedVariables false
set_option linter.unusedSimpArgs false
set_option maxRecDepth 100000

section
variable {P : Program} {ops : Array Oper} {Q : Exit → Act → World → Prop} {l : List Value} {ds : List Deferred} {w : World} {oi : Oper} {rest : List Oper}
theorem run_mark (t e : TypeId) (g n c : Nat) (C : Array Value) (ht : P.underlying t = some (.slice e)) (he : P.underlying e = some (.int .u8)) (hg : w.heap[g]? = some (.cells C e (0, 0))) :
    (convert t t (.slice (some ⟨g, 0, none⟩) n c)).run P w = .ok (.slice (some ⟨g, 0, none⟩) n c) { w with heap := w.heap.modify g fun _ => .cells C e (C.size, C.size + 1) } := by
  have hlt : g < w.heap.size := (Array.getElem?_eq_some_iff.1 hg).1
  have hsh : w.shape? g = some (e, C.size) := by unfold World.shape?; rw [hg]
  have hfr : w.freeze ⟨g, C.size, none⟩ 1 = { w with heap := w.heap.modify g fun _ => .cells C e (C.size, C.size + 1) } := by
    unfold World.freeze
    rw [if_neg (by decide)]
    congr 1
    apply Array.ext
    · simp
    · intro i h1 h2
      simp only [Array.getElem_modify]
      by_cases h : g = i
      · subst h
        have := (Array.getElem?_eq_some_iff.1 hg).2
        simp [this]
      · simp [h]
  simp [convert, run_underlying ht, run_underlying he, markStringish, hsh]
  exact hfr
theorem xMark (d : Nat) (t e : TypeId) (x : Operand) (ho : oi.op = .convert t t x) (ht : P.underlying t = some (.slice e)) (he : P.underlying e = some (.int .u8))
    (g n : Nat) (xs : List Int) (hx : (⟨l.toArray, ds⟩ : Act).eval x = .slice (some ⟨g, 0, none⟩) n n) (hB : Blk .u8 w g e xs) (hn : xs.length = n) (hm : n ≤ maxLen)
    (h : ∀ w', SL .u8 w' (.slice (some ⟨g, 0, none⟩) n n) xs → Ev (fun i => i = g) w w' → w'.heap.size = w.heap.size → wpList P ops Q rest ⟨(l.set d (.slice (some ⟨g, 0, none⟩) n n)).toArray, ds⟩ w')
    (hw : Region.wanted oi (yielded ops l.toArray) = true := by kernel_rfl) (hd : oi.dst = some d := by rfl) : wpList P ops Q (oi :: rest) ⟨l.toArray, ds⟩ w := by
  subst hn
  refine wpList_wanted hw fun K hK => ?_
  have hrun := run_mark (P := P) (w := w) t e g xs.length xs.length (cellsOf .u8 xs) ht he hB
  unfold Oper.wp
  simp only [execOp, ho, hx, Sem.run_bind, hrun, Result.andThen_ok, Sem.run_pure]
  rw [Oper.upon_value, put_list' d _ hd]
  have hlt : g < w.heap.size := (Array.getElem?_eq_some_iff.1 hB).1
  refine hK _ _ (h _ ?_ ⟨rfl, rfl, rfl, by simp, fun i hi hn => ?_⟩ (by simp))
  · refine .inr ⟨g, 0, _, rfl, Nat.le_refl _, hm, by simpa using hlt, fun j hj => ?_⟩
    rw [Nat.zero_add]
    unfold World.cell?
    have : (w.heap.modify g fun _ => Obj.cells (cellsOf .u8 xs) e ((cellsOf .u8 xs).size, (cellsOf .u8 xs).size + 1))[g]? = some (.cells (cellsOf .u8 xs) e ((cellsOf .u8 xs).size, (cellsOf .u8 xs).size + 1)) := by
      simp [Array.getElem?_modify, hlt, Array.getElem_modify]
    simp only [this]
    exact cells_at .u8 xs j hj
  · have hne : ¬ g = i := fun e => hn e.symm
    simp [Array.getElem?_modify, hne]
end
end Go.Proofs.Yteaijjefbadnbaa

namespace Go.Proofs.Yteaijjefbadnbaa
open Go.RowKit
set_option linter.unusedVariables false
set_option linter.unusedSimpArgs false
set_option maxRecDepth 100000

section
variable {P : Program} {ops : Array Oper} {Q : Exit → Act → World → Prop} {l : List Value} {ds : List Deferred} {w : World} {oi : Oper} {rest : List Oper}
theorem run_boundK {k : Nat} {y : Nat} {kd : IntKind} {c : BoundsCode} (h : k ≤ y) : (Instr.sliceBound (.int kd (k : Int)) y c).run P w = .ok k w := by
  have h2 : (0 : Int) ≤ k ∧ (k : Int) ≤ y := by omega
  simp [Instr.sliceBound, asIntOf, h]
theorem Val.slStr {a : Act} {op : Oper} (t : TypeId) (x lo hi : Operand) (ho : op.op = .slice t x (some lo) (some hi) none) (B : ByteArray) (hx : a.eval x = .string B) (l' h' : Nat) {k1 k2 : IntKind}
    (hlo : a.eval lo = .int k1 (l' : Int)) (hhi : a.eval hi = .int k2 (h' : Int)) (h1 : l' ≤ h') (h2 : h' ≤ B.size) (ht : P.underlying t = some .string) : Val P a op (.string (B.extract l' h')) w := by
  have hb : (Instr.sliceBounds false B.size B.size (some (.int k1 (l' : Int))) (some (.int k2 (h' : Int))) none).run P w = .ok (l', h', B.size) w := by
    unfold Instr.sliceBounds
    simp [run_boundK (P := P) (w := w) h2, run_boundK (P := P) (w := w) h1]
  unfold Val execOp
  simp only [ho, hx, hlo, hhi, Instr.sliceAt, run_underlying ht, Sem.run_bind, Result.andThen_ok, Instr.slice, Option.map_none, Option.map_some, hb, Sem.run_pure]
  simp [hb]
theorem Val.catStr {a : Act} {op : Oper} (t ty : TypeId) (x y : Operand) (ho : op.op = .binOp .add t x y ty) (A B : ByteArray) (hx : a.eval x = .string A) (hy : a.eval y = .string B) (hsz : A.size + B.size ≤ 9223372036854775807) : Val P a op (.string (A ++ B)) w := by
  refine Val.bin .add t ty x y ho _ _ hx hy ?_ ?_
  · simp [eqGuard]
  · simp [binOp, Op.stringOp]; omega
/-- a string of numbers -/
def strN (ns : List Nat) : ByteArray := ⟨(ns.map UInt8.ofNat).toArray⟩
theorem xBytes (d : Nat) (src dst e : TypeId) (x : Operand) (ho : oi.op = .convert src dst x) {u : TypeDesc} (hs : P.underlying src = some u) (hd' : P.underlying dst = some (.slice e)) (he : P.underlying e = some (.int .u8))
    (ns : List Nat) (hx : (⟨l.toArray, ds⟩ : Act).eval x = .string (strN ns)) (hb : ∀ n ∈ ns, n < 256) (hm : ns.length ≤ maxLen)
    (h : ∀ c w', SL .u8 w' (.slice (some ⟨w.heap.size, 0, none⟩) ns.length c) (nn ns) → E0 w w' → w'.heap.size = w.heap.size + 1 → wpList P ops Q rest ⟨(l.set d (.slice (some ⟨w.heap.size, 0, none⟩) ns.length c)).toArray, ds⟩ w')
    (hw : Region.wanted oi (yielded ops l.toArray) = true := by kernel_rfl) (hd : oi.dst = some d := by rfl) : wpList P ops Q (oi :: rest) ⟨l.toArray, ds⟩ w := by
  refine wpList_wanted hw fun K hK => ?_
  have hsz : (strN ns).size = ns.length := by simp [strN, ByteArray.size]
  have hrun := Go.Lib.run_convert_string_bytes (P := P) w src dst e (strN ns) hs hd' he
  rw [hsz] at hrun
  unfold Oper.wp
  simp only [execOp, ho, hx, Sem.run_bind, hrun, Result.andThen_ok, Sem.run_pure]
  rw [Oper.upon_value, put_list' d _ hd]
  have hc1 := grownCap_ge w ns.length 0 e
  have hc2 := grownCap_le_maxLen w ns.length 0 e hm
  refine hK _ _ (h _ _ ?_ ⟨rfl, rfl, rfl, ?_, fun i hi _ => Go.Lib.bytesWorld_at_old w e _ i hi⟩ (Go.Lib.bytesWorld_size w e _))
  · refine .inr ⟨w.heap.size, 0, grownCap w ns.length 0 e, by rw [nn_len], by rw [nn_len]; exact hc1, hc2, by rw [Go.Lib.bytesWorld_size]; omega, fun j hj => ?_⟩
    rw [nn_len] at hj
    rw [Nat.zero_add, Go.Lib.bytesWorld_cell w e _ j (by rw [hsz]; exact hj), nn_getD]
    have hn := hb _ (List.getElem_mem hj)
    simp only [strN, List.getD_eq_getElem?_getD, List.getElem?_map, List.getElem?_eq_getElem hj, Option.map_some, Option.getD_some]
    congr 2
    simp [Nat.mod_eq_of_lt hn]
  · rw [Go.Lib.bytesWorld_size]; omega
end
end Go.Proofs.Yteaijjefbadnbaa
