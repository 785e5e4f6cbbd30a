/-
  []byte("ab") of a constant: a literal's row, marked.
  No conditions: lemmas over any program.
-/
import Derived.Test.YteaijjefbadnbaaGrowL
namespace Go.Proofs.Yteaijjefbadnbaa
open Go.RowKit
set_option linter.unusedVariables false
set_option linter.unusedSimpArgs false
set_option maxRecDepth 100000

section
variable {P : Program} {ops : Array Oper} {Q : Exit → Act → World → Prop} {l : List Value} {ds : List Deferred} {w : World} {oi : Oper} {rest : List Oper}
theorem run_mark (t e : TypeId) (g n c : Nat) (C : Array Value) (ht : P.underlying t = some (.slice e)) (he : P.underlying e = some (.int .u8)) (hg : w.heap[g]? = some (.cells C e (0, 0))) :
    (convert t t (.slice (some ⟨g, 0, none⟩) n c)).run P w = .ok (.slice (some ⟨g, 0, none⟩) n c) { w with heap := w.heap.modify g fun _ => .cells C e (C.size, C.size + 1) } := by
  have hlt : g < w.heap.size := (Array.getElem?_eq_some_iff.1 hg).1
  have hsh : w.shape? g = some (e, C.size) := by unfold World.shape?; rw [hg]
  have hfr : w.freeze ⟨g, C.size, none⟩ 1 = { w with heap := w.heap.modify g fun _ => .cells C e (C.size, C.size + 1) } := by
    unfold World.freeze
    rw [if_neg (by decide)]
    congr 1
    apply Array.ext
    · simp
    · intro i h1 h2
      simp only [Array.getElem_modify]
      by_cases h : g = i
      · subst h
        have := (Array.getElem?_eq_some_iff.1 hg).2
        simp [this]
      · simp [h]
  simp [convert, run_underlying ht, run_underlying he, markStringish, hsh]
  exact hfr
theorem xMark (d : Nat) (t e : TypeId) (x : Operand) (ho : oi.op = .convert t t x) (ht : P.underlying t = some (.slice e)) (he : P.underlying e = some (.int .u8))
    (g n : Nat) (xs : List Int) (hx : (⟨l.toArray, ds⟩ : Act).eval x = .slice (some ⟨g, 0, none⟩) n n) (hB : Blk .u8 w g e xs) (hn : xs.length = n) (hm : n ≤ maxLen)
    (h : ∀ w', SL .u8 w' (.slice (some ⟨g, 0, none⟩) n n) xs → Ev (fun i => i = g) w w' → w'.heap.size = w.heap.size → wpList P ops Q rest ⟨(l.set d (.slice (some ⟨g, 0, none⟩) n n)).toArray, ds⟩ w')
    (hw : Region.wanted oi (yielded ops l.toArray) = true := by kernel_rfl) (hd : oi.dst = some d := by rfl) : wpList P ops Q (oi :: rest) ⟨l.toArray, ds⟩ w := by
  subst hn
  refine wpList_wanted hw fun K hK => ?_
  have hrun := run_mark (P := P) (w := w) t e g xs.length xs.length (cellsOf .u8 xs) ht he hB
  unfold Oper.wp
  simp only [execOp, ho, hx, Sem.run_bind, hrun, Result.andThen_ok, Sem.run_pure]
  rw [Oper.upon_value, put_list' d _ hd]
  have hlt : g < w.heap.size := (Array.getElem?_eq_some_iff.1 hB).1
  refine hK _ _ (h _ ?_ ⟨rfl, rfl, rfl, by simp, fun i hi hn => ?_⟩ (by simp))
  · refine .inr ⟨g, 0, _, rfl, Nat.le_refl _, hm, by simpa using hlt, fun j hj => ?_⟩
    rw [Nat.zero_add]
    unfold World.cell?
    have : (w.heap.modify g fun _ => Obj.cells (cellsOf .u8 xs) e ((cellsOf .u8 xs).size, (cellsOf .u8 xs).size + 1))[g]? = some (.cells (cellsOf .u8 xs) e ((cellsOf .u8 xs).size, (cellsOf .u8 xs).size + 1)) := by
      simp [Array.getElem?_modify, hlt, Array.getElem_modify]
    simp only [this]
    exact cells_at .u8 xs j hj
  · have hne : ¬ g = i := fun e => hn e.symm
    simp [Array.getElem?_modify, hne]
end
end Go.Proofs.Yteaijjefbadnbaa
