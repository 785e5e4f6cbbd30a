/-
  Blocks that hold pairs: copied into, cleared, appended to in place and with growth (what slices.Insert and slices.Replace do to a row of spans).
  No conditions: lemmas over any program.
-/
import Derived.Test.YtanggdnmoaflfaaSpanL
import Derived.Laws.CopyRow
import Derived.Laws.Append
import Derived.Laws.AppendOwn
import Derived.Lib.Overlaps
namespace Go.Proofs.Ytanggdnmoaflfaa
open Go.ChangeShapes Go.WideShapes Go.ChangeAt Go.RowKit
set_option linter.unusedVariables false
set_option linter.unusedSimpArgs false
set_option maxRecDepth 100000

def pairC (full : List (Value × Value)) : List Value := full.flatMap fun p => [p.1, p.2]
def encP (s : Int × Int) : Value × Value := (.int .i64 s.1, .int .i64 s.2)
theorem pairC_cons (p : Value × Value) (t : List (Value × Value)) : pairC (p :: t) = p.1 :: p.2 :: pairC t := rfl
theorem pairC_app (a b : List (Value × Value)) : pairC (a ++ b) = pairC a ++ pairC b := by simp [pairC]
theorem pairC_len : ∀ full : List (Value × Value), (pairC full).length = full.length * 2
  | [] => rfl
  | p :: t => by rw [pairC_cons, List.length_cons, List.length_cons, pairC_len t, List.length_cons]; omega
theorem pairC_take : ∀ (full : List (Value × Value)) (n : Nat), (pairC full).take (n * 2) = pairC (full.take n)
  | _, 0 => by simp [pairC]
  | [], n + 1 => by simp [pairC]
  | p :: t, n + 1 => by rw [show (n + 1) * 2 = n * 2 + 1 + 1 by omega, pairC_cons, List.take_succ_cons, List.take_succ_cons, pairC_take t n, List.take_succ_cons, pairC_cons]
theorem pairC_drop : ∀ (full : List (Value × Value)) (n : Nat), (pairC full).drop (n * 2) = pairC (full.drop n)
  | _, 0 => by simp
  | [], n + 1 => by simp [pairC]
  | p :: t, n + 1 => by rw [show (n + 1) * 2 = n * 2 + 1 + 1 by omega, pairC_cons, List.drop_succ_cons, List.drop_succ_cons, pairC_drop t n, List.drop_succ_cons]
theorem pairC_enc : ∀ h : List (Int × Int), pairC (h.map encP) = nums .i64 (spS h).flatten
  | [] => rfl
  | s :: h => by rw [List.map_cons, pairC_cons, pairC_enc h]; rfl
theorem pairC_of : ∀ (n : Nat) (cs : List Value), cs.length = n * 2 → ∃ full, cs = pairC full ∧ full.length = n
  | 0, cs, h => ⟨[], List.eq_nil_of_length_eq_zero (by omega), rfl⟩
  | n + 1, [], h => by simp at h
  | n + 1, [a], h => by simp at h; omega
  | n + 1, a :: b :: cs, h => by
    obtain ⟨f, rfl, hf⟩ := pairC_of n cs (by simp only [List.length_cons] at h; omega)
    exact ⟨(a, b) :: f, rfl, by rw [List.length_cons, hf]⟩
theorem encP_one (s : Int × Int) : (encP s).1.oneCell' = true ∧ (encP s).2.oneCell' = true := ⟨rfl, rfl⟩
def onesP (ys : List (Value × Value)) : Prop := ∀ p ∈ ys, p.1.oneCell' = true ∧ p.2.oneCell' = true
theorem onesP.enc (h : List (Int × Int)) : onesP (h.map encP) := fun p hp => by
  obtain ⟨s, _, rfl⟩ := List.mem_map.1 hp; exact encP_one s
theorem onesP.take {ys : List (Value × Value)} (h : onesP ys) (n : Nat) : onesP (ys.take n) := fun p hp => h p (List.mem_of_mem_take hp)
theorem onesP.drop {ys : List (Value × Value)} (h : onesP ys) (n : Nat) : onesP (ys.drop n) := fun p hp => h p (List.mem_of_mem_drop hp)
theorem onesP.cells {ys : List (Value × Value)} (h : onesP ys) : ∀ v ∈ pairC ys, v.oneCell' = true := fun v hv => by
  obtain ⟨p, hp, hv⟩ := List.mem_flatMap.1 hv
  have := h p hp
  simp only [List.mem_cons, List.not_mem_nil, or_false] at hv
  rcases hv with rfl | rfl
  · exact this.1
  · exact this.2
def overP (full : List (Value × Value)) (lo : Nat) (ys : List (Value × Value)) : List (Value × Value) := full.take lo ++ ys ++ full.drop (lo + ys.length)
theorem overV_pair (full ys : List (Value × Value)) (lo : Nat) : (pairC full).take (lo * 2) ++ pairC ys ++ (pairC full).drop (lo * 2 + (pairC ys).length) = pairC (overP full lo ys) := by
  rw [pairC_len, ← Nat.add_mul, pairC_take, pairC_drop, overP, pairC_app, pairC_app]
theorem overP_len {full ys : List (Value × Value)} {lo : Nat} (h : lo + ys.length ≤ full.length) : (overP full lo ys).length = full.length := by
  unfold overP; simp only [List.length_append, List.length_take, List.length_drop]; omega
theorem sliceE_lit (z : Nat) (a : Option Addr) (n c lo hi : Nat) : sliceE z (.slice a n c) lo hi = .slice (if c = lo then a else a.map (·.add (lo * z))) (hi - lo) (c - lo) := rfl
/-- Block g holds these pairs. -/
def FB (w : World) (g : Nat) (t : TypeId) (full : List (Value × Value)) : Prop := Cel w g t (pairC full)
theorem FB.lt {w : World} {g : Nat} {t : TypeId} {full : List (Value × Value)} (h : FB w g t full) : g < w.heap.size := Cel.lt h
theorem FB.cell {w : World} {g : Nat} {t : TypeId} {full : List (Value × Value)} (h : FB w g t full) (j : Nat) (v : Value) (hv : (pairC full)[j]? = some v) : w.cell? ⟨g, j, none⟩ = some v := Cel.cell h j v hv
/-- What a slice of pairs reads as, cell by cell. -/
def SrcP (w : World) (u : Value) (ys : List (Value × Value)) : Prop :=
  (ys = [] ∧ ∃ a c, u = .slice a 0 c) ∨ ∃ b o c, u = .slice (some ⟨b, o, none⟩) ys.length c ∧ ∀ j v, (pairC ys)[j]? = some v → w.cell? ⟨b, o + j, none⟩ = some v
theorem SE.src {w : World} {u : Value} {y : List (Int × Int)} (h : SE .i64 2 w u (spS y)) : SrcP w u (y.map encP) := by
  rcases h.2 with ⟨rfl, h0⟩ | ⟨b, o, c, rfl, h1, h2, h3, h4⟩
  · have : y.length = 0 := by rw [← spS_len, h0]; rfl
    rw [List.eq_nil_of_length_eq_zero this]
    exact .inl ⟨rfl, _, _, rfl⟩
  · refine .inr ⟨b, o, c, by rw [List.length_map, spS_len], fun j v hv => ?_⟩
    rw [pairC_enc] at hv
    have hj := (List.getElem?_eq_some_iff.1 hv).1
    rw [nums_length, fe_length (spS_lens y)] at hj
    rw [h4 j hj, ← hv, nums_get _ _ _ (by rw [fe_length (spS_lens y)]; exact hj)]
theorem FB.src {w : World} {g : Nat} {t : TypeId} {full : List (Value × Value)} (h : FB w g t full) (n c lo hi : Nat) (h1 : lo ≤ hi) (h2 : hi ≤ full.length) (hc : full.length = c) : SrcP w (sliceE 2 (.slice (some ⟨g, 0, none⟩) n c) lo hi) ((full.drop lo).take (hi - lo)) := by
  have hl : ((full.drop lo).take (hi - lo)).length = hi - lo := by rw [List.length_take, List.length_drop]; omega
  by_cases he : hi = lo
  · subst he
    rw [Nat.sub_self, List.take_zero]
    exact .inl ⟨rfl, _, _, by rw [sliceE_lit, Nat.sub_self]⟩
  · refine .inr ⟨g, lo * 2, c - lo, ?_, fun j v hv => ?_⟩
    · rw [sliceE_lit, hl, if_neg (by omega), Option.map_some, Addr.add_mid, Nat.zero_add]
    · rw [← pairC_take, ← pairC_drop] at hv
      have hj := (List.getElem?_eq_some_iff.1 hv).1
      rw [List.length_take, List.length_drop, pairC_len] at hj
      rw [List.getElem?_take, if_pos (by omega), List.getElem?_drop] at hv
      exact h.cell _ v hv
theorem FB.ev {X : Nat → Prop} {w w' : World} {g : Nat} {t : TypeId} {full : List (Value × Value)} (h : FB w g t full) (e : Ev X w w') (hn : ¬ X g) : FB w' g t full := Cel.ev h e hn
/-- out of a row of the call's own -/
theorem OwnE.fb {e : TypeId} {base : Nat} {w : World} {v : Value} {h : List (Int × Int)} (O : OwnE e .i64 2 base w v (spS h)) :
    (v = .slice none 0 0 ∧ h = []) ∨ ∃ g c rest, v = .slice (some ⟨g, 0, none⟩) h.length c ∧ base ≤ g ∧ FB w g e (h.map encP ++ rest) ∧ (h.map encP ++ rest).length = c ∧ h.length ≤ c ∧ c ≤ maxLen := by
  obtain ⟨h0, hl, hh⟩ := O
  rcases hh with ⟨hv, hn⟩ | ⟨g, cap, cur, hv, hg, hh, h1, h2, h3, h4⟩
  · rw [spS_len] at hn
    exact .inl ⟨hv, List.eq_nil_of_length_eq_zero hn⟩
  · rw [spS_len] at hv h1 h4
    obtain ⟨full, hf, hfl⟩ := pairC_of cap cur.toList (by rw [← h3]; simp)
    have ht : full.take h.length = h.map encP := by
      have : pairC (full.take h.length) = pairC (h.map encP) := by rw [← pairC_take, ← hf, h4, pairC_enc]
      have inj : ∀ a b : List (Value × Value), pairC a = pairC b → a = b := by
        intro a
        induction a with
        | nil => intro b hb; cases b with
          | nil => rfl
          | cons p b => simp [pairC] at hb
        | cons p a ih => intro b hb; cases b with
          | nil => simp [pairC] at hb
          | cons q b =>
            simp only [pairC_cons, List.cons.injEq] at hb
            rw [ih b hb.2.2, Prod.ext hb.1 hb.2.1]
      exact inj _ _ this
    refine .inr ⟨g, cap, full.drop h.length, hv, hg, ?_, ?_, h1, h2⟩
    · rw [← ht, List.take_append_drop]
      show w.heap[g]? = _
      rw [hh, ← hf]
    · rw [← ht, List.take_append_drop, hfl]
theorem FB.owne {e : TypeId} {base : Nat} {w : World} {g : Nat} {full : List (Value × Value)} (F : FB w g e full) {h : List (Int × Int)} {n c : Nat} (ht : full.take n = h.map encP) (hn : n = h.length) (hc : full.length = c) (hle : n ≤ c) (hm : c ≤ maxLen) (hb : base ≤ g) : OwnE e .i64 2 base w (.slice (some ⟨g, 0, none⟩) n c) (spS h) := by
  subst hn
  refine ⟨spS_lens h, ?_, .inr ⟨g, c, (pairC full).toArray, by rw [spS_len], hb, F, by rw [spS_len]; exact hle, hm, by rw [List.size_toArray, pairC_len, hc], ?_⟩⟩
  · rw [nums_length, fe_length (spS_lens h)]
  · rw [spS_len]
    show (pairC full).take (h.length * 2) = _
    rw [pairC_take, ht, pairC_enc]
section
variable {P : Program} {ops : Array Oper} {Q : Exit → Act → World → Prop} {l : List Value} {ds : List Deferred} {w : World} {oi : Oper} {rest : List Oper}
/-- part of a slice, whatever lies there -/
theorem Val.slcX {a : Act} {op : Oper} {w : World} (t : TypeId) (x : Operand) (lo hi : Option Operand) (ho : op.op = .slice t x lo hi none) (b : Addr) (n c : Nat) (hx : a.eval x = .slice (some b) n c) (l' h' : Nat)
    (hlo : lo.map a.eval = some (.int .i64 (l' : Int)) ∨ (lo = none ∧ l' = 0)) (hhi : hi.map a.eval = some (.int .i64 (h' : Int)) ∨ (hi = none ∧ h' = n)) (h1 : l' ≤ h') (h2 : h' ≤ c)
    {e : TypeId} (ht : P.underlying t = some (.slice e)) {z : Nat} (hi0 : (P.info? e).map (·.size) = some z) : Val P a op (sliceE z (.slice (some b) n c) l' h') w := by
  obtain ⟨i, hi1, hm⟩ := Option.map_eq_some_iff.1 hi0
  have hsz : (sizeOf e).run P w = .ok z w := by simp [sizeOf, typeInfo, hi1, hm]
  have hb : (Instr.sliceBounds true n c (lo.map a.eval) (hi.map a.eval) none).run P w = .ok (l', h', c) w := by
    unfold Instr.sliceBounds
    rcases hlo with hlo | ⟨rfl, rfl⟩ <;> rcases hhi with hhi | ⟨rfl, rfl⟩
    · simp [hlo, hhi, run_bound (P := P) (w := w) h2, run_bound (P := P) (w := w) h1]
    · simp [hlo, run_bound (P := P) (w := w) h1]
    · simp [hhi, run_bound (P := P) (w := w) h2]
    · simp
  unfold Val execOp
  simp only [ho, hx, Instr.sliceAt, run_underlying ht, Sem.run_bind, Result.andThen_ok, Instr.slice, Option.map_none, hb, hsz, Sem.run_pure]
  rfl
theorem pairs_len {m : Nat} {ys : List (Value × Value)} (h : ys.length = m) : (pairC ys).length = m * 2 := by rw [pairC_len, h]
theorem run_copyF (w : World) (dT sT ty elem : TypeId) (hu : P.underlying dT = some (.slice elem)) (hs : (P.info? elem).map (·.size) = some 2) (g : Nat) (t : TypeId) (full : List (Value × Value)) (hF : FB w g t full) (n c lo hi : Nat) (hlo : lo ≤ hi) (hhi : hi ≤ full.length) (hc : full.length = c)
    (u : Value) (ys : List (Value × Value)) (hS : SrcP w u ys) (m : Nat) (hm : m = min ys.length (hi - lo)) (h1 : onesP (ys.take m)) :
    ∃ w', (Builtin.copy_ #[dT, sT] ty #[sliceE 2 (.slice (some ⟨g, 0, none⟩) n c) lo hi, u]).run P w = .ok (goInt (m : Int)) w' ∧ Tn g t (pairC (overP full lo (ys.take m))) w w' := by
  obtain ⟨i, hq, hi2⟩ := Option.map_eq_some_iff.1 hs
  have hz : m = 0 → Tn g t (pairC (overP full lo (ys.take m))) w w := fun h0 => by
    subst h0
    rw [List.take_zero]
    refine ⟨Ev.refl _ _, ?_, rfl⟩
    rw [show overP full lo [] = full by simp [overP]]
    exact hF
  rcases hS with ⟨rfl, a, c', rfl⟩ | ⟨b, o, c', rfl, hcell⟩
  · have hm0 : m = 0 := by simpa using hm
    refine ⟨w, ?_, hz hm0⟩
    subst hm0
    rw [sliceE_lit]
    cases a with
    | none => by_cases he : c = lo <;> simp [Builtin.copy_, run_underlying hu, Builtin.lenOf, Builtin.firstCells, sizeOf, typeInfo, hq, storeCells, he]
    | some a =>
      have hl0 := run_loadCells_list (P := P) w a [] (fun j v hj => by simp at hj)
      simp only [List.length_nil] at hl0
      by_cases he : c = lo <;> simp [Builtin.copy_, run_underlying hu, Builtin.lenOf, Builtin.firstCells, sizeOf, typeInfo, hq, storeCells, he, hl0]
  · have hml : (ys.take m).length = m := by rw [List.length_take]; omega
    have hcl : (pairC (ys.take m)).length = m * 2 := pairs_len hml
    have hl := run_loadCells_list (P := P) w ⟨b, o, none⟩ (pairC (ys.take m)) (fun j v hj => by
      rw [Addr.add_lit]
      rw [← pairC_take] at hj
      have hjl := (List.getElem?_eq_some_iff.1 hj).1
      rw [List.length_take] at hjl
      rw [List.getElem?_take, if_pos (by omega)] at hj
      exact hcell j v hj)
    rw [hcl] at hl
    by_cases he : c = lo
    · have hm0 : m = 0 := by omega
      refine ⟨w, ?_, hz hm0⟩
      subst hm0
      rw [sliceE_lit, if_pos he]
      have hn0 : Nat.min ys.length (hi - lo) = 0 := by show min _ _ = 0; omega
      rw [Nat.zero_mul] at hl
      have e0 : pairC (ys.take 0) = [] := by rw [List.take_zero]; rfl
      rw [e0] at hl
      simp [Builtin.copy_, run_underlying hu, Builtin.lenOf, Builtin.firstCells, sizeOf, typeInfo, hq, hn0, hl, storeCells]
    · have hst := run_storeCells_at P g (lo * 2) t (pairC (ys.take m)) 0 (pairC full).toArray w hF (by rw [hcl, List.size_toArray, pairC_len]; omega) h1.cells
      refine ⟨w.setRow g (pairC (overP full lo (ys.take m))).toArray, ?_, ⟨⟨rfl, rfl, rfl, by simp [World.setRow], fun i _ hi => setRow_other w g i _ hi⟩, setRow_heap w g _ _ t _ hF, by simp [World.setRow]⟩⟩
      · have hn0 : Nat.min ys.length (hi - lo) = m := hm.symm
        rw [sliceE_lit, if_neg he, Option.map_some, Addr.add_mid, Nat.zero_add]
        have e2 : (pairC full).take (lo * 2) ++ pairC (ys.take m) ++ (pairC full).drop (lo * 2 + (pairC (ys.take m)).length) = pairC (overP full lo (ys.take m)) := overV_pair _ _ _
        simp only [Nat.add_zero] at hst
        rw [e2] at hst
        simp [Builtin.copy_, run_underlying hu, Builtin.lenOf, Builtin.firstCells, sizeOf, typeInfo, hq, hi2, hn0, hl, hst]
theorem xCopyF (d : Nat) (x y : Operand) (dT sT elem : TypeId) (ho : oi.op = .call { callee := .builtin .copy, args := #[x, y], argTypes := #[dT, sT] }) (hu : P.underlying dT = some (.slice elem)) (hs : (P.info? elem).map (·.size) = some 2)
    (g : Nat) (t : TypeId) (full : List (Value × Value)) (n c lo hi : Nat) (hx : (⟨l.toArray, ds⟩ : Act).eval x = sliceE 2 (.slice (some ⟨g, 0, none⟩) n c) lo hi) (u : Value) (hy : (⟨l.toArray, ds⟩ : Act).eval y = u)
    (hF : FB w g t full) (hlo : lo ≤ hi) (hhi : hi ≤ full.length) (hc : full.length = c) (ys : List (Value × Value)) (hS : SrcP w u ys) (m : Nat) (hm : m = min ys.length (hi - lo)) (h1 : onesP (ys.take m))
    (h : ∀ w', Tn g t (pairC (overP full lo (ys.take m))) w w' → wpList P ops Q rest ⟨(l.set d (.int .i64 (m : Int))).toArray, ds⟩ w')
    (hgd : oi.guard = none := by rfl) (hd : oi.dst = some d := by rfl) : wpList P ops Q (oi :: rest) ⟨l.toArray, ds⟩ w := by
  refine wpList_plain hgd fun K hK => ?_
  obtain ⟨w', hrun, ht⟩ := run_copyF (P := P) w dT sT oi.type elem hu hs g t full hF n c lo hi hlo hhi hc u ys hS m hm h1
  unfold Oper.wp
  simp [execOp, ho, resolve, invoke, builtin, hx, hy, hrun, Result.andThen]
  refine hK _ _ ?_
  rw [show (goInt (m : Int)) = .int .i64 (m : Int) from rfl, put_list' d _ hd]
  exact h w' ht
theorem zeroP (n : Nat) : (Builtin.zeroCells #[.int .i64 0, .int .i64 0] n).toList = pairC (List.replicate n (encP (0, 0))) := by
  unfold Builtin.zeroCells
  apply List.ext_getElem
  · simp [pairC_len]
  · intro j h1 h2
    simp only [Array.toList_map, Array.toList_range, List.getElem_map, List.getElem_range]
    have key : ∀ (n j : Nat) (hj : j < (pairC (List.replicate n (encP (0, 0)))).length), (pairC (List.replicate n (encP (0, 0))))[j] = .int .i64 0 := by
      intro n
      induction n with
      | zero => intro j hj; simp [pairC] at hj
      | succ n ih =>
        intro j hj
        match j with
        | 0 => rfl
        | 1 => rfl
        | j + 2 =>
          have := ih j (by simpa [List.replicate_succ, pairC_cons] using hj)
          simpa [List.replicate_succ, pairC_cons] using this
    rw [key n j h2]
    show (#[Value.int .i64 0, Value.int .i64 0] : Array Value)[j % 2]! = _
    rcases (show j % 2 = 0 ∨ j % 2 = 1 by omega) with e | e <;> rw [e] <;> rfl
theorem onesP.zero (n : Nat) : onesP (List.replicate n (encP (0, 0))) := fun p hp => by rw [List.eq_of_mem_replicate hp]; exact ⟨rfl, rfl⟩
theorem xClearF (x : Operand) (tT elem : TypeId) (ho : oi.op = .call { callee := .builtin .clear, args := #[x], argTypes := #[tT] }) (hu : P.underlying tT = some (.slice elem)) (hz : (P.info? elem).map (fun i => i.zero.map (·.cells)) = some (some #[.int .i64 0, .int .i64 0]))
    (g : Nat) (t : TypeId) (full : List (Value × Value)) (n c lo hi : Nat) (hx : (⟨l.toArray, ds⟩ : Act).eval x = sliceE 2 (.slice (some ⟨g, 0, none⟩) n c) lo hi)
    (hF : FB w g t full) (hlo : lo ≤ hi) (hhi : hi ≤ full.length) (hc : full.length = c)
    (h : ∀ w', Tn g t (pairC (overP full lo (List.replicate (hi - lo) (encP (0, 0))))) w w' → wpList P ops Q rest ⟨l.toArray, ds⟩ w')
    (hgd : oi.guard = none := by rfl) (hd : oi.dst = none := by rfl) : wpList P ops Q (oi :: rest) ⟨l.toArray, ds⟩ w := by
  refine wpList_plain hgd fun K hK => ?_
  obtain ⟨i, hq, hi2⟩ := Option.map_eq_some_iff.1 hz
  obtain ⟨z, hz1, hz2⟩ := Option.map_eq_some_iff.1 hi2
  have hput : ∀ v, (⟨l.toArray, ds⟩ : Act).put oi.dst v = ⟨l.toArray, ds⟩ := fun v => by rw [hd]; rfl
  rw [sliceE_lit] at hx
  obtain ⟨k, hk⟩ : ∃ k, hi - lo = k := ⟨_, rfl⟩
  cases k with
  | zero =>
    rw [hk] at hx
    have hrun : (Builtin.clear_ #[tT] oi.type #[.slice (if c = lo then some ⟨g, 0, none⟩ else (some ⟨g, 0, none⟩ : Option Addr).map (·.add (lo * 2))) 0 (c - lo)]).run P w = .ok (.tuple #[]) w := by
      by_cases he : c = lo <;> simp [Builtin.clear_, run_underlying hu, he]
    unfold Oper.wp
    simp only [execOp, ho, resolve, invoke, builtin, Sem.run_bind, Sem.run_pure, Result.andThen_ok, List.map_toArray, List.map_cons, List.map_nil, hx, hrun]
    rw [Oper.upon_value, hput]
    refine hK _ _ (h w ⟨Ev.refl _ _, ?_, rfl⟩)
    rw [hk, List.replicate_zero, show overP full lo [] = full by simp [overP]]
    exact hF
  | succ k =>
    have hne : ¬ c = lo := by omega
    rw [hk, if_neg hne, Option.map_some, Addr.add_mid, Nat.zero_add] at hx
    have hcl : (pairC (List.replicate (k + 1) (encP (0, 0)))).length = (k + 1) * 2 := by rw [pairC_len, List.length_replicate]
    have hst := run_storeCells_at P g (lo * 2) t (pairC (List.replicate (k + 1) (encP (0, 0)))) 0 (pairC full).toArray w hF (by rw [hcl, List.size_toArray, pairC_len]; omega) (onesP.zero (k + 1)).cells
    have e2 : (pairC full).take (lo * 2) ++ pairC (List.replicate (k + 1) (encP (0, 0))) ++ (pairC full).drop (lo * 2 + (pairC (List.replicate (k + 1) (encP (0, 0)))).length) = pairC (overP full lo (List.replicate (k + 1) (encP (0, 0)))) := overV_pair _ _ _
    simp only [Nat.add_zero] at hst
    rw [e2, ← zeroP] at hst
    have hrun : (Builtin.clear_ #[tT] oi.type #[.slice (some ⟨g, lo * 2, none⟩) (k + 1) (c - lo)]).run P w = .ok (.tuple #[]) (w.setRow g (pairC (overP full lo (List.replicate (k + 1) (encP (0, 0))))).toArray) := by
      simp [Builtin.clear_, run_underlying hu, zeroValue, typeInfo, hq, hz1, hz2, hst]
    unfold Oper.wp
    simp only [execOp, ho, resolve, invoke, builtin, Sem.run_bind, Sem.run_pure, Result.andThen_ok, List.map_toArray, List.map_cons, List.map_nil, hx, hrun]
    rw [Oper.upon_value, hput]
    refine hK _ _ (h _ ⟨⟨rfl, rfl, rfl, by simp [World.setRow], fun i _ hi => setRow_other w g i _ hi⟩, ?_, by simp [World.setRow]⟩)
    rw [hk]
    exact setRow_heap w g _ _ t _ hF
/-- append where there is room -/
theorem xAppF (d : Nat) (s x : Operand) (tT elem : TypeId) (ho : oi.op = .call { callee := .builtin .append, args := #[s, x], argTypes := #[tT, tT] }) (hu : P.underlying tT = some (.slice elem)) (hs2 : (P.info? elem).map (·.size) = some 2)
    (g : Nat) (t : TypeId) (full : List (Value × Value)) (n c : Nat) (hs : (⟨l.toArray, ds⟩ : Act).eval s = .slice (some ⟨g, 0, none⟩) n c) (b o m cu : Nat) (hx : (⟨l.toArray, ds⟩ : Act).eval x = .slice (some ⟨b, o, none⟩) m cu)
    (hF : FB w g t full) (hc : full.length = c) (ys : List (Value × Value)) (hy : ∀ j v, (pairC ys)[j]? = some v → w.cell? ⟨b, o + j, none⟩ = some v) (hm : ys.length = m) (h1 : onesP ys) (hr : n + m ≤ c)
    (h : ∀ w', Tn g t (pairC (overP full n ys)) w w' → wpList P ops Q rest ⟨(l.set d (.slice (some ⟨g, 0, none⟩) (n + m) c)).toArray, ds⟩ w')
    (hgd : oi.guard = none := by rfl) (hd : oi.dst = some d := by rfl) : wpList P ops Q (oi :: rest) ⟨l.toArray, ds⟩ w := by
  refine wpList_plain hgd fun K hK => ?_
  obtain ⟨i, hq, hi2⟩ := Option.map_eq_some_iff.1 hs2
  have hcl := pairs_len hm
  have hfc := run_firstCells_some (P := P) w 2 m ⟨b, o, none⟩ m cu (pairC ys) hcl (fun j v hj => by rw [Addr.add_lit]; exact hy j v hj)
  have hst := run_storeCells_at P g (n * 2) t (pairC ys) 0 (pairC full).toArray w hF (by rw [hcl, List.size_toArray, pairC_len]; omega) h1.cells
  have e2 : (pairC full).take (n * 2) ++ pairC ys ++ (pairC full).drop (n * 2 + (pairC ys).length) = pairC (overP full n ys) := overV_pair _ _ _
  simp only [Nat.add_zero] at hst
  rw [e2] at hst
  have hrun : (Builtin.append_ #[tT, tT] oi.type #[.slice (some ⟨g, 0, none⟩) n c, .slice (some ⟨b, o, none⟩) m cu]).run P w = .ok (.slice (some ⟨g, 0, none⟩) (n + m) c) (w.setRow g (pairC (overP full n ys)).toArray) := by
    simp [Builtin.append_, run_underlying hu, sizeOf, typeInfo, hq, hi2, Builtin.lenOf, hr, hfc, Addr.add_lit, hst]
  unfold Oper.wp
  simp only [execOp, ho, resolve, invoke, builtin, Sem.run_bind, Sem.run_pure, Result.andThen_ok, List.map_toArray, List.map_cons, List.map_nil, hs, hx, hrun]
  rw [Oper.upon_value, put_list' d _ hd]
  exact hK _ _ (h _ ⟨⟨rfl, rfl, rfl, by simp [World.setRow], fun i _ hi => setRow_other w g i _ hi⟩, setRow_heap w g _ _ t _ hF, by simp [World.setRow]⟩)
/-- append of make where there is no room -/
theorem xAppMk (d : Nat) (s x : Operand) (tT u elem : TypeId) (k' : IntKind) (ho : oi.op = .call { callee := .builtin .append, args := #[s, x], argTypes := #[tT, u] }) (hu : P.underlying tT = some (.slice elem)) (hui : P.underlying u = some (.int k'))
    (hinfo : (P.info? elem).map (fun i => (i.zero.map (·.cells), i.size, i.bytes)) = some (some #[.int .i64 0, .int .i64 0], 2, 16))
    (g : Nat) (t : TypeId) (full : List (Value × Value)) (n c : Nat) (hs : (⟨l.toArray, ds⟩ : Act).eval s = .slice (some ⟨g, 0, none⟩) n c) (m : Nat) (hx : (⟨l.toArray, ds⟩ : Act).eval x = .int .i64 (m : Int))
    (hF : FB w g t full) (hn : n ≤ full.length) (hm1 : 0 < m) (hr : c < n + m) (hm : n + m ≤ 1000000)
    (h : ∀ c' w', n + m ≤ c' → c' ≤ maxLen → FB w' w.heap.size elem (full.take n ++ List.replicate (c' - n) (encP (0, 0))) → E0 w w' → w'.heap.size = w.heap.size + 1 → wpList P ops Q rest ⟨(l.set d (.slice (some ⟨w.heap.size, 0, none⟩) (n + m) c')).toArray, ds⟩ w')
    (hgd : oi.guard = none := by rfl) (hd : oi.dst = some d := by rfl) : wpList P ops Q (oi :: rest) ⟨l.toArray, ds⟩ w := by
  refine wpList_plain hgd fun K hK => ?_
  obtain ⟨i, hi, hi2⟩ := Option.map_eq_some_iff.1 hinfo
  simp only [Prod.mk.injEq] at hi2
  obtain ⟨hz0, hz1, hz2⟩ := hi2
  obtain ⟨z, hz, hzc⟩ := Option.map_eq_some_iff.1 hz0
  have hn1 : ¬ (n + m ≤ c) := by omega
  have hw : IntKind.i64.wrap (m : Int) = m := by rw [IntKind.wrap_i64]; omega
  have hneg : ¬ ((m : Int) < 0) := by omega
  have h48i : ¬ (281474976710656 < (m : Int) * 16) := by omega
  have h63' : ¬ (9223372036854775807 < ((n : Int) + (m : Int))) := by omega
  have hfit := growslice_fits (bytes := i.bytes) (show c < n + m by omega) (by rw [hz2]; omega)
  have h48' : ¬ (281474976710656 < Builtin.nextslicecap (n + m) c * i.bytes) := by omega
  have hol : (pairC (full.take n)).length = n * i.size := by rw [hz1]; exact pairs_len (by rw [List.length_take]; omega)
  have hfo := run_firstCells_some (P := P) w.drew i.size n ⟨g, 0, none⟩ n c (pairC (full.take n)) hol (fun j v hj => by
    rw [Addr.add_lit, Nat.zero_add]
    have hjl := (List.getElem?_eq_some_iff.1 hj).1
    rw [← pairC_take, List.length_take] at hjl
    rw [← pairC_take, List.getElem?_take, if_pos (by omega)] at hj
    show w.cell? _ = _
    exact hF.cell j v hj)
  have hm0 : ¬ m * i.size = 0 := by rw [hz1]; omega
  have hl63 : ¬ ((n : Int) + (m : Int) > 9223372036854775807) := by omega
  have hcg : n + m ≤ grownCap w (n + m) c elem := grownCap_ge w (n + m) c elem
  have hcm : grownCap w (n + m) c elem ≤ maxLen := grownCap_le_maxLen w (n + m) c elem (by unfold maxLen; omega)
  have hrun : (Builtin.append_ #[tT, u] oi.type #[.slice (some ⟨g, 0, none⟩) n c, .int .i64 (m : Int)]).run P w =
      .ok (.slice (some ⟨w.heap.size, 0, none⟩) (n + m) (grownCap w (n + m) c elem)) (w.drew.alloc (.cells (pairC (full.take n ++ List.replicate (grownCap w (n + m) c elem - n) (encP (0, 0)))).toArray elem)) := by
    rw [hz2] at h48'
    rw [hz1] at hfo hm0
    have e : ∀ k : Nat, k + m = grownCap w (n + m) c elem - n → (Builtin.zeroCells z.cells m).toList ++ (Builtin.zeroCells z.cells k).toList = pairC (List.replicate (grownCap w (n + m) c elem - n) (encP (0, 0))) := fun k hk => by
      rw [hzc, zeroP, zeroP, ← pairC_app, List.replicate_append_replicate, show m + k = grownCap w (n + m) c elem - n by omega]
    have e' := e (grownCap w (n + m) c elem - (n + m)) (by omega)
    have e2 : ((pairC (full.take n)).toArray ++ Builtin.zeroCells z.cells m) ++ Builtin.zeroCells z.cells (grownCap w (n + m) c elem - (n + m)) = (pairC (full.take n ++ List.replicate (grownCap w (n + m) c elem - n) (encP (0, 0)))).toArray := by
      apply Array.ext'
      rw [Array.toList_append, Array.toList_append, List.append_assoc, e', pairC_app]
    rw [← e2]
    simp [Builtin.append_, run_underlying hu, run_underlying hui, sizeOf, typeInfo, zeroValue, hi, hz, hz1, hz2, asInt, asIntOf, hw, hneg, h48i, hn1, h63', h48', hm0, Question.forced, hfo, newRow, grownCap]
  unfold Oper.wp
  simp only [execOp, ho, resolve, invoke, builtin, Sem.run_bind, Sem.run_pure, Result.andThen_ok, List.map_toArray, List.map_cons, List.map_nil, hs, hx, hrun]
  rw [Oper.upon_value, put_list' d _ hd]
  refine hK _ _ (h _ _ hcg hcm ?_ ((drew_e0 w).trans (alloc_e0 _ _)) (by simp))
  exact heap_alloc_new w.drew _
end
end Go.Proofs.Ytanggdnmoaflfaa
