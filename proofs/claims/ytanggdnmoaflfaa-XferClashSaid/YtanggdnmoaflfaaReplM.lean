/-
  slices.Insert and slices.Replace at spans: what the walks want besides: overlaps, events, lists.
  No conditions: lemmas over any program.
-/
import Derived.Test.YtanggdnmoaflfaaReplL
import Derived.Laws.Externs
namespace Go.Proofs.Ytanggdnmoaflfaa
open Go.ChangeShapes Go.WideShapes Go.ChangeAt Go.RowKit
set_option linter.unusedVariables false
set_option linter.unusedSimpArgs false
set_option maxRecDepth 100000

theorem shape_cel {w : World} {g : Nat} {t : TypeId} {cs : List Value} (h : Cel w g t cs) : w.shape? g = some (t, cs.length) := by
  unfold Cel at h
  simp [World.shape?, h]
section
variable {P : Program}
theorem Val.ovl {a : Act} {op : Oper} {w : World} (f : FuncId) (x y : Operand) (ts : Array TypeId) (ho : op.op = .call { callee := .value (.func f), args := #[x, y], argTypes := ts }) {fn : Func} (hf : P.funcs[f]? = some fn)
    (hname : (fn.name == "runtime.NumGoroutine") = false) (hb : fn.body.isNone = true) (hn : Extern.findNext fn = none) (tS tR e : TypeId) (he : Extern.find fn = some (Extern.SlicesOverlaps.overlaps #[tS, tS] #[tR])) (ht : P.underlying tS = some (.slice e)) (hz : (P.info? e).map (·.size) = some 2)
    (vb la ca g n c lo hi : Nat) (hx : a.eval x = .slice (some ⟨vb, 0, none⟩) la ca) (hy : a.eval y = sliceE 2 (.slice (some ⟨g, 0, none⟩) n c) lo hi) {tA tB : TypeId} {cs : List Value} {full : List (Value × Value)} (hA : Cel w vb tA cs) (hF : FB w g tB full) (hne : vb ≠ g) (h0 : 0 < full.length) : Val P a op (.bool false) w := by
  obtain ⟨i, hi1, hm⟩ := Option.map_eq_some_iff.1 hz
  have hsz : ∀ w, (sizeOf e).run P w = .ok 2 w := fun w => by simp [sizeOf, typeInfo, hi1, hm]
  have key : ∀ (b : Addr) (lb cb : Nat), b.block = g → (callFunc f #[.slice (some ⟨vb, 0, none⟩) la ca, .slice (some b) lb cb]).run P w = .ok (.value (.bool false)) w := fun b lb cb hbg => by
    rw [run_callFunc_extern hf hname hb hn he, Lib.run_overlaps_apart w tS tR e ht 2 hsz ⟨vb, 0, none⟩ b la ca lb cb (by rw [hbg]; exact hne) tA tB cs.length (pairC full).length (shape_cel hA) (by rw [hbg]; exact shape_cel hF) (by rw [pairC_len]; omega) (hA.frozen 0) (hA.frozen _)]
    rfl
  have hf0 : a.eval (.func f) = .func (.func f) #[] #[] := rfl
  rw [sliceE_lit] at hy
  unfold Val execOp
  by_cases hc : c = lo
  · rw [if_pos hc] at hy
    simp [ho, resolve, invoke, hx, hy, hf0, Deferred.ofValue, key ⟨g, 0, none⟩ (hi - lo) (c - lo) rfl, Result.andThen]
  · rw [if_neg hc, Option.map_some, Addr.add_mid] at hy
    simp only [Nat.zero_add] at hy
    simp [ho, resolve, invoke, hx, hy, hf0, Deferred.ofValue, key ⟨g, lo * 2, none⟩ (hi - lo) (c - lo) rfl, Result.andThen]
/-- the first part of a slice that begins at its block's head -/
theorem Val.slc0 {a : Act} {op : Oper} {w : World} (t : TypeId) (x : Operand) (hi : Option Operand) (ho : op.op = .slice t x none hi none) (g n c : Nat) (hx : a.eval x = .slice (some ⟨g, 0, none⟩) n c) (h' : Nat)
    (hhi : hi.map a.eval = some (.int .i64 (h' : Int))) (h2 : h' ≤ c) {e : TypeId} (ht : P.underlying t = some (.slice e)) {z : Nat} (hi0 : (P.info? e).map (·.size) = some z) : Val P a op (.slice (some ⟨g, 0, none⟩) h' c) w := by
  have := Val.slcX (P := P) (w := w) t x none hi ho ⟨g, 0, none⟩ n c hx 0 h' (.inr ⟨rfl, rfl⟩) (.inl hhi) (Nat.zero_le _) h2 ht hi0
  rw [sliceE_lit] at this
  by_cases hc : c = 0
  · rwa [if_pos hc, Nat.sub_zero, Nat.sub_zero] at this
  · rwa [if_neg hc, Option.map_some, Addr.add_mid, Nat.zero_mul, Nat.sub_zero, Nat.sub_zero] at this
end
theorem Ev.thenO {v : Value} {d : Nat} {w w1 w2 : World} (h : Ev (fun i => v.ownBlock = some i) w w1) (e : Ev (fun i => i = d) w1 w2) (hd : v.ownBlock = some d ∨ w.heap.size ≤ d) : Ev (fun i => v.ownBlock = some i) w w2 :=
  ⟨e.os.trans h.os, e.tape.trans h.tape, e.output.trans h.output, Nat.le_trans h.size e.size, fun i hi hn => (e.block i (Nat.lt_of_lt_of_le hi h.size) (fun x => by
    rcases hd with hd | hd
    · exact hn (by rw [x]; exact hd)
    · omega)).trans (h.block i hi hn)⟩
theorem Ev.then0 {v : Value} {w w1 w2 : World} (h : Ev (fun i => v.ownBlock = some i) w w1) (e : E0 w1 w2) : Ev (fun i => v.ownBlock = some i) w w2 := h.trans (e.mono fun _ x => x.elim)

/-! ### lists -/
theorem overP_get (xs ys : List (Value × Value)) (lo m k : Nat) (h : lo ≤ xs.length) (hm : ys.length = m) : (overP xs lo ys)[k]? = if k < lo then xs[k]? else if k < lo + m then ys[k - lo]? else xs[k]? := by
  subst hm
  have hl : (xs.take lo).length = lo := by rw [List.length_take]; omega
  unfold overP
  split
  · rename_i hk
    rw [List.append_assoc, List.getElem?_append_left (by omega), List.getElem?_take, if_pos hk]
  · rename_i hk
    split
    · rename_i hq
      rw [List.append_assoc, List.getElem?_append_right (by omega), hl, List.getElem?_append_left (by omega)]
    · rename_i hq
      rw [List.getElem?_append_right (by rw [List.length_append, hl]; omega), List.length_append, hl, List.getElem?_drop, show lo + ys.length + (k - (lo + ys.length)) = k by omega]
/-- what a list should be, place by place -/
theorem repl_get (h : List (Int × Int)) (i j k : Nat) (s : Int × Int) (hi : i ≤ h.length) : ((h.take i ++ [s] ++ h.drop j).map encP)[k]? = if k < i then (h.map encP)[k]? else if k = i then some (encP s) else (h.map encP)[j + (k - (i + 1))]? := by
  have hl : (h.take i).length = i := by rw [List.length_take]; omega
  rw [List.getElem?_map, List.getElem?_map, List.getElem?_map]
  split
  · rename_i hk
    rw [List.append_assoc, List.getElem?_append_left (by omega), List.getElem?_take, if_pos hk]
  · split
    · rename_i hk hq
      subst hq
      rw [List.append_assoc, List.getElem?_append_right (by omega), hl, List.getElem?_append_left (by simp), Nat.sub_self]; rfl
    · rename_i hk hq
      rw [List.getElem?_append_right (by rw [List.length_append, hl]; simp; omega), List.length_append, hl, List.getElem?_drop]; rfl
theorem full_get {full : List (Value × Value)} {h : List (Int × Int)} (ht : full.take h.length = h.map encP) (k : Nat) (hk : k < h.length) : full[k]? = (h.map encP)[k]? := by
  rw [← ht, List.getElem?_take, if_pos hk]
theorem repl_len (h : List (Int × Int)) (i j : Nat) (s : Int × Int) (hi : i ≤ h.length) (hj : j ≤ h.length) : (h.take i ++ [s] ++ h.drop j).length = i + 1 + (h.length - j) := by
  simp only [List.length_append, List.length_take, List.length_drop, List.length_singleton]; omega
/-- a list is what it should be, if it is so at each place -/
theorem repl_ext {xs : List (Value × Value)} {h : List (Int × Int)} {i j n : Nat} {s : Int × Int} (hi : i ≤ h.length) (hj : j ≤ h.length) (hn : n = i + 1 + (h.length - j)) (hx : n ≤ xs.length)
    (hk : ∀ k, k < n → xs[k]? = if k < i then (h.map encP)[k]? else if k = i then some (encP s) else (h.map encP)[j + (k - (i + 1))]?) : xs.take n = (h.take i ++ [s] ++ h.drop j).map encP := by
  apply List.ext_getElem?
  intro k
  rw [List.getElem?_take]
  split
  · rename_i hq
    rw [hk k hq, repl_get h i j k s hi]
  · rename_i hq
    rw [List.getElem?_eq_none]
    rw [List.length_map, repl_len h i j s hi hj]; omega
theorem one_get {s : Int × Int} {k i : Nat} (h : k = i) : [encP s][k - i]? = some (encP s) := by rw [h, Nat.sub_self]; rfl
theorem one_get' {s : Int × Int} {k i : Nat} (h : k = i) : ([encP s].take 1)[k - i]? = some (encP s) := by rw [h, Nat.sub_self]; rfl
theorem seg_get {xs : List (Value × Value)} {lo n m k : Nat} (h1 : k < n) (h2 : k < m) : ((xs.drop lo).take n |>.take m)[k]? = xs[lo + k]? := by
  rw [List.getElem?_take, if_pos h2, List.getElem?_take, if_pos h1, List.getElem?_drop]
theorem onesP_seg {full : List (Value × Value)} {h : List (Int × Int)} (ht : full.take h.length = h.map encP) (lo n m : Nat) (hle : lo + m ≤ h.length) : onesP (((full.drop lo).take n).take m) := fun p hp => by
  obtain ⟨k, hk, rfl⟩ := List.getElem_of_mem hp
  have hk2 := hk
  simp only [List.length_take, List.length_drop] at hk2
  have e : (((full.drop lo).take n).take m)[k]? = (h.map encP)[lo + k]? := by
    rw [seg_get (by omega) (by omega)]; exact full_get ht _ (by omega)
  rw [List.getElem?_eq_getElem hk, List.getElem?_eq_getElem (by rw [List.length_map]; omega), Option.some.injEq] at e
  rw [e, List.getElem_map]
  exact encP_one _
/-- Insert in place -/
theorem ins_room {full : List (Value × Value)} {h : List (Int × Int)} {i : Nat} {s : Int × Int} (ht : full.take h.length = h.map encP) (hi : i < h.length) (hr : h.length + 1 ≤ full.length) :
    (overP (overP full (i + 1) (((full.drop i).take (h.length + 1 - i)).take (h.length - i))) i ([encP s].take 1)).take (h.length + 1) = (h.take i ++ [s] ++ h.drop i).map encP := by
  have hl1 : (((full.drop i).take (h.length + 1 - i)).take (h.length - i)).length = h.length - i := by simp only [List.length_take, List.length_drop]; omega
  have hl2 : (overP full (i + 1) (((full.drop i).take (h.length + 1 - i)).take (h.length - i))).length = full.length := overP_len (by rw [hl1]; omega)
  refine repl_ext (by omega) (by omega) (by omega) (by rw [overP_len (by rw [hl2]; simp; omega), hl2]; exact hr) fun k hk => ?_
  rw [overP_get _ _ _ 1 _ (by rw [hl2]; omega) rfl, overP_get _ _ _ _ _ (by omega) hl1]
  repeat' split
  all_goals first
    | (exfalso; omega)
    | exact full_get ht k (by omega)
    | exact one_get' (by omega)
    | (rw [seg_get (by omega) (by omega)]; exact full_get ht _ (by omega))
/-- Insert into a new row -/
theorem ins_grow {full : List (Value × Value)} {h : List (Int × Int)} {i c : Nat} {s : Int × Int} (ht : full.take h.length = h.map encP) (hi : i < h.length) (hr : h.length + 1 ≤ c) (hf : h.length ≤ full.length) (z : Value × Value) :
    (overP (overP (full.take i ++ List.replicate (c - i) z) i ([encP s].take 1)) (i + 1) (((full.drop i).take (h.length - i)).take (h.length - i))).take (h.length + 1) = (h.take i ++ [s] ++ h.drop i).map encP := by
  have hl0 : (full.take i ++ List.replicate (c - i) z).length = c := by simp only [List.length_append, List.length_take, List.length_replicate]; omega
  have hl1 : (((full.drop i).take (h.length - i)).take (h.length - i)).length = h.length - i := by simp only [List.length_take, List.length_drop]; omega
  have hl2 : (overP (full.take i ++ List.replicate (c - i) z) i ([encP s].take 1)).length = c := by rw [overP_len (by rw [hl0]; simp; omega), hl0]
  refine repl_ext (by omega) (by omega) (by omega) (by rw [overP_len (by rw [hl2, hl1]; omega), hl2]; exact hr) fun k hk => ?_
  rw [overP_get _ _ _ _ _ (by rw [hl2]; omega) hl1, overP_get _ _ _ 1 _ (by rw [hl0]; omega) rfl]
  repeat' split
  all_goals first
    | (exfalso; omega)
    | (rw [List.getElem?_append_left (by rw [List.length_take]; omega), List.getElem?_take, if_pos (by omega)]; exact full_get ht k (by omega))
    | exact one_get' (by omega)
    | (rw [seg_get (by omega) (by omega)]; exact full_get ht _ (by omega))
theorem over_set {full : List (Value × Value)} {h : List (Int × Int)} {i : Nat} {s : Int × Int} (ht : full.take h.length = h.map encP) (hi : i < h.length) (hf : h.length ≤ full.length) : (overP full i ([encP s].take 1)).take (h.set i s).length = (h.set i s).map encP := by
  apply List.ext_getElem?
  intro k
  rw [List.length_set, List.getElem?_take, List.getElem?_map, List.getElem?_set]
  split
  · rename_i hk
    rw [overP_get _ _ _ 1 _ (by omega) rfl]
    by_cases h1 : i = k
    · subst h1
      rw [if_neg (by omega), if_pos (by omega), one_get' rfl]; simp [hi]
    · rw [if_neg h1, ← List.getElem?_map]
      repeat' split
      all_goals first
        | (exfalso; omega)
        | exact full_get ht k hk
  · rename_i hk
    rw [if_neg (by omega), List.getElem?_eq_none (by omega)]; rfl
/-- Replace up to the end -/
theorem repl_end1 {full : List (Value × Value)} {h : List (Int × Int)} {i : Nat} {s : Int × Int} (ht : full.take h.length = h.map encP) (hi : i < h.length) (hf : h.length ≤ full.length) :
    (overP full i [encP s]).take (i + 1) = (h.take i ++ [s] ++ h.drop h.length).map encP := by
  refine repl_ext (by omega) (Nat.le_refl _) (by omega) (by rw [overP_len (by simp; omega)]; omega) fun k hk => ?_
  rw [overP_get _ _ _ 1 _ (by omega) rfl]
  repeat' split
  all_goals first
    | (exfalso; omega)
    | exact full_get ht k (by omega)
    | exact one_get (by omega)
theorem repl_end {full : List (Value × Value)} {h : List (Int × Int)} {i : Nat} {s : Int × Int} (ht : full.take h.length = h.map encP) (hi : i < h.length) (hf : h.length ≤ full.length) (z : Value × Value) (m : Nat) (hm : i + 1 + m ≤ full.length) :
    (overP (overP full i [encP s]) (i + 1) (List.replicate m z)).take (i + 1) = (h.take i ++ [s] ++ h.drop h.length).map encP := by
  have hl1 : (overP full i [encP s]).length = full.length := overP_len (by simp; omega)
  rw [← repl_end1 ht hi hf]
  apply List.ext_getElem?
  intro k
  rw [List.getElem?_take, List.getElem?_take]
  split
  · rw [overP_get _ _ _ m _ (by rw [hl1]; omega) (by simp), if_pos (by omega)]
  · rfl
/-- Replace in the midst -/
theorem repl_mid {full : List (Value × Value)} {h : List (Int × Int)} {i j : Nat} {s : Int × Int} (ht : full.take h.length = h.map encP) (hi : i < j) (hj : j < h.length) (hf : h.length ≤ full.length) (z : Value × Value) (m : Nat) (hm : i + 1 + (h.length - j) + m ≤ full.length) :
    (overP (overP (overP full i ([encP s].take 1)) (i + 1) ((((overP full i ([encP s].take 1)).drop j).take (h.length - j)).take (h.length - j))) (i + 1 + (h.length - j)) (List.replicate m z)).take (i + 1 + (h.length - j)) = (h.take i ++ [s] ++ h.drop j).map encP := by
  have hl1 : (overP full i ([encP s].take 1)).length = full.length := overP_len (by simp; omega)
  have hl2 : ((((overP full i ([encP s].take 1)).drop j).take (h.length - j)).take (h.length - j)).length = h.length - j := by simp only [List.length_take, List.length_drop, hl1]; omega
  have hl3 : (overP (overP full i ([encP s].take 1)) (i + 1) ((((overP full i ([encP s].take 1)).drop j).take (h.length - j)).take (h.length - j))).length = full.length := by rw [overP_len (by rw [hl1, hl2]; omega), hl1]
  refine repl_ext (by omega) (by omega) rfl (by rw [overP_len (by rw [hl3]; simp; omega), hl3]; omega) fun k hk => ?_
  rw [overP_get _ _ _ m _ (by rw [hl3]; omega) (by simp), if_pos hk, overP_get _ _ _ _ _ (by rw [hl1]; omega) hl2]
  have e1 : ∀ q, (overP full i ([encP s].take 1))[q]? = if q < i then full[q]? else if q < i + 1 then ([encP s].take 1)[q - i]? else full[q]? := fun q => overP_get _ _ _ 1 _ (by omega) rfl
  by_cases h1 : k < i + 1
  · rw [if_pos h1, e1]
    repeat' split
    all_goals first
      | (exfalso; omega)
      | exact full_get ht k (by omega)
      | exact one_get' (by omega)
  · rw [if_neg h1, if_pos (by omega), seg_get (by omega) (by omega), e1, if_neg (by omega), if_neg (by omega), if_neg (by omega), if_neg (by omega)]
    exact full_get ht _ (by omega)
end Go.Proofs.Ytanggdnmoaflfaa
