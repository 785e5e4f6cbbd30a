/-
  Certificates and lists as bytes, read again: the plain law.
-/
import Derived.Test.YtanggdnmoaflfaaCertE
namespace Go.Proofs.Ytanggdnmoaflfaa
set_option linter.unusedVariables false
set_option linter.unusedSimpArgs false

theorem next_put (xs pre r : List Int) (n : Nat) (most : Int) (hx : xs = pre ++ (uintB n ++ r)) (hn : (n : Int) ≤ most) (h : n < 2 ^ 64) : nextF xs most pre.length true = ((n : Int), pre.length + (uintB n).length, true) := by
  have hd : xs.drop pre.length = uintB n ++ r := by rw [hx, List.drop_left]
  obtain ⟨h1, h2, h3⟩ := get_uint n h r
  rw [nextF, hd, h1, h2, h3, if_pos ⟨rfl, rfl, hn⟩]
theorem next_get (xs : List Int) (hb : Bytes xs) (most : Int) (at_ : Nat) (ok : Bool) (hl : ok = true → at_ ≤ xs.length) (h : (nextF xs most at_ ok).2.2 = true) :
    ok = true ∧ 0 ≤ (nextF xs most at_ ok).1 ∧ (nextF xs most at_ ok).1 ≤ most ∧ xs.drop at_ = uintB (nextF xs most at_ ok).1.toNat ++ xs.drop (nextF xs most at_ ok).2.1 ∧ (nextF xs most at_ ok).2.1 ≤ xs.length ∧ (nextF xs most at_ ok).1 < 18446744073709551616 := by
  unfold nextF at h ⊢
  split at h
  · rename_i hc
    rw [if_pos hc]
    obtain ⟨h1, h2, h3⟩ := hc
    have hp := put_get (xs.drop at_) (fun x hx => hb x (List.mem_of_mem_drop hx)) h2
    have hl' := hl h1
    have hle := hp.2.2.1
    rw [List.length_drop] at hle
    refine ⟨h1, by simp, h3, ?_, by show at_ + getK _ ≤ _; omega, by show ((getN (xs.drop at_) : Nat) : Int) < _; have := hp.2.1; omega⟩
    show xs.drop at_ = uintB ((getN (xs.drop at_) : Nat) : Int).toNat ++ xs.drop (at_ + getK (xs.drop at_))
    rw [Int.toNat_natCast, ← hp.1, ← List.drop_drop, List.take_append_drop]
  · cases h
/-- A certificate's bytes. -/
def certB (k : Int) (root : List Int) (h : Int) : List Int := ([1] ++ uintsB [k, h]) ++ root
theorem certB_eq (k : Int) (root : List Int) (h : Int) : certB k root h = [1] ++ (uintB k.toNat ++ (uintB h.toNat ++ root)) := by simp [certB, uintsB]
theorem certB_eq2 (k : Int) (root : List Int) (h : Int) : certB k root h = ([1] ++ uintB k.toNat) ++ (uintB h.toNat ++ root) := by simp [certB, uintsB]
theorem certB_len (k : Int) (root : List Int) (h : Int) : (certB k root h).length = 1 + (uintB k.toNat).length + (uintB h.toNat).length + root.length := by rw [certB_eq2]; simp; omega
theorem rightC_iff (k h : Int) : rightC k h = true ↔ (1 ≤ k ∧ k ≤ 1048576 ∧ 1 ≤ h ∧ h ≤ 8) := by simp [rightC, and_assoc]
/-- two numbers ahead of any bytes -/
theorem cert_two (xs : List Int) (k h : Int) (root : List Int) (hx : xs = certB k root h) (hr : rightC k h = true) :
    nextF xs 1048576 1 (okF xs 1) = (k, 1 + (uintB k.toNat).length, true) ∧ nextF xs 8 (1 + (uintB k.toNat).length) true = (h, 1 + (uintB k.toNat).length + (uintB h.toNat).length, true) := by
  obtain ⟨h1, h2, h3, h4⟩ := (rightC_iff k h).1 hr
  have hk : okF xs 1 = true := by rw [hx, certB_eq]; rfl
  have e1 := next_put xs [1] (uintB h.toNat ++ root) k.toNat 1048576 (by rw [hx, certB_eq]) (by omega) (by omega)
  have e2 := next_put xs ([1] ++ uintB k.toNat) root h.toNat 8 (by rw [hx, certB_eq2]) (by omega) (by omega)
  rw [Int.toNat_of_nonneg (by omega)] at e1 e2
  simp only [List.length_append, List.length_cons, List.length_nil, Nat.zero_add] at e1 e2
  exact ⟨by rw [hk]; exact e1, e2⟩
theorem readC_put (k h : Int) (root : List Int) (hl : root.length = 32) (hr : rightC k h = true) : readC (certB k root h) = some (k, root, h) := by
  obtain ⟨e1, e2⟩ := cert_two _ k h root rfl hr
  have hlen := certB_len k root h
  simp only [readC, e1, e2]
  rw [if_pos ⟨trivial, by rw [hlen, hl], hr⟩]
  congr 2
  rw [certB_eq2, ← List.append_assoc]
  have : 1 + (uintB k.toNat).length + (uintB h.toNat).length = ([1] ++ uintB k.toNat ++ uintB h.toNat).length := by simp; omega
  rw [this, List.drop_left]
theorem okF_cons {xs : List Int} {c : Int} (h : okF xs c = true) : xs = [c] ++ xs.drop 1 := by
  simp only [okF, Bool.and_eq_true, decide_eq_true_eq] at h
  cases xs with
  | nil => simp at h
  | cons x l => simp at h; simp [h]
theorem readC_get (xs : List Int) (hb : Bytes xs) (k h : Int) (root : List Int) (hr : readC xs = some (k, root, h)) : rightC k h = true ∧ root.length = 32 ∧ xs = certB k root h := by
  simp only [readC] at hr
  split at hr
  · rename_i hc
    obtain ⟨c1, c2, c3⟩ := hc
    obtain ⟨f1, f2, f3, f4, f5, _⟩ := next_get xs hb 8 _ _ (fun hok => by
      have hx := next_get xs hb 1048576 1 (okF xs 1) (fun ho => by have := okF_cons ho; rw [this]; simp) hok
      exact hx.2.2.2.2.1) c1
    obtain ⟨g1, g2, g3, g4, g5, _⟩ := next_get xs hb 1048576 1 (okF xs 1) (fun ho => by have := okF_cons ho; rw [this]; simp) f1
    generalize nextF xs 1048576 1 (okF xs 1) = r1 at *
    generalize nextF xs 8 r1.2.1 r1.2.2 = r2 at *
    simp only [Option.some.injEq, Prod.mk.injEq] at hr
    obtain ⟨rfl, rfl, rfl⟩ := hr
    refine ⟨c3, by rw [List.length_drop]; omega, ?_⟩
    rw [certB_eq, ← f4, ← g4]
    exact okF_cons g1
  · cases hr
/-! ### lists -/
def listB (q : Int) (ks : List Int) : List Int := [2] ++ uintsB [q, ks.length] ++ uintsB ks
theorem listB_eq (q : Int) (ks : List Int) : listB q ks = [2] ++ (uintB q.toNat ++ (uintB ks.length ++ uintsB ks)) := by simp [listB, uintsB]
theorem listB_eq2 (q : Int) (ks : List Int) : listB q ks = ([2] ++ uintB q.toNat) ++ (uintB ks.length ++ uintsB ks) := by simp [listB, uintsB]
theorem listB_eq3 (q : Int) (ks : List Int) : listB q ks = ([2] ++ uintB q.toNat ++ uintB ks.length) ++ uintsB ks := by simp [listB, uintsB]
theorem listB_len (q : Int) (ks : List Int) : (listB q ks).length = 1 + (uintB q.toNat).length + (uintB ks.length).length + (uintsB ks).length := by rw [listB_eq3]; simp; omega
theorem nxs_put (xs pre r ks : List Int) (hx : xs = pre ++ (uintsB ks ++ r)) (hk : ∀ x ∈ ks, 0 ≤ x ∧ x ≤ 1048576) : ∀ k, k ≤ ks.length → nxs xs pre.length true k = (ks.take k, pre.length + (uintsB (ks.take k)).length, true)
  | 0, _ => by simp [nxs, uintsB]
  | k + 1, h => by
    have ih := nxs_put xs pre r ks hx hk k (by omega)
    have hkx := hk ks[k] (List.getElem_mem _)
    have hst := uintsB_step ks k (by omega)
    have hg : ks.getD k 0 = ks[k] := by simp [show k < ks.length by omega]
    rw [hg] at hst
    have hsp : uintsB ks = uintsB (ks.take k) ++ (uintB ks[k].toNat ++ uintsB (ks.drop (k + 1))) := by
      have e : ks = ks.take (k + 1) ++ ks.drop (k + 1) := (List.take_append_drop _ _).symm
      have e2 := congrArg uintsB e
      rw [uintsB_append, hst, List.append_assoc] at e2
      exact e2
    have hn := next_put xs (pre ++ uintsB (ks.take k)) (uintsB (ks.drop (k + 1)) ++ r) ks[k].toNat 1048576 (by rw [hx, hsp]; simp) (by omega) (by omega)
    rw [Int.toNat_of_nonneg hkx.1, List.length_append] at hn
    rw [nxs, ih]
    simp only [hn, hst, List.length_append]
    rw [List.take_succ_eq_append_getElem (by omega : k < ks.length)]
    simp [Nat.add_assoc]
theorem nxs_get (xs : List Int) (hb : Bytes xs) (at_ : Nat) (ok : Bool) (hl : ok = true → at_ ≤ xs.length) : ∀ k, (nxs xs at_ ok k).2.2 = true →
    ok = true ∧ (nxs xs at_ ok k).2.1 ≤ xs.length ∧ xs.drop at_ = uintsB (nxs xs at_ ok k).1 ++ xs.drop (nxs xs at_ ok k).2.1
  | 0, h => ⟨h, hl h, by simp [nxs, uintsB]⟩
  | k + 1, h => by
    have ih := nxs_get xs hb at_ ok hl k
    rw [nxs] at h ⊢
    obtain ⟨g1, g2, g3, g4, g5, _⟩ := next_get xs hb 1048576 _ _ (fun hok => (ih hok).2.1) h
    obtain ⟨i1, i2, i3⟩ := ih g1
    refine ⟨i1, g5, ?_⟩
    rw [i3, g4, uintsB_append]
    simp [uintsB]
theorem list_two (xs : List Int) (q : Int) (ks r : List Int) (hx : xs = listB q ks ++ r) (h1 : 0 ≤ q ∧ q ≤ 1073741824) (h2 : ks.length ≤ 50) (h3 : ∀ x ∈ ks, 0 ≤ x ∧ x ≤ 1048576) :
    nextF xs 1073741824 1 (okF xs 2) = (q, 1 + (uintB q.toNat).length, true) ∧ nextF xs 50 (1 + (uintB q.toNat).length) true = ((ks.length : Int), 1 + (uintB q.toNat).length + (uintB ks.length).length, true) ∧
    nxs xs (1 + (uintB q.toNat).length + (uintB ks.length).length) true ks.length = (ks, (listB q ks).length, true) := by
  have hk : okF xs 2 = true := by rw [hx, listB_eq]; rfl
  have e1 := next_put xs [2] (uintB ks.length ++ uintsB ks ++ r) q.toNat 1073741824 (by rw [hx, listB_eq]; simp) (by omega) (by omega)
  have e2 := next_put xs ([2] ++ uintB q.toNat) (uintsB ks ++ r) ks.length 50 (by rw [hx, listB_eq2]; simp) (by omega) (by omega)
  have e3 := nxs_put xs ([2] ++ uintB q.toNat ++ uintB ks.length) r ks (by rw [hx, listB_eq3]; simp) h3 ks.length (Nat.le_refl _)
  rw [Int.toNat_of_nonneg (by omega)] at e1
  simp only [List.length_append, List.length_cons, List.length_nil, Nat.zero_add, List.take_length] at e1 e2 e3
  refine ⟨by rw [hk]; exact e1, e2, ?_⟩
  rw [e3, listB_len]
theorem readL_put (q : Int) (ks : List Int) (hr : rightL q ks = true) : readL (listB q ks) = some (q, ks) := by
  obtain ⟨h1, h2, h3⟩ := rightL_all hr
  obtain ⟨e1, e2, e3⟩ := list_two _ q ks [] (List.append_nil _).symm h1 h2 (fun x hx => by have := h3 x hx; omega)
  simp only [readL, e1, e2, Int.toNat_natCast, e3]
  rw [if_pos ⟨trivial, trivial, hr⟩]
theorem readL_get (xs : List Int) (hb : Bytes xs) (q : Int) (ks : List Int) (hr : readL xs = some (q, ks)) : rightL q ks = true ∧ xs = listB q ks := by
  simp only [readL] at hr
  split at hr
  · rename_i hc
    obtain ⟨c1, c2, c3⟩ := hc
    have G1 := next_get xs hb 1073741824 1 (okF xs 2) (fun ho => by have := okF_cons ho; rw [this]; simp)
    have F1 := next_get xs hb 50 _ _ (fun hok => (G1 hok).2.2.2.2.1)
    obtain ⟨i1, i2, i3⟩ := nxs_get xs hb _ _ (fun hok => (F1 hok).2.2.2.2.1) _ c1
    obtain ⟨f1, f2, f3, f4, f5, _⟩ := F1 i1
    obtain ⟨g1, g2, g3, g4, g5, _⟩ := G1 f1
    have hlen := nxs_len xs (nextF xs 50 (nextF xs 1073741824 1 (okF xs 2)).2.1 (nextF xs 1073741824 1 (okF xs 2)).2.2).2.1 (nextF xs 50 (nextF xs 1073741824 1 (okF xs 2)).2.1 (nextF xs 1073741824 1 (okF xs 2)).2.2).2.2 (nextF xs 50 (nextF xs 1073741824 1 (okF xs 2)).2.1 (nextF xs 1073741824 1 (okF xs 2)).2.2).1.toNat
    generalize nextF xs 1073741824 1 (okF xs 2) = r1 at *
    generalize nextF xs 50 r1.2.1 r1.2.2 = r2 at *
    generalize nxs xs r2.2.1 r2.2.2 r2.1.toNat = t at *
    simp only [Option.some.injEq, Prod.mk.injEq] at hr
    obtain ⟨rfl, rfl⟩ := hr
    refine ⟨c3, ?_⟩
    rw [listB_eq, hlen]
    rw [c2, List.drop_length, List.append_nil] at i3
    rw [← i3, ← f4, ← g4]
    exact okF_cons g1
  · cases hr
end Go.Proofs.Ytanggdnmoaflfaa
