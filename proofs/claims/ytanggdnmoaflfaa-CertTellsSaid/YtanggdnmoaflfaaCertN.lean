/-
  Numbers at the front of naturals; certificates and lists as naturals' bytes: plain laws.
-/
import Derived.Test.YtanggdnmoaflfaaCertBh
import Derived.Test.YtanggdnmoaflfaaRef18H
import Derived.Test.YtanggdnmoaflfaaRef18B
import Derived.Test.YtanggdnmoaflfaaTextI
namespace Go.Proofs.Ytanggdnmoaflfaa
set_option linter.unusedVariables false
set_option linter.unusedSimpArgs false
theorem numN_inj {m k : Nat} (hm : m < 18446744073709551616) (hk : k < 18446744073709551616) {r s : List Nat} (h : numN (m : Int) ++ r = numN (k : Int) ++ s) : m = k ∧ r = s := by
  have h2 := congrArg nn h
  rw [nn_app, nn_app, numN_of, numN_of] at h2
  obtain ⟨e1, e2⟩ := uintB_inj (by omega) (by omega) h2
  exact ⟨e1, nn_inj e2⟩
theorem valR_numN (m : Nat) (hm : m < 18446744073709551616) : valR (numN (m : Int)) = m := by
  rw [valR_eq, numN_of, uintB_R m (by omega), numF_uintR 9 m (by omega)]; exact Nat.mod_eq_of_lt hm
theorem numN_pos (m : Nat) : 1 ≤ (numN (m : Int)).length := by
  have h := congrArg List.length (numN_of m)
  rw [nn_len] at h
  rw [h]
  unfold uintB
  rw [List.length_append, List.length_cons]
  omega
/-- no number at the front -/
theorem front_no {l : List Nat} (h : ∀ n, 1 ≤ n → n ≤ 10 → n ≤ l.length → numN ((valR (l.take n) : Nat) : Int) ≠ l.take n) (m : Nat) (hm : m < 18446744073709551616) (r : List Nat) : l ≠ numN (m : Int) ++ r := by
  intro e
  have ht : l.take (numN (m : Int)).length = numN (m : Int) := by rw [e, List.take_left]
  refine h (numN (m : Int)).length (numN_pos m) (numN_len _) (by rw [e, List.length_append]; omega) ?_
  rw [ht, valR_numN m hm]
/-! ### certificates -/
def cB (k h : Nat) (root : List Nat) : List Nat := [1] ++ (numN (k : Int) ++ (numN (h : Int) ++ root))
theorem cB_nn (k h : Nat) (root : List Nat) : nn (cB k h root) = certB (k : Int) (nn root) (h : Int) := by
  rw [certB_eq, cB, nn_app, nn_app, nn_app, numN_of, numN_of, Int.toNat_natCast, Int.toNat_natCast]; rfl
theorem readCN_put (xs : List Nat) (k h : Nat) (root : List Nat) (hx : xs = cB k h root) (hl : root.length = 32) (hr : rightC (k : Int) (h : Int) = true) : readC (nn xs) = some ((k : Int), nn root, (h : Int)) := by
  rw [hx, cB_nn]; exact readC_put _ _ _ (by rw [nn_len]; exact hl) hr
theorem readCN_get (xs : List Nat) (hb : ∀ x ∈ xs, x < 256) : readC (nn xs) = none ∨ ∃ k h root, k ≤ 1048576 ∧ h ≤ 8 ∧ root.length = 32 ∧ rightC ((k : Nat) : Int) ((h : Nat) : Int) = true ∧ xs = cB k h root := by
  rcases readC_cases (nn xs) with h | ⟨k, r, h, hq⟩
  · exact .inl h
  · right
    obtain ⟨h1, h2, h3⟩ := readC_get _ (bytes_nn hb) _ _ _ hq
    obtain ⟨a1, a2, a3, a4⟩ := (rightC_iff k h).1 h1
    have hr : ∀ x ∈ r, 0 ≤ x := fun x hx => by
      have : x ∈ nn xs := by rw [h3]; unfold certB; exact List.mem_append_right _ hx
      unfold nn at this
      obtain ⟨y, _, rfl⟩ := List.mem_map.1 this
      omega
    obtain ⟨ns, rfl, hn⟩ := nn_of hr
    obtain ⟨k', rfl⟩ := Int.eq_ofNat_of_zero_le (show 0 ≤ k by omega)
    obtain ⟨h', rfl⟩ := Int.eq_ofNat_of_zero_le (show 0 ≤ h by omega)
    refine ⟨k', h', ns, by omega, by omega, by rw [hn]; exact h2, h1, nn_inj ?_⟩
    rw [h3, cB_nn]
/-! ### lists -/
def lB (q : Nat) (ks : List Nat) : List Nat := [2] ++ (numN (q : Int) ++ (numN ((ks.length : Nat) : Int) ++ numsN ks))
theorem numsN_cons (k : Nat) (ks : List Nat) : numsN (k :: ks) = numN (k : Int) ++ numsN ks := by unfold numsN; rw [List.map_cons, List.flatten_cons]
theorem numsN_nil : numsN [] = [] := by unfold numsN; rfl
theorem numsN_app (a b : List Nat) : numsN (a ++ b) = numsN a ++ numsN b := by unfold numsN; rw [List.map_append, List.flatten_append]
theorem numsN_nn (ks : List Nat) : nn (numsN ks) = uintsB (nn ks) := by
  induction ks with
  | nil => rw [numsN_nil]; rfl
  | cons k ks ih => rw [numsN_cons, nn_app, ih, numN_of]; simp [nn, uintsB]
theorem lB_nn (q : Nat) (ks : List Nat) : nn (lB q ks) = listB (q : Int) (nn ks) := by
  rw [listB_eq, lB, nn_app, nn_app, nn_app, numN_of, numN_of, numsN_nn, Int.toNat_natCast, nn_len]; rfl
theorem readLN_put (xs : List Nat) (q : Nat) (ks : List Nat) (hx : xs = lB q ks) (hr : rightL (q : Int) (nn ks) = true) : readL (nn xs) = some ((q : Int), nn ks) := by
  rw [hx, lB_nn]; exact readL_put _ _ hr
theorem rightL_n {q : Nat} {ks : List Nat} (h : rightL (q : Int) (nn ks) = true) : q ≤ 1073741824 ∧ ks.length ≤ 50 ∧ ∀ k ∈ ks, k ≤ 1048576 := by
  obtain ⟨h1, h2, h3⟩ := rightL_all h
  refine ⟨by omega, by rwa [nn_len] at h2, fun k hk => ?_⟩
  have := h3 (k : Int) (by unfold nn; exact List.mem_map.2 ⟨k, hk, rfl⟩)
  omega
theorem readLN_get (xs : List Nat) (hb : ∀ x ∈ xs, x < 256) : readL (nn xs) = none ∨ ∃ q ks, rightL ((q : Nat) : Int) (nn ks) = true ∧ xs = lB q ks := by
  rcases readL_cases (nn xs) with h | ⟨q, l, hq⟩
  · exact .inl h
  · right
    obtain ⟨h1, h3⟩ := readL_get _ (bytes_nn hb) _ _ hq
    obtain ⟨a1, a2, a3⟩ := rightL_all h1
    obtain ⟨ns, rfl, hn⟩ := nn_of (fun x hx => by have := a3 x hx; omega : ∀ x ∈ l, 0 ≤ x)
    obtain ⟨q', rfl⟩ := Int.eq_ofNat_of_zero_le (show 0 ≤ q by omega)
    refine ⟨q', ns, h1, nn_inj ?_⟩
    rw [h3, lB_nn]
/-- some numbers read so far, of those that there are -/
theorem numsN_pre : ∀ (ds ks : List Nat) (r : List Nat), (∀ d ∈ ds, d ≤ 1048576) → (∀ k ∈ ks, k ≤ 1048576) → ds.length ≤ ks.length → numsN ds ++ r = numsN ks → ∃ es, ks = ds ++ es ∧ r = numsN es
  | [], ks, r, _, _, _, e => ⟨ks, rfl, by rw [numsN_nil, List.nil_append] at e; exact e⟩
  | d :: ds, [], r, _, _, h, _ => by simp at h
  | d :: ds, k :: ks, r, hd, hk, h, e => by
    rw [numsN_cons, numsN_cons, List.append_assoc] at e
    have h1 := hd d (List.mem_cons_self ..)
    have h2 := hk k (List.mem_cons_self ..)
    obtain ⟨rfl, e2⟩ := numN_inj (by omega) (by omega) e
    obtain ⟨es, rfl, e3⟩ := numsN_pre ds ks r (fun x hx => hd x (List.mem_cons_of_mem _ hx)) (fun x hx => hk x (List.mem_cons_of_mem _ hx)) (by simpa using h) e2
    exact ⟨es, rfl, e3⟩
/-! ### why nothing is read -/
theorem cB_drop (k h : Nat) (root : List Nat) : (cB k h root).drop 1 = numN (k : Int) ++ (numN (h : Int) ++ root) := rfl
theorem lB_drop (q : Nat) (ks : List Nat) : (lB q ks).drop 1 = numN (q : Int) ++ (numN ((ks.length : Nat) : Int) ++ numsN ks) := rfl
theorem readCN_no {xs : List Nat} (hb : ∀ x ∈ xs, x < 256) (h : ∀ k h root, k ≤ 1048576 → h ≤ 8 → root.length = 32 → rightC ((k : Nat) : Int) ((h : Nat) : Int) = true → xs ≠ cB k h root) : readC (nn xs) = none := by
  rcases readCN_get xs hb with e | ⟨k, g, root, h1, h2, h3, h4, e⟩
  · exact e
  · exact absurd e (h k g root h1 h2 h3 h4)
theorem cB_one {xs s1 : List Nat} {m1 k h : Nat} {root : List Nat} (hl1 : xs.drop 1 = numN (m1 : Int) ++ s1) (hm1 : m1 < 18446744073709551616) (hk : k ≤ 1048576) (e : xs = cB k h root) : m1 = k ∧ s1 = numN (h : Int) ++ root := by
  rw [e] at hl1
  exact numN_inj hm1 (by omega) hl1.symm
theorem cB_two {xs s1 s2 : List Nat} {m1 m2 k h : Nat} {root : List Nat} (hl1 : xs.drop 1 = numN (m1 : Int) ++ s1) (hl2 : s1 = numN (m2 : Int) ++ s2) (hm1 : m1 < 18446744073709551616) (hm2 : m2 < 18446744073709551616) (hk : k ≤ 1048576) (hh : h ≤ 8) (e : xs = cB k h root) : m1 = k ∧ m2 = h ∧ s2 = root := by
  obtain ⟨a, b⟩ := cB_one hl1 hm1 hk e
  obtain ⟨c, d⟩ := numN_inj hm2 (show h < 18446744073709551616 by omega) (hl2.symm.trans b)
  exact ⟨a, c, d⟩
theorem readLN_no {xs : List Nat} (hb : ∀ x ∈ xs, x < 256) (h : ∀ q ks, rightL ((q : Nat) : Int) (nn ks) = true → xs ≠ lB q ks) : readL (nn xs) = none := by
  rcases readLN_get xs hb with e | ⟨q, ks, h1, e⟩
  · exact e
  · exact absurd e (h q ks h1)
theorem lB_one {xs s1 : List Nat} {m1 q : Nat} {ks : List Nat} (hl1 : xs.drop 1 = numN (m1 : Int) ++ s1) (hm1 : m1 < 18446744073709551616) (hr : rightL (q : Int) (nn ks) = true) (e : xs = lB q ks) : m1 = q ∧ s1 = numN ((ks.length : Nat) : Int) ++ numsN ks := by
  have := rightL_n hr
  rw [e] at hl1
  exact numN_inj hm1 (by omega) hl1.symm
theorem lB_two {xs s1 s2 : List Nat} {m1 m2 q : Nat} {ks : List Nat} (hl1 : xs.drop 1 = numN (m1 : Int) ++ s1) (hl2 : s1 = numN (m2 : Int) ++ s2) (hm1 : m1 < 18446744073709551616) (hm2 : m2 < 18446744073709551616) (hr : rightL (q : Int) (nn ks) = true) (e : xs = lB q ks) : m1 = q ∧ m2 = ks.length ∧ s2 = numsN ks := by
  have := rightL_n hr
  obtain ⟨a, b⟩ := lB_one hl1 hm1 hr e
  obtain ⟨c, d⟩ := numN_inj hm2 (show ks.length < 18446744073709551616 by omega) (hl2.symm.trans b)
  exact ⟨a, c, d⟩
/-- amid the keys there is one more at the front -/
theorem lB_in {s2 r ds ks : List Nat} {q : Nat} (hr : rightL (q : Int) (nn ks) = true) (hs : s2 = numsN ks) (he : s2 = numsN ds ++ r) (hd : ∀ d ∈ ds, d ≤ 1048576) (hl : ds.length < ks.length) : ∃ k t, k ≤ 1048576 ∧ r = numN ((k : Nat) : Int) ++ t := by
  have hn := rightL_n hr
  obtain ⟨es, rfl, hre⟩ := numsN_pre ds ks r hd hn.2.2 (by omega) (he.symm.trans hs)
  cases es with
  | nil => simp at hl
  | cons k es => exact ⟨k, numsN es, hn.2.2 k (by simp), by rw [hre, numsN_cons]⟩
theorem lB_end {s2 r ds ks : List Nat} {q : Nat} (hr : rightL (q : Int) (nn ks) = true) (hs : s2 = numsN ks) (he : s2 = numsN ds ++ r) (hd : ∀ d ∈ ds, d ≤ 1048576) (hl : ds.length = ks.length) : ks = ds := by
  have hn := rightL_n hr
  obtain ⟨es, rfl, hre⟩ := numsN_pre ds ks r hd hn.2.2 (by omega) (he.symm.trans hs)
  rw [List.length_append] at hl
  rw [List.eq_nil_of_length_eq_zero (show es.length = 0 by omega), List.append_nil]
theorem numsN_snoc {s2 ds r t : List Nat} {m : Nat} (he : s2 = numsN ds ++ r) (hr : r = numN ((m : Nat) : Int) ++ t) : s2 = numsN (ds ++ [m]) ++ t := by
  rw [numsN_app, numsN_cons, numsN_nil, List.append_nil, List.append_assoc, ← hr, he]
theorem drop_front {xs r : List Nat} {m a : Nat} (h : xs.drop a = numN ((m : Nat) : Int) ++ r) : a + (numN ((m : Nat) : Int)).length ≤ xs.length ∧ xs.drop (a + (numN ((m : Nat) : Int)).length) = r := by
  have h1 := numN_pos m
  have h2 := congrArg List.length h
  rw [List.length_append, List.length_drop] at h2
  exact ⟨by omega, by rw [← List.drop_drop, h, List.drop_left]⟩
end Go.Proofs.Ytanggdnmoaflfaa
