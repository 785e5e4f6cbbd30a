/-
  Numbers as bytes, read again: the plain law.
-/
import Derived.Test.YtanggdnmoaflfaaPk1
namespace Go.Proofs.Ytanggdnmoaflfaa
set_option linter.unusedVariables false
set_option linter.unusedSimpArgs false

/-- Digits, the least first; the last one is below 128. -/
def uintR : Nat → Nat → List Int
  | 0, n => [(n : Int)]
  | f + 1, n => if n < 128 then [(n : Int)] else ((128 + n % 128 : Nat) : Int) :: uintR f (n / 128)
theorem uintR_len : ∀ f n, (uintR f n).length = ndig f n
  | 0, n => by simp [uintR, ndig]
  | f + 1, n => by
    simp only [uintR, ndig]
    split
    · simp
    · simp [uintR_len f]; omega
theorem digs_cons (n k : Nat) : digs n (k + 1) = ((128 + n % 128 : Nat) : Int) :: digs (n / 128) k := by
  unfold digs
  rw [List.range_succ_eq_map, List.map_cons, List.map_map]
  congr 1
  · simp
  · apply List.map_congr_left
    intro j _
    simp only [Function.comp, Nat.succ_eq_add_one, Nat.pow_succ]
    rw [Nat.mul_comm (128 ^ j), ← Nat.div_div_eq_div_mul]
theorem uintR_digs : ∀ (f n : Nat), n < 128 ^ f * 128 → digs n (ndig f n - 1) ++ [((n / 128 ^ (ndig f n - 1) % 256 : Nat) : Int)] = uintR f n
  | 0, n, h => by
    have : n < 128 := by simpa using h
    simp [ndig, uintR, digs]; omega
  | f + 1, n, h => by
    simp only [ndig, uintR]
    by_cases hn : n < 128
    · rw [if_pos hn, if_pos hn]
      simp [digs]; omega
    · rw [if_neg hn, if_neg hn]
      have hp := ndig_pos f (n / 128)
      have ih := uintR_digs f (n / 128) (by rw [Nat.div_lt_iff_lt_mul (by omega)]; rw [Nat.pow_succ] at h; exact h)
      obtain ⟨m, hm⟩ : ∃ m, ndig f (n / 128) = m + 1 := ⟨ndig f (n / 128) - 1, by omega⟩
      rw [hm] at ih ⊢
      rw [show 1 + (m + 1) - 1 = m + 1 by omega, digs_cons]
      rw [show m + 1 - 1 = m by omega] at ih
      rw [← ih, List.cons_append, Nat.pow_succ, Nat.mul_comm (128 ^ m), ← Nat.div_div_eq_div_mul]
theorem uintB_R (n : Nat) (h : n < 2 ^ 64) : uintB n = uintR 9 n := uintR_digs 9 n (by omega)

/-- Where the first digit is that ends a number. -/
def lastF : List Int → Option Nat
  | [] => none
  | x :: xs => if x < 128 then some 0 else (lastF xs).map (· + 1)
theorem lastF_lt : ∀ (l : List Int) (k : Nat), lastF l = some k → k < l.length ∧ l.getD k 0 < 128
  | [], k, h => by cases h
  | x :: xs, k, h => by
    simp only [lastF] at h
    split at h
    · obtain rfl := Option.some.inj h; exact ⟨by simp, by simpa using by assumption⟩
    · cases hl : lastF xs with
      | none => rw [hl] at h; cases h
      | some j =>
        rw [hl] at h
        obtain rfl : j + 1 = k := by simpa using h
        have := lastF_lt xs j hl
        exact ⟨by simp; omega, by simpa using this.2⟩
/-- The number that the digits are. -/
def numF : List Int → Nat
  | [] => 0
  | x :: xs => x.toNat % 128 + 128 * numF xs
/-- What reading a number at the front tells: the error, or the number and how many bytes it has. -/
def getE (l : List Int) : Int :=
  match lastF l with
  | none => if l.length < 10 then 10 else 11
  | some k => if 10 ≤ k ∨ (k = 9 ∧ 1 < l.getD 9 0) ∨ (0 < k ∧ l.getD k 0 = 0) then 11 else 0
def getK (l : List Int) : Nat := (lastF l).getD 0 + 1
def getN (l : List Int) : Nat := numF (l.take (getK l))

theorem lastF_uintR : ∀ (f n : Nat) (r : List Int), n < 128 ^ f * 128 → lastF (uintR f n ++ r) = some (ndig f n - 1)
  | 0, n, r, h => by
    have : (n : Int) < 128 := by simp at h; omega
    simp [uintR, lastF, ndig, this]
  | f + 1, n, r, h => by
    simp only [uintR, ndig]
    by_cases hn : n < 128
    · have : (n : Int) < 128 := by omega
      simp [hn, lastF, this]
    · have hp := ndig_pos f (n / 128)
      have ih := lastF_uintR f (n / 128) r (by rw [Nat.div_lt_iff_lt_mul (by omega)]; rw [Nat.pow_succ] at h; exact h)
      rw [if_neg hn, if_neg hn, List.cons_append, lastF, if_neg (by omega), ih]
      simp <;> omega
theorem numF_uintR : ∀ (f n : Nat), n < 128 ^ f * 128 → numF (uintR f n) = n
  | 0, n, h => by
    have : n < 128 := by simpa using h
    simp [uintR, numF]; omega
  | f + 1, n, h => by
    simp only [uintR]
    by_cases hn : n < 128
    · simp [hn, numF]; try omega
    · have ih := numF_uintR f (n / 128) (by rw [Nat.div_lt_iff_lt_mul (by omega)]; rw [Nat.pow_succ] at h; exact h)
      rw [if_neg hn, numF, ih]
      omega
theorem uintR_last : ∀ (f n : Nat) (r : List Int), n < 128 ^ f * 128 → (uintR f n ++ r).getD (ndig f n - 1) 0 = ((n / 128 ^ (ndig f n - 1) : Nat) : Int) ∧ (0 < ndig f n - 1 → 0 < n / 128 ^ (ndig f n - 1))
  | 0, n, r, h => by simp [uintR, ndig]
  | f + 1, n, r, h => by
    simp only [uintR, ndig]
    by_cases hn : n < 128
    · simp [hn]
    · have hp := ndig_pos f (n / 128)
      have ih := uintR_last f (n / 128) r (by rw [Nat.div_lt_iff_lt_mul (by omega)]; rw [Nat.pow_succ] at h; exact h)
      obtain ⟨m, hm⟩ : ∃ m, ndig f (n / 128) = m + 1 := ⟨ndig f (n / 128) - 1, by omega⟩
      rw [if_neg hn, if_neg hn, hm]
      rw [hm] at ih
      rw [show 1 + (m + 1) - 1 = m + 1 by omega]
      rw [show m + 1 - 1 = m by omega] at ih
      rw [List.cons_append, List.getD_cons_succ, ih.1, Nat.pow_succ, Nat.mul_comm (128 ^ m), ← Nat.div_div_eq_div_mul]
      refine ⟨rfl, fun _ => ?_⟩
      rcases Nat.eq_zero_or_pos m with h0 | h0
      · subst h0; simp; omega
      · exact ih.2 h0
theorem get_uint (n : Nat) (h : n < 2 ^ 64) (r : List Int) : getE (uintB n ++ r) = 0 ∧ getK (uintB n ++ r) = (uintB n).length ∧ getN (uintB n ++ r) = n := by
  rw [uintB_R n h]
  have hb : n < 128 ^ 9 * 128 := by omega
  have h1 := lastF_uintR 9 n r hb
  have h2 := uintR_last 9 n r hb
  have h3 := ndig_le 9 n
  have h4 := ndig_pos 9 n
  have h5 := uintR_len 9 n
  have hK : getK (uintR 9 n ++ r) = (uintR 9 n).length := by
    rw [getK, h1, h5]; simp; omega
  refine ⟨?_, hK, ?_⟩
  · rw [getE, h1]
    simp only
    rw [if_neg]
    rintro (h | ⟨h6, h7⟩ | ⟨h6, h7⟩)
    · omega
    · rw [h6] at h2
      rw [h2.1] at h7
      have : n / 128 ^ 9 < 2 := by rw [Nat.div_lt_iff_lt_mul (by decide)]; omega
      omega
    · rw [h2.1] at h7
      have := h2.2 h6
      omega
  · rw [getN, hK, List.take_left, numF_uintR 9 n hb]

theorem numF_pos : ∀ (l : List Int) (k : Nat), k < l.length → l.getD k 0 < 128 → 0 < l.getD k 0 → 0 < numF (l.take (k + 1))
  | [], k, h, _, _ => by simp at h
  | x :: xs, 0, _, h1, h2 => by simp at h1 h2; simp [numF]; omega
  | x :: xs, k + 1, h, h1, h2 => by
    have := numF_pos xs k (by simpa using h) (by simpa using h1) (by simpa using h2)
    rw [List.take_succ_cons, numF]; omega
theorem take_uintR : ∀ (f : Nat) (l : List Int) (k : Nat), Bytes l → lastF l = some k → k ≤ f → (0 < k → l.getD k 0 ≠ 0) → l.take (k + 1) = uintR f (numF (l.take (k + 1)))
  | _, [], k, _, h, _, _ => by cases h
  | f, x :: xs, k, hb, h, hk, hz => by
    have hx := hb x (List.mem_cons_self ..)
    simp only [lastF] at h
    by_cases h128 : x < 128
    · rw [if_pos h128] at h
      obtain rfl := Option.some.inj h
      have e : ((x.toNat : Nat) : Int) = x := by omega
      have e2 : x.toNat % 128 = x.toNat := by omega
      cases f with
      | zero => simp [numF, uintR, e2, e]
      | succ f => simp [numF, uintR, e2, e, show x.toNat < 128 by omega]
    · rw [if_neg h128] at h
      cases hl : lastF xs with
      | none => rw [hl] at h; cases h
      | some j =>
        rw [hl] at h
        obtain rfl : j + 1 = k := by simpa using h
        have hbx : Bytes xs := fun y hy => hb y (List.mem_cons_of_mem _ hy)
        have hlt := lastF_lt xs j hl
        have hz1 : xs.getD j 0 ≠ 0 := by have := hz (by omega); simpa using this
        have h0 : 0 ≤ xs.getD j 0 := by
          rw [show xs.getD j 0 = xs[j]'hlt.1 by simp [hlt.1]]
          exact (hbx _ (List.getElem_mem _)).1
        have hpos := numF_pos xs j hlt.1 hlt.2 (by omega)
        obtain ⟨f, rfl⟩ : ∃ g, f = g + 1 := ⟨f - 1, by omega⟩
        have ih := take_uintR f xs j hbx hl (by omega) (fun _ => hz1)
        rw [List.take_succ_cons, numF]
        generalize hT : xs.take (j + 1) = T at *
        generalize hm : numF T = m at *
        rw [uintR, if_neg (by omega), show (x.toNat % 128 + 128 * m) / 128 = m by omega, ← ih]
        congr 1
        omega
theorem numF_lt : ∀ (l : List Int), numF l < 128 ^ l.length
  | [] => by simp [numF]
  | x :: xs => by
    have := numF_lt xs
    rw [numF, List.length_cons, Nat.pow_succ]
    omega
theorem numF_append : ∀ a b, numF (a ++ b) = numF a + 128 ^ a.length * numF b
  | [], b => by simp [numF]
  | x :: a, b => by
    rw [List.cons_append, numF, numF, numF_append a b, List.length_cons, Nat.pow_succ, Nat.mul_add, Nat.mul_comm _ 128, Nat.mul_assoc]
    omega
/-- What is read at the front, written again, is those bytes. -/
theorem put_get (l : List Int) (hb : Bytes l) (h : getE l = 0) : l.take (getK l) = uintB (getN l) ∧ getN l < 2 ^ 64 ∧ getK l ≤ l.length ∧ getK l ≤ 10 := by
  rw [getE] at h
  cases hl : lastF l with
  | none =>
    rw [hl] at h
    simp only at h
    split at h <;> cases h
  | some k =>
    rw [hl] at h
    simp only at h
    split at h
    · cases h
    · rename_i hn
      have hlt := lastF_lt l k hl
      have hK : getK l = k + 1 := by rw [getK, hl]; rfl
      have h1 : k ≤ 9 := by
        rcases Nat.lt_or_ge k 10 with h | h
        · omega
        · exact (hn (.inl h)).elim
      have h2 : 0 < k → l.getD k 0 ≠ 0 := fun h3 h4 => hn (.inr (.inr ⟨h3, h4⟩))
      have ht := take_uintR 9 l k hb hl h1 h2
      have h64 : numF (l.take (k + 1)) < 2 ^ 64 := by
        by_cases h9 : k = 9
        · subst h9
          have e : l.take (9 + 1) = l.take 9 ++ [l.getD 9 0] := by
            rw [List.take_succ_eq_append_getElem hlt.1]
            simp [hlt.1]
          have h10 := numF_lt (l.take 9)
          have h11 : (l.take 9).length = 9 := by rw [List.length_take]; omega
          have h12 : l.getD 9 0 ≤ 1 := by
            rcases Int.lt_or_le 1 (l.getD 9 0) with h | h
            · exact (hn (.inr (.inl ⟨rfl, h⟩))).elim
            · exact h
          rw [e, numF_append, h11]
          rw [h11] at h10
          have h13 : numF [l.getD 9 0] ≤ 1 := by simp only [numF]; omega
          have h14 : (128 : Nat) ^ 9 = 9223372036854775808 := by decide
          rw [h14] at h10 ⊢
          omega
        · have h10 := numF_lt (l.take (k + 1))
          have h11 : (l.take (k + 1)).length = k + 1 := by rw [List.length_take]; omega
          rw [h11] at h10
          have h12 : (128 : Nat) ^ (k + 1) ≤ 128 ^ 9 := Nat.pow_le_pow_right (by omega) (by omega)
          have h14 : (128 : Nat) ^ 9 = 9223372036854775808 := by decide
          omega
      refine ⟨?_, by rw [getN, hK]; exact h64, by omega, by omega⟩
      rw [getN, hK, uintB_R _ h64]
      exact ht
end Go.Proofs.Ytanggdnmoaflfaa
