/-
  math/bits.Len64 and bytes.digits: how many bits, and how many digits of seven bits, a number has.
  No conditions: every uint64.
-/
import Derived.Test.YteaijjefbadnbaaBase
import Derived.Test.YteaijjefbadnbaaRows
import Derived.Lib.Strings
import Derived.Lib.Slices
import Derived.Lib.Small
import Derived.Lib.Walk
import Derived.Lib.BitFns
namespace Go.Proofs.Yteaijjefbadnbaa
open Go.RowKit
set_option linter.unusedVariables false
set_option linter.unusedSimpArgs false
set_option maxRecDepth 100000
theorem len8_size : Lib.len8tab.size = 256 := by decide +kernel

theorem len8_list : ∀ i : Fin 256, (Lib.len8tab.data.toList.getD i.val 0).toNat = Lib.bitLen i.val := by decide +kernel

theorem len8_size_le : (256 : Int) ≤ (Lib.len8tab.size : Int) := by
  have h := len8_size
  exact Int.ofNat_le.2 (Nat.le_of_eq h.symm)

theorem len8_out {p : Prop} {y : Int} (h : ¬(0 ≤ y ∧ y < (Lib.len8tab.size : Int))) (h0 : 0 ≤ y) (h1 : y < 256) : p :=
  absurd ⟨h0, Int.lt_of_lt_of_le h1 len8_size_le⟩ h

theorem bytes_table (s : ByteArray) (f : Nat → Nat) (h : ∀ i : Fin 256, (s.data.toList.getD i.val 0).toNat = f i.val) (i : Nat) (hi : i < s.size) (h' : i < 256) : (s[i]'hi).toNat = f i := by
  rw [← h ⟨i, h'⟩]
  have e : s[i]'hi = s.data[i]'hi := rfl
  rw [e, List.getD_eq_getElem?_getD, Array.getElem?_toList, Array.getElem?_eq_getElem hi]
  rfl

theorem len8_at (i : Nat) (h : i < Lib.len8tab.size) : (Lib.len8tab[i]'h).toNat = Lib.bitLen i :=
  bytes_table _ _ len8_list i h (len8_size ▸ h)

theorem bitLenAux_fuel_le : ∀ f x, Lib.bitLenAux f x ≤ f
  | 0, _ => by simp [Lib.bitLenAux]
  | f + 1, x => by have := bitLenAux_fuel_le f (x / 2); simp only [Lib.bitLenAux]; split <;> omega

theorem bitLen_le64 (x : Nat) : Lib.bitLen x ≤ 64 := bitLenAux_fuel_le 64 x

theorem wrap_len (c : Int) (k : Nat) (h0 : 0 ≤ c) (h1 : c ≤ 64) : wrap64 (c + wrap64 (Lib.bitLen k)) = c + Lib.bitLen k := by
  have := bitLen_le64 k
  have e : wrap64 (Lib.bitLen k : Int) = Lib.bitLen k := IntWalk.wrap64_in _ ⟨by omega, by omega⟩
  rw [e]
  exact IntWalk.wrap64_in _ ⟨by omega, by omega⟩

theorem wrap_len0 (k : Nat) : wrap64 (wrap64 (Lib.bitLen k)) = Lib.bitLen k := by
  have := wrap_len 0 k (by omega) (by omega)
  simpa using this

theorem len_step (c : Nat) (n m : Nat) (hn : n < 2 ^ 64) (h : 2 ^ c ≤ n) (e : m = n / 2 ^ c) : (c : Int) + Lib.bitLen m = Lib.bitLen n := by
  have := Lib.bitLen_shift c n h hn
  rw [e]; omega

set_option maxHeartbeats 4000000 in
set_option maxRecDepth 100000 in
theorem len64_any (x : Int) (w : World) (h0 : 0 ≤ x) (h1 : x ≤ 18446744073709551615) :
    Calls Try.prog 138 #[.int .u64 x] w fun e w' => e = .returned (.int .i64 (Lib.bitLen x.toNat)) ∧ w = w' := by
  go_enter Try.func138, Try.ntmps138
  go_wp2
  all_goals first
    | (rename_i h; refine len8_out h ?_ ?_ <;> (clear h; omega))
    | (go_ret; refine ⟨congrArg Ending.returned (congrArg (Value.int IntKind.i64) ?_), rfl⟩
       simp only [len8_at]
       first
        | (refine (wrap_len 56 _ (by omega) (by omega)).trans (len_step 56 x.toNat _ (by omega) (by omega) ?_); omega)
        | (refine (wrap_len 48 _ (by omega) (by omega)).trans (len_step 48 x.toNat _ (by omega) (by omega) ?_); omega)
        | (refine (wrap_len 40 _ (by omega) (by omega)).trans (len_step 40 x.toNat _ (by omega) (by omega) ?_); omega)
        | (refine (wrap_len 32 _ (by omega) (by omega)).trans (len_step 32 x.toNat _ (by omega) (by omega) ?_); omega)
        | (refine (wrap_len 24 _ (by omega) (by omega)).trans (len_step 24 x.toNat _ (by omega) (by omega) ?_); omega)
        | (refine (wrap_len 16 _ (by omega) (by omega)).trans (len_step 16 x.toNat _ (by omega) (by omega) ?_); omega)
        | (refine (wrap_len 8 _ (by omega) (by omega)).trans (len_step 8 x.toNat _ (by omega) (by omega) ?_); omega)
        | exact (wrap_len0 _))

/-- How many digits of seven bits. -/
def ndig : Nat → Nat → Nat
  | 0, _ => 1
  | f + 1, n => if n < 128 then 1 else 1 + ndig f (n / 128)

theorem ndig_bits : ∀ (f n : Nat), n < 2 ^ 64 → n < 128 ^ (f + 1) → max ((Lib.bitLen n + 6) / 7) 1 = ndig f n
  | 0, n, h, hf => by
    have : Lib.bitLen n ≤ 7 := Lib.bitLenAux_le 64 n 7 (by simpa using hf)
    simp only [ndig]; omega
  | f + 1, n, h, hf => by
    simp only [ndig]
    by_cases hn : n < 128
    · rw [if_pos hn]
      have : Lib.bitLen n ≤ 7 := Lib.bitLenAux_le 64 n 7 (by simpa using hn)
      omega
    · rw [if_neg hn]
      have hs := Lib.bitLen_shift 7 n (by omega) h
      have ih := ndig_bits f (n / 128) (by omega) (by rw [Nat.div_lt_iff_lt_mul (by omega)]; rw [Nat.pow_succ] at hf; exact hf)
      rw [← ih, hs]
      have : 1 ≤ Lib.bitLen (n / 2 ^ 7) := by
        rw [Lib.bitLen_half _ (by omega) (by omega)]; omega
      simp only [show (2:Nat)^7 = 128 from rfl] at *
      omega

theorem ndig_pos (f n : Nat) : 1 ≤ ndig f n := by
  cases f with
  | zero => simp [ndig]
  | succ f => simp only [ndig]; split <;> omega

theorem ndig_le : ∀ (f n : Nat), ndig f n ≤ f + 1
  | 0, n => by simp [ndig]
  | f + 1, n => by simp only [ndig]; have := ndig_le f (n / 128); split <;> omega

set_option maxHeartbeats 400000 in
theorem digits_any (n : Nat) (w : World) (h1 : n ≤ 18446744073709551615) :
    Calls Try.prog 120 #[.int .u64 (n : Int)] w fun e w' => e = .returned (.int .i64 (ndig 9 n : Nat)) ∧ w = w' := by
  have hb : Lib.bitLen n ≤ 64 := Lib.bitLenAux_le 64 n 64 (by omega)
  have he := ndig_bits 9 n (by omega) (by omega)
  rw [← he]
  clear he
  go_enter Try.func120, Try.ntmps120
  go_wp2_with (go_at_call 138; refine (len64_any _ _ (by omega) (by omega)).mono ?_; rintro e w' ⟨rfl, rfl⟩)
  all_goals (go_ret; refine ⟨congrArg Ending.returned (congrArg (Value.int IntKind.i64) ?_), rfl⟩)
  all_goals omega

end Go.Proofs.Yteaijjefbadnbaa
