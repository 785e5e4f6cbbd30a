/-
  Go's operations on bits, of whole numbers that are not negative: Lean's own.
  No conditions but that the numbers fit their kind.
-/
import Derived.Test.YteaijjefbadnbaaBase
namespace Go.Proofs.Yteaijjefbadnbaa
open Go.RowKit

theorem ofInt_nat (w n : Nat) : BitVec.ofInt w (n : Int) = BitVec.ofNat w n := by
  apply BitVec.eq_of_toNat_eq
  simp
theorem wrap_nat {k : IntKind} (hk : k.signed = false) (n : Nat) (h : n < 2 ^ k.bits) : k.wrap (n : Int) = n := by
  unfold IntKind.wrap
  rw [hk]
  simp only [Bool.false_and, Bool.false_eq_true, if_false]
  exact Int.emod_eq_of_lt (Int.natCast_nonneg _) (by exact_mod_cast h)
theorem bits_xor {k : IntKind} (hk : k.signed = false) (n m : Nat) (hn : n < 2 ^ k.bits) (hm : m < 2 ^ k.bits) : bits .xor k (n : Int) (m : Int) = ((n ^^^ m : Nat) : Int) := by
  unfold bits
  simp only [ofInt_nat, BitVec.toNat_xor, BitVec.toNat_ofNat, Nat.mod_eq_of_lt hn, Nat.mod_eq_of_lt hm]
  exact wrap_nat hk _ (Nat.xor_lt_two_pow hn hm)
theorem bits_or {k : IntKind} (hk : k.signed = false) (n m : Nat) (hn : n < 2 ^ k.bits) (hm : m < 2 ^ k.bits) : bits .or k (n : Int) (m : Int) = ((n ||| m : Nat) : Int) := by
  unfold bits
  simp only [ofInt_nat, BitVec.toNat_or, BitVec.toNat_ofNat, Nat.mod_eq_of_lt hn, Nat.mod_eq_of_lt hm]
  exact wrap_nat hk _ (Nat.or_lt_two_pow hn hm)
theorem bits_and {k : IntKind} (hk : k.signed = false) (n m : Nat) (hn : n < 2 ^ k.bits) (hm : m < 2 ^ k.bits) : bits .and k (n : Int) (m : Int) = ((n &&& m : Nat) : Int) := by
  unfold bits
  simp only [ofInt_nat, BitVec.toNat_and, BitVec.toNat_ofNat, Nat.mod_eq_of_lt hn, Nat.mod_eq_of_lt hm]
  exact wrap_nat hk _ (Nat.lt_of_le_of_lt Nat.and_le_left hn)
end Go.Proofs.Yteaijjefbadnbaa
