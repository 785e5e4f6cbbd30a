/-
  math/bits.Mul64, as it steps; sha.below, sha.root.
-/
import Derived.Test.YtanggdnmoaflfaaShaB
import Derived.Lib.Mul64
namespace Go.Proofs.Ytanggdnmoaflfaa
open Go.RowKit
set_option linter.unusedVariables false
set_option linter.unusedSimpArgs false
set_option maxRecDepth 100000
attribute [local irreducible] wpList Code.wp wpAnyZ
/-- A product's two words. -/
def mulHi (x y : Nat) : Nat := x * y / 18446744073709551616
def mulLo (x y : Nat) : Nat := (x * y) % 18446744073709551616
theorem mulE (x y : Nat) (hx : x < 18446744073709551616) (hy : y < 18446744073709551616) : ((((((x >>> 32) * (y >>> 32)) % 18446744073709551616) + ((((((x >>> 32) * ((y &&& 4294967295) % 18446744073709551616)) % 18446744073709551616) + (((((x &&& 4294967295) % 18446744073709551616) * ((y &&& 4294967295) % 18446744073709551616)) % 18446744073709551616) >>> 32)) % 18446744073709551616) >>> 32)) % 18446744073709551616) + ((((((((((x >>> 32) * ((y &&& 4294967295) % 18446744073709551616)) % 18446744073709551616) + (((((x &&& 4294967295) % 18446744073709551616) * ((y &&& 4294967295) % 18446744073709551616)) % 18446744073709551616) >>> 32)) % 18446744073709551616) &&& 4294967295) % 18446744073709551616) + ((((x &&& 4294967295) % 18446744073709551616) * (y >>> 32)) % 18446744073709551616)) % 18446744073709551616) >>> 32)) % 18446744073709551616 = mulHi x y := by
  have a32 : ∀ n : Nat, n &&& 4294967295 = n % 4294967296 := fun n => Nat.and_two_pow_sub_one_eq_mod n 32
  have s32 : ∀ n : Nat, n >>> 32 = n / 4294967296 := fun n => Nat.shiftRight_eq_div_pow n 32
  obtain ⟨h1, h2, h3, h4⟩ := Go.Lib.mul64_hi x y hx hy
  unfold mulHi
  simp only [a32, s32]
  rw [← h4]
  have ey : (y % 4294967296) % 18446744073709551616 = y % 4294967296 := by omega
  have ex : (x % 4294967296) % 18446744073709551616 = x % 4294967296 := by omega
  simp only [ex, ey]
  have ha := Go.Lib.half_mul_le (a := x / 4294967296) (b := y / 4294967296) (by omega) (by omega)
  have hb := Go.Lib.half_mul_le (a := x / 4294967296) (b := y % 4294967296) (by omega) (by omega)
  have hc := Go.Lib.half_mul_le (a := x % 4294967296) (b := y / 4294967296) (by omega) (by omega)
  have hd := Go.Lib.half_mul_le (a := x % 4294967296) (b := y % 4294967296) (by omega) (by omega)
  clear h4
  generalize (x / 4294967296) * (y / 4294967296) = a at *
  generalize (x / 4294967296) * (y % 4294967296) = b at *
  generalize (x % 4294967296) * (y / 4294967296) = c at *
  generalize (x % 4294967296) * (y % 4294967296) = d at *
  omega

theorem mul_any (x y : Nat) (hx : x < 18446744073709551616) (hy : y < 18446744073709551616) (w : World) :
    Calls Try.prog 96 #[.int .u64 ((x : Nat) : Int), .int .u64 ((y : Nat) : Int)] w fun e w' => e = .returned (.tuple #[.int .u64 ((mulHi x y : Nat) : Int), .int .u64 ((mulLo x y : Nat) : Int)]) ∧ w' = w := by
  skip
  go_enter Try.func96, Try.ntmps96
  refine wp_seq_k fun K1 hK1 => ?_
  refine cPlain ?_
  refine sv 4 (.int .u64 0) .of ?_
  simp only [sZ, sS]
  refine sv 5 (.int .u64 0) .of ?_
  simp only [sZ, sS]
  refine wpList_nil ?_
  refine hK1 _ _ ?_
  refine wp_seq_k fun K2 hK2 => ?_
  refine cPlain ?_
  refine sv 14 (.int .u64 ((x : Nat) : Int)) .of ?_
  simp only [sZ, sS]
  refine sv 15 (.int .u64 (((x &&& 4294967295) % 18446744073709551616 : Nat) : Int)) (Val.andN 84 _ (.tmp 14) _ rfl .u64 x 4294967295 18446744073709551616 (by kernel_rfl) (by kernel_rfl)) ?_
  simp only [sZ, sS]
  refine sv 6 (.int .u64 (((x &&& 4294967295) % 18446744073709551616 : Nat) : Int)) .of ?_
  simp only [sZ, sS]
  refine wpList_nil ?_
  refine hK2 _ _ ?_
  refine wp_seq_k fun K3 hK3 => ?_
  refine cPlain ?_
  refine sv 16 (.int .u64 ((x : Nat) : Int)) .of ?_
  simp only [sZ, sS]
  refine sv 17 (.int .u64 ((x >>> 32 : Nat) : Int)) (Val.shrN 84 _ (.tmp 16) _ rfl .u64 .u64 x 32 (by kernel_rfl) (by kernel_rfl) (by simp only [IntKind.bits]; omega)) ?_
  simp only [sZ, sS]
  refine sv 7 (.int .u64 ((x >>> 32 : Nat) : Int)) .of ?_
  simp only [sZ, sS]
  refine wpList_nil ?_
  refine hK3 _ _ ?_
  refine wp_seq_k fun K4 hK4 => ?_
  refine cPlain ?_
  refine sv 18 (.int .u64 ((y : Nat) : Int)) .of ?_
  simp only [sZ, sS]
  refine sv 19 (.int .u64 (((y &&& 4294967295) % 18446744073709551616 : Nat) : Int)) (Val.andN 84 _ (.tmp 18) _ rfl .u64 y 4294967295 18446744073709551616 (by kernel_rfl) (by kernel_rfl)) ?_
  simp only [sZ, sS]
  refine sv 8 (.int .u64 (((y &&& 4294967295) % 18446744073709551616 : Nat) : Int)) .of ?_
  simp only [sZ, sS]
  refine wpList_nil ?_
  refine hK4 _ _ ?_
  refine wp_seq_k fun K5 hK5 => ?_
  refine cPlain ?_
  refine sv 20 (.int .u64 ((y : Nat) : Int)) .of ?_
  simp only [sZ, sS]
  refine sv 21 (.int .u64 ((y >>> 32 : Nat) : Int)) (Val.shrN 84 _ (.tmp 20) _ rfl .u64 .u64 y 32 (by kernel_rfl) (by kernel_rfl) (by simp only [IntKind.bits]; omega)) ?_
  simp only [sZ, sS]
  refine sv 9 (.int .u64 ((y >>> 32 : Nat) : Int)) .of ?_
  simp only [sZ, sS]
  refine wpList_nil ?_
  refine hK5 _ _ ?_
  refine wp_seq_k fun K6 hK6 => ?_
  refine cPlain ?_
  refine sv 22 (.int .u64 (((x &&& 4294967295) % 18446744073709551616 : Nat) : Int)) .of ?_
  simp only [sZ, sS]
  refine sv 23 (.int .u64 (((y &&& 4294967295) % 18446744073709551616 : Nat) : Int)) .of ?_
  simp only [sZ, sS]
  refine sv 24 (.int .u64 (((((x &&& 4294967295) % 18446744073709551616) * ((y &&& 4294967295) % 18446744073709551616)) % 18446744073709551616 : Nat) : Int)) (Val.mulN 84 _ (.tmp 22) (.tmp 23) rfl .u64 ((x &&& 4294967295) % 18446744073709551616) ((y &&& 4294967295) % 18446744073709551616) 18446744073709551616 (by kernel_rfl) (by kernel_rfl)) ?_
  simp only [sZ, sS]
  refine sv 10 (.int .u64 (((((x &&& 4294967295) % 18446744073709551616) * ((y &&& 4294967295) % 18446744073709551616)) % 18446744073709551616 : Nat) : Int)) .of ?_
  simp only [sZ, sS]
  refine wpList_nil ?_
  refine hK6 _ _ ?_
  refine wp_seq_k fun K7 hK7 => ?_
  refine cPlain ?_
  refine sv 25 (.int .u64 ((x >>> 32 : Nat) : Int)) .of ?_
  simp only [sZ, sS]
  refine sv 26 (.int .u64 (((y &&& 4294967295) % 18446744073709551616 : Nat) : Int)) .of ?_
  simp only [sZ, sS]
  refine sv 27 (.int .u64 ((((x >>> 32) * ((y &&& 4294967295) % 18446744073709551616)) % 18446744073709551616 : Nat) : Int)) (Val.mulN 84 _ (.tmp 25) (.tmp 26) rfl .u64 (x >>> 32) ((y &&& 4294967295) % 18446744073709551616) 18446744073709551616 (by kernel_rfl) (by kernel_rfl)) ?_
  simp only [sZ, sS]
  refine sv 28 (.int .u64 (((((x &&& 4294967295) % 18446744073709551616) * ((y &&& 4294967295) % 18446744073709551616)) % 18446744073709551616 : Nat) : Int)) .of ?_
  simp only [sZ, sS]
  refine sv 29 (.int .u64 ((((((x &&& 4294967295) % 18446744073709551616) * ((y &&& 4294967295) % 18446744073709551616)) % 18446744073709551616) >>> 32 : Nat) : Int)) (Val.shrN 84 _ (.tmp 28) _ rfl .u64 .u64 ((((x &&& 4294967295) % 18446744073709551616) * ((y &&& 4294967295) % 18446744073709551616)) % 18446744073709551616) 32 (by kernel_rfl) (by kernel_rfl) (by simp only [IntKind.bits]; omega)) ?_
  simp only [sZ, sS]
  refine sv 30 (.int .u64 ((((((x >>> 32) * ((y &&& 4294967295) % 18446744073709551616)) % 18446744073709551616) + (((((x &&& 4294967295) % 18446744073709551616) * ((y &&& 4294967295) % 18446744073709551616)) % 18446744073709551616) >>> 32)) % 18446744073709551616 : Nat) : Int)) (Val.addN 84 _ (.tmp 27) (.tmp 29) rfl .u64 (((x >>> 32) * ((y &&& 4294967295) % 18446744073709551616)) % 18446744073709551616) (((((x &&& 4294967295) % 18446744073709551616) * ((y &&& 4294967295) % 18446744073709551616)) % 18446744073709551616) >>> 32) 18446744073709551616 (by kernel_rfl) (by kernel_rfl)) ?_
  simp only [sZ, sS]
  refine sv 11 (.int .u64 ((((((x >>> 32) * ((y &&& 4294967295) % 18446744073709551616)) % 18446744073709551616) + (((((x &&& 4294967295) % 18446744073709551616) * ((y &&& 4294967295) % 18446744073709551616)) % 18446744073709551616) >>> 32)) % 18446744073709551616 : Nat) : Int)) .of ?_
  simp only [sZ, sS]
  refine wpList_nil ?_
  refine hK7 _ _ ?_
  refine wp_seq_k fun K8 hK8 => ?_
  refine cPlain ?_
  refine sv 31 (.int .u64 ((((((x >>> 32) * ((y &&& 4294967295) % 18446744073709551616)) % 18446744073709551616) + (((((x &&& 4294967295) % 18446744073709551616) * ((y &&& 4294967295) % 18446744073709551616)) % 18446744073709551616) >>> 32)) % 18446744073709551616 : Nat) : Int)) .of ?_
  simp only [sZ, sS]
  refine sv 32 (.int .u64 ((((((((x >>> 32) * ((y &&& 4294967295) % 18446744073709551616)) % 18446744073709551616) + (((((x &&& 4294967295) % 18446744073709551616) * ((y &&& 4294967295) % 18446744073709551616)) % 18446744073709551616) >>> 32)) % 18446744073709551616) &&& 4294967295) % 18446744073709551616 : Nat) : Int)) (Val.andN 84 _ (.tmp 31) _ rfl .u64 (((((x >>> 32) * ((y &&& 4294967295) % 18446744073709551616)) % 18446744073709551616) + (((((x &&& 4294967295) % 18446744073709551616) * ((y &&& 4294967295) % 18446744073709551616)) % 18446744073709551616) >>> 32)) % 18446744073709551616) 4294967295 18446744073709551616 (by kernel_rfl) (by kernel_rfl)) ?_
  simp only [sZ, sS]
  refine sv 12 (.int .u64 ((((((((x >>> 32) * ((y &&& 4294967295) % 18446744073709551616)) % 18446744073709551616) + (((((x &&& 4294967295) % 18446744073709551616) * ((y &&& 4294967295) % 18446744073709551616)) % 18446744073709551616) >>> 32)) % 18446744073709551616) &&& 4294967295) % 18446744073709551616 : Nat) : Int)) .of ?_
  simp only [sZ, sS]
  refine wpList_nil ?_
  refine hK8 _ _ ?_
  refine wp_seq_k fun K9 hK9 => ?_
  refine cPlain ?_
  refine sv 33 (.int .u64 ((((((x >>> 32) * ((y &&& 4294967295) % 18446744073709551616)) % 18446744073709551616) + (((((x &&& 4294967295) % 18446744073709551616) * ((y &&& 4294967295) % 18446744073709551616)) % 18446744073709551616) >>> 32)) % 18446744073709551616 : Nat) : Int)) .of ?_
  simp only [sZ, sS]
  refine sv 34 (.int .u64 (((((((x >>> 32) * ((y &&& 4294967295) % 18446744073709551616)) % 18446744073709551616) + (((((x &&& 4294967295) % 18446744073709551616) * ((y &&& 4294967295) % 18446744073709551616)) % 18446744073709551616) >>> 32)) % 18446744073709551616) >>> 32 : Nat) : Int)) (Val.shrN 84 _ (.tmp 33) _ rfl .u64 .u64 (((((x >>> 32) * ((y &&& 4294967295) % 18446744073709551616)) % 18446744073709551616) + (((((x &&& 4294967295) % 18446744073709551616) * ((y &&& 4294967295) % 18446744073709551616)) % 18446744073709551616) >>> 32)) % 18446744073709551616) 32 (by kernel_rfl) (by kernel_rfl) (by simp only [IntKind.bits]; omega)) ?_
  simp only [sZ, sS]
  refine sv 13 (.int .u64 (((((((x >>> 32) * ((y &&& 4294967295) % 18446744073709551616)) % 18446744073709551616) + (((((x &&& 4294967295) % 18446744073709551616) * ((y &&& 4294967295) % 18446744073709551616)) % 18446744073709551616) >>> 32)) % 18446744073709551616) >>> 32 : Nat) : Int)) .of ?_
  simp only [sZ, sS]
  refine wpList_nil ?_
  refine hK9 _ _ ?_
  refine wp_seq_k fun K10 hK10 => ?_
  refine cPlain ?_
  refine sv 35 (.int .u64 ((((((((x >>> 32) * ((y &&& 4294967295) % 18446744073709551616)) % 18446744073709551616) + (((((x &&& 4294967295) % 18446744073709551616) * ((y &&& 4294967295) % 18446744073709551616)) % 18446744073709551616) >>> 32)) % 18446744073709551616) &&& 4294967295) % 18446744073709551616 : Nat) : Int)) .of ?_
  simp only [sZ, sS]
  refine sv 36 (.int .u64 (((x &&& 4294967295) % 18446744073709551616 : Nat) : Int)) .of ?_
  simp only [sZ, sS]
  refine sv 37 (.int .u64 ((y >>> 32 : Nat) : Int)) .of ?_
  simp only [sZ, sS]
  refine sv 38 (.int .u64 (((((x &&& 4294967295) % 18446744073709551616) * (y >>> 32)) % 18446744073709551616 : Nat) : Int)) (Val.mulN 84 _ (.tmp 36) (.tmp 37) rfl .u64 ((x &&& 4294967295) % 18446744073709551616) (y >>> 32) 18446744073709551616 (by kernel_rfl) (by kernel_rfl)) ?_
  simp only [sZ, sS]
  refine sv 39 (.int .u64 ((((((((((x >>> 32) * ((y &&& 4294967295) % 18446744073709551616)) % 18446744073709551616) + (((((x &&& 4294967295) % 18446744073709551616) * ((y &&& 4294967295) % 18446744073709551616)) % 18446744073709551616) >>> 32)) % 18446744073709551616) &&& 4294967295) % 18446744073709551616) + ((((x &&& 4294967295) % 18446744073709551616) * (y >>> 32)) % 18446744073709551616)) % 18446744073709551616 : Nat) : Int)) (Val.addN 84 _ (.tmp 35) (.tmp 38) rfl .u64 (((((((x >>> 32) * ((y &&& 4294967295) % 18446744073709551616)) % 18446744073709551616) + (((((x &&& 4294967295) % 18446744073709551616) * ((y &&& 4294967295) % 18446744073709551616)) % 18446744073709551616) >>> 32)) % 18446744073709551616) &&& 4294967295) % 18446744073709551616) ((((x &&& 4294967295) % 18446744073709551616) * (y >>> 32)) % 18446744073709551616) 18446744073709551616 (by kernel_rfl) (by kernel_rfl)) ?_
  simp only [sZ, sS]
  refine sv 12 (.int .u64 ((((((((((x >>> 32) * ((y &&& 4294967295) % 18446744073709551616)) % 18446744073709551616) + (((((x &&& 4294967295) % 18446744073709551616) * ((y &&& 4294967295) % 18446744073709551616)) % 18446744073709551616) >>> 32)) % 18446744073709551616) &&& 4294967295) % 18446744073709551616) + ((((x &&& 4294967295) % 18446744073709551616) * (y >>> 32)) % 18446744073709551616)) % 18446744073709551616 : Nat) : Int)) .of ?_
  simp only [sZ, sS]
  refine wpList_nil ?_
  refine hK10 _ _ ?_
  refine wp_seq_k fun K11 hK11 => ?_
  refine cPlain ?_
  refine sv 40 (.int .u64 ((x >>> 32 : Nat) : Int)) .of ?_
  simp only [sZ, sS]
  refine sv 41 (.int .u64 ((y >>> 32 : Nat) : Int)) .of ?_
  simp only [sZ, sS]
  refine sv 42 (.int .u64 ((((x >>> 32) * (y >>> 32)) % 18446744073709551616 : Nat) : Int)) (Val.mulN 84 _ (.tmp 40) (.tmp 41) rfl .u64 (x >>> 32) (y >>> 32) 18446744073709551616 (by kernel_rfl) (by kernel_rfl)) ?_
  simp only [sZ, sS]
  refine sv 43 (.int .u64 (((((((x >>> 32) * ((y &&& 4294967295) % 18446744073709551616)) % 18446744073709551616) + (((((x &&& 4294967295) % 18446744073709551616) * ((y &&& 4294967295) % 18446744073709551616)) % 18446744073709551616) >>> 32)) % 18446744073709551616) >>> 32 : Nat) : Int)) .of ?_
  simp only [sZ, sS]
  refine sv 44 (.int .u64 ((((((x >>> 32) * (y >>> 32)) % 18446744073709551616) + ((((((x >>> 32) * ((y &&& 4294967295) % 18446744073709551616)) % 18446744073709551616) + (((((x &&& 4294967295) % 18446744073709551616) * ((y &&& 4294967295) % 18446744073709551616)) % 18446744073709551616) >>> 32)) % 18446744073709551616) >>> 32)) % 18446744073709551616 : Nat) : Int)) (Val.addN 84 _ (.tmp 42) (.tmp 43) rfl .u64 (((x >>> 32) * (y >>> 32)) % 18446744073709551616) ((((((x >>> 32) * ((y &&& 4294967295) % 18446744073709551616)) % 18446744073709551616) + (((((x &&& 4294967295) % 18446744073709551616) * ((y &&& 4294967295) % 18446744073709551616)) % 18446744073709551616) >>> 32)) % 18446744073709551616) >>> 32) 18446744073709551616 (by kernel_rfl) (by kernel_rfl)) ?_
  simp only [sZ, sS]
  refine sv 45 (.int .u64 ((((((((((x >>> 32) * ((y &&& 4294967295) % 18446744073709551616)) % 18446744073709551616) + (((((x &&& 4294967295) % 18446744073709551616) * ((y &&& 4294967295) % 18446744073709551616)) % 18446744073709551616) >>> 32)) % 18446744073709551616) &&& 4294967295) % 18446744073709551616) + ((((x &&& 4294967295) % 18446744073709551616) * (y >>> 32)) % 18446744073709551616)) % 18446744073709551616 : Nat) : Int)) .of ?_
  simp only [sZ, sS]
  refine sv 46 (.int .u64 (((((((((((x >>> 32) * ((y &&& 4294967295) % 18446744073709551616)) % 18446744073709551616) + (((((x &&& 4294967295) % 18446744073709551616) * ((y &&& 4294967295) % 18446744073709551616)) % 18446744073709551616) >>> 32)) % 18446744073709551616) &&& 4294967295) % 18446744073709551616) + ((((x &&& 4294967295) % 18446744073709551616) * (y >>> 32)) % 18446744073709551616)) % 18446744073709551616) >>> 32 : Nat) : Int)) (Val.shrN 84 _ (.tmp 45) _ rfl .u64 .u64 (((((((((x >>> 32) * ((y &&& 4294967295) % 18446744073709551616)) % 18446744073709551616) + (((((x &&& 4294967295) % 18446744073709551616) * ((y &&& 4294967295) % 18446744073709551616)) % 18446744073709551616) >>> 32)) % 18446744073709551616) &&& 4294967295) % 18446744073709551616) + ((((x &&& 4294967295) % 18446744073709551616) * (y >>> 32)) % 18446744073709551616)) % 18446744073709551616) 32 (by kernel_rfl) (by kernel_rfl) (by simp only [IntKind.bits]; omega)) ?_
  simp only [sZ, sS]
  refine sv 47 (.int .u64 ((((((((x >>> 32) * (y >>> 32)) % 18446744073709551616) + ((((((x >>> 32) * ((y &&& 4294967295) % 18446744073709551616)) % 18446744073709551616) + (((((x &&& 4294967295) % 18446744073709551616) * ((y &&& 4294967295) % 18446744073709551616)) % 18446744073709551616) >>> 32)) % 18446744073709551616) >>> 32)) % 18446744073709551616) + ((((((((((x >>> 32) * ((y &&& 4294967295) % 18446744073709551616)) % 18446744073709551616) + (((((x &&& 4294967295) % 18446744073709551616) * ((y &&& 4294967295) % 18446744073709551616)) % 18446744073709551616) >>> 32)) % 18446744073709551616) &&& 4294967295) % 18446744073709551616) + ((((x &&& 4294967295) % 18446744073709551616) * (y >>> 32)) % 18446744073709551616)) % 18446744073709551616) >>> 32)) % 18446744073709551616 : Nat) : Int)) (Val.addN 84 _ (.tmp 44) (.tmp 46) rfl .u64 (((((x >>> 32) * (y >>> 32)) % 18446744073709551616) + ((((((x >>> 32) * ((y &&& 4294967295) % 18446744073709551616)) % 18446744073709551616) + (((((x &&& 4294967295) % 18446744073709551616) * ((y &&& 4294967295) % 18446744073709551616)) % 18446744073709551616) >>> 32)) % 18446744073709551616) >>> 32)) % 18446744073709551616) ((((((((((x >>> 32) * ((y &&& 4294967295) % 18446744073709551616)) % 18446744073709551616) + (((((x &&& 4294967295) % 18446744073709551616) * ((y &&& 4294967295) % 18446744073709551616)) % 18446744073709551616) >>> 32)) % 18446744073709551616) &&& 4294967295) % 18446744073709551616) + ((((x &&& 4294967295) % 18446744073709551616) * (y >>> 32)) % 18446744073709551616)) % 18446744073709551616) >>> 32) 18446744073709551616 (by kernel_rfl) (by kernel_rfl)) ?_
  simp only [sZ, sS]
  refine sv 4 (.int .u64 ((((((((x >>> 32) * (y >>> 32)) % 18446744073709551616) + ((((((x >>> 32) * ((y &&& 4294967295) % 18446744073709551616)) % 18446744073709551616) + (((((x &&& 4294967295) % 18446744073709551616) * ((y &&& 4294967295) % 18446744073709551616)) % 18446744073709551616) >>> 32)) % 18446744073709551616) >>> 32)) % 18446744073709551616) + ((((((((((x >>> 32) * ((y &&& 4294967295) % 18446744073709551616)) % 18446744073709551616) + (((((x &&& 4294967295) % 18446744073709551616) * ((y &&& 4294967295) % 18446744073709551616)) % 18446744073709551616) >>> 32)) % 18446744073709551616) &&& 4294967295) % 18446744073709551616) + ((((x &&& 4294967295) % 18446744073709551616) * (y >>> 32)) % 18446744073709551616)) % 18446744073709551616) >>> 32)) % 18446744073709551616 : Nat) : Int)) .of ?_
  simp only [sZ, sS]
  refine wpList_nil ?_
  refine hK11 _ _ ?_
  refine wp_seq_k fun K12 hK12 => ?_
  refine cPlain ?_
  refine sv 48 (.int .u64 ((x : Nat) : Int)) .of ?_
  simp only [sZ, sS]
  refine sv 49 (.int .u64 ((y : Nat) : Int)) .of ?_
  simp only [sZ, sS]
  refine sv 50 (.int .u64 (((x * y) % 18446744073709551616 : Nat) : Int)) (Val.mulN 84 _ (.tmp 48) (.tmp 49) rfl .u64 x y 18446744073709551616 (by kernel_rfl) (by kernel_rfl)) ?_
  simp only [sZ, sS]
  refine sv 5 (.int .u64 (((x * y) % 18446744073709551616 : Nat) : Int)) .of ?_
  simp only [sZ, sS]
  refine wpList_nil ?_
  refine hK12 _ _ ?_
  refine wp_ret ?_
  (try simp only [Exit.then, Exit.inBlock])
  refine bodyPost_ret (v := .tuple #[.int .u64 ((((((((x >>> 32) * (y >>> 32)) % 18446744073709551616) + ((((((x >>> 32) * ((y &&& 4294967295) % 18446744073709551616)) % 18446744073709551616) + (((((x &&& 4294967295) % 18446744073709551616) * ((y &&& 4294967295) % 18446744073709551616)) % 18446744073709551616) >>> 32)) % 18446744073709551616) >>> 32)) % 18446744073709551616) + ((((((((((x >>> 32) * ((y &&& 4294967295) % 18446744073709551616)) % 18446744073709551616) + (((((x &&& 4294967295) % 18446744073709551616) * ((y &&& 4294967295) % 18446744073709551616)) % 18446744073709551616) >>> 32)) % 18446744073709551616) &&& 4294967295) % 18446744073709551616) + ((((x &&& 4294967295) % 18446744073709551616) * (y >>> 32)) % 18446744073709551616)) % 18446744073709551616) >>> 32)) % 18446744073709551616 : Nat) : Int), .int .u64 (((x * y) % 18446744073709551616 : Nat) : Int)]) rT rfl ?_
  rw [← mulE x y hx hy]
  exact ⟨rfl, rfl⟩

theorem mulLo_lt (x y : Nat) : mulLo x y < 18446744073709551616 := Nat.mod_lt _ (by decide)
def belowV (h l m : Nat) : Bool := decide (h < m ∨ (h = m ∧ l = 0))
theorem belowV_1 {h l m : Nat} (g : (h : Int) < (m : Int)) : belowV h l m = true := decide_eq_true (.inl (by omega))
theorem belowV_2 {h l m : Nat} (g : ¬ ((h : Int) < (m : Int))) (g' : (h : Int) = (m : Int)) : belowV h l m = decide ((l : Int) = 0) := decide_eq_decide.2 (by omega)
theorem belowV_3 {h l m : Nat} (g : ¬ ((h : Int) < (m : Int))) (g' : ¬ ((h : Int) = (m : Int))) : belowV h l m = false := decide_eq_false (by omega)
def hi3 (c : Nat) : Nat := (((((mulHi c c) * c) % 18446744073709551616) + (mulHi (mulLo c c) c)) % 18446744073709551616)
def lim3 (p : Nat) : Nat := (p <<< 32) % 18446744073709551616
/-- Is a number's power at most so much? -/
def belowN (c p : Nat) : Bool → Bool
  | false => belowV (mulHi c c) (mulLo c c) p
  | true => belowV (hi3 c) (mulLo (mulLo c c) c) (lim3 p)
/-- The first 32 bits of a root. -/
def rootC (p : Nat) (third : Bool) : Nat → Nat
  | 0 => 0
  | i + 1 => if belowN ((rootC p third i ||| ((1 <<< (35 - i)) % 18446744073709551616)) % 18446744073709551616) p third = true then (rootC p third i ||| ((1 <<< (35 - i)) % 18446744073709551616)) % 18446744073709551616 else rootC p third i
theorem rootC_yes {p i c : Nat} {third : Bool} (h : c = rootC p third i) (g : belowN ((c ||| ((1 <<< (35 - i)) % 18446744073709551616)) % 18446744073709551616) p third = true) : (c ||| ((1 <<< (35 - i)) % 18446744073709551616)) % 18446744073709551616 = rootC p third (i + 1) := by
  subst h; exact (if_pos g).symm
theorem rootC_no {p i c : Nat} {third : Bool} (h : c = rootC p third i) (g : belowN ((c ||| ((1 <<< (35 - i)) % 18446744073709551616)) % 18446744073709551616) p third = false) : c = rootC p third (i + 1) := by
  subst h; exact (if_neg (by simp [g])).symm
def rootN (p : Nat) (third : Bool) : Nat := rootC p third 36 % 4294967296

theorem below_false (c p : Nat) (hc : c < 18446744073709551616) (hp : p < 18446744073709551616) (w : World) :
    Calls Try.prog 69 #[.int .u64 ((c : Nat) : Int), .int .u64 ((p : Nat) : Int), .bool false] w fun e w' => e = .returned (.bool (belowN c p false)) ∧ w' = w := by
  unfold belowN
  go_enter Try.func69, Try.ntmps69
  refine wp_seq_k fun K1 hK1 => ?_
  refine cPlain ?_
  refine sv 6 (.bool false) .of ?_
  simp only [sZ, sS]
  refine wpList_nil ?_
  refine hK1 _ _ ?_
  refine wp_seq_k fun K2 hK2 => ?_
  refine cPlain ?_
  refine sv 13 (.int .u64 ((c : Nat) : Int)) .of ?_
  simp only [sZ, sS]
  refine sv 14 (.int .u64 ((c : Nat) : Int)) .of ?_
  simp only [sZ, sS]
  refine xCall 15 96 #[.int .u64 ((c : Nat) : Int), .int .u64 ((c : Nat) : Int)] (by kernel_rfl) ?_
  refine (mul_any (c) (c) hc hc w).mono ?_
  rintro en w1 ⟨rfl, hw⟩
  obtain rfl := (hw).symm
  refine ⟨.tuple #[.int .u64 ((mulHi c c : Nat) : Int), .int .u64 ((mulLo c c : Nat) : Int)], rfl, ?_⟩
  simp only [sZ, sS]
  refine sv 12 (.tuple #[.int .u64 ((mulHi c c : Nat) : Int), .int .u64 ((mulLo c c : Nat) : Int)]) .of ?_
  simp only [sZ, sS]
  refine sv 16 (.int .u64 ((mulHi c c : Nat) : Int)) .of ?_
  simp only [sZ, sS]
  refine sv 17 (.int .u64 ((mulLo c c : Nat) : Int)) .of ?_
  simp only [sZ, sS]
  refine sv 7 (.int .u64 ((mulHi c c : Nat) : Int)) .of ?_
  simp only [sZ, sS]
  refine sv 8 (.int .u64 ((mulLo c c : Nat) : Int)) .of ?_
  simp only [sZ, sS]
  refine wpList_nil ?_
  refine hK2 _ _ ?_
  refine wp_seq_k fun K3 hK3 => ?_
  refine cPlain ?_
  refine sv 18 (.int .u64 ((p : Nat) : Int)) .of ?_
  simp only [sZ, sS]
  refine sv 9 (.int .u64 ((p : Nat) : Int)) .of ?_
  simp only [sZ, sS]
  refine wpList_nil ?_
  refine hK3 _ _ ?_
  refine wp_seq_k fun K4 hK4 => ?_
  refine wp_seq_k fun K5 hK5 => ?_
  refine cPlain ?_
  refine sv 19 (.bool false) .of ?_
  simp only [sZ, sS]
  refine wpList_nil ?_
  refine hK5 _ _ ?_
  refine cF ?_
  refine wp_skip ?_
  refine hK4 _ _ ?_
  refine wp_seq_k fun K6 hK6 => ?_
  refine cPlain ?_
  refine sv 34 (.int .u64 ((mulHi c c : Nat) : Int)) .of ?_
  simp only [sZ, sS]
  refine sv 35 (.int .u64 ((p : Nat) : Int)) .of ?_
  simp only [sZ, sS]
  refine sv 36 (.bool (decide (((mulHi c c : Nat) : Int) < ((p : Nat) : Int)))) (Val.cmp .lss 84 _ (.tmp 34) (.tmp 35) rfl .u64 ((mulHi c c : Nat) : Int) ((p : Nat) : Int) (by kernel_rfl) (by kernel_rfl) (by simp) _ rfl) ?_
  simp only [sZ, sS]
  refine sv 37 (.bool (decide (((mulHi c c : Nat) : Int) < ((p : Nat) : Int)))) .of ?_
  simp only [sZ, sS]
  by_cases g38 : ((mulHi c c : Nat) : Int) < ((p : Nat) : Int)
  · skip
    have dg38 : decide (((mulHi c c : Nat) : Int) < ((p : Nat) : Int)) = true := decide_eq_true g38
    simp only [dg38]
    clear dg38
    refine xSkip 38 ?_
    simp only [sZ, sS]
    refine xSkip 39 ?_
    simp only [sZ, sS]
    refine xSkip 40 ?_
    simp only [sZ, sS]
    refine xSkip 41 ?_
    simp only [sZ, sS]
    refine xSkip 42 ?_
    simp only [sZ, sS]
    refine xSkip 43 ?_
    simp only [sZ, sS]
    refine xSkip 44 ?_
    simp only [sZ, sS]
    refine sv 45 (.bool true) .of ?_
    simp only [sZ, sS]
    refine sv 6 (.bool true) .of ?_
    simp only [sZ, sS]
    refine wpList_nil ?_
    refine hK6 _ _ ?_
    refine wp_ret ?_
    (try simp only [Exit.then, Exit.inBlock])
    refine bodyPost_ret (v := .bool true) rT rfl ?_
    first | rw [belowV_1 g38] | rw [belowV_2 g38 g42] | rw [belowV_3 g38 g42]
    exact ⟨rfl, rfl⟩
  · skip
    have dg38 : decide (((mulHi c c : Nat) : Int) < ((p : Nat) : Int)) = false := decide_eq_false g38
    simp only [dg38]
    clear dg38
    refine sv 38 (.int .u64 ((mulHi c c : Nat) : Int)) .of ?_
    simp only [sZ, sS]
    refine sv 39 (.int .u64 ((p : Nat) : Int)) .of ?_
    simp only [sZ, sS]
    refine sv 40 (.bool (decide (((mulHi c c : Nat) : Int) = ((p : Nat) : Int)))) (Val.cmp .eql 84 _ (.tmp 38) (.tmp 39) rfl .u64 ((mulHi c c : Nat) : Int) ((p : Nat) : Int) (by kernel_rfl) (by kernel_rfl) (by simp) _ rfl) ?_
    simp only [sZ, sS]
    refine sv 41 (.bool (decide (((mulHi c c : Nat) : Int) = ((p : Nat) : Int)))) .of ?_
    simp only [sZ, sS]
    by_cases g42 : ((mulHi c c : Nat) : Int) = ((p : Nat) : Int)
    · skip
      have dg42 : decide (((mulHi c c : Nat) : Int) = ((p : Nat) : Int)) = true := decide_eq_true g42
      simp only [dg42]
      clear dg42
      refine sv 42 (.int .u64 ((mulLo c c : Nat) : Int)) .of ?_
      simp only [sZ, sS]
      refine sv 43 (.bool (decide (((mulLo c c : Nat) : Int) = 0))) (Val.cmp .eql 84 _ (.tmp 42) _ rfl .u64 ((mulLo c c : Nat) : Int) 0 (by kernel_rfl) (by kernel_rfl) (by simp) _ rfl) ?_
      simp only [sZ, sS]
      refine sv 44 (.bool (decide (((mulLo c c : Nat) : Int) = 0))) .of ?_
      simp only [sZ, sS]
      refine sv 45 (.bool (decide (((mulLo c c : Nat) : Int) = 0))) .of ?_
      simp only [sZ, sS]
      refine sv 6 (.bool (decide (((mulLo c c : Nat) : Int) = 0))) .of ?_
      simp only [sZ, sS]
      refine wpList_nil ?_
      refine hK6 _ _ ?_
      refine wp_ret ?_
      (try simp only [Exit.then, Exit.inBlock])
      refine bodyPost_ret (v := .bool (decide (((mulLo c c : Nat) : Int) = 0))) rT rfl ?_
      first | rw [belowV_1 g38] | rw [belowV_2 g38 g42] | rw [belowV_3 g38 g42]
      exact ⟨rfl, rfl⟩
    · skip
      have dg42 : decide (((mulHi c c : Nat) : Int) = ((p : Nat) : Int)) = false := decide_eq_false g42
      simp only [dg42]
      clear dg42
      refine xSkip 42 ?_
      simp only [sZ, sS]
      refine xSkip 43 ?_
      simp only [sZ, sS]
      refine sv 44 (.bool false) .of ?_
      simp only [sZ, sS]
      refine sv 45 (.bool false) .of ?_
      simp only [sZ, sS]
      refine sv 6 (.bool false) .of ?_
      simp only [sZ, sS]
      refine wpList_nil ?_
      refine hK6 _ _ ?_
      refine wp_ret ?_
      (try simp only [Exit.then, Exit.inBlock])
      refine bodyPost_ret (v := .bool false) rT rfl ?_
      first | rw [belowV_1 g38] | rw [belowV_2 g38 g42] | rw [belowV_3 g38 g42]
      exact ⟨rfl, rfl⟩

theorem below_true (c p : Nat) (hc : c < 18446744073709551616) (hp : p < 18446744073709551616) (w : World) :
    Calls Try.prog 69 #[.int .u64 ((c : Nat) : Int), .int .u64 ((p : Nat) : Int), .bool true] w fun e w' => e = .returned (.bool (belowN c p true)) ∧ w' = w := by
  unfold belowN
  go_enter Try.func69, Try.ntmps69
  refine wp_seq_k fun K1 hK1 => ?_
  refine cPlain ?_
  refine sv 6 (.bool false) .of ?_
  simp only [sZ, sS]
  refine wpList_nil ?_
  refine hK1 _ _ ?_
  refine wp_seq_k fun K2 hK2 => ?_
  refine cPlain ?_
  refine sv 13 (.int .u64 ((c : Nat) : Int)) .of ?_
  simp only [sZ, sS]
  refine sv 14 (.int .u64 ((c : Nat) : Int)) .of ?_
  simp only [sZ, sS]
  refine xCall 15 96 #[.int .u64 ((c : Nat) : Int), .int .u64 ((c : Nat) : Int)] (by kernel_rfl) ?_
  refine (mul_any (c) (c) hc hc w).mono ?_
  rintro en w1 ⟨rfl, hw⟩
  obtain rfl := (hw).symm
  refine ⟨.tuple #[.int .u64 ((mulHi c c : Nat) : Int), .int .u64 ((mulLo c c : Nat) : Int)], rfl, ?_⟩
  simp only [sZ, sS]
  refine sv 12 (.tuple #[.int .u64 ((mulHi c c : Nat) : Int), .int .u64 ((mulLo c c : Nat) : Int)]) .of ?_
  simp only [sZ, sS]
  refine sv 16 (.int .u64 ((mulHi c c : Nat) : Int)) .of ?_
  simp only [sZ, sS]
  refine sv 17 (.int .u64 ((mulLo c c : Nat) : Int)) .of ?_
  simp only [sZ, sS]
  refine sv 7 (.int .u64 ((mulHi c c : Nat) : Int)) .of ?_
  simp only [sZ, sS]
  refine sv 8 (.int .u64 ((mulLo c c : Nat) : Int)) .of ?_
  simp only [sZ, sS]
  refine wpList_nil ?_
  refine hK2 _ _ ?_
  refine wp_seq_k fun K3 hK3 => ?_
  refine cPlain ?_
  refine sv 18 (.int .u64 ((p : Nat) : Int)) .of ?_
  simp only [sZ, sS]
  refine sv 9 (.int .u64 ((p : Nat) : Int)) .of ?_
  simp only [sZ, sS]
  refine wpList_nil ?_
  refine hK3 _ _ ?_
  refine wp_seq_k fun K4 hK4 => ?_
  refine wp_seq_k fun K5 hK5 => ?_
  refine cPlain ?_
  refine sv 19 (.bool true) .of ?_
  simp only [sZ, sS]
  refine wpList_nil ?_
  refine hK5 _ _ ?_
  refine cT ?_
  refine wp_seq_k fun K6 hK6 => ?_
  refine cPlain ?_
  refine sv 21 (.int .u64 ((mulLo c c : Nat) : Int)) .of ?_
  simp only [sZ, sS]
  refine sv 22 (.int .u64 ((c : Nat) : Int)) .of ?_
  simp only [sZ, sS]
  refine xCall 23 96 #[.int .u64 ((mulLo c c : Nat) : Int), .int .u64 ((c : Nat) : Int)] (by kernel_rfl) ?_
  refine (mul_any (mulLo c c) (c) (mulLo_lt _ _) hc w).mono ?_
  rintro en w2 ⟨rfl, hw⟩
  obtain rfl := (hw).symm
  refine ⟨.tuple #[.int .u64 ((mulHi (mulLo c c) c : Nat) : Int), .int .u64 ((mulLo (mulLo c c) c : Nat) : Int)], rfl, ?_⟩
  simp only [sZ, sS]
  refine sv 20 (.tuple #[.int .u64 ((mulHi (mulLo c c) c : Nat) : Int), .int .u64 ((mulLo (mulLo c c) c : Nat) : Int)]) .of ?_
  simp only [sZ, sS]
  refine sv 24 (.int .u64 ((mulHi (mulLo c c) c : Nat) : Int)) .of ?_
  simp only [sZ, sS]
  refine sv 25 (.int .u64 ((mulLo (mulLo c c) c : Nat) : Int)) .of ?_
  simp only [sZ, sS]
  refine sv 10 (.int .u64 ((mulHi (mulLo c c) c : Nat) : Int)) .of ?_
  simp only [sZ, sS]
  refine sv 11 (.int .u64 ((mulLo (mulLo c c) c : Nat) : Int)) .of ?_
  simp only [sZ, sS]
  refine wpList_nil ?_
  refine hK6 _ _ ?_
  refine cPlain ?_
  refine sv 26 (.int .u64 ((mulHi c c : Nat) : Int)) .of ?_
  simp only [sZ, sS]
  refine sv 27 (.int .u64 ((c : Nat) : Int)) .of ?_
  simp only [sZ, sS]
  refine sv 28 (.int .u64 ((((mulHi c c) * c) % 18446744073709551616 : Nat) : Int)) (Val.mulN 84 _ (.tmp 26) (.tmp 27) rfl .u64 (mulHi c c) c 18446744073709551616 (by kernel_rfl) (by kernel_rfl)) ?_
  simp only [sZ, sS]
  refine sv 29 (.int .u64 ((mulHi (mulLo c c) c : Nat) : Int)) .of ?_
  simp only [sZ, sS]
  refine sv 30 (.int .u64 ((hi3 c : Nat) : Int)) (Val.asN (Val.addN 84 _ (.tmp 28) (.tmp 29) rfl .u64 (((mulHi c c) * c) % 18446744073709551616) (mulHi (mulLo c c) c) 18446744073709551616 (by kernel_rfl) (by kernel_rfl)) rfl) ?_
  simp only [sZ, sS]
  refine sv 31 (.int .u64 ((mulLo (mulLo c c) c : Nat) : Int)) .of ?_
  simp only [sZ, sS]
  refine sv 32 (.int .u64 ((p : Nat) : Int)) .of ?_
  simp only [sZ, sS]
  refine sv 33 (.int .u64 ((lim3 p : Nat) : Int)) (Val.asN (Val.shlN 84 _ (.tmp 32) _ rfl .u64 .u64 p 32 18446744073709551616 (by kernel_rfl) (by kernel_rfl)) rfl) ?_
  simp only [sZ, sS]
  refine sv 7 (.int .u64 ((hi3 c : Nat) : Int)) .of ?_
  simp only [sZ, sS]
  refine sv 8 (.int .u64 ((mulLo (mulLo c c) c : Nat) : Int)) .of ?_
  simp only [sZ, sS]
  refine sv 9 (.int .u64 ((lim3 p : Nat) : Int)) .of ?_
  simp only [sZ, sS]
  refine wpList_nil ?_
  refine hK4 _ _ ?_
  refine wp_seq_k fun K7 hK7 => ?_
  refine cPlain ?_
  refine sv 34 (.int .u64 ((hi3 c : Nat) : Int)) .of ?_
  simp only [sZ, sS]
  refine sv 35 (.int .u64 ((lim3 p : Nat) : Int)) .of ?_
  simp only [sZ, sS]
  refine sv 36 (.bool (decide (((hi3 c : Nat) : Int) < ((lim3 p : Nat) : Int)))) (Val.cmp .lss 84 _ (.tmp 34) (.tmp 35) rfl .u64 ((hi3 c : Nat) : Int) ((lim3 p : Nat) : Int) (by kernel_rfl) (by kernel_rfl) (by simp) _ rfl) ?_
  simp only [sZ, sS]
  refine sv 37 (.bool (decide (((hi3 c : Nat) : Int) < ((lim3 p : Nat) : Int)))) .of ?_
  simp only [sZ, sS]
  by_cases g38 : ((hi3 c : Nat) : Int) < ((lim3 p : Nat) : Int)
  · skip
    have dg38 : decide (((hi3 c : Nat) : Int) < ((lim3 p : Nat) : Int)) = true := decide_eq_true g38
    simp only [dg38]
    clear dg38
    refine xSkip 38 ?_
    simp only [sZ, sS]
    refine xSkip 39 ?_
    simp only [sZ, sS]
    refine xSkip 40 ?_
    simp only [sZ, sS]
    refine xSkip 41 ?_
    simp only [sZ, sS]
    refine xSkip 42 ?_
    simp only [sZ, sS]
    refine xSkip 43 ?_
    simp only [sZ, sS]
    refine xSkip 44 ?_
    simp only [sZ, sS]
    refine sv 45 (.bool true) .of ?_
    simp only [sZ, sS]
    refine sv 6 (.bool true) .of ?_
    simp only [sZ, sS]
    refine wpList_nil ?_
    refine hK7 _ _ ?_
    refine wp_ret ?_
    (try simp only [Exit.then, Exit.inBlock])
    refine bodyPost_ret (v := .bool true) rT rfl ?_
    first | rw [belowV_1 g38] | rw [belowV_2 g38 g42] | rw [belowV_3 g38 g42]
    exact ⟨rfl, rfl⟩
  · skip
    have dg38 : decide (((hi3 c : Nat) : Int) < ((lim3 p : Nat) : Int)) = false := decide_eq_false g38
    simp only [dg38]
    clear dg38
    refine sv 38 (.int .u64 ((hi3 c : Nat) : Int)) .of ?_
    simp only [sZ, sS]
    refine sv 39 (.int .u64 ((lim3 p : Nat) : Int)) .of ?_
    simp only [sZ, sS]
    refine sv 40 (.bool (decide (((hi3 c : Nat) : Int) = ((lim3 p : Nat) : Int)))) (Val.cmp .eql 84 _ (.tmp 38) (.tmp 39) rfl .u64 ((hi3 c : Nat) : Int) ((lim3 p : Nat) : Int) (by kernel_rfl) (by kernel_rfl) (by simp) _ rfl) ?_
    simp only [sZ, sS]
    refine sv 41 (.bool (decide (((hi3 c : Nat) : Int) = ((lim3 p : Nat) : Int)))) .of ?_
    simp only [sZ, sS]
    by_cases g42 : ((hi3 c : Nat) : Int) = ((lim3 p : Nat) : Int)
    · skip
      have dg42 : decide (((hi3 c : Nat) : Int) = ((lim3 p : Nat) : Int)) = true := decide_eq_true g42
      simp only [dg42]
      clear dg42
      refine sv 42 (.int .u64 ((mulLo (mulLo c c) c : Nat) : Int)) .of ?_
      simp only [sZ, sS]
      refine sv 43 (.bool (decide (((mulLo (mulLo c c) c : Nat) : Int) = 0))) (Val.cmp .eql 84 _ (.tmp 42) _ rfl .u64 ((mulLo (mulLo c c) c : Nat) : Int) 0 (by kernel_rfl) (by kernel_rfl) (by simp) _ rfl) ?_
      simp only [sZ, sS]
      refine sv 44 (.bool (decide (((mulLo (mulLo c c) c : Nat) : Int) = 0))) .of ?_
      simp only [sZ, sS]
      refine sv 45 (.bool (decide (((mulLo (mulLo c c) c : Nat) : Int) = 0))) .of ?_
      simp only [sZ, sS]
      refine sv 6 (.bool (decide (((mulLo (mulLo c c) c : Nat) : Int) = 0))) .of ?_
      simp only [sZ, sS]
      refine wpList_nil ?_
      refine hK7 _ _ ?_
      refine wp_ret ?_
      (try simp only [Exit.then, Exit.inBlock])
      refine bodyPost_ret (v := .bool (decide (((mulLo (mulLo c c) c : Nat) : Int) = 0))) rT rfl ?_
      first | rw [belowV_1 g38] | rw [belowV_2 g38 g42] | rw [belowV_3 g38 g42]
      exact ⟨rfl, rfl⟩
    · skip
      have dg42 : decide (((hi3 c : Nat) : Int) = ((lim3 p : Nat) : Int)) = false := decide_eq_false g42
      simp only [dg42]
      clear dg42
      refine xSkip 42 ?_
      simp only [sZ, sS]
      refine xSkip 43 ?_
      simp only [sZ, sS]
      refine sv 44 (.bool false) .of ?_
      simp only [sZ, sS]
      refine sv 45 (.bool false) .of ?_
      simp only [sZ, sS]
      refine sv 6 (.bool false) .of ?_
      simp only [sZ, sS]
      refine wpList_nil ?_
      refine hK7 _ _ ?_
      refine wp_ret ?_
      (try simp only [Exit.then, Exit.inBlock])
      refine bodyPost_ret (v := .bool false) rT rfl ?_
      first | rw [belowV_1 g38] | rw [belowV_2 g38 g42] | rw [belowV_3 g38 g42]
      exact ⟨rfl, rfl⟩

theorem below_any (c p : Nat) (third : Bool) (hc : c < 18446744073709551616) (hp : p < 18446744073709551616) (w : World) :
    Calls Try.prog 69 #[.int .u64 ((c : Nat) : Int), .int .u64 ((p : Nat) : Int), .bool third] w fun e w' => e = .returned (.bool (belowN c p third)) ∧ w' = w := by
  cases third
  · exact below_false c p hc hp w
  · exact below_true c p hc hp w
theorem root_any (p : Nat) (third : Bool) (hp : p < 18446744073709551616) (w : World) :
    Calls Try.prog 47 #[.int .u64 ((p : Nat) : Int), .bool third] w fun e w' => e = .returned (.int .u32 ((rootN p third : Nat) : Int)) ∧ Below w.heap.size w w' := by
  have BL := Bl.refl w
  go_enter Try.func47, Try.ntmps47
  refine wp_seq_k fun K1 hK1 => ?_
  refine cPlain ?_
  refine sv 4 (.int .u32 0) .of ?_
  simp only [sZ, sS]
  refine wpList_nil ?_
  refine hK1 _ _ ?_
  refine wp_seq_k fun K2 hK2 => ?_
  refine cPlain ?_
  refine sv 5 (.int .u64 0) .of ?_
  simp only [sZ, sS]
  refine wpList_nil ?_
  refine hK2 _ _ ?_
  refine wp_seq_k fun K3 hK3 => ?_
  refine wp_seq_k fun K4 hK4 => ?_
  refine cPlain ?_
  refine sv 8 (.int .i64 0) .of ?_
  simp only [sZ, sS]
  refine wpList_nil ?_
  refine hK4 _ _ ?_
  refine wp_block ?_
  refine cLoop (fun N_ A_ w_ => ∃ (i : Nat) (c : Nat), (N_ = 36 - i ∧ (i ≤ 36) ∧ (c = rootC p third i) ∧ (∃ s1 : Nat → Value, A_ = ⟨[.int .u64 ((p : Nat) : Int), .bool third, undef, undef, .int .u32 0, .int .u64 ((c : Nat) : Int), (s1 6), (s1 7), .int .i64 (i : Int), (s1 9), (s1 10), (s1 11), (s1 12), (s1 13), (s1 14), (s1 15), (s1 16), (s1 17), (s1 18), (s1 19), (s1 20), (s1 21), (s1 22), (s1 23), undef, undef].toArray, []⟩) ∧ Bl w.heap.size w w_ ∧ w.heap.size ≤ w_.heap.size)) _ ⟨0, 0, rfl, by omega, rfl, cutE, BL, Nat.le_refl _⟩ ?_
  clear BL
  rintro n_ a_ wl0 ⟨i, c, rfl, hc0_0, hc0_1, ⟨s1, rfl⟩, BL, zl0⟩
  refine wp_seq_k fun K5 hK5 => ?_
  refine cPlain ?_
  refine sv 9 (.bool (decide ((i : Int) < 36))) (Val.cmp .lss 3 _ (.tmp 8) _ rfl .i64 (i : Int) 36 (by kernel_rfl) (by kernel_rfl) (by simp) _ rfl) ?_
  simp only [sZ, sS]
  refine wpList_nil ?_
  refine hK5 _ _ ?_
  refine wp_seq_k fun K6 hK6 => ?_
  refine cDec ((i : Int) < 36) (by kernel_rfl) (fun c9 => ?_) (fun c9 => ?_)
  · skip
    refine wp_skip ?_
    refine hK6 _ _ ?_
    refine wp_seq_k fun K7 hK7 => ?_
    refine wp_block ?_
    refine wp_seq_k fun K8 hK8 => ?_
    refine cPlain ?_
    refine sv 10 (.int .i64 (i : Int)) .of ?_
    simp only [sZ, sS]
    refine sv 6 (.int .i64 (i : Int)) .of ?_
    simp only [sZ, sS]
    refine wpList_nil ?_
    refine hK8 _ _ ?_
    refine wp_seq_k fun K9 hK9 => ?_
    refine cPlain ?_
    refine sv 11 (.int .i64 (i : Int)) .of ?_
    simp only [sZ, sS]
    refine sv 12 (.int .i64 ((35 - i : Nat) : Int)) (Val.as (Val.sub 3 _ _ (.tmp 11) rfl 35 (i : Int) (by kernel_rfl) (by kernel_rfl) (by omega)) (congrArg (Value.int .i64) (by omega))) ?_
    simp only [sZ, sS]
    refine sv 13 (.int .u64 (((1 <<< (35 - i)) % 18446744073709551616 : Nat) : Int)) (Val.shlN 84 _ _ (.tmp 12) rfl .u64 .i64 1 (35 - i) 18446744073709551616 (by kernel_rfl) (by kernel_rfl)) ?_
    simp only [sZ, sS]
    refine sv 7 (.int .u64 (((1 <<< (35 - i)) % 18446744073709551616 : Nat) : Int)) .of ?_
    simp only [sZ, sS]
    refine wpList_nil ?_
    refine hK9 _ _ ?_
    refine wp_seq_k fun K10 hK10 => ?_
    refine cPlain ?_
    refine sv 14 (.int .u64 ((c : Nat) : Int)) .of ?_
    simp only [sZ, sS]
    refine sv 15 (.int .u64 (((1 <<< (35 - i)) % 18446744073709551616 : Nat) : Int)) .of ?_
    simp only [sZ, sS]
    refine sv 16 (.int .u64 (((c ||| ((1 <<< (35 - i)) % 18446744073709551616)) % 18446744073709551616 : Nat) : Int)) (Val.orN 84 _ (.tmp 14) (.tmp 15) rfl .u64 c ((1 <<< (35 - i)) % 18446744073709551616) 18446744073709551616 (by kernel_rfl) (by kernel_rfl)) ?_
    simp only [sZ, sS]
    refine sv 17 (.int .u64 ((p : Nat) : Int)) .of ?_
    simp only [sZ, sS]
    refine sv 18 (.bool third) .of ?_
    simp only [sZ, sS]
    refine xCall 19 69 #[.int .u64 (((c ||| ((1 <<< (35 - i)) % 18446744073709551616)) % 18446744073709551616 : Nat) : Int), .int .u64 ((p : Nat) : Int), .bool third] (by kernel_rfl) ?_
    refine (below_any ((c ||| ((1 <<< (35 - i)) % 18446744073709551616)) % 18446744073709551616) p third (Nat.mod_lt _ (by decide)) hp wl0).mono ?_
    rintro en w1 ⟨rfl, hw⟩
    obtain rfl := (hw).symm
    refine ⟨.bool (belowN ((c ||| ((1 <<< (35 - i)) % 18446744073709551616)) % 18446744073709551616) p third), rfl, ?_⟩
    simp only [sZ, sS]
    refine wpList_nil ?_
    refine hK10 _ _ ?_
    refine wp_cond_split (t := (belowN ((c ||| ((1 <<< (35 - i)) % 18446744073709551616)) % 18446744073709551616) p third)) (by kernel_rfl) (fun c19 => ?_) (fun c19 => ?_)
    · skip
      refine cPlain ?_
      refine sv 20 (.int .u64 ((c : Nat) : Int)) .of ?_
      simp only [sZ, sS]
      refine sv 21 (.int .u64 (((1 <<< (35 - i)) % 18446744073709551616 : Nat) : Int)) .of ?_
      simp only [sZ, sS]
      refine sv 22 (.int .u64 (((c ||| ((1 <<< (35 - i)) % 18446744073709551616)) % 18446744073709551616 : Nat) : Int)) (Val.orN 84 _ (.tmp 20) (.tmp 21) rfl .u64 c ((1 <<< (35 - i)) % 18446744073709551616) 18446744073709551616 (by kernel_rfl) (by kernel_rfl)) ?_
      simp only [sZ, sS]
      refine sv 5 (.int .u64 (((c ||| ((1 <<< (35 - i)) % 18446744073709551616)) % 18446744073709551616 : Nat) : Int)) .of ?_
      simp only [sZ, sS]
      refine wpList_nil ?_
      refine hK7 _ _ ?_
      refine cPlain ?_
      refine sv 23 (.int .i64 ((i : Int) + 1)) (Val.add 3 _ (.tmp 8) _ rfl (i : Int) 1 (by kernel_rfl) (by kernel_rfl) (by omega)) ?_
      simp only [sZ, sS]
      refine sv 8 (.int .i64 ((i : Int) + 1)) .of ?_
      simp only [sZ, sS]
      refine wpList_nil ?_
      refine ⟨_, ?_, i + 1, (c ||| ((1 <<< (35 - i)) % 18446744073709551616)) % 18446744073709551616, rfl, by omega, by first | exact rootC_yes hc0_1 c19 | exact rootC_no hc0_1 c19, cutE, BL, by omega⟩
      omega
    · skip
      refine wp_skip ?_
      refine hK7 _ _ ?_
      refine cPlain ?_
      refine sv 23 (.int .i64 ((i : Int) + 1)) (Val.add 3 _ (.tmp 8) _ rfl (i : Int) 1 (by kernel_rfl) (by kernel_rfl) (by omega)) ?_
      simp only [sZ, sS]
      refine sv 8 (.int .i64 ((i : Int) + 1)) .of ?_
      simp only [sZ, sS]
      refine wpList_nil ?_
      refine ⟨_, ?_, i + 1, c, rfl, by omega, by first | exact rootC_yes hc0_1 c19 | exact rootC_no hc0_1 c19, cutE, BL, by omega⟩
      omega
  · skip
    have hi36 : i = 36 := by omega
    rw [hi36] at hc0_1
    refine wp_exit ?_
    simp only [Exit.then, Exit.inBlock, ↓reduceIte, Nat.reduceEqDiff]
    refine hK3 _ _ ?_
    refine wp_seq_k fun K11 hK11 => ?_
    refine cPlain ?_
    refine sv 24 (.int .u64 ((c : Nat) : Int)) .of ?_
    simp only [sZ, sS]
    refine sv 25 (.int .u32 ((c % 4294967296 : Nat) : Int)) (Val.convN 84 31 (.tmp 24) rfl .u32 c 4294967296 Try.underlying84 Try.underlying31 (by kernel_rfl)) ?_
    simp only [sZ, sS]
    refine sv 4 (.int .u32 ((c % 4294967296 : Nat) : Int)) .of ?_
    simp only [sZ, sS]
    refine wpList_nil ?_
    refine hK11 _ _ ?_
    refine wp_ret ?_
    (try simp only [Exit.then, Exit.inBlock])
    refine bodyPost_ret (v := .int .u32 ((c % 4294967296 : Nat) : Int)) rT rfl ?_
    rw [hc0_1]
    exact ⟨rfl, BL.b⟩

end Go.Proofs.Ytanggdnmoaflfaa
