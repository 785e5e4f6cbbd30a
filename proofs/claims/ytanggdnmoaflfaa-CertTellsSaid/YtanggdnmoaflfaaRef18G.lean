/-
  ref01.value: what the document reads of bytes.
-/
import Derived.Test.YtanggdnmoaflfaaRef18U
import Derived.Test.YtanggdnmoaflfaaGetU
namespace Go.Proofs.Ytanggdnmoaflfaa
open Go.RowKit
set_option linter.unusedVariables false
set_option linter.unusedSimpArgs false
set_option maxRecDepth 100000
attribute [local irreducible] wpList Code.wp wpAnyZ
def valS (s : Nat × Nat) (d : Nat) : Nat × Nat := ((s.1 + s.2 * (d % 128) % 18446744073709551616) % 18446744073709551616, s.2 * 128 % 18446744073709551616)
def valG (l : List Nat) (n : Nat) : Nat × Nat := (l.take n).foldl valS (0, 1)
def valR (l : List Nat) : Nat := (valG l l.length).1
theorem valG_succ (l : List Nat) (n : Nat) (h : n < l.length) : valG l (n + 1) = valS (valG l n) (l.getD n 0) := by
  unfold valG
  rw [List.take_add_one, List.getElem?_eq_getElem h, List.foldl_append, List.getD_eq_getElem?_getD, List.getElem?_eq_getElem h]
  rfl
theorem valS_go : ∀ (l : List Nat) (v s : Nat), v < 18446744073709551616 → (l.foldl valS (v, s)).1 = (v + s * numF (nn l)) % 18446744073709551616
  | [], v, s, h => by simp [numF, nn, Nat.mod_eq_of_lt h]
  | d :: l, v, s, h => by
    rw [List.foldl_cons]
    show (l.foldl valS ((v + s * (d % 128) % 18446744073709551616) % 18446744073709551616, s * 128 % 18446744073709551616)).1 = _
    rw [valS_go l _ _ (Nat.mod_lt _ (by omega))]
    have e : numF (nn (d :: l)) = d % 128 + 128 * numF (nn l) := by simp [numF, nn]
    rw [e, Nat.mul_add, ← Nat.mul_assoc, ← Nat.add_assoc]
    generalize numF (nn l) = m
    rw [Nat.add_mod (v + s * (d % 128)) (s * 128 * m), Nat.add_mod ((v + s * (d % 128) % 18446744073709551616) % 18446744073709551616) _, Nat.mod_mod, Nat.mul_mod (s * 128 % 18446744073709551616) m, Nat.mod_mod, ← Nat.mul_mod, Nat.add_mod v (s * (d % 128) % 18446744073709551616), Nat.mod_mod, ← Nat.add_mod v]
theorem valR_eq (l : List Nat) : valR l = numF (nn l) % 18446744073709551616 := by
  unfold valR valG
  rw [List.take_length, valS_go l 0 1 (by omega), Nat.zero_add, Nat.one_mul]
attribute [local irreducible] valG
set_option maxHeartbeats 4000000 in
theorem rvalue_any (v : Value) (l : List Nat) (w : World) (D : SL .u8 w v (nn l)) (hl : l.length ≤ 1000000) :
    Calls Try.prog 78 #[v] w fun e w' => e = .returned (.int .u64 ((valR l : Nat) : Int)) ∧ w' = w := by
  have WW : w = w := rfl
  go_enter Try.func78, Try.ntmps78
  refine wp_seq_k fun K1 hK1 => ?_
  refine cPlain ?_
  refine sv 2 (.int .u64 0) .of ?_
  simp only [sZ, sS]
  refine wpList_nil ?_
  refine hK1 _ _ ?_
  refine wp_seq_k fun K2 hK2 => ?_
  refine cPlain ?_
  refine sv 3 (.int .u64 0) .of ?_
  simp only [sZ, sS]
  refine sv 4 (.int .u64 1) .of ?_
  simp only [sZ, sS]
  refine wpList_nil ?_
  refine hK2 _ _ ?_
  refine wp_seq_k fun K3 hK3 => ?_
  refine wp_seq_k fun K4 hK4 => ?_
  refine cPlain ?_
  refine sv 5 (.int .i64 0) .of ?_
  simp only [sZ, sS]
  refine wpList_nil ?_
  refine hK4 _ _ ?_
  refine wp_block ?_
  refine cLoop (fun N_ A_ w_ => ∃ (k a s : Nat), (N_ = l.length - k ∧ (k ≤ l.length) ∧ (valG l k = (a, s)) ∧ (∃ s1 : Nat → Value, A_ = ⟨[v, undef, .int .u64 0, .int .u64 ((a : Nat) : Int), .int .u64 ((s : Nat) : Int), .int .i64 ((k : Nat) : Int), (s1 6), (s1 7), (s1 8), (s1 9), (s1 10), (s1 11), (s1 12), (s1 13), (s1 14), (s1 15), (s1 16), (s1 17), (s1 18), (s1 19), (s1 20), (s1 21), (s1 22), (s1 23), undef].toArray, []⟩) ∧ w_ = w ∧ w.heap.size ≤ w_.heap.size)) _ ⟨0, 0, 1, rfl, (Nat.zero_le _), (by unfold valG; rfl), cutE, WW, Nat.le_refl _⟩ ?_
  clear WW
  rintro n_ a_ wl0 ⟨k, a, s, rfl, hc0_0, hc0_1, ⟨s1, rfl⟩, WW, zl0⟩
  refine wp_seq_k fun K5 hK5 => ?_
  refine wp_seq_k fun K6 hK6 => ?_
  refine cPlain ?_
  refine sv 6 (.int .i64 ((k : Nat) : Int)) .of ?_
  simp only [sZ, sS]
  refine sv 7 (v) .of ?_
  simp only [sZ, sS]
  refine sv 8 (.int .i64 ((l.length : Nat) : Int)) (Val.lenS (.tmp 7) 29 rfl (by kernel_rfl) (WW ▸ D) l.length (nn_len l) Try.underlying29) ?_
  simp only [sZ, sS]
  refine sv 9 (.bool (decide (((k : Nat) : Int) < ((l.length : Nat) : Int)))) (Val.cmp .lss 3 _ (.tmp 6) (.tmp 8) rfl .i64 ((k : Nat) : Int) ((l.length : Nat) : Int) (by kernel_rfl) (by kernel_rfl) (by simp) _ rfl) ?_
  simp only [sZ, sS]
  refine wpList_nil ?_
  refine hK6 _ _ ?_
  refine cDec (((k : Nat) : Int) < ((l.length : Nat) : Int)) (by kernel_rfl) (fun c9 => ?_) (fun c9 => ?_)
  · skip
    refine wp_skip ?_
    refine hK5 _ _ ?_
    refine wp_seq_k fun K7 hK7 => ?_
    refine wp_block ?_
    refine wp_seq_k fun K8 hK8 => ?_
    refine cPlain ?_
    refine sv 12 (.int .u64 ((a : Nat) : Int)) .of ?_
    simp only [sZ, sS]
    refine sv 13 (.int .u64 ((s : Nat) : Int)) .of ?_
    simp only [sZ, sS]
    refine sv 14 (v) .of ?_
    simp only [sZ, sS]
    refine sv 15 (.int .i64 ((k : Nat) : Int)) .of ?_
    simp only [sZ, sS]
    refine sv 16 (elemP v k) (Val.idxE 29 (.tmp 14) (.tmp 15) rfl v k (by kernel_rfl) (by kernel_rfl) (WW ▸ D) Try.underlying29 (by kernel_rfl) (by rw [nn_len]; omega)) ?_
    simp only [sZ, sS]
    refine sv 17 (.int .u8 ((l.getD k 0 : Nat) : Int)) (Val.nldE 5 _ rfl v k (by kernel_rfl) (fun _ => (by kernel_rfl)) (WW ▸ D) (by omega)) ?_
    simp only [sZ, sS]
    refine sv 18 (.int .u8 (((l.getD k 0) % 128 : Nat) : Int)) (Val.remN 5 _ (.tmp 17) _ rfl .u8 (l.getD k 0) 128 (by kernel_rfl) (by kernel_rfl) (by omega)) ?_
    simp only [sZ, sS]
    refine sv 19 (.int .u64 ((l.getD k 0 % 128 : Nat) : Int)) (Val.asN (Val.convN 5 84 (.tmp 18) rfl .u64 ((l.getD k 0) % 128) 18446744073709551616 Try.underlying5 Try.underlying84 (by kernel_rfl)) (Nat.mod_eq_of_lt (by omega))) ?_
    simp only [sZ, sS]
    refine sv 20 (.int .u64 (((s * (l.getD k 0 % 128)) % 18446744073709551616 : Nat) : Int)) (Val.mulN 84 _ (.tmp 13) (.tmp 19) rfl .u64 s (l.getD k 0 % 128) 18446744073709551616 (by kernel_rfl) (by kernel_rfl)) ?_
    simp only [sZ, sS]
    refine sv 21 (.int .u64 (((valS (a, s) (l.getD k 0)).1 : Nat) : Int)) (Val.asN (Val.addN 84 _ (.tmp 12) (.tmp 20) rfl .u64 a ((s * (l.getD k 0 % 128)) % 18446744073709551616) 18446744073709551616 (by kernel_rfl) (by kernel_rfl)) rfl) ?_
    simp only [sZ, sS]
    refine sv 3 (.int .u64 (((valS (a, s) (l.getD k 0)).1 : Nat) : Int)) .of ?_
    simp only [sZ, sS]
    refine wpList_nil ?_
    refine hK8 _ _ ?_
    refine cPlain ?_
    refine sv 22 (.int .u64 ((s : Nat) : Int)) .of ?_
    simp only [sZ, sS]
    refine sv 23 (.int .u64 (((valS (a, s) (l.getD k 0)).2 : Nat) : Int)) (Val.asN (Val.mulN 84 _ (.tmp 22) _ rfl .u64 s 128 18446744073709551616 (by kernel_rfl) (by kernel_rfl)) rfl) ?_
    simp only [sZ, sS]
    refine sv 4 (.int .u64 (((valS (a, s) (l.getD k 0)).2 : Nat) : Int)) .of ?_
    simp only [sZ, sS]
    refine wpList_nil ?_
    refine hK7 _ _ ?_
    refine cPlain ?_
    refine sv 10 (.int .i64 ((k : Nat) : Int)) .of ?_
    simp only [sZ, sS]
    refine sv 11 (.int .i64 ((k + 1 : Nat) : Int)) (Val.as (Val.add 3 _ (.tmp 10) _ rfl ((k : Nat) : Int) 1 (by kernel_rfl) (by kernel_rfl) (by omega)) (congrArg (Value.int .i64) (by omega))) ?_
    simp only [sZ, sS]
    refine sv 5 (.int .i64 ((k + 1 : Nat) : Int)) .of ?_
    simp only [sZ, sS]
    refine wpList_nil ?_
    refine ⟨_, ?_, k + 1, (valS (a, s) (l.getD k 0)).1, (valS (a, s) (l.getD k 0)).2, rfl, (by omega), (by rw [valG_succ l k (by omega), hc0_1]), cutE, WW, by omega⟩
    omega
  · skip
    refine wp_exit ?_
    simp only [Exit.then, Exit.inBlock, ↓reduceIte, Nat.reduceEqDiff]
    refine hK3 _ _ ?_
    refine wp_seq_k fun K9 hK9 => ?_
    refine cPlain ?_
    refine sv 24 (.int .u64 ((a : Nat) : Int)) .of ?_
    simp only [sZ, sS]
    refine sv 2 (.int .u64 ((a : Nat) : Int)) .of ?_
    simp only [sZ, sS]
    refine wpList_nil ?_
    refine hK9 _ _ ?_
    refine wp_ret ?_
    (try simp only [Exit.then, Exit.inBlock])
    refine bodyPost_ret (v := .int .u64 ((a : Nat) : Int)) rT rfl ?_
    have hv : valR l = a := by unfold valR; rw [show l.length = k by omega, hc0_1]
    rw [hv]
    exact ⟨rfl, WW⟩

end Go.Proofs.Ytanggdnmoaflfaa
