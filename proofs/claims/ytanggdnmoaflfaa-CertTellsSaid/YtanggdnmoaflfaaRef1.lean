/-
  ref01: Varint, behind, Blob; ref03: block, Mac, Text, Tagged.
-/
import Derived.Test.YtanggdnmoaflfaaRef2S
import Derived.Test.YtanggdnmoaflfaaMacW
namespace Go.Proofs.Ytanggdnmoaflfaa
open Go.RowKit
set_option linter.unusedVariables false
set_option linter.unusedSimpArgs false
set_option maxRecDepth 100000
attribute [local irreducible] wpList Code.wp wpAnyZ
/-- The first k digits. -/
def dgN (n k : Nat) : List Nat := (List.range k).map fun j => 128 + n / 128 ^ j % 128
theorem dgN_len (n k : Nat) : (dgN n k).length = k := by simp [dgN]
theorem dgN_succ (n k : Nat) : dgN n (k + 1) = dgN n k ++ [128 + n / 128 ^ k % 128] := by simp [dgN, List.range_succ]
theorem dgN_nn (n k : Nat) : nn (dgN n k) = digs n k := by simp [dgN, digs, nn]
/-- So many digits are more than this many. -/
theorem ndig_more : ∀ (f n k : Nat), (∀ j, j < k → 128 ≤ n / 128 ^ j) → k ≤ f → ndig f n = k + ndig (f - k) (n / 128 ^ k)
  | f, n, 0, _, _ => by simp
  | 0, n, k + 1, _, h => by omega
  | f + 1, n, k + 1, hj, h => by
    have h0 := hj 0 (by omega)
    rw [Nat.pow_zero, Nat.div_one] at h0
    have ih := ndig_more f (n / 128) k (fun j hjk => by have := hj (j + 1) (by omega); rwa [Nat.pow_succ, Nat.mul_comm, ← Nat.div_div_eq_div_mul] at this) (by omega)
    simp only [ndig]
    rw [if_neg (by omega), ih, show f + 1 - (k + 1) = f - k by omega, Nat.div_div_eq_div_mul, ← Nat.pow_succ', show 1 + (k + ndig (f - k) (n / 128 ^ (k + 1))) = k + 1 + ndig (f - k) (n / 128 ^ (k + 1)) by omega]
theorem ndig_small (f n : Nat) (h : n < 128) : ndig f n = 1 := by cases f <;> simp [ndig, h]
theorem uintB_of {n k : Nat} (hj : ∀ j, j < k → 128 ≤ n / 128 ^ j) (hk : k ≤ 9) (h : n / 128 ^ k < 128) : nn (dgN n k ++ [n / 128 ^ k]) = uintB n := by
  have e := ndig_more 9 n k hj hk
  rw [ndig_small _ _ h] at e
  unfold uintB
  rw [e, nn_app, dgN_nn, show k + 1 - 1 = k by omega, Nat.mod_eq_of_lt (show n / 128 ^ k < 256 by omega)]
  rfl
theorem pow_small {n k : Nat} (h : n ≤ 18446744073709551615) (hj : 128 ≤ n / 128 ^ k) : k < 9 := by
  rcases Nat.lt_or_ge k 9 with h1 | h1
  · exact h1
  · have h2 : 128 ^ 9 ≤ 128 ^ k := Nat.pow_le_pow_right (by decide) h1
    have h3 : n / 128 ^ k ≤ n / 128 ^ 9 := Nat.div_le_div_left h2 (Nat.pow_pos (by decide))
    have h4 : n / 128 ^ 9 < 128 := by omega
    omega
theorem div128 (n k : Nat) : n / 128 ^ k / 128 = n / 128 ^ (k + 1) := by rw [Nat.div_div_eq_div_mul, Nat.pow_succ]
theorem numN_of (n : Nat) : nn (numN (n : Int)) = uintB n := by rw [numN_nn, Int.toNat_natCast]

set_option maxHeartbeats 4000000 in
theorem rvarint_any (n : Nat) (hn : n ≤ 18446744073709551615) (w : World) :
    Calls Try.prog 72 #[.int .u64 ((n : Nat) : Int)] w fun e w' => ∃ u, e = .returned u ∧ Own 5 .u8 w.heap.size w' u (nn (numN (n : Int))) ∧ Below w.heap.size w w' := by
  have BL := Bl.refl w
  go_enter Try.func72, Try.ntmps72
  refine wp_seq_k fun K1 hK1 => ?_
  refine cPlain ?_
  refine sv 2 (.slice none 0 0) .of ?_
  simp only [sZ, sS]
  refine wpList_nil ?_
  refine hK1 _ _ ?_
  refine wp_seq_k fun K2 hK2 => ?_
  refine wp_seq_k fun K3 hK3 => ?_
  refine cPlain ?_
  refine sv 4 (.int .u64 ((n : Nat) : Int)) .of ?_
  simp only [sZ, sS]
  refine sv 5 (.bool (decide (((n : Nat) : Int) < 128))) (Val.cmp .lss 84 _ (.tmp 4) _ rfl .u64 ((n : Nat) : Int) 128 (by kernel_rfl) (by kernel_rfl) (by simp) _ rfl) ?_
  simp only [sZ, sS]
  refine wpList_nil ?_
  refine hK3 _ _ ?_
  refine cDec (((n : Nat) : Int) < 128) (by kernel_rfl) (fun c5 => ?_) (fun c5 => ?_)
  · skip
    refine wp_seq_k fun K4 hK4 => ?_
    refine cPlain ?_
    refine sv 6 (.int .u64 ((n : Nat) : Int)) .of ?_
    simp only [sZ, sS]
    refine sv 7 (.int .u8 ((n : Nat) : Int)) (Val.asN (Val.convN 84 5 (.tmp 6) rfl .u8 n 256 Try.underlying84 Try.underlying5 (by kernel_rfl)) (by omega)) ?_
    simp only [sZ, sS]
    refine xLit 8 29 5 1 _ #[(0, .int .u8 ((n : Nat) : Int))] [.int .u8 ((n : Nat) : Int)] rfl (by kernel_rfl) (by kernel_rfl) ?_
    intro w1 n1
    have zn1 := n1.z
    have b8 : Own 5 .u8 w.heap.size w1 (.slice (some ⟨w.heap.size, 0, none⟩) 1 1) [((n : Nat) : Int)] := Own.ofNw (xs := [((n : Nat) : Int)]) n1 (Nat.le_refl _) (by simp [maxLen])
    replace BL := BL.e0 n1.e
    have lb8_1 := b8.ge
    simp only [sZ, sS]
    refine sv 2 (.slice (some ⟨w.heap.size, 0, none⟩) 1 1) .of ?_
    simp only [sZ, sS]
    refine wpList_nil ?_
    refine hK4 _ _ ?_
    refine wp_ret ?_
    (try simp only [Exit.then, Exit.inBlock])
    refine bodyPost_ret (v := .slice (some ⟨w.heap.size, 0, none⟩) 1 1) rT rfl ?_
    refine ⟨_, rfl, (b8.cast ?_).mono (by omega), BL.b⟩
    rw [numN_of, ← uintB_of (k := 0) (fun j hj => by omega) (by omega) (by rw [Nat.pow_zero, Nat.div_one]; omega), Nat.pow_zero, Nat.div_one]
    rfl
  · skip
    refine wp_skip ?_
    refine hK2 _ _ ?_
    refine wp_seq_k fun K5 hK5 => ?_
    refine cPlain ?_
    refine sv 9 (.int .u64 ((n : Nat) : Int)) .of ?_
    simp only [sZ, sS]
    refine sv 10 (.int .u64 ((n % 128 : Nat) : Int)) (Val.remN 84 _ (.tmp 9) _ rfl .u64 n 128 (by kernel_rfl) (by kernel_rfl) (by omega)) ?_
    simp only [sZ, sS]
    refine sv 11 (.int .u64 (((128 + (n % 128)) % 18446744073709551616 : Nat) : Int)) (Val.addN 84 _ _ (.tmp 10) rfl .u64 128 (n % 128) 18446744073709551616 (by kernel_rfl) (by kernel_rfl)) ?_
    simp only [sZ, sS]
    refine sv 12 (.int .u8 ((128 + n / 128 ^ 0 % 128 : Nat) : Int)) (Val.asN (Val.convN 84 5 (.tmp 11) rfl .u8 ((128 + (n % 128)) % 18446744073709551616) 256 Try.underlying84 Try.underlying5 (by kernel_rfl)) (by rw [Nat.pow_zero, Nat.div_one]; omega)) ?_
    simp only [sZ, sS]
    refine xLit 13 29 5 1 _ #[(0, .int .u8 ((128 + n / 128 ^ 0 % 128 : Nat) : Int))] [.int .u8 ((128 + n / 128 ^ 0 % 128 : Nat) : Int)] rfl (by kernel_rfl) (by kernel_rfl) ?_
    intro w2 n2
    have zn2 := n2.z
    have b13 : Own 5 .u8 w.heap.size w2 (.slice (some ⟨w.heap.size, 0, none⟩) 1 1) [((128 + n / 128 ^ 0 % 128 : Nat) : Int)] := Own.ofNw (xs := [((128 + n / 128 ^ 0 % 128 : Nat) : Int)]) n2 (Nat.le_refl _) (by simp [maxLen])
    replace BL := BL.e0 n2.e
    have lb13_1 := b13.ge
    simp only [sZ, sS]
    refine sv 3 (.slice (some ⟨w.heap.size, 0, none⟩) 1 1) .of ?_
    simp only [sZ, sS]
    refine wpList_nil ?_
    refine hK5 _ _ ?_
    refine wp_seq_k fun K6 hK6 => ?_
    refine wp_seq_k fun K7 hK7 => ?_
    refine cPlain ?_
    refine sv 14 (.int .u64 ((n : Nat) : Int)) .of ?_
    simp only [sZ, sS]
    refine sv 15 (.int .u64 ((n / 128 ^ 1 : Nat) : Int)) (Val.asN (Val.quoN 84 _ (.tmp 14) _ rfl .u64 n 128 18446744073709551616 (by kernel_rfl) (by kernel_rfl) (by omega)) (by rw [Nat.pow_one]; omega)) ?_
    simp only [sZ, sS]
    refine sv 0 (.int .u64 ((n / 128 ^ 1 : Nat) : Int)) .of ?_
    simp only [sZ, sS]
    refine wpList_nil ?_
    refine hK7 _ _ ?_
    refine wp_block ?_
    refine cLoop (fun N_ A_ w_ => ∃ (k m : Nat) (u : Value), (N_ = 9 - k ∧ (1 ≤ k) ∧ (k ≤ 9) ∧ (∀ j, j < k → 128 ≤ n / 128 ^ j) ∧ (m = n / 128 ^ k) ∧ (∃ s1 : Nat → Value, A_ = ⟨[.int .u64 ((m : Nat) : Int), undef, .slice none 0 0, u, .int .u64 ((n : Nat) : Int), .bool (decide (((n : Nat) : Int) < 128)), undef, undef, undef, .int .u64 ((n : Nat) : Int), .int .u64 ((n % 128 : Nat) : Int), .int .u64 (((128 + (n % 128)) % 18446744073709551616 : Nat) : Int), .int .u8 ((128 + n / 128 ^ 0 % 128 : Nat) : Int), .slice (some ⟨w.heap.size, 0, none⟩) 1 1, .int .u64 ((n : Nat) : Int), .int .u64 ((n / 128 ^ 1 : Nat) : Int), (s1 16), (s1 17), (s1 18), (s1 19), (s1 20), (s1 21), (s1 22), (s1 23), (s1 24), (s1 25), (s1 26), undef, undef, undef, undef, undef].toArray, []⟩) ∧ Bl w.heap.size w w_ ∧ Own 5 .u8 w.heap.size w_ u (nn (dgN n k)) ∧ w2.heap.size ≤ w_.heap.size)) _ ⟨1, n / 128 ^ 1, .slice (some ⟨w.heap.size, 0, none⟩) 1 1, rfl, (Nat.le_refl _), (by omega), (fun j hj => by rw [show j = 0 by omega, Nat.pow_zero, Nat.div_one]; omega), rfl, cutE, BL, b13, Nat.le_refl _⟩ ?_
    clear BL b13
    rintro n_ a_ wl0 ⟨k, m, u, rfl, hc0_0, hc0_1, hc0_2, hc0_3, ⟨s1, rfl⟩, BL, b13, zl0⟩
    have lb13_2 := b13.ge
    refine wp_seq_k fun K8 hK8 => ?_
    refine wp_seq_k fun K9 hK9 => ?_
    refine cPlain ?_
    refine sv 16 (.int .u64 ((m : Nat) : Int)) .of ?_
    simp only [sZ, sS]
    refine sv 17 (.bool (decide (128 ≤ ((m : Nat) : Int)))) (Val.cmp .geq 84 _ (.tmp 16) _ rfl .u64 ((m : Nat) : Int) 128 (by kernel_rfl) (by kernel_rfl) (by simp) _ rfl) ?_
    simp only [sZ, sS]
    refine wpList_nil ?_
    refine hK9 _ _ ?_
    refine cDec (128 ≤ ((m : Nat) : Int)) (by kernel_rfl) (fun c17 => ?_) (fun c17 => ?_)
    · skip
      have hk9 := pow_small hn (show 128 ≤ n / 128 ^ k by omega)
      refine wp_skip ?_
      refine hK8 _ _ ?_
      refine wp_seq_k fun K10 hK10 => ?_
      refine wp_block ?_
      refine cPlain ?_
      refine sv 20 (u) .of ?_
      simp only [sZ, sS]
      refine sv 21 (.int .u64 ((m : Nat) : Int)) .of ?_
      simp only [sZ, sS]
      refine sv 22 (.int .u64 ((m % 128 : Nat) : Int)) (Val.remN 84 _ (.tmp 21) _ rfl .u64 m 128 (by kernel_rfl) (by kernel_rfl) (by omega)) ?_
      simp only [sZ, sS]
      refine sv 23 (.int .u64 (((128 + (m % 128)) % 18446744073709551616 : Nat) : Int)) (Val.addN 84 _ _ (.tmp 22) rfl .u64 128 (m % 128) 18446744073709551616 (by kernel_rfl) (by kernel_rfl)) ?_
      simp only [sZ, sS]
      refine sv 24 (.int .u8 ((128 + n / 128 ^ k % 128 : Nat) : Int)) (Val.asN (Val.convN 84 5 (.tmp 23) rfl .u8 ((128 + (m % 128)) % 18446744073709551616) 256 Try.underlying84 Try.underlying5 (by kernel_rfl)) (by rw [hc0_3]; omega)) ?_
      simp only [sZ, sS]
      refine xLit 25 29 5 1 _ #[(0, .int .u8 ((128 + n / 128 ^ k % 128 : Nat) : Int))] [.int .u8 ((128 + n / 128 ^ k % 128 : Nat) : Int)] rfl (by kernel_rfl) (by kernel_rfl) ?_
      intro w3 n3
      have zn3 := n3.z
      have b25 := n3.c
      replace b25 : Blk .u8 w3 wl0.heap.size 5 [((128 + n / 128 ^ k % 128 : Nat) : Int)] := b25
      replace BL := BL.e0 n3.e
      replace b13 := b13.e0 n3.e
      have sb25 : SL .u8 w3 (.slice (some ⟨wl0.heap.size, 0, none⟩) 1 1) [((128 + n / 128 ^ k % 128 : Nat) : Int)] := SL.ofBlk b25 rfl (by unfold maxLen; omega)
      have lb25 : ∀ i, Value.ownBlock (.slice (some ⟨wl0.heap.size, 0, none⟩) 1 1) = some i → wl0.heap.size ≤ i ∧ i < w3.heap.size := ownB_lit (by omega)
      simp only [sZ, sS]
      refine xApp 26 (.tmp 20) (.tmp 25) 29 5 .u8 1 rfl Try.underlying29 (by kernel_rfl) w.heap.size u (nn (dgN n k)) (by kernel_rfl) b13 (.slice (some ⟨wl0.heap.size, 0, none⟩) 1 1) [((128 + n / 128 ^ k % 128 : Nat) : Int)] (by kernel_rfl) sb25 ?va1_1 ?va1_2 ?va1_3 ?_
      case va1_1 => (simp only [nn_len, dgN_len, List.length_cons, List.length_nil]; omega)
      case va1_2 => (simp only [nn_len, dgN_len, List.length_cons, List.length_nil]; unfold maxLen; omega)
      case va1_3 => omega
      intro va1 w4 rva1 e1
      have ze1 := e1.size
      have BL_ := BL.ev e1 (fun i h => by have := lb13_2 _ h; omega)
      have b25_ := b25.ev e1 (fun h => by have := lb13_2 _ h; omega)
      have sb25_ := sb25.ev e1 (fun i hi h => by have := lb25 i hi; have := lb13_2 _ h; omega)
      replace BL := BL_; clear BL_
      replace b25 := b25_; clear b25_
      replace sb25 := sb25_; clear sb25_
      replace b13 := rva1
      clear rva1 e1
      have lb13_3 := b13.ge
      simp only [sZ, sS]
      refine sv 3 (va1) .of ?_
      simp only [sZ, sS]
      refine wpList_nil ?_
      refine hK10 _ _ ?_
      refine cPlain ?_
      refine sv 18 (.int .u64 ((m : Nat) : Int)) .of ?_
      simp only [sZ, sS]
      refine sv 19 (.int .u64 ((n / 128 ^ (k + 1) : Nat) : Int)) (Val.asN (Val.quoN 84 _ (.tmp 18) _ rfl .u64 m 128 18446744073709551616 (by kernel_rfl) (by kernel_rfl) (by omega)) (by rw [hc0_3, ← div128]; have : n / 128 ^ k ≤ n := Nat.div_le_self _ _; omega)) ?_
      simp only [sZ, sS]
      refine sv 0 (.int .u64 ((n / 128 ^ (k + 1) : Nat) : Int)) .of ?_
      simp only [sZ, sS]
      refine wpList_nil ?_
      refine ⟨_, ?_, k + 1, n / 128 ^ (k + 1), va1, rfl, (by omega), (by omega), (fun j hj => by rcases (by omega : j < k ∨ j = k) with h | h; exact hc0_2 j h; rw [h]; omega), rfl, cutE, BL, (b13.cast (by rw [dgN_succ, nn_app]; rfl)), by omega⟩
      omega
    · skip
      refine wp_exit ?_
      simp only [Exit.then, Exit.inBlock, ↓reduceIte, Nat.reduceEqDiff]
      refine hK6 _ _ ?_
      refine wp_seq_k fun K11 hK11 => ?_
      refine cPlain ?_
      refine sv 27 (u) .of ?_
      simp only [sZ, sS]
      refine sv 28 (.int .u64 ((m : Nat) : Int)) .of ?_
      simp only [sZ, sS]
      refine sv 29 (.int .u8 ((n / 128 ^ k : Nat) : Int)) (Val.asN (Val.convN 84 5 (.tmp 28) rfl .u8 m 256 Try.underlying84 Try.underlying5 (by kernel_rfl)) (by rw [hc0_3] at c17 ⊢; omega)) ?_
      simp only [sZ, sS]
      refine xLit 30 29 5 1 _ #[(0, .int .u8 ((n / 128 ^ k : Nat) : Int))] [.int .u8 ((n / 128 ^ k : Nat) : Int)] rfl (by kernel_rfl) (by kernel_rfl) ?_
      intro w5 n4
      have zn4 := n4.z
      have b30 := n4.c
      replace b30 : Blk .u8 w5 wl0.heap.size 5 [((n / 128 ^ k : Nat) : Int)] := b30
      replace BL := BL.e0 n4.e
      replace b13 := b13.e0 n4.e
      have sb30 : SL .u8 w5 (.slice (some ⟨wl0.heap.size, 0, none⟩) 1 1) [((n / 128 ^ k : Nat) : Int)] := SL.ofBlk b30 rfl (by unfold maxLen; omega)
      have lb30 : ∀ i, Value.ownBlock (.slice (some ⟨wl0.heap.size, 0, none⟩) 1 1) = some i → wl0.heap.size ≤ i ∧ i < w5.heap.size := ownB_lit (by omega)
      simp only [sZ, sS]
      refine xApp 31 (.tmp 27) (.tmp 30) 29 5 .u8 1 rfl Try.underlying29 (by kernel_rfl) w.heap.size u (nn (dgN n k)) (by kernel_rfl) b13 (.slice (some ⟨wl0.heap.size, 0, none⟩) 1 1) [((n / 128 ^ k : Nat) : Int)] (by kernel_rfl) sb30 ?va2_1 ?va2_2 ?va2_3 ?_
      case va2_1 => (simp only [nn_len, dgN_len, List.length_cons, List.length_nil]; omega)
      case va2_2 => (simp only [nn_len, dgN_len, List.length_cons, List.length_nil]; unfold maxLen; omega)
      case va2_3 => omega
      intro va2 w6 rva2 e2
      have ze2 := e2.size
      have BL_ := BL.ev e2 (fun i h => by have := lb13_2 _ h; omega)
      have b30_ := b30.ev e2 (fun h => by have := lb13_2 _ h; omega)
      have sb30_ := sb30.ev e2 (fun i hi h => by have := lb30 i hi; have := lb13_2 _ h; omega)
      replace BL := BL_; clear BL_
      replace b30 := b30_; clear b30_
      replace sb30 := sb30_; clear sb30_
      replace b13 := rva2
      clear rva2 e2
      have lb13_4 := b13.ge
      simp only [sZ, sS]
      refine sv 2 (va2) .of ?_
      simp only [sZ, sS]
      refine wpList_nil ?_
      refine hK11 _ _ ?_
      refine wp_ret ?_
      (try simp only [Exit.then, Exit.inBlock])
      refine bodyPost_ret (v := va2) rT rfl ?_
      refine ⟨_, rfl, (b13.cast ?_).mono (by omega), BL.b⟩
      rw [numN_of, ← uintB_of hc0_2 hc0_1 (by omega), nn_app]
      rfl

theorem copy_step {xs : List Nat} {m i : Nat} (h : i < xs.length) (hm : xs.length ≤ m) : (xs.take i ++ List.replicate (m - i) 0).set i (xs.getD i 0) = xs.take (i + 1) ++ List.replicate (m - (i + 1)) 0 := by
  have h1 : (xs.take i).length = i := by rw [List.length_take]; omega
  rw [List.set_append_right _ _ (by omega), h1, Nat.sub_self, List.take_add_one, List.getElem?_eq_getElem h, List.getD_eq_getElem?_getD, List.getElem?_eq_getElem h, show m - i = (m - (i + 1)) + 1 by omega, List.replicate_succ, List.append_assoc]
  rfl
def fillB (zs : List Nat) (m i : Nat) : List Nat := zs.take i ++ List.replicate (m - i) 0
theorem fillB_len {zs : List Nat} {m i : Nat} (hi : i ≤ zs.length) (hm : zs.length ≤ m) : (fillB zs m i).length = m := by unfold fillB; rw [List.length_append, List.length_take, List.length_replicate]; omega
theorem fillB_step {zs : List Nat} {m i : Nat} (h : i < zs.length) (hm : zs.length ≤ m) : (fillB zs m i).set i (zs.getD i 0) = fillB zs m (i + 1) := copy_step h hm
theorem fillB_0 (zs : List Nat) (m : Nat) : fillB zs m 0 = List.replicate m 0 := rfl
theorem fillB_all (zs : List Nat) : fillB zs zs.length zs.length = zs := by unfold fillB; simp
theorem getD_app1 {xs ys : List Nat} {i : Nat} (h : i < xs.length) : (xs ++ ys).getD i 0 = xs.getD i 0 := by rw [List.getD_eq_getElem?_getD, List.getElem?_append_left h, List.getD_eq_getElem?_getD]
theorem getD_app2 {xs ys : List Nat} (i : Nat) : (xs ++ ys).getD (xs.length + i) 0 = ys.getD i 0 := by rw [List.getD_eq_getElem?_getD, List.getElem?_append_right (by omega), Nat.add_sub_cancel_left, List.getD_eq_getElem?_getD]
attribute [local irreducible] fillB
set_option maxHeartbeats 4000000 in
theorem rbehind_any (v0 v1 : Value) (xs ys : List Nat) (w : World) (D0 : SL .u8 w v0 (nn xs)) (D1 : SL .u8 w v1 (nn ys)) (hl : xs.length + ys.length ≤ 140737488355328) :
    Calls Try.prog 71 #[v0, v1] w fun e w' => ∃ u, e = .returned u ∧ SL .u8 w' u (nn (xs ++ ys)) ∧ Below w.heap.size w w' := by
  have BL := Bl.refl w
  have hd0 := D0.lt
  have hd1 := D1.lt
  have hal : (xs ++ ys).length = xs.length + ys.length := List.length_append
  go_enter Try.func71, Try.ntmps71
  refine wp_seq_k fun K1 hK1 => ?_
  refine cPlain ?_
  refine sv 4 (.slice none 0 0) .of ?_
  simp only [sZ, sS]
  refine wpList_nil ?_
  refine hK1 _ _ ?_
  refine wp_seq_k fun K2 hK2 => ?_
  refine cPlain ?_
  refine sv 8 (v0) .of ?_
  simp only [sZ, sS]
  refine sv 9 (.int .i64 ((xs.length : Nat) : Int)) (Val.lenS (.tmp 8) 29 rfl (by kernel_rfl) D0 xs.length (nn_len xs) Try.underlying29) ?_
  simp only [sZ, sS]
  refine sv 10 (v1) .of ?_
  simp only [sZ, sS]
  refine sv 11 (.int .i64 ((ys.length : Nat) : Int)) (Val.lenS (.tmp 10) 29 rfl (by kernel_rfl) D1 ys.length (nn_len ys) Try.underlying29) ?_
  simp only [sZ, sS]
  refine sv 12 (.int .i64 ((xs.length + ys.length : Nat) : Int)) (Val.as (Val.add 3 _ (.tmp 9) (.tmp 11) rfl ((xs.length : Nat) : Int) ((ys.length : Nat) : Int) (by kernel_rfl) (by kernel_rfl) (by omega)) (congrArg (Value.int .i64) (by omega))) ?_
  simp only [sZ, sS]
  refine xMakeN 13 (.tmp 12) (.tmp 12) 29 5 .u8 1 rfl Try.underlying29 (by kernel_rfl) (xs.length + ys.length) (by kernel_rfl) (by kernel_rfl) (by unfold maxLen; omega) (by omega) ?_
  intro w1 n1
  have zn1 := n1.z
  have b13 : Blk .u8 w1 w.heap.size 5 (nn (List.replicate (xs.length + ys.length) 0)) := by rw [nn_rep]; exact n1.c
  replace BL := BL.e0 n1.e
  replace D0 := D0.e0 n1.e
  replace D1 := D1.e0 n1.e
  simp only [sZ, sS]
  refine sv 5 (.slice (some ⟨w.heap.size, 0, none⟩) (xs.length + ys.length) (xs.length + ys.length)) .of ?_
  simp only [sZ, sS]
  refine wpList_nil ?_
  refine hK2 _ _ ?_
  refine wp_seq_k fun K3 hK3 => ?_
  refine wp_seq_k fun K4 hK4 => ?_
  refine cPlain ?_
  refine sv 6 (.int .i64 0) .of ?_
  simp only [sZ, sS]
  refine wpList_nil ?_
  refine hK4 _ _ ?_
  refine wp_block ?_
  refine cLoop (fun N_ A_ w_ => ∃ (i : Nat), (N_ = xs.length - i ∧ (i ≤ xs.length) ∧ (∃ s1 : Nat → Value, A_ = ⟨[v0, v1, undef, undef, .slice none 0 0, .slice (some ⟨w.heap.size, 0, none⟩) (xs.length + ys.length) (xs.length + ys.length), .int .i64 ((i : Nat) : Int), undef, v0, .int .i64 ((xs.length : Nat) : Int), v1, .int .i64 ((ys.length : Nat) : Int), .int .i64 ((xs.length + ys.length : Nat) : Int), .slice (some ⟨w.heap.size, 0, none⟩) (xs.length + ys.length) (xs.length + ys.length), (s1 14), (s1 15), (s1 16), (s1 17), (s1 18), (s1 19), (s1 20), (s1 21), (s1 22), (s1 23), (s1 24), (s1 25), (s1 26), undef, undef, undef, undef, undef, undef, undef, undef, undef, undef, undef, undef, undef, undef, undef, undef, undef].toArray, []⟩) ∧ Bl w.heap.size w w_ ∧ SL .u8 w_ v0 (nn xs) ∧ SL .u8 w_ v1 (nn ys) ∧ Blk .u8 w_ w.heap.size 5 (nn (fillB (xs ++ ys) (xs.length + ys.length) i)) ∧ w1.heap.size ≤ w_.heap.size)) _ ⟨0, rfl, (Nat.zero_le _), cutE, BL, D0, D1, (by rw [fillB_0]; exact b13), Nat.le_refl _⟩ ?_
  clear BL D0 D1 b13
  rintro n_ a_ wl0 ⟨i, rfl, hc0_0, ⟨s1, rfl⟩, BL, D0, D1, b13, zl0⟩
  have hfl := fillB_len (zs := (xs ++ ys)) (m := (xs.length + ys.length)) (i := i) (by omega) (by omega)
  refine wp_seq_k fun K5 hK5 => ?_
  refine wp_seq_k fun K6 hK6 => ?_
  refine cPlain ?_
  refine sv 14 (.int .i64 ((i : Nat) : Int)) .of ?_
  simp only [sZ, sS]
  refine sv 15 (v0) .of ?_
  simp only [sZ, sS]
  refine sv 16 (.int .i64 ((xs.length : Nat) : Int)) (Val.lenS (.tmp 15) 29 rfl (by kernel_rfl) D0 xs.length (nn_len xs) Try.underlying29) ?_
  simp only [sZ, sS]
  refine sv 17 (.bool (decide (((i : Nat) : Int) < ((xs.length : Nat) : Int)))) (Val.cmp .lss 3 _ (.tmp 14) (.tmp 16) rfl .i64 ((i : Nat) : Int) ((xs.length : Nat) : Int) (by kernel_rfl) (by kernel_rfl) (by simp) _ rfl) ?_
  simp only [sZ, sS]
  refine wpList_nil ?_
  refine hK6 _ _ ?_
  refine cDec (((i : Nat) : Int) < ((xs.length : Nat) : Int)) (by kernel_rfl) (fun c17 => ?_) (fun c17 => ?_)
  · skip
    refine wp_skip ?_
    refine hK5 _ _ ?_
    refine wp_seq_k fun K7 hK7 => ?_
    refine wp_block ?_
    refine cPlain ?_
    refine sv 20 (.slice (some ⟨w.heap.size, 0, none⟩) (xs.length + ys.length) (xs.length + ys.length)) .of ?_
    simp only [sZ, sS]
    refine sv 21 (.int .i64 ((i : Nat) : Int)) .of ?_
    simp only [sZ, sS]
    refine sv 22 (v0) .of ?_
    simp only [sZ, sS]
    refine sv 23 (.int .i64 ((i : Nat) : Int)) .of ?_
    simp only [sZ, sS]
    refine sv 24 (elemP v0 i) (Val.idxE 29 (.tmp 22) (.tmp 23) rfl v0 i (by kernel_rfl) (by kernel_rfl) D0 Try.underlying29 (by kernel_rfl) (by rw [nn_len]; omega)) ?_
    simp only [sZ, sS]
    refine sv 25 (.int .u8 (((xs ++ ys).getD i 0 : Nat) : Int)) (Val.asN (Val.nldE 5 _ rfl v0 i (by kernel_rfl) (fun _ => by kernel_rfl) D0 (by omega)) (getD_app1 (by omega)).symm) ?_
    simp only [sZ, sS]
    refine sv 26 (.pointer (some ⟨w.heap.size, 0 + i * 1, none⟩)) (Val.idxS 29 (.tmp 20) (.tmp 21) rfl w.heap.size 0 (xs.length + ys.length) (xs.length + ys.length) i (by kernel_rfl) (by kernel_rfl) 1 Try.underlying29 (by kernel_rfl) (by omega)) ?_
    simp only [sZ, sS]
    refine xStoreNN 5 (.tmp 26) (.tmp 25) rfl .u8 w.heap.size 5 (fillB (xs ++ ys) (xs.length + ys.length) i) (0 + i * 1) ((xs ++ ys).getD i 0) (by kernel_rfl) (by kernel_rfl) b13 (by kernel_rfl) (by omega) ?_
    intro w2 t1
    have zt1 := t1.z
    have BL_ := BL.ev t1.e (fun i h => show w.heap.size ≤ i by have h : i = w.heap.size := h; omega)
    have D0_ := D0.ev t1.e (fun i hi => show ¬ (i = w.heap.size) by have := hd0 i hi; omega)
    have D1_ := D1.ev t1.e (fun i hi => show ¬ (i = w.heap.size) by have := hd1 i hi; omega)
    replace BL := BL_; clear BL_
    replace D0 := D0_; clear D0_
    replace D1 := D1_; clear D1_
    replace b13 : Blk .u8 w2 w.heap.size 5 (nn ((fillB (xs ++ ys) (xs.length + ys.length) i).set (0 + i * 1) ((xs ++ ys).getD i 0))) := t1.c
    clear t1
    refine wpList_nil ?_
    refine hK7 _ _ ?_
    refine cPlain ?_
    refine sv 18 (.int .i64 ((i : Nat) : Int)) .of ?_
    simp only [sZ, sS]
    refine sv 19 (.int .i64 (((i : Nat) : Int) + 1)) (Val.add 3 _ (.tmp 18) _ rfl ((i : Nat) : Int) 1 (by kernel_rfl) (by kernel_rfl) (by omega)) ?_
    simp only [sZ, sS]
    refine sv 6 (.int .i64 (((i : Nat) : Int) + 1)) .of ?_
    simp only [sZ, sS]
    refine wpList_nil ?_
    refine ⟨_, ?_, i + 1, rfl, (by omega), cutE, BL, D0, D1, (by rw [← fillB_step (by omega) (by omega)]; simpa only [Nat.zero_add, Nat.mul_one] using b13), by omega⟩
    omega
  · skip
    refine wp_exit ?_
    simp only [Exit.then, Exit.inBlock, ↓reduceIte, Nat.reduceEqDiff]
    refine hK3 _ _ ?_
    refine wp_seq_k fun K8 hK8 => ?_
    refine wp_seq_k fun K9 hK9 => ?_
    refine cPlain ?_
    refine sv 7 (.int .i64 0) .of ?_
    simp only [sZ, sS]
    refine wpList_nil ?_
    refine hK9 _ _ ?_
    refine wp_block ?_
    refine cLoop (fun N_ A_ w_ => ∃ (j : Nat), (N_ = ys.length - j ∧ (j ≤ ys.length) ∧ (∃ s2 : Nat → Value, A_ = ⟨[v0, v1, undef, undef, .slice none 0 0, .slice (some ⟨w.heap.size, 0, none⟩) (xs.length + ys.length) (xs.length + ys.length), .int .i64 ((i : Nat) : Int), .int .i64 ((j : Nat) : Int), v0, .int .i64 ((xs.length : Nat) : Int), v1, .int .i64 ((ys.length : Nat) : Int), .int .i64 ((xs.length + ys.length : Nat) : Int), .slice (some ⟨w.heap.size, 0, none⟩) (xs.length + ys.length) (xs.length + ys.length), .int .i64 ((i : Nat) : Int), v0, .int .i64 ((xs.length : Nat) : Int), .bool (decide (((i : Nat) : Int) < ((xs.length : Nat) : Int))), (s1 18), (s1 19), (s1 20), (s1 21), (s1 22), (s1 23), (s1 24), (s1 25), (s1 26), (s2 27), (s2 28), (s2 29), (s2 30), (s2 31), (s2 32), (s2 33), (s2 34), (s2 35), (s2 36), (s2 37), (s2 38), (s2 39), (s2 40), (s2 41), (s2 42), undef].toArray, []⟩) ∧ Bl w.heap.size w w_ ∧ SL .u8 w_ v0 (nn xs) ∧ SL .u8 w_ v1 (nn ys) ∧ Blk .u8 w_ w.heap.size 5 (nn (fillB (xs ++ ys) (xs.length + ys.length) (xs.length + j))) ∧ wl0.heap.size ≤ w_.heap.size)) _ ⟨0, rfl, (Nat.zero_le _), cutE, BL, D0, D1, (by rw [show xs.length + 0 = i by omega]; exact b13), Nat.le_refl _⟩ ?_
    clear BL D0 D1 b13
    rintro n_ a_ wl1 ⟨j, rfl, hc1_0, ⟨s2, rfl⟩, BL, D0, D1, b13, zl1⟩
    have hfl := fillB_len (zs := (xs ++ ys)) (m := (xs.length + ys.length)) (i := xs.length + j) (by omega) (by omega)
    refine wp_seq_k fun K10 hK10 => ?_
    refine wp_seq_k fun K11 hK11 => ?_
    refine cPlain ?_
    refine sv 27 (.int .i64 ((j : Nat) : Int)) .of ?_
    simp only [sZ, sS]
    refine sv 28 (v1) .of ?_
    simp only [sZ, sS]
    refine sv 29 (.int .i64 ((ys.length : Nat) : Int)) (Val.lenS (.tmp 28) 29 rfl (by kernel_rfl) D1 ys.length (nn_len ys) Try.underlying29) ?_
    simp only [sZ, sS]
    refine sv 30 (.bool (decide (((j : Nat) : Int) < ((ys.length : Nat) : Int)))) (Val.cmp .lss 3 _ (.tmp 27) (.tmp 29) rfl .i64 ((j : Nat) : Int) ((ys.length : Nat) : Int) (by kernel_rfl) (by kernel_rfl) (by simp) _ rfl) ?_
    simp only [sZ, sS]
    refine wpList_nil ?_
    refine hK11 _ _ ?_
    refine cDec (((j : Nat) : Int) < ((ys.length : Nat) : Int)) (by kernel_rfl) (fun c30 => ?_) (fun c30 => ?_)
    · skip
      refine wp_skip ?_
      refine hK10 _ _ ?_
      refine wp_seq_k fun K12 hK12 => ?_
      refine wp_block ?_
      refine cPlain ?_
      refine sv 33 (.slice (some ⟨w.heap.size, 0, none⟩) (xs.length + ys.length) (xs.length + ys.length)) .of ?_
      simp only [sZ, sS]
      refine sv 34 (v0) .of ?_
      simp only [sZ, sS]
      refine sv 35 (.int .i64 ((xs.length : Nat) : Int)) (Val.lenS (.tmp 34) 29 rfl (by kernel_rfl) D0 xs.length (nn_len xs) Try.underlying29) ?_
      simp only [sZ, sS]
      refine sv 36 (.int .i64 ((j : Nat) : Int)) .of ?_
      simp only [sZ, sS]
      refine sv 37 (.int .i64 ((xs.length + j : Nat) : Int)) (Val.as (Val.add 3 _ (.tmp 35) (.tmp 36) rfl ((xs.length : Nat) : Int) ((j : Nat) : Int) (by kernel_rfl) (by kernel_rfl) (by omega)) (congrArg (Value.int .i64) (by omega))) ?_
      simp only [sZ, sS]
      refine sv 38 (v1) .of ?_
      simp only [sZ, sS]
      refine sv 39 (.int .i64 ((j : Nat) : Int)) .of ?_
      simp only [sZ, sS]
      refine sv 40 (elemP v1 j) (Val.idxE 29 (.tmp 38) (.tmp 39) rfl v1 j (by kernel_rfl) (by kernel_rfl) D1 Try.underlying29 (by kernel_rfl) (by rw [nn_len]; omega)) ?_
      simp only [sZ, sS]
      refine sv 41 (.int .u8 (((xs ++ ys).getD (xs.length + j) 0 : Nat) : Int)) (Val.asN (Val.nldE 5 _ rfl v1 j (by kernel_rfl) (fun _ => by kernel_rfl) D1 (by omega)) (getD_app2 j).symm) ?_
      simp only [sZ, sS]
      refine sv 42 (.pointer (some ⟨w.heap.size, 0 + (xs.length + j) * 1, none⟩)) (Val.idxS 29 (.tmp 33) (.tmp 37) rfl w.heap.size 0 (xs.length + ys.length) (xs.length + ys.length) (xs.length + j) (by kernel_rfl) (by kernel_rfl) 1 Try.underlying29 (by kernel_rfl) (by omega)) ?_
      simp only [sZ, sS]
      refine xStoreNN 5 (.tmp 42) (.tmp 41) rfl .u8 w.heap.size 5 (fillB (xs ++ ys) (xs.length + ys.length) (xs.length + j)) (0 + (xs.length + j) * 1) ((xs ++ ys).getD (xs.length + j) 0) (by kernel_rfl) (by kernel_rfl) b13 (by kernel_rfl) (by omega) ?_
      intro w3 t2
      have zt2 := t2.z
      have BL_ := BL.ev t2.e (fun i h => show w.heap.size ≤ i by have h : i = w.heap.size := h; omega)
      have D0_ := D0.ev t2.e (fun i hi => show ¬ (i = w.heap.size) by have := hd0 i hi; omega)
      have D1_ := D1.ev t2.e (fun i hi => show ¬ (i = w.heap.size) by have := hd1 i hi; omega)
      replace BL := BL_; clear BL_
      replace D0 := D0_; clear D0_
      replace D1 := D1_; clear D1_
      replace b13 : Blk .u8 w3 w.heap.size 5 (nn ((fillB (xs ++ ys) (xs.length + ys.length) (xs.length + j)).set (0 + (xs.length + j) * 1) ((xs ++ ys).getD (xs.length + j) 0))) := t2.c
      clear t2
      refine wpList_nil ?_
      refine hK12 _ _ ?_
      refine cPlain ?_
      refine sv 31 (.int .i64 ((j : Nat) : Int)) .of ?_
      simp only [sZ, sS]
      refine sv 32 (.int .i64 (((j : Nat) : Int) + 1)) (Val.add 3 _ (.tmp 31) _ rfl ((j : Nat) : Int) 1 (by kernel_rfl) (by kernel_rfl) (by omega)) ?_
      simp only [sZ, sS]
      refine sv 7 (.int .i64 (((j : Nat) : Int) + 1)) .of ?_
      simp only [sZ, sS]
      refine wpList_nil ?_
      refine ⟨_, ?_, j + 1, rfl, (by omega), cutE, BL, D0, D1, (by rw [← Nat.add_assoc, ← fillB_step (by omega) (by omega)]; simpa only [Nat.zero_add, Nat.mul_one] using b13), by omega⟩
      omega
    · skip
      have hfin : fillB (xs ++ ys) (xs.length + ys.length) (xs.length + j) = (xs ++ ys) := by rw [show xs.length + j = (xs ++ ys).length by omega, ← hal]; exact fillB_all _
      refine wp_exit ?_
      simp only [Exit.then, Exit.inBlock, ↓reduceIte, Nat.reduceEqDiff]
      refine hK8 _ _ ?_
      refine wp_seq_k fun K13 hK13 => ?_
      refine cPlain ?_
      refine sv 43 (.slice (some ⟨w.heap.size, 0, none⟩) (xs.length + ys.length) (xs.length + ys.length)) .of ?_
      simp only [sZ, sS]
      refine sv 4 (.slice (some ⟨w.heap.size, 0, none⟩) (xs.length + ys.length) (xs.length + ys.length)) .of ?_
      simp only [sZ, sS]
      refine wpList_nil ?_
      refine hK13 _ _ ?_
      refine wp_ret ?_
      (try simp only [Exit.then, Exit.inBlock])
      refine bodyPost_ret (v := .slice (some ⟨w.heap.size, 0, none⟩) (xs.length + ys.length) (xs.length + ys.length)) rT rfl ?_
      refine ⟨_, rfl, ?_, BL.b⟩
      rw [← hfin]
      exact SL.ofBlk b13 (by rw [nn_len]; exact hfl) (by unfold maxLen; omega)

def blobN (p : List Nat) : List Nat := numN (p.length : Int) ++ p
theorem blobN_nn (p : List Nat) : nn (blobN p) = blobB (nn p) := by unfold blobN blobB; rw [nn_app, numN_of, nn_len]
theorem blobN_len (p : List Nat) : (blobN p).length ≤ p.length + 10 := by have := numN_len (p.length : Int); unfold blobN; rw [List.length_append]; omega
theorem rblob_any (v0 v1 : Value) (xs p : List Nat) (w : World) (D0 : SL .u8 w v0 (nn xs)) (D1 : SL .u8 w v1 (nn p)) (hl : xs.length + p.length ≤ 1000000000000) :
    Calls Try.prog 107 #[v0, v1] w fun e w' => ∃ u, e = .returned u ∧ SL .u8 w' u (nn (xs ++ blobN p)) ∧ Below w.heap.size w w' := by
  have BL := Bl.refl w
  have hd0 := D0.lt
  have hd1 := D1.lt
  have hnl := numN_len (p.length : Int)
  go_enter Try.func107, Try.ntmps107
  refine wp_seq_k fun K1 hK1 => ?_
  refine cPlain ?_
  refine sv 4 (.slice none 0 0) .of ?_
  simp only [sZ, sS]
  refine wpList_nil ?_
  refine hK1 _ _ ?_
  refine wp_seq_k fun K2 hK2 => ?_
  refine cPlain ?_
  refine sv 5 (v0) .of ?_
  simp only [sZ, sS]
  refine sv 6 (v1) .of ?_
  simp only [sZ, sS]
  refine sv 7 (.int .i64 ((p.length : Nat) : Int)) (Val.lenS (.tmp 6) 29 rfl (by kernel_rfl) D1 p.length (nn_len p) Try.underlying29) ?_
  simp only [sZ, sS]
  refine sv 8 (.int .u64 ((p.length : Nat) : Int)) (Val.asN (Val.convN 3 84 (.tmp 7) rfl .u64 p.length 18446744073709551616 Try.underlying3 Try.underlying84 (by kernel_rfl)) (by omega)) ?_
  simp only [sZ, sS]
  refine xCall 9 72 #[.int .u64 ((p.length : Nat) : Int)] (by kernel_rfl) ?_
  refine (rvarint_any p.length (by omega) w).mono ?_
  rintro en w1 ⟨u1, rfl, hO, hb1⟩
  have e1 := belE0 hb1
  have ze1 := e1.size
  replace BL := BL.e0 e1
  replace D0 := D0.e0 e1
  replace D1 := D1.e0 e1
  clear e1
  have N : Own 5 .u8 w.heap.size w1 u1 (nn (numN (p.length : Int))) := hO
  have lN_1 := N.ge
  refine ⟨u1, rfl, ?_⟩
  simp only [sZ, sS]
  refine xCall 10 71 #[v0, u1] (by kernel_rfl) ?_
  refine (rbehind_any v0 u1 xs (numN (p.length : Int)) w1 D0 N.sl (by omega)).mono ?_
  rintro en w2 ⟨u2, rfl, hS, hb1⟩
  have hsl := hS.lt
  have e2 := belE0 hb1
  have ze2 := e2.size
  replace BL := BL.e0 e2
  replace D0 := D0.e0 e2
  replace D1 := D1.e0 e2
  replace N := N.e0 e2
  clear e2
  have S : SL .u8 w2 u2 (nn (xs ++ numN (p.length : Int))) := hS
  refine ⟨u2, rfl, ?_⟩
  simp only [sZ, sS]
  refine sv 11 (v1) .of ?_
  simp only [sZ, sS]
  refine xCall 12 71 #[u2, v1] (by kernel_rfl) ?_
  refine (rbehind_any u2 v1 (xs ++ numN (p.length : Int)) p w2 S D1 (by rw [List.length_append]; omega)).mono ?_
  rintro en w3 ⟨u3, rfl, hS3, hb1⟩
  have hsl3 := hS3.lt
  have e3 := belE0 hb1
  have ze3 := e3.size
  replace BL := BL.e0 e3
  replace D0 := D0.e0 e3
  replace D1 := D1.e0 e3
  replace N := N.e0 e3
  replace S := S.e0 e3
  clear e3
  have S3 : SL .u8 w3 u3 (nn (xs ++ numN (p.length : Int) ++ p)) := hS3
  refine ⟨u3, rfl, ?_⟩
  simp only [sZ, sS]
  refine sv 4 (u3) .of ?_
  simp only [sZ, sS]
  refine wpList_nil ?_
  refine hK2 _ _ ?_
  refine wp_ret ?_
  (try simp only [Exit.then, Exit.inBlock])
  refine bodyPost_ret (v := u3) rT rfl ?_
  exact ⟨_, rfl, S3.castM rfl (by unfold blobN; rw [List.append_assoc]), BL.b⟩

end Go.Proofs.Ytanggdnmoaflfaa
