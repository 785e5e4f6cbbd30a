/-
  ref02: Pad, right, Write.
-/
import Derived.Test.YtanggdnmoaflfaaRef2W
import Derived.Test.YtanggdnmoaflfaaShaRun
namespace Go.Proofs.Ytanggdnmoaflfaa
open Go.RowKit
set_option linter.unusedVariables false
set_option linter.unusedSimpArgs false
set_option maxRecDepth 100000
attribute [local irreducible] wpList Code.wp wpAnyZ
/-- The last bytes, the lowest one last. -/
def lastR (q : Nat) : Nat → List Nat
  | 0 => []
  | i + 1 => ((q / 256 ^ i % 256) % 256) :: lastR q i
theorem lastR_len (q : Nat) : ∀ i, (lastR q i).length = i
  | 0 => rfl
  | i + 1 => by simp [lastR, lastR_len q i]
theorem last_pad (n : Nat) : lastR (((n % 18446744073709551616) * 8) % 18446744073709551616) 8 = (List.range 8).map (padB n) := by
  simp only [lastR, List.range_succ, List.range_zero, List.map_append, List.map_cons, List.map_nil, List.nil_append, List.cons_append, padB, Nat.shiftLeft_eq, Nat.shiftRight_eq_div_pow]
  generalize n % 18446744073709551616 * 2 ^ 3 % 18446744073709551616 = q
  simp only [Nat.mod_mod]
theorem div_next (q i : Nat) : q / 256 ^ i / 256 = q / 256 ^ (i + 1) := by rw [Nat.div_div_eq_div_mul, Nat.pow_succ]
theorem pad_all (n : Nat) : 128 :: (List.replicate ((119 - n % 64) % 64) 0 ++ lastR (((n % 18446744073709551616) * 8) % 18446744073709551616) 8) = padN n := by
  unfold padN padZ
  rw [last_pad]; rfl
theorem goB_succ (tab s ns : List Nat) (k : Nat) : goB tab s ns (k + 1) = blockN tab (goB tab s ns k) ((ns.drop (64 * k)).take 64) := rfl
theorem blockN_lt (tab s b : List Nat) (hs : s.length = 8) : ∀ x ∈ blockN tab s b, x < 4294967296 := by
  unfold blockN
  rw [sums_8 _ _ (rounds_len _ _ _ hs _)]
  intro x hx
  simp only [List.mem_cons, List.not_mem_nil, or_false] at hx
  rcases hx with h | h | h | h | h | h | h | h <;> rw [h] <;> exact Nat.mod_lt _ (by decide)
theorem goB_lt {tab s : List Nat} (bs : List Nat) (hs : s.length = 8) (h32 : ∀ x ∈ s, x < 4294967296) : ∀ k, ∀ x ∈ goB tab s bs k, x < 4294967296
  | 0 => h32
  | k + 1 => blockN_lt tab (goB tab s bs k) _ (goB_len _ _ _ hs _)

set_option maxHeartbeats 4000000 in
theorem rpad_nat (n : Nat) (w : World) :
    Calls Try.prog 115 #[.int .i64 (n : Int)] w fun e w' => ∃ r, e = .returned r ∧ Own 5 .u8 w.heap.size w' r (nn (padN n)) ∧ Below w.heap.size w w' := by
  have BL := Bl.refl w
  go_enter Try.func115, Try.ntmps115
  refine wp_seq_k fun K1 hK1 => ?_
  refine cPlain ?_
  refine sv 2 (.slice none 0 0) .of ?_
  simp only [sZ, sS]
  refine wpList_nil ?_
  refine hK1 _ _ ?_
  refine wp_seq_k fun K2 hK2 => ?_
  refine wp_seq_k fun K3 hK3 => ?_
  refine cPlain ?_
  refine sv 7 (.int .i64 (n : Int)) .of ?_
  simp only [sZ, sS]
  refine sv 8 (.bool (decide ((n : Int) < 0))) (Val.cmp .lss 3 _ (.tmp 7) _ rfl .i64 (n : Int) 0 (by kernel_rfl) (by kernel_rfl) (by simp) _ rfl) ?_
  simp only [sZ, sS]
  refine wpList_nil ?_
  refine hK3 _ _ ?_
  refine cDec ((n : Int) < 0) (by kernel_rfl) (fun c8 => ?_) (fun c8 => ?_)
  · skip
    omega
  · skip
    refine wp_skip ?_
    refine hK2 _ _ ?_
    refine wp_seq_k fun K4 hK4 => ?_
    refine cPlain ?_
    refine xLit 9 29 5 1 _ #[(0, .int .u8 128)] [.int .u8 128] rfl (by kernel_rfl) (by kernel_rfl) ?_
    intro w1 n1
    have zn1 := n1.z
    have b9 : Own 5 .u8 w.heap.size w1 (.slice (some ⟨w.heap.size, 0, none⟩) 1 1) [128] := Own.ofNw (xs := [128]) n1 (Nat.le_refl _) (by simp [maxLen])
    replace BL := BL.e0 n1.e
    have lb9_1 := b9.ge
    simp only [sZ, sS]
    refine sv 3 (.slice (some ⟨w.heap.size, 0, none⟩) 1 1) .of ?_
    simp only [sZ, sS]
    refine wpList_nil ?_
    refine hK4 _ _ ?_
    refine wp_seq_k fun K5 hK5 => ?_
    refine wp_block ?_
    refine cLoop (fun N_ A_ w_ => ∃ (k : Nat) (u : Value), (N_ = ((119 - n % 64) % 64) - k ∧ (k ≤ ((119 - n % 64) % 64)) ∧ (∃ s1 : Nat → Value, A_ = ⟨[.int .i64 (n : Int), undef, .slice none 0 0, u, undef, undef, undef, .int .i64 (n : Int), .bool (decide ((n : Int) < 0)), .slice (some ⟨w.heap.size, 0, none⟩) 1 1, (s1 10), (s1 11), (s1 12), (s1 13), (s1 14), (s1 15), (s1 16), (s1 17), (s1 18), (s1 19), (s1 20), undef, undef, undef, undef, undef, undef, undef, undef, undef, undef, undef, undef, undef, undef, undef, undef, undef, undef].toArray, []⟩) ∧ Bl w.heap.size w w_ ∧ Own 5 .u8 w.heap.size w_ u (nn (128 :: List.replicate k 0)) ∧ w1.heap.size ≤ w_.heap.size)) _ ⟨0, .slice (some ⟨w.heap.size, 0, none⟩) 1 1, rfl, (Nat.zero_le _), cutE, BL, b9, Nat.le_refl _⟩ ?_
    clear BL b9
    rintro n_ a_ wl0 ⟨k, u, rfl, hc0_0, ⟨s1, rfl⟩, BL, b9, zl0⟩
    have lb9_2 := b9.ge
    refine wp_seq_k fun K6 hK6 => ?_
    refine wp_seq_k fun K7 hK7 => ?_
    refine cPlain ?_
    refine sv 10 (.int .i64 (n : Int)) .of ?_
    simp only [sZ, sS]
    refine sv 11 (.int .i64 ((n % 64 : Nat) : Int)) (Val.remN 3 _ (.tmp 10) _ rfl .i64 n 64 (by kernel_rfl) (by kernel_rfl) (by omega)) ?_
    simp only [sZ, sS]
    refine sv 12 (u) .of ?_
    simp only [sZ, sS]
    refine sv 13 (.int .i64 ((k + 1 : Nat) : Int)) (Val.lenO (.tmp 12) 29 rfl (by kernel_rfl) b9 (k + 1) (by rw [nn_len]; simp) Try.underlying29) ?_
    simp only [sZ, sS]
    refine sv 14 (.int .i64 ((n % 64 + (k + 1) : Nat) : Int)) (Val.as (Val.add 3 _ (.tmp 11) (.tmp 13) rfl ((n % 64 : Nat) : Int) ((k + 1 : Nat) : Int) (by kernel_rfl) (by kernel_rfl) (by omega)) (congrArg (Value.int .i64) (by omega))) ?_
    simp only [sZ, sS]
    refine sv 15 (.int .i64 ((n % 64 + (k + 1) + 8 : Nat) : Int)) (Val.as (Val.add 3 _ (.tmp 14) _ rfl ((n % 64 + (k + 1) : Nat) : Int) 8 (by kernel_rfl) (by kernel_rfl) (by omega)) (congrArg (Value.int .i64) (by omega))) ?_
    simp only [sZ, sS]
    refine sv 16 (.int .i64 (((n % 64 + (k + 1) + 8) % 64 : Nat) : Int)) (Val.remN 3 _ (.tmp 15) _ rfl .i64 (n % 64 + (k + 1) + 8) 64 (by kernel_rfl) (by kernel_rfl) (by omega)) ?_
    simp only [sZ, sS]
    refine sv 17 (.bool (decide (¬ ((((n % 64 + (k + 1) + 8) % 64 : Nat) : Int) = 0)))) (Val.cmp .neq 3 _ (.tmp 16) _ rfl .i64 (((n % 64 + (k + 1) + 8) % 64 : Nat) : Int) 0 (by kernel_rfl) (by kernel_rfl) (by simp) _ (by simp [cmpB])) ?_
    simp only [sZ, sS]
    refine wpList_nil ?_
    refine hK7 _ _ ?_
    refine cDec (¬ ((((n % 64 + (k + 1) + 8) % 64 : Nat) : Int) = 0)) (by kernel_rfl) (fun c17 => ?_) (fun c17 => ?_)
    · skip
      refine wp_skip ?_
      refine hK6 _ _ ?_
      refine wp_block ?_
      refine cPlain ?_
      refine sv 18 (u) .of ?_
      simp only [sZ, sS]
      refine xLit 19 29 5 1 _ #[(0, .int .u8 0)] [.int .u8 0] rfl (by kernel_rfl) (by kernel_rfl) ?_
      intro w2 n2
      have zn2 := n2.z
      have b19 := n2.c
      replace b19 : Blk .u8 w2 wl0.heap.size 5 [0] := b19
      replace BL := BL.e0 n2.e
      replace b9 := b9.e0 n2.e
      have sb19 : SL .u8 w2 (.slice (some ⟨wl0.heap.size, 0, none⟩) 1 1) [0] := SL.ofBlk b19 rfl (by unfold maxLen; omega)
      have lb19 : ∀ i, Value.ownBlock (.slice (some ⟨wl0.heap.size, 0, none⟩) 1 1) = some i → wl0.heap.size ≤ i ∧ i < w2.heap.size := ownB_lit (by omega)
      simp only [sZ, sS]
      refine xApp 20 (.tmp 18) (.tmp 19) 29 5 .u8 1 rfl Try.underlying29 (by kernel_rfl) w.heap.size u (nn (128 :: List.replicate k 0)) (by kernel_rfl) b9 (.slice (some ⟨wl0.heap.size, 0, none⟩) 1 1) [0] (by kernel_rfl) sb19 ?va1_1 ?va1_2 ?va1_3 ?_
      case va1_1 => (simp only [nn_len, lastR_len, List.length_replicate, List.length_cons, List.length_nil]; omega)
      case va1_2 => (simp only [nn_len, lastR_len, List.length_replicate, List.length_cons, List.length_nil]; unfold maxLen; omega)
      case va1_3 => omega
      intro va1 w3 rva1 e1
      have ze1 := e1.size
      have BL_ := BL.ev e1 (fun i h => by have := lb9_2 _ h; omega)
      have b19_ := b19.ev e1 (fun h => by have := lb9_2 _ h; omega)
      have sb19_ := sb19.ev e1 (fun i hi h => by have := lb19 i hi; have := lb9_2 _ h; omega)
      replace BL := BL_; clear BL_
      replace b19 := b19_; clear b19_
      replace sb19 := sb19_; clear sb19_
      replace b9 := rva1
      clear rva1 e1
      have lb9_3 := b9.ge
      simp only [sZ, sS]
      refine sv 3 (va1) .of ?_
      simp only [sZ, sS]
      refine wpList_nil ?_
      refine ⟨_, ?_, k + 1, va1, rfl, (by omega), cutE, BL, (b9.cast (by rw [List.replicate_succ', ← List.cons_append, nn_app]; rfl)), by omega⟩
      omega
    · skip
      have hkz : k = ((119 - n % 64) % 64) := by omega
      refine wp_exit ?_
      simp only [Exit.then, Exit.inBlock, ↓reduceIte, Nat.reduceEqDiff]
      refine hK5 _ _ ?_
      refine wp_seq_k fun K8 hK8 => ?_
      refine cPlain ?_
      refine sv 21 (.int .i64 (n : Int)) .of ?_
      simp only [sZ, sS]
      refine sv 22 (.int .u64 ((n % 18446744073709551616 : Nat) : Int)) (Val.convN 3 84 (.tmp 21) rfl .u64 n 18446744073709551616 Try.underlying3 Try.underlying84 (by kernel_rfl)) ?_
      simp only [sZ, sS]
      refine sv 23 (.int .u64 ((((n % 18446744073709551616) * 8) % 18446744073709551616 : Nat) : Int)) (Val.mulN 84 _ (.tmp 22) _ rfl .u64 (n % 18446744073709551616) 8 18446744073709551616 (by kernel_rfl) (by kernel_rfl)) ?_
      simp only [sZ, sS]
      refine sv 4 (.int .u64 ((((n % 18446744073709551616) * 8) % 18446744073709551616 : Nat) : Int)) .of ?_
      simp only [sZ, sS]
      refine wpList_nil ?_
      refine hK8 _ _ ?_
      refine wp_seq_k fun K9 hK9 => ?_
      refine cPlain ?_
      refine sv 5 (.slice none 0 0) .of ?_
      simp only [sZ, sS]
      refine wpList_nil ?_
      refine hK9 _ _ ?_
      refine wp_seq_k fun K10 hK10 => ?_
      refine wp_seq_k fun K11 hK11 => ?_
      refine cPlain ?_
      refine sv 6 (.int .i64 0) .of ?_
      simp only [sZ, sS]
      refine wpList_nil ?_
      refine hK11 _ _ ?_
      refine wp_block ?_
      refine cLoop (fun N_ A_ w_ => ∃ (i q : Nat) (u2 : Value), (N_ = 8 - i ∧ (i ≤ 8) ∧ (q < 18446744073709551616) ∧ (q = (((n % 18446744073709551616) * 8) % 18446744073709551616) / 256 ^ i) ∧ (∃ s2 : Nat → Value, A_ = ⟨[.int .i64 (n : Int), undef, .slice none 0 0, u, .int .u64 ((q : Nat) : Int), u2, .int .i64 ((i : Nat) : Int), .int .i64 (n : Int), .bool (decide ((n : Int) < 0)), .slice (some ⟨w.heap.size, 0, none⟩) 1 1, .int .i64 (n : Int), .int .i64 ((n % 64 : Nat) : Int), u, .int .i64 ((k + 1 : Nat) : Int), .int .i64 ((n % 64 + (k + 1) : Nat) : Int), .int .i64 ((n % 64 + (k + 1) + 8 : Nat) : Int), .int .i64 (((n % 64 + (k + 1) + 8) % 64 : Nat) : Int), .bool (decide (¬ ((((n % 64 + (k + 1) + 8) % 64 : Nat) : Int) = 0))), (s1 18), (s1 19), (s1 20), .int .i64 (n : Int), .int .u64 ((n % 18446744073709551616 : Nat) : Int), .int .u64 ((((n % 18446744073709551616) * 8) % 18446744073709551616 : Nat) : Int), (s2 24), (s2 25), (s2 26), (s2 27), (s2 28), (s2 29), (s2 30), (s2 31), (s2 32), (s2 33), (s2 34), (s2 35), undef, undef, undef].toArray, []⟩) ∧ Bl w.heap.size w w_ ∧ Own 5 .u8 w.heap.size w_ u (nn (128 :: List.replicate k 0)) ∧ SL .u8 w_ u2 (nn (lastR (((n % 18446744073709551616) * 8) % 18446744073709551616) i)) ∧ wl0.heap.size ≤ w_.heap.size)) _ ⟨0, (((n % 18446744073709551616) * 8) % 18446744073709551616), .slice none 0 0, rfl, (Nat.zero_le _), (Nat.mod_lt _ (by decide)), (by simp), cutE, BL, b9, (SL.nil _ _), Nat.le_refl _⟩ ?_
      clear BL b9
      rintro n_ a_ wl1 ⟨i, q, u2, rfl, hc1_0, hc1_1, hc1_2, ⟨s2, rfl⟩, BL, b9, L, zl1⟩
      have lb9_4 := b9.ge
      have hLl := L.lt
      refine wp_seq_k fun K12 hK12 => ?_
      refine wp_seq_k fun K13 hK13 => ?_
      refine cPlain ?_
      refine sv 24 (.int .i64 ((i : Nat) : Int)) .of ?_
      simp only [sZ, sS]
      refine sv 25 (.bool (decide (((i : Nat) : Int) < 8))) (Val.cmp .lss 3 _ (.tmp 24) _ rfl .i64 ((i : Nat) : Int) 8 (by kernel_rfl) (by kernel_rfl) (by simp) _ rfl) ?_
      simp only [sZ, sS]
      refine wpList_nil ?_
      refine hK13 _ _ ?_
      refine cDec (((i : Nat) : Int) < 8) (by kernel_rfl) (fun c25 => ?_) (fun c25 => ?_)
      · skip
        refine wp_skip ?_
        refine hK12 _ _ ?_
        refine wp_seq_k fun K14 hK14 => ?_
        refine wp_block ?_
        refine wp_seq_k fun K15 hK15 => ?_
        refine cPlain ?_
        refine sv 28 (.int .u64 ((q : Nat) : Int)) .of ?_
        simp only [sZ, sS]
        refine sv 29 (.int .u64 ((q % 256 : Nat) : Int)) (Val.remN 84 _ (.tmp 28) _ rfl .u64 q 256 (by kernel_rfl) (by kernel_rfl) (by omega)) ?_
        simp only [sZ, sS]
        refine sv 30 (.int .u8 (((q % 256) % 256 : Nat) : Int)) (Val.convN 84 5 (.tmp 29) rfl .u8 (q % 256) 256 Try.underlying84 Try.underlying5 (by kernel_rfl)) ?_
        simp only [sZ, sS]
        refine xLit 31 29 5 1 _ #[(0, .int .u8 (((q % 256) % 256 : Nat) : Int))] [.int .u8 (((q % 256) % 256 : Nat) : Int)] rfl (by kernel_rfl) (by kernel_rfl) ?_
        intro w4 n3
        have zn3 := n3.z
        have b31 : Own 5 .u8 wl1.heap.size w4 (.slice (some ⟨wl1.heap.size, 0, none⟩) 1 1) [(((q % 256) % 256 : Nat) : Int)] := Own.ofNw (xs := [(((q % 256) % 256 : Nat) : Int)]) n3 (Nat.le_refl _) (by simp [maxLen])
        replace BL := BL.e0 n3.e
        replace b9 := b9.e0 n3.e
        replace L := L.e0 n3.e
        have lb31_1 := b31.ge
        simp only [sZ, sS]
        refine sv 32 (u2) .of ?_
        simp only [sZ, sS]
        refine xApp 33 (.tmp 31) (.tmp 32) 29 5 .u8 1 rfl Try.underlying29 (by kernel_rfl) wl1.heap.size (.slice (some ⟨wl1.heap.size, 0, none⟩) 1 1) [(((q % 256) % 256 : Nat) : Int)] (by kernel_rfl) b31 u2 (nn (lastR (((n % 18446744073709551616) * 8) % 18446744073709551616) i)) (by kernel_rfl) L ?va2_1 ?va2_2 ?va2_3 ?_
        case va2_1 => (simp only [nn_len, lastR_len, List.length_replicate, List.length_cons, List.length_nil]; omega)
        case va2_2 => (simp only [nn_len, lastR_len, List.length_replicate, List.length_cons, List.length_nil]; unfold maxLen; omega)
        case va2_3 => omega
        intro va2 w5 rva2 e2
        have ze2 := e2.size
        have BL_ := BL.ev e2 (fun i h => by have := lb31_1 _ h; omega)
        have b9_ := b9.ev e2 (fun i hi h => by have := lb9_4 i hi; have := lb31_1 _ h; omega)
        have L_ := L.ev e2 (fun i hi h => by have := hLl i hi; have := lb31_1 _ h; omega)
        replace BL := BL_; clear BL_
        replace b9 := b9_; clear b9_
        replace L := L_; clear L_
        replace b31 := rva2
        clear rva2 e2
        have lb31_2 := b31.ge
        simp only [sZ, sS]
        refine sv 5 (va2) .of ?_
        simp only [sZ, sS]
        refine wpList_nil ?_
        refine hK15 _ _ ?_
        refine cPlain ?_
        refine sv 34 (.int .u64 ((q : Nat) : Int)) .of ?_
        simp only [sZ, sS]
        refine sv 35 (.int .u64 ((q / 256 : Nat) : Int)) (Val.asN (Val.quoN 84 _ (.tmp 34) _ rfl .u64 q 256 18446744073709551616 (by kernel_rfl) (by kernel_rfl) (by omega)) (by omega)) ?_
        simp only [sZ, sS]
        refine sv 4 (.int .u64 ((q / 256 : Nat) : Int)) .of ?_
        simp only [sZ, sS]
        refine wpList_nil ?_
        refine hK14 _ _ ?_
        refine cPlain ?_
        refine sv 26 (.int .i64 ((i : Nat) : Int)) .of ?_
        simp only [sZ, sS]
        refine sv 27 (.int .i64 (((i : Nat) : Int) + 1)) (Val.add 3 _ (.tmp 26) _ rfl ((i : Nat) : Int) 1 (by kernel_rfl) (by kernel_rfl) (by omega)) ?_
        simp only [sZ, sS]
        refine sv 6 (.int .i64 (((i : Nat) : Int) + 1)) .of ?_
        simp only [sZ, sS]
        refine wpList_nil ?_
        refine ⟨_, ?_, i + 1, q / 256, va2, rfl, (by omega), (by omega), (by rw [hc1_2, div_next]), cutE, BL, b9, (b31.cast (by rw [hc1_2]; rfl)).sl, by omega⟩
        omega
      · skip
        have hi8 : i = 8 := by omega
        refine wp_exit ?_
        simp only [Exit.then, Exit.inBlock, ↓reduceIte, Nat.reduceEqDiff]
        refine hK10 _ _ ?_
        refine wp_seq_k fun K16 hK16 => ?_
        refine cPlain ?_
        refine sv 36 (u) .of ?_
        simp only [sZ, sS]
        refine sv 37 (u2) .of ?_
        simp only [sZ, sS]
        refine xApp 38 (.tmp 36) (.tmp 37) 29 5 .u8 1 rfl Try.underlying29 (by kernel_rfl) w.heap.size u (nn (128 :: List.replicate k 0)) (by kernel_rfl) b9 u2 (nn (lastR (((n % 18446744073709551616) * 8) % 18446744073709551616) i)) (by kernel_rfl) L ?va3_1 ?va3_2 ?va3_3 ?_
        case va3_1 => (simp only [nn_len, lastR_len, List.length_replicate, List.length_cons, List.length_nil]; omega)
        case va3_2 => (simp only [nn_len, lastR_len, List.length_replicate, List.length_cons, List.length_nil]; unfold maxLen; omega)
        case va3_3 => omega
        intro va3 w6 rva3 e3
        have ze3 := e3.size
        have BL_ := BL.ev e3 (fun i h => by have := lb9_4 _ h; omega)
        replace BL := BL_; clear BL_
        replace b9 := rva3
        clear rva3 e3
        have lb9_5 := b9.ge
        simp only [sZ, sS]
        refine sv 2 (va3) .of ?_
        simp only [sZ, sS]
        refine wpList_nil ?_
        refine hK16 _ _ ?_
        refine wp_ret ?_
        (try simp only [Exit.then, Exit.inBlock])
        refine bodyPost_ret (v := va3) rT rfl ?_
        refine ⟨_, rfl, (b9.cast ?_).mono (by omega), BL.b⟩
        rw [← nn_app, hi8, hkz, List.cons_append, pad_all]

theorem rright_neg (s0_ s1_ s2_ s3_ s4_ s5_ s6_ s7_ : Nat) (A : Option Addr) (n C : Nat) (L : Int) (hL : L < 0) (w : World) :
    Calls Try.prog 114 #[hashV [s0_, s1_, s2_, s3_, s4_, s5_, s6_, s7_] (.slice A n C) L] w fun e w' => e = .returned (.bool false) ∧ Below w.heap.size w w' := by
  have BL := Bl.refl w
  go_enter Try.func114, Try.ntmps114
  refine wp_seq_k fun K1 hK1 => ?_
  refine cPlain ?_
  refine xBox 1 142 _ [.int .u32 ((s0_ : Nat) : Int), .int .u32 ((s1_ : Nat) : Int), .int .u32 ((s2_ : Nat) : Int), .int .u32 ((s3_ : Nat) : Int), .int .u32 ((s4_ : Nat) : Int), .int .u32 ((s5_ : Nat) : Int), .int .u32 ((s6_ : Nat) : Int), .int .u32 ((s7_ : Nat) : Int), .slice A n C, .int .i64 L] rfl (by kernel_rfl) ?_
  intro w1 n1
  have zn1 := n1.z
  have b1 := n1.c
  replace BL := BL.e0 n1.e
  simp only [sZ, sS]
  refine sv 2 (.bool false) .of ?_
  simp only [sZ, sS]
  refine wpList_nil ?_
  refine hK1 _ _ ?_
  refine wp_seq_k fun K2 hK2 => ?_
  refine cPlain ?_
  refine sv 3 (.pointer (some ⟨w.heap.size, 9, none⟩)) .of ?_
  simp only [sZ, sS]
  refine sv 4 (.int .i64 L) (Val.cel1 3 _ rfl w.heap.size 9 _ (by kernel_rfl) (fun _ => (by kernel_rfl)) b1 rfl) ?_
  simp only [sZ, sS]
  refine sv 5 (.bool (decide (0 ≤ L))) (Val.cmp .geq 3 _ (.tmp 4) _ rfl .i64 L 0 (by kernel_rfl) (by kernel_rfl) (by simp) _ rfl) ?_
  simp only [sZ, sS]
  refine sv 6 (.bool (decide (0 ≤ L))) .of ?_
  simp only [sZ, sS]
  by_cases g7 : 0 ≤ L
  · skip
    omega
  · skip
    have dg7 : decide (0 ≤ L) = false := decide_eq_false g7
    simp only [dg7]
    clear dg7
    refine xSkip 7 ?_
    simp only [sZ, sS]
    refine xSkip 8 ?_
    simp only [sZ, sS]
    refine xSkip 9 ?_
    simp only [sZ, sS]
    refine sv 10 (.bool false) .of ?_
    simp only [sZ, sS]
    refine sv 11 (.bool false) .of ?_
    simp only [sZ, sS]
    refine xSkip 12 ?_
    simp only [sZ, sS]
    refine xSkip 13 ?_
    simp only [sZ, sS]
    refine xSkip 14 ?_
    simp only [sZ, sS]
    refine xSkip 15 ?_
    simp only [sZ, sS]
    refine xSkip 16 ?_
    simp only [sZ, sS]
    refine xSkip 17 ?_
    simp only [sZ, sS]
    refine xSkip 18 ?_
    simp only [sZ, sS]
    refine sv 19 (.bool false) .of ?_
    simp only [sZ, sS]
    refine sv 2 (.bool false) .of ?_
    simp only [sZ, sS]
    refine wpList_nil ?_
    refine hK2 _ _ ?_
    refine wp_ret ?_
    (try simp only [Exit.then, Exit.inBlock])
    refine bodyPost_ret (v := .bool false) rT rfl ?_
    exact ⟨rfl, BL.b⟩

theorem rright_nat (s0_ s1_ s2_ s3_ s4_ s5_ s6_ s7_ : Nat) (A : Option Addr) (n C : Nat) (L : Nat) (w : World) :
    Calls Try.prog 114 #[hashV [s0_, s1_, s2_, s3_, s4_, s5_, s6_, s7_] (.slice A n C) (L : Int)] w fun e w' => e = .returned (.bool (rightN n L)) ∧ Below w.heap.size w w' := by
  have BL := Bl.refl w
  go_enter Try.func114, Try.ntmps114
  refine wp_seq_k fun K1 hK1 => ?_
  refine cPlain ?_
  refine xBox 1 142 _ [.int .u32 ((s0_ : Nat) : Int), .int .u32 ((s1_ : Nat) : Int), .int .u32 ((s2_ : Nat) : Int), .int .u32 ((s3_ : Nat) : Int), .int .u32 ((s4_ : Nat) : Int), .int .u32 ((s5_ : Nat) : Int), .int .u32 ((s6_ : Nat) : Int), .int .u32 ((s7_ : Nat) : Int), .slice A n C, .int .i64 (L : Int)] rfl (by kernel_rfl) ?_
  intro w1 n1
  have zn1 := n1.z
  have b1 := n1.c
  replace BL := BL.e0 n1.e
  simp only [sZ, sS]
  refine sv 2 (.bool false) .of ?_
  simp only [sZ, sS]
  refine wpList_nil ?_
  refine hK1 _ _ ?_
  refine wp_seq_k fun K2 hK2 => ?_
  refine cPlain ?_
  refine sv 3 (.pointer (some ⟨w.heap.size, 9, none⟩)) .of ?_
  simp only [sZ, sS]
  refine sv 4 (.int .i64 (L : Int)) (Val.cel1 3 _ rfl w.heap.size 9 _ (by kernel_rfl) (fun _ => (by kernel_rfl)) b1 rfl) ?_
  simp only [sZ, sS]
  refine sv 5 (.bool (decide (0 ≤ (L : Int)))) (Val.cmp .geq 3 _ (.tmp 4) _ rfl .i64 (L : Int) 0 (by kernel_rfl) (by kernel_rfl) (by simp) _ rfl) ?_
  simp only [sZ, sS]
  refine sv 6 (.bool (decide (0 ≤ (L : Int)))) .of ?_
  simp only [sZ, sS]
  by_cases g7 : 0 ≤ (L : Int)
  · skip
    have dg7 : decide (0 ≤ (L : Int)) = true := decide_eq_true g7
    simp only [dg7]
    clear dg7
    refine sv 7 (.pointer (some ⟨w.heap.size, 9, none⟩)) .of ?_
    simp only [sZ, sS]
    refine sv 8 (.int .i64 (L : Int)) (Val.cel1 3 _ rfl w.heap.size 9 _ (by kernel_rfl) (fun _ => (by kernel_rfl)) b1 rfl) ?_
    simp only [sZ, sS]
    refine sv 9 (.bool (decide ((L : Int) ≤ 72057594037927936))) (Val.cmp .leq 3 _ (.tmp 8) _ rfl .i64 (L : Int) 72057594037927936 (by kernel_rfl) (by kernel_rfl) (by simp) _ rfl) ?_
    simp only [sZ, sS]
    refine sv 10 (.bool (decide ((L : Int) ≤ 72057594037927936))) .of ?_
    simp only [sZ, sS]
    refine sv 11 (.bool (decide ((L : Int) ≤ 72057594037927936))) .of ?_
    simp only [sZ, sS]
    by_cases g12 : (L : Int) ≤ 72057594037927936
    · skip
      have dg12 : decide ((L : Int) ≤ 72057594037927936) = true := decide_eq_true g12
      simp only [dg12]
      clear dg12
      refine sv 12 (.pointer (some ⟨w.heap.size, 8, none⟩)) .of ?_
      simp only [sZ, sS]
      refine sv 13 (.slice A n C) (Val.cel1 29 _ rfl w.heap.size 8 _ (by kernel_rfl) (fun _ => (by kernel_rfl)) b1 rfl) ?_
      simp only [sZ, sS]
      refine sv 14 (.int .i64 (n : Int)) .of ?_
      simp only [sZ, sS]
      refine sv 15 (.pointer (some ⟨w.heap.size, 9, none⟩)) .of ?_
      simp only [sZ, sS]
      refine sv 16 (.int .i64 (L : Int)) (Val.cel1 3 _ rfl w.heap.size 9 _ (by kernel_rfl) (fun _ => (by kernel_rfl)) b1 rfl) ?_
      simp only [sZ, sS]
      refine sv 17 (.int .i64 ((L % 64 : Nat) : Int)) (Val.remN 3 _ (.tmp 16) _ rfl .i64 L 64 (by kernel_rfl) (by kernel_rfl) (by omega)) ?_
      simp only [sZ, sS]
      refine sv 18 (.bool (decide ((n : Int) = ((L % 64 : Nat) : Int)))) (Val.cmp .eql 3 _ (.tmp 14) (.tmp 17) rfl .i64 (n : Int) ((L % 64 : Nat) : Int) (by kernel_rfl) (by kernel_rfl) (by simp) _ rfl) ?_
      simp only [sZ, sS]
      refine sv 19 (.bool (decide ((n : Int) = ((L % 64 : Nat) : Int)))) .of ?_
      simp only [sZ, sS]
      refine sv 2 (.bool (decide ((n : Int) = ((L % 64 : Nat) : Int)))) .of ?_
      simp only [sZ, sS]
      refine wpList_nil ?_
      refine hK2 _ _ ?_
      refine wp_ret ?_
      (try simp only [Exit.then, Exit.inBlock])
      refine bodyPost_ret (v := .bool (decide ((n : Int) = ((L % 64 : Nat) : Int)))) rT rfl ?_
      have hR : rightN n L = (decide ((n : Int) = ((L % 64 : Nat) : Int))) := (by unfold rightN; first | exact decide_eq_decide.2 (by omega) | exact decide_eq_true (by omega) | exact decide_eq_false (by omega))
      rw [hR]
      exact ⟨rfl, BL.b⟩
    · skip
      have dg12 : decide ((L : Int) ≤ 72057594037927936) = false := decide_eq_false g12
      simp only [dg12]
      clear dg12
      refine xSkip 12 ?_
      simp only [sZ, sS]
      refine xSkip 13 ?_
      simp only [sZ, sS]
      refine xSkip 14 ?_
      simp only [sZ, sS]
      refine xSkip 15 ?_
      simp only [sZ, sS]
      refine xSkip 16 ?_
      simp only [sZ, sS]
      refine xSkip 17 ?_
      simp only [sZ, sS]
      refine xSkip 18 ?_
      simp only [sZ, sS]
      refine sv 19 (.bool false) .of ?_
      simp only [sZ, sS]
      refine sv 2 (.bool false) .of ?_
      simp only [sZ, sS]
      refine wpList_nil ?_
      refine hK2 _ _ ?_
      refine wp_ret ?_
      (try simp only [Exit.then, Exit.inBlock])
      refine bodyPost_ret (v := .bool false) rT rfl ?_
      have hR : rightN n L = false := (by unfold rightN; first | exact decide_eq_decide.2 (by omega) | exact decide_eq_true (by omega) | exact decide_eq_false (by omega))
      rw [hR]
      exact ⟨rfl, BL.b⟩
  · skip
    omega

theorem rright_any (s : List Nat) (hs : s.length = 8) (A : Option Addr) (n C : Nat) (L : Int) (w : World) :
    Calls Try.prog 114 #[hashV s (.slice A n C) L] w fun e w' => e = .returned (.bool (rightN n L)) ∧ Below w.heap.size w w' := by
  obtain ⟨a, b, c, d, e, f, g, i, rfl⟩ := list8 s hs
  by_cases hL : 0 ≤ L
  · obtain ⟨m, rfl⟩ := Int.eq_ofNat_of_zero_le hL
    exact rright_nat a b c d e f g i A n C m w
  · have hR : rightN n L = false := decide_eq_false (by omega)
    rw [hR]
    exact rright_neg a b c d e f g i A n C L (by omega) w
attribute [local irreducible] blockN goB padN rightN
set_option maxHeartbeats 4000000 in
theorem rwrite_wrong' (tab r : List Nat) (s0_ s1_ s2_ s3_ s4_ s5_ s6_ s7_ : Nat) (A : Option Addr) (C : Nat) (L : Int) (bv : Value) (w : World) (hR : rightN r.length L = false) (R : SL .u8 w (.slice A r.length C) (nn r)) :
    Calls Try.prog 106 #[.agg (cellsOf .u32 (nn tab)), hashV [s0_, s1_, s2_, s3_, s4_, s5_, s6_, s7_] (.slice A r.length C) L, bv] w fun e w' => e = .returned (hashV [s0_, s1_, s2_, s3_, s4_, s5_, s6_, s7_] (.slice A r.length C) L) ∧ Below w.heap.size w w' := by
  have BL := Bl.refl w
  go_enter Try.func106, Try.ntmps106
  refine wp_seq_k fun K1 hK1 => ?_
  refine cPlain ?_
  refine xBox 3 35 _ ((nn tab).map (Value.int .u32)) rfl (cells_toList _ _) ?_
  intro w1 n1
  have zn1 := n1.z
  have b3 := n1.c
  replace b3 : Blk .u32 w1 w.heap.size 35 (nn tab) := b3
  replace BL := BL.e0 n1.e
  simp only [sZ, sS]
  refine xBox 4 142 _ [.int .u32 ((s0_ : Nat) : Int), .int .u32 ((s1_ : Nat) : Int), .int .u32 ((s2_ : Nat) : Int), .int .u32 ((s3_ : Nat) : Int), .int .u32 ((s4_ : Nat) : Int), .int .u32 ((s5_ : Nat) : Int), .int .u32 ((s6_ : Nat) : Int), .int .u32 ((s7_ : Nat) : Int), .slice A r.length C, .int .i64 L] rfl (by kernel_rfl) ?_
  intro w2 n2
  have zn2 := n2.z
  have b4 := n2.c
  replace BL := BL.e0 n2.e
  replace b3 := b3.e0 n2.e
  simp only [sZ, sS]
  refine xAlloc 6 142 [.int .u32 0, .int .u32 0, .int .u32 0, .int .u32 0, .int .u32 0, .int .u32 0, .int .u32 0, .int .u32 0, .slice none 0 0, .int .i64 0] rfl (by kernel_rfl) ?_
  intro w3 n3
  have zn3 := n3.z
  have b6 := n3.c
  replace BL := BL.e0 n3.e
  replace b3 := b3.e0 n3.e
  replace b4 := b4.e0 n3.e
  simp only [sZ, sS]
  refine wpList_nil ?_
  refine hK1 _ _ ?_
  refine wp_seq_k fun K2 hK2 => ?_
  refine wp_seq_k fun K3 hK3 => ?_
  refine cPlain ?_
  refine sv 10 (.agg #[.int .u32 ((s0_ : Nat) : Int), .int .u32 ((s1_ : Nat) : Int), .int .u32 ((s2_ : Nat) : Int), .int .u32 ((s3_ : Nat) : Int), .int .u32 ((s4_ : Nat) : Int), .int .u32 ((s5_ : Nat) : Int), .int .u32 ((s6_ : Nat) : Int), .int .u32 ((s7_ : Nat) : Int), .slice A r.length C, .int .i64 L]) (Val.cel 142 _ rfl 0 10 (by kernel_rfl) b4 _ Try.underlying142 rfl (by kernel_rfl) (by simp) [.int .u32 ((s0_ : Nat) : Int), .int .u32 ((s1_ : Nat) : Int), .int .u32 ((s2_ : Nat) : Int), .int .u32 ((s3_ : Nat) : Int), .int .u32 ((s4_ : Nat) : Int), .int .u32 ((s5_ : Nat) : Int), .int .u32 ((s6_ : Nat) : Int), .int .u32 ((s7_ : Nat) : Int), .slice A r.length C, .int .i64 L] rfl) ?_
  simp only [sZ, sS]
  refine xCall 11 114 #[.agg #[.int .u32 ((s0_ : Nat) : Int), .int .u32 ((s1_ : Nat) : Int), .int .u32 ((s2_ : Nat) : Int), .int .u32 ((s3_ : Nat) : Int), .int .u32 ((s4_ : Nat) : Int), .int .u32 ((s5_ : Nat) : Int), .int .u32 ((s6_ : Nat) : Int), .int .u32 ((s7_ : Nat) : Int), .slice A r.length C, .int .i64 L]] (by kernel_rfl) ?_
  refine (rright_any [s0_, s1_, s2_, s3_, s4_, s5_, s6_, s7_] rfl A r.length C L w3).mono ?_
  rintro en w4 ⟨he, hb1⟩
  rw [hR] at he
  subst he
  have e1 := belE0 hb1
  have ze1 := e1.size
  replace BL := BL.e0 e1
  replace b3 := b3.e0 e1
  replace b4 := b4.e0 e1
  replace b6 := b6.e0 e1
  clear e1
  refine ⟨.bool false, rfl, ?_⟩
  simp only [sZ, sS]
  refine sv 12 (.bool true) .of ?_
  simp only [sZ, sS]
  refine wpList_nil ?_
  refine hK3 _ _ ?_
  refine cT ?_
  refine wp_seq_k fun K4 hK4 => ?_
  refine cPlain ?_
  refine sv 13 (.agg #[.int .u32 ((s0_ : Nat) : Int), .int .u32 ((s1_ : Nat) : Int), .int .u32 ((s2_ : Nat) : Int), .int .u32 ((s3_ : Nat) : Int), .int .u32 ((s4_ : Nat) : Int), .int .u32 ((s5_ : Nat) : Int), .int .u32 ((s6_ : Nat) : Int), .int .u32 ((s7_ : Nat) : Int), .slice A r.length C, .int .i64 L]) (Val.cel 142 _ rfl 0 10 (by kernel_rfl) b4 _ Try.underlying142 rfl (by kernel_rfl) (by simp) [.int .u32 ((s0_ : Nat) : Int), .int .u32 ((s1_ : Nat) : Int), .int .u32 ((s2_ : Nat) : Int), .int .u32 ((s3_ : Nat) : Int), .int .u32 ((s4_ : Nat) : Int), .int .u32 ((s5_ : Nat) : Int), .int .u32 ((s6_ : Nat) : Int), .int .u32 ((s7_ : Nat) : Int), .slice A r.length C, .int .i64 L] rfl) ?_
  simp only [sZ, sS]
  refine xStoreR 142 (.tmp 6) (.tmp 13) rfl w2.heap.size 142 [.int .u32 0, .int .u32 0, .int .u32 0, .int .u32 0, .int .u32 0, .int .u32 0, .int .u32 0, .int .u32 0, .slice none 0 0, .int .i64 0] 0 [.int .u32 ((s0_ : Nat) : Int), .int .u32 ((s1_ : Nat) : Int), .int .u32 ((s2_ : Nat) : Int), .int .u32 ((s3_ : Nat) : Int), .int .u32 ((s4_ : Nat) : Int), .int .u32 ((s5_ : Nat) : Int), .int .u32 ((s6_ : Nat) : Int), .int .u32 ((s7_ : Nat) : Int), .slice A r.length C, .int .i64 L] (by kernel_rfl) (by kernel_rfl) b6 (by kernel_rfl) (by simp) rfl [.int .u32 ((s0_ : Nat) : Int), .int .u32 ((s1_ : Nat) : Int), .int .u32 ((s2_ : Nat) : Int), .int .u32 ((s3_ : Nat) : Int), .int .u32 ((s4_ : Nat) : Int), .int .u32 ((s5_ : Nat) : Int), .int .u32 ((s6_ : Nat) : Int), .int .u32 ((s7_ : Nat) : Int), .slice A r.length C, .int .i64 L] rfl ?_
  intro w5 t1
  have zt1 := t1.z
  have BL_ := BL.ev t1.e (fun i h => show w.heap.size ≤ i by have h : i = w2.heap.size := h; omega)
  have b3_ := b3.ev t1.e (show ¬ (w.heap.size = w2.heap.size) by omega)
  have b4_ := b4.ev t1.e (show ¬ (w1.heap.size = w2.heap.size) by omega)
  replace BL := BL_; clear BL_
  replace b3 := b3_; clear b3_
  replace b4 := b4_; clear b4_
  replace b6 : Cel w5 w2.heap.size 142 [.int .u32 ((s0_ : Nat) : Int), .int .u32 ((s1_ : Nat) : Int), .int .u32 ((s2_ : Nat) : Int), .int .u32 ((s3_ : Nat) : Int), .int .u32 ((s4_ : Nat) : Int), .int .u32 ((s5_ : Nat) : Int), .int .u32 ((s6_ : Nat) : Int), .int .u32 ((s7_ : Nat) : Int), .slice A r.length C, .int .i64 L] := t1.c
  clear t1
  refine wpList_nil ?_
  refine hK4 _ _ ?_
  refine wp_ret ?_
  (try simp only [Exit.then, Exit.inBlock])
  refine bodyPost_ret (rC rfl _ w2.heap.size _ _ (by kernel_rfl) b6 _ Try.underlying142 rfl (by kernel_rfl)) rfl ?_
  exact ⟨rfl, BL.b⟩

set_option maxHeartbeats 4000000 in
theorem rwrite_right' (tab r bs : List Nat) (s0_ s1_ s2_ s3_ s4_ s5_ s6_ s7_ : Nat) (A : Option Addr) (C : Nat) (L : Int) (bv : Value) (ht : tab.length = 72) (w : World) (hR : rightN r.length L = true) (h32 : ∀ x ∈ [s0_, s1_, s2_, s3_, s4_, s5_, s6_, s7_], x < 4294967296) (hr8 : ∀ x ∈ r, x < 256) (hb8 : ∀ x ∈ bs, x < 256) (R : SL .u8 w (.slice A r.length C) (nn r)) (D : SL .u8 w bv (nn bs)) (hl : bs.length ≤ 1000000000000) :
    Calls Try.prog 106 #[.agg (cellsOf .u32 (nn tab)), hashV [s0_, s1_, s2_, s3_, s4_, s5_, s6_, s7_] (.slice A r.length C) L, bv] w fun e w' => ∃ u, e = .returned (hashV (goB tab [s0_, s1_, s2_, s3_, s4_, s5_, s6_, s7_] (r ++ bs) ((r ++ bs).length / 64)) u (L + ((bs.length : Nat) : Int))) ∧ Own 5 .u8 w.heap.size w' u (nn ((r ++ bs).drop (64 * ((r ++ bs).length / 64)))) ∧ Below w.heap.size w w' := by
  have BL := Bl.refl w
  have hrl := R.lt
  have hdl := D.lt
  have hR2 := rightN_iff.1 hR
  have hal : (r ++ bs).length = r.length + bs.length := List.length_append
  have ha8 : ∀ x ∈ (r ++ bs), x < 256 := fun x hx => by rcases List.mem_append.1 hx with h | h; exact hr8 x h; exact hb8 x h
  have hg0 : [s0_, s1_, s2_, s3_, s4_, s5_, s6_, s7_] = goB tab [s0_, s1_, s2_, s3_, s4_, s5_, s6_, s7_] (r ++ bs) 0 := by unfold goB; rfl
  go_enter Try.func106, Try.ntmps106
  refine wp_seq_k fun K1 hK1 => ?_
  refine cPlain ?_
  refine xBox 3 35 _ ((nn tab).map (Value.int .u32)) rfl (cells_toList _ _) ?_
  intro w1 n1
  have zn1 := n1.z
  have b3 := n1.c
  replace b3 : Blk .u32 w1 w.heap.size 35 (nn tab) := b3
  replace BL := BL.e0 n1.e
  replace R := R.e0 n1.e
  replace D := D.e0 n1.e
  simp only [sZ, sS]
  refine xBox 4 142 _ [.int .u32 ((s0_ : Nat) : Int), .int .u32 ((s1_ : Nat) : Int), .int .u32 ((s2_ : Nat) : Int), .int .u32 ((s3_ : Nat) : Int), .int .u32 ((s4_ : Nat) : Int), .int .u32 ((s5_ : Nat) : Int), .int .u32 ((s6_ : Nat) : Int), .int .u32 ((s7_ : Nat) : Int), .slice A r.length C, .int .i64 L] rfl (by kernel_rfl) ?_
  intro w2 n2
  have zn2 := n2.z
  have b4 := n2.c
  replace BL := BL.e0 n2.e
  replace R := R.e0 n2.e
  replace D := D.e0 n2.e
  replace b3 := b3.e0 n2.e
  simp only [sZ, sS]
  refine xAlloc 6 142 [.int .u32 0, .int .u32 0, .int .u32 0, .int .u32 0, .int .u32 0, .int .u32 0, .int .u32 0, .int .u32 0, .slice none 0 0, .int .i64 0] rfl (by kernel_rfl) ?_
  intro w3 n3
  have zn3 := n3.z
  have b6 := n3.c
  replace BL := BL.e0 n3.e
  replace R := R.e0 n3.e
  replace D := D.e0 n3.e
  replace b3 := b3.e0 n3.e
  replace b4 := b4.e0 n3.e
  simp only [sZ, sS]
  refine wpList_nil ?_
  refine hK1 _ _ ?_
  refine wp_seq_k fun K2 hK2 => ?_
  refine wp_seq_k fun K3 hK3 => ?_
  refine cPlain ?_
  refine sv 10 (.agg #[.int .u32 ((s0_ : Nat) : Int), .int .u32 ((s1_ : Nat) : Int), .int .u32 ((s2_ : Nat) : Int), .int .u32 ((s3_ : Nat) : Int), .int .u32 ((s4_ : Nat) : Int), .int .u32 ((s5_ : Nat) : Int), .int .u32 ((s6_ : Nat) : Int), .int .u32 ((s7_ : Nat) : Int), .slice A r.length C, .int .i64 L]) (Val.cel 142 _ rfl 0 10 (by kernel_rfl) b4 _ Try.underlying142 rfl (by kernel_rfl) (by simp) [.int .u32 ((s0_ : Nat) : Int), .int .u32 ((s1_ : Nat) : Int), .int .u32 ((s2_ : Nat) : Int), .int .u32 ((s3_ : Nat) : Int), .int .u32 ((s4_ : Nat) : Int), .int .u32 ((s5_ : Nat) : Int), .int .u32 ((s6_ : Nat) : Int), .int .u32 ((s7_ : Nat) : Int), .slice A r.length C, .int .i64 L] rfl) ?_
  simp only [sZ, sS]
  refine xCall 11 114 #[.agg #[.int .u32 ((s0_ : Nat) : Int), .int .u32 ((s1_ : Nat) : Int), .int .u32 ((s2_ : Nat) : Int), .int .u32 ((s3_ : Nat) : Int), .int .u32 ((s4_ : Nat) : Int), .int .u32 ((s5_ : Nat) : Int), .int .u32 ((s6_ : Nat) : Int), .int .u32 ((s7_ : Nat) : Int), .slice A r.length C, .int .i64 L]] (by kernel_rfl) ?_
  refine (rright_any [s0_, s1_, s2_, s3_, s4_, s5_, s6_, s7_] rfl A r.length C L w3).mono ?_
  rintro en w4 ⟨he, hb1⟩
  rw [hR] at he
  subst he
  have e1 := belE0 hb1
  have ze1 := e1.size
  replace BL := BL.e0 e1
  replace R := R.e0 e1
  replace D := D.e0 e1
  replace b3 := b3.e0 e1
  replace b4 := b4.e0 e1
  replace b6 := b6.e0 e1
  clear e1
  refine ⟨.bool true, rfl, ?_⟩
  simp only [sZ, sS]
  refine sv 12 (.bool false) .of ?_
  simp only [sZ, sS]
  refine wpList_nil ?_
  refine hK3 _ _ ?_
  refine cF ?_
  refine wp_skip ?_
  refine hK2 _ _ ?_
  refine wp_seq_k fun K4 hK4 => ?_
  refine cPlain ?_
  refine sv 14 (.pointer (some ⟨w1.heap.size, 0, none⟩)) .of ?_
  simp only [sZ, sS]
  refine sv 15 (.agg (cellsOf .u32 (nn [s0_, s1_, s2_, s3_, s4_, s5_, s6_, s7_]))) (Val.cel 32 _ rfl 0 8 (by kernel_rfl) b4 _ Try.underlying32 rfl (by kernel_rfl) (by simp) ((nn [s0_, s1_, s2_, s3_, s4_, s5_, s6_, s7_]).map (Value.int .u32)) rfl) ?_
  simp only [sZ, sS]
  refine sv 16 (.pointer (some ⟨w1.heap.size, 9, none⟩)) .of ?_
  simp only [sZ, sS]
  refine sv 17 (.int .i64 L) (Val.cel1 3 _ rfl w1.heap.size 9 _ (by kernel_rfl) (fun _ => (by kernel_rfl)) b4 rfl) ?_
  simp only [sZ, sS]
  refine sv 18 (bv) .of ?_
  simp only [sZ, sS]
  refine sv 19 (.int .i64 ((bs.length : Nat) : Int)) (Val.lenS (.tmp 18) 29 rfl (by kernel_rfl) D bs.length (nn_len bs) Try.underlying29) ?_
  simp only [sZ, sS]
  refine sv 20 (.int .i64 (L + ((bs.length : Nat) : Int))) (Val.add 3 _ (.tmp 17) (.tmp 19) rfl L ((bs.length : Nat) : Int) (by kernel_rfl) (by kernel_rfl) (by omega)) ?_
  simp only [sZ, sS]
  refine sv 21 (.agg #[.int .u32 ((s0_ : Nat) : Int), .int .u32 ((s1_ : Nat) : Int), .int .u32 ((s2_ : Nat) : Int), .int .u32 ((s3_ : Nat) : Int), .int .u32 ((s4_ : Nat) : Int), .int .u32 ((s5_ : Nat) : Int), .int .u32 ((s6_ : Nat) : Int), .int .u32 ((s7_ : Nat) : Int), .slice none 0 0, .int .i64 (L + ((bs.length : Nat) : Int))]) .of ?_
  simp only [sZ, sS]
  refine xAlloc 7 142 [.int .u32 0, .int .u32 0, .int .u32 0, .int .u32 0, .int .u32 0, .int .u32 0, .int .u32 0, .int .u32 0, .slice none 0 0, .int .i64 0] rfl (by kernel_rfl) ?_
  intro w5 n4
  have zn4 := n4.z
  have b7 := n4.c
  replace BL := BL.e0 n4.e
  replace R := R.e0 n4.e
  replace D := D.e0 n4.e
  replace b3 := b3.e0 n4.e
  replace b4 := b4.e0 n4.e
  replace b6 := b6.e0 n4.e
  simp only [sZ, sS]
  refine xStoreR 142 (.tmp 7) (.tmp 21) rfl w4.heap.size 142 [.int .u32 0, .int .u32 0, .int .u32 0, .int .u32 0, .int .u32 0, .int .u32 0, .int .u32 0, .int .u32 0, .slice none 0 0, .int .i64 0] 0 [.int .u32 ((s0_ : Nat) : Int), .int .u32 ((s1_ : Nat) : Int), .int .u32 ((s2_ : Nat) : Int), .int .u32 ((s3_ : Nat) : Int), .int .u32 ((s4_ : Nat) : Int), .int .u32 ((s5_ : Nat) : Int), .int .u32 ((s6_ : Nat) : Int), .int .u32 ((s7_ : Nat) : Int), .slice none 0 0, .int .i64 (L + ((bs.length : Nat) : Int))] (by kernel_rfl) (by kernel_rfl) b7 (by kernel_rfl) (by simp) rfl [.int .u32 ((s0_ : Nat) : Int), .int .u32 ((s1_ : Nat) : Int), .int .u32 ((s2_ : Nat) : Int), .int .u32 ((s3_ : Nat) : Int), .int .u32 ((s4_ : Nat) : Int), .int .u32 ((s5_ : Nat) : Int), .int .u32 ((s6_ : Nat) : Int), .int .u32 ((s7_ : Nat) : Int), .slice none 0 0, .int .i64 (L + ((bs.length : Nat) : Int))] rfl ?_
  intro w6 t1
  have zt1 := t1.z
  have BL_ := BL.ev t1.e (fun i h => show w.heap.size ≤ i by have h : i = w4.heap.size := h; omega)
  have R_ := R.ev t1.e (fun i hi => show ¬ (i = w4.heap.size) by have := hrl i hi; omega)
  have D_ := D.ev t1.e (fun i hi => show ¬ (i = w4.heap.size) by have := hdl i hi; omega)
  have b3_ := b3.ev t1.e (show ¬ (w.heap.size = w4.heap.size) by omega)
  have b4_ := b4.ev t1.e (show ¬ (w1.heap.size = w4.heap.size) by omega)
  have b6_ := b6.ev t1.e (show ¬ (w2.heap.size = w4.heap.size) by omega)
  replace BL := BL_; clear BL_
  replace R := R_; clear R_
  replace D := D_; clear D_
  replace b3 := b3_; clear b3_
  replace b4 := b4_; clear b4_
  replace b6 := b6_; clear b6_
  replace b7 : Cel w6 w4.heap.size 142 [.int .u32 ((s0_ : Nat) : Int), .int .u32 ((s1_ : Nat) : Int), .int .u32 ((s2_ : Nat) : Int), .int .u32 ((s3_ : Nat) : Int), .int .u32 ((s4_ : Nat) : Int), .int .u32 ((s5_ : Nat) : Int), .int .u32 ((s6_ : Nat) : Int), .int .u32 ((s7_ : Nat) : Int), .slice none 0 0, .int .i64 (L + ((bs.length : Nat) : Int))] := t1.c
  clear t1
  refine wpList_nil ?_
  refine hK4 _ _ ?_
  refine wp_seq_k fun K5 hK5 => ?_
  refine cPlain ?_
  refine sv 8 (.slice none 0 0) .of ?_
  simp only [sZ, sS]
  refine wpList_nil ?_
  refine hK5 _ _ ?_
  refine wp_seq_k fun K6 hK6 => ?_
  have AL : Own 5 .u8 w6.heap.size w6 (.slice none 0 0) [] := Own.nil _ _ _ _
  have lAL_1 := AL.ge
  refine cPlain ?_
  refine sv 22 (.slice none 0 0) .of ?_
  simp only [sZ, sS]
  refine sv 23 (.pointer (some ⟨w1.heap.size, 8, none⟩)) .of ?_
  simp only [sZ, sS]
  refine sv 24 (.slice A r.length C) (Val.cel1 29 _ rfl w1.heap.size 8 _ (by kernel_rfl) (fun _ => (by kernel_rfl)) b4 rfl) ?_
  simp only [sZ, sS]
  refine xApp 25 (.tmp 22) (.tmp 24) 29 5 .u8 1 rfl Try.underlying29 (by kernel_rfl) w6.heap.size (.slice none 0 0) [] (by kernel_rfl) AL (.slice A r.length C) (nn r) (by kernel_rfl) R ?va1_1 ?va1_2 ?va1_3 ?_
  case va1_1 => (simp only [nn_len, List.length_append, List.length_nil, List.length_take, List.length_drop]; omega)
  case va1_2 => (simp only [nn_len, List.length_append, List.length_nil, List.length_take, List.length_drop]; unfold maxLen; omega)
  case va1_3 => omega
  intro va1 w7 rva1 e2
  have ze2 := e2.size
  have BL_ := BL.ev e2 (fun i h => by have := lAL_1 _ h; omega)
  have R_ := R.ev e2 (fun i hi h => by have := hrl i hi; have := lAL_1 _ h; omega)
  have D_ := D.ev e2 (fun i hi h => by have := hdl i hi; have := lAL_1 _ h; omega)
  have b3_ := b3.ev e2 (fun h => by have := lAL_1 _ h; omega)
  have b4_ := b4.ev e2 (fun h => by have := lAL_1 _ h; omega)
  have b6_ := b6.ev e2 (fun h => by have := lAL_1 _ h; omega)
  have b7_ := b7.ev e2 (fun h => by have := lAL_1 _ h; omega)
  replace BL := BL_; clear BL_
  replace R := R_; clear R_
  replace D := D_; clear D_
  replace b3 := b3_; clear b3_
  replace b4 := b4_; clear b4_
  replace b6 := b6_; clear b6_
  replace b7 := b7_; clear b7_
  replace AL := rva1
  clear rva1 e2
  have lAL_2 := AL.ge
  simp only [sZ, sS]
  refine sv 8 (va1) .of ?_
  simp only [sZ, sS]
  refine wpList_nil ?_
  refine hK6 _ _ ?_
  refine wp_seq_k fun K7 hK7 => ?_
  refine cPlain ?_
  refine sv 26 (va1) .of ?_
  simp only [sZ, sS]
  refine sv 27 (bv) .of ?_
  simp only [sZ, sS]
  refine xApp 28 (.tmp 26) (.tmp 27) 29 5 .u8 1 rfl Try.underlying29 (by kernel_rfl) w6.heap.size va1 ([] ++ (nn r)) (by kernel_rfl) AL bv (nn bs) (by kernel_rfl) D ?va2_1 ?va2_2 ?va2_3 ?_
  case va2_1 => (simp only [nn_len, List.length_append, List.length_nil, List.length_take, List.length_drop]; omega)
  case va2_2 => (simp only [nn_len, List.length_append, List.length_nil, List.length_take, List.length_drop]; unfold maxLen; omega)
  case va2_3 => omega
  intro va2 w8 rva2 e3
  have ze3 := e3.size
  have BL_ := BL.ev e3 (fun i h => by have := lAL_2 _ h; omega)
  have R_ := R.ev e3 (fun i hi h => by have := hrl i hi; have := lAL_2 _ h; omega)
  have D_ := D.ev e3 (fun i hi h => by have := hdl i hi; have := lAL_2 _ h; omega)
  have b3_ := b3.ev e3 (fun h => by have := lAL_2 _ h; omega)
  have b4_ := b4.ev e3 (fun h => by have := lAL_2 _ h; omega)
  have b6_ := b6.ev e3 (fun h => by have := lAL_2 _ h; omega)
  have b7_ := b7.ev e3 (fun h => by have := lAL_2 _ h; omega)
  replace BL := BL_; clear BL_
  replace R := R_; clear R_
  replace D := D_; clear D_
  replace b3 := b3_; clear b3_
  replace b4 := b4_; clear b4_
  replace b6 := b6_; clear b6_
  replace b7 := b7_; clear b7_
  replace AL := rva2
  clear rva2 e3
  have lAL_3 := AL.ge
  simp only [sZ, sS]
  refine sv 8 (va2) .of ?_
  simp only [sZ, sS]
  refine wpList_nil ?_
  refine hK7 _ _ ?_
  refine wp_seq_k fun K8 hK8 => ?_
  refine cPlain ?_
  refine sv 9 (.int .i64 0) .of ?_
  simp only [sZ, sS]
  refine wpList_nil ?_
  refine hK8 _ _ ?_
  refine wp_seq_k fun K9 hK9 => ?_
  refine wp_block ?_
  refine cLoop (fun N_ A_ w_ => ∃ (k : Nat) (q0 q1 q2 q3 q4 q5 q6 q7 : Nat), (N_ = (r ++ bs).length - 64 * k ∧ (64 * k ≤ (r ++ bs).length) ∧ ([q0, q1, q2, q3, q4, q5, q6, q7] = goB tab [s0_, s1_, s2_, s3_, s4_, s5_, s6_, s7_] (r ++ bs) k) ∧ (∃ s1 : Nat → Value, A_ = ⟨[.agg (cellsOf .u32 (nn tab)), .agg #[.int .u32 ((s0_ : Nat) : Int), .int .u32 ((s1_ : Nat) : Int), .int .u32 ((s2_ : Nat) : Int), .int .u32 ((s3_ : Nat) : Int), .int .u32 ((s4_ : Nat) : Int), .int .u32 ((s5_ : Nat) : Int), .int .u32 ((s6_ : Nat) : Int), .int .u32 ((s7_ : Nat) : Int), .slice A r.length C, .int .i64 L], bv, .pointer (some ⟨w.heap.size, 0, none⟩), .pointer (some ⟨w1.heap.size, 0, none⟩), undef, .pointer (some ⟨w2.heap.size, 0, none⟩), .pointer (some ⟨w4.heap.size, 0, none⟩), va2, .int .i64 ((64 * k : Nat) : Int), .agg #[.int .u32 ((s0_ : Nat) : Int), .int .u32 ((s1_ : Nat) : Int), .int .u32 ((s2_ : Nat) : Int), .int .u32 ((s3_ : Nat) : Int), .int .u32 ((s4_ : Nat) : Int), .int .u32 ((s5_ : Nat) : Int), .int .u32 ((s6_ : Nat) : Int), .int .u32 ((s7_ : Nat) : Int), .slice A r.length C, .int .i64 L], .bool true, .bool false, undef, .pointer (some ⟨w1.heap.size, 0, none⟩), .agg (cellsOf .u32 (nn [s0_, s1_, s2_, s3_, s4_, s5_, s6_, s7_])), .pointer (some ⟨w1.heap.size, 9, none⟩), .int .i64 L, bv, .int .i64 ((bs.length : Nat) : Int), .int .i64 (L + ((bs.length : Nat) : Int)), .agg #[.int .u32 ((s0_ : Nat) : Int), .int .u32 ((s1_ : Nat) : Int), .int .u32 ((s2_ : Nat) : Int), .int .u32 ((s3_ : Nat) : Int), .int .u32 ((s4_ : Nat) : Int), .int .u32 ((s5_ : Nat) : Int), .int .u32 ((s6_ : Nat) : Int), .int .u32 ((s7_ : Nat) : Int), .slice none 0 0, .int .i64 (L + ((bs.length : Nat) : Int))], .slice none 0 0, .pointer (some ⟨w1.heap.size, 8, none⟩), .slice A r.length C, va1, va1, bv, va2, (s1 29), (s1 30), (s1 31), (s1 32), (s1 33), (s1 34), (s1 35), (s1 36), (s1 37), (s1 38), (s1 39), (s1 40), (s1 41), (s1 42), (s1 43), (s1 44), (s1 45), undef, undef, undef, undef, undef, undef, undef, undef].toArray, []⟩) ∧ Bl w.heap.size w w_ ∧ SL .u8 w_ (.slice A r.length C) (nn r) ∧ SL .u8 w_ bv (nn bs) ∧ Blk .u32 w_ w.heap.size 35 (nn tab) ∧ Cel w_ w1.heap.size 142 [.int .u32 ((s0_ : Nat) : Int), .int .u32 ((s1_ : Nat) : Int), .int .u32 ((s2_ : Nat) : Int), .int .u32 ((s3_ : Nat) : Int), .int .u32 ((s4_ : Nat) : Int), .int .u32 ((s5_ : Nat) : Int), .int .u32 ((s6_ : Nat) : Int), .int .u32 ((s7_ : Nat) : Int), .slice A r.length C, .int .i64 L] ∧ Cel w_ w2.heap.size 142 [.int .u32 0, .int .u32 0, .int .u32 0, .int .u32 0, .int .u32 0, .int .u32 0, .int .u32 0, .int .u32 0, .slice none 0 0, .int .i64 0] ∧ Cel w_ w4.heap.size 142 [.int .u32 ((q0 : Nat) : Int), .int .u32 ((q1 : Nat) : Int), .int .u32 ((q2 : Nat) : Int), .int .u32 ((q3 : Nat) : Int), .int .u32 ((q4 : Nat) : Int), .int .u32 ((q5 : Nat) : Int), .int .u32 ((q6 : Nat) : Int), .int .u32 ((q7 : Nat) : Int), .slice none 0 0, .int .i64 (L + ((bs.length : Nat) : Int))] ∧ Own 5 .u8 w6.heap.size w_ va2 (nn (r ++ bs)) ∧ w8.heap.size ≤ w_.heap.size)) _ ⟨0, s0_, s1_, s2_, s3_, s4_, s5_, s6_, s7_, rfl, (by omega), hg0, cutE, BL, R, D, b3, b4, b6, b7, (AL.cast (by rw [List.nil_append, nn_app])), Nat.le_refl _⟩ ?_
  clear BL R D b3 b4 b6 b7 AL
  rintro n_ a_ wl0 ⟨k, q0, q1, q2, q3, q4, q5, q6, q7, rfl, hc0_0, hc0_1, ⟨s1, rfl⟩, BL, R, D, b3, b4, b6, b7, AL, zl0⟩
  have lAL_4 := AL.ge
  have hq32 : ∀ x ∈ [q0, q1, q2, q3, q4, q5, q6, q7], x < 4294967296 := by rw [hc0_1]; exact goB_lt _ rfl h32 k
  refine wp_seq_k fun K10 hK10 => ?_
  refine wp_seq_k fun K11 hK11 => ?_
  refine cPlain ?_
  refine sv 29 (.int .i64 ((64 * k : Nat) : Int)) .of ?_
  simp only [sZ, sS]
  refine sv 30 (.int .i64 ((64 * k + 64 : Nat) : Int)) (Val.as (Val.add 3 _ (.tmp 29) _ rfl ((64 * k : Nat) : Int) 64 (by kernel_rfl) (by kernel_rfl) (by omega)) (congrArg (Value.int .i64) (by omega))) ?_
  simp only [sZ, sS]
  refine sv 31 (va2) .of ?_
  simp only [sZ, sS]
  refine sv 32 (.int .i64 (((r ++ bs).length : Nat) : Int)) (Val.lenO (.tmp 31) 29 rfl (by kernel_rfl) AL ((r ++ bs).length) (nn_len _) Try.underlying29) ?_
  simp only [sZ, sS]
  refine sv 33 (.bool (decide (((64 * k + 64 : Nat) : Int) ≤ (((r ++ bs).length : Nat) : Int)))) (Val.cmp .leq 3 _ (.tmp 30) (.tmp 32) rfl .i64 ((64 * k + 64 : Nat) : Int) (((r ++ bs).length : Nat) : Int) (by kernel_rfl) (by kernel_rfl) (by simp) _ rfl) ?_
  simp only [sZ, sS]
  refine wpList_nil ?_
  refine hK11 _ _ ?_
  refine cDec (((64 * k + 64 : Nat) : Int) ≤ (((r ++ bs).length : Nat) : Int)) (by kernel_rfl) (fun c33 => ?_) (fun c33 => ?_)
  · skip
    refine wp_skip ?_
    refine hK10 _ _ ?_
    refine wp_block ?_
    refine wp_seq_k fun K12 hK12 => ?_
    have e4 := drew_e0 wl0
    refine zg (fun w_ => Bl w.heap.size w w_ ∧ SL .u8 w_ (.slice A r.length C) (nn r) ∧ SL .u8 w_ bv (nn bs) ∧ Blk .u32 w_ w.heap.size 35 (nn tab) ∧ Cel w_ w1.heap.size 142 [.int .u32 ((s0_ : Nat) : Int), .int .u32 ((s1_ : Nat) : Int), .int .u32 ((s2_ : Nat) : Int), .int .u32 ((s3_ : Nat) : Int), .int .u32 ((s4_ : Nat) : Int), .int .u32 ((s5_ : Nat) : Int), .int .u32 ((s6_ : Nat) : Int), .int .u32 ((s7_ : Nat) : Int), .slice A r.length C, .int .i64 L] ∧ Cel w_ w2.heap.size 142 [.int .u32 0, .int .u32 0, .int .u32 0, .int .u32 0, .int .u32 0, .int .u32 0, .int .u32 0, .int .u32 0, .slice none 0 0, .int .i64 0] ∧ Cel w_ w4.heap.size 142 [.int .u32 ((q0 : Nat) : Int), .int .u32 ((q1 : Nat) : Int), .int .u32 ((q2 : Nat) : Int), .int .u32 ((q3 : Nat) : Int), .int .u32 ((q4 : Nat) : Int), .int .u32 ((q5 : Nat) : Int), .int .u32 ((q6 : Nat) : Int), .int .u32 ((q7 : Nat) : Int), .slice none 0 0, .int .i64 (L + ((bs.length : Nat) : Int))] ∧ Own 5 .u8 w6.heap.size w_ va2 (nn (r ++ bs)) ∧ wl0.heap.size ≤ w_.heap.size) (fun w_ => Bl w.heap.size w w_ ∧ SL .u8 w_ (.slice A r.length C) (nn r) ∧ SL .u8 w_ bv (nn bs) ∧ Blk .u32 w_ w.heap.size 35 (nn tab) ∧ Cel w_ w1.heap.size 142 [.int .u32 ((s0_ : Nat) : Int), .int .u32 ((s1_ : Nat) : Int), .int .u32 ((s2_ : Nat) : Int), .int .u32 ((s3_ : Nat) : Int), .int .u32 ((s4_ : Nat) : Int), .int .u32 ((s5_ : Nat) : Int), .int .u32 ((s6_ : Nat) : Int), .int .u32 ((s7_ : Nat) : Int), .slice A r.length C, .int .i64 L] ∧ Cel w_ w2.heap.size 142 [.int .u32 0, .int .u32 0, .int .u32 0, .int .u32 0, .int .u32 0, .int .u32 0, .int .u32 0, .int .u32 0, .slice none 0 0, .int .i64 0] ∧ Cel w_ w4.heap.size 142 [.int .u32 ((q0 : Nat) : Int), .int .u32 ((q1 : Nat) : Int), .int .u32 ((q2 : Nat) : Int), .int .u32 ((q3 : Nat) : Int), .int .u32 ((q4 : Nat) : Int), .int .u32 ((q5 : Nat) : Int), .int .u32 ((q6 : Nat) : Int), .int .u32 ((q7 : Nat) : Int), .slice none 0 0, .int .i64 (L + ((bs.length : Nat) : Int))] ∧ Own 5 .u8 w6.heap.size w_ va2 (nn (r ++ bs)) ∧ wl0.heap.size ≤ w_.heap.size) 10 11 ⟨BL.e0 e4, R.e0 e4, D.e0 e4, b3.e0 e4, b4.e0 e4, b6.e0 e4, b7.e0 e4, AL.e0 e4, Nat.le_refl _⟩ ?_
    clear BL R D b3 b4 b6 b7 AL
    clear e4
    intro w9
    rintro ⟨BL, R, D, b3, b4, b6, b7, AL, z1⟩
    refine zv 0 34 (.agg (cellsOf .u32 (nn tab))) (fun _ ⟨BL, R, D, b3, b4, b6, b7, AL, z1⟩ => Val.blk 35 _ rfl 0 72 (by kernel_rfl) b3 _ Try.underlying35 rfl (by kernel_rfl) (by (try simp only [nn_len, List.length_cons, List.length_nil, List.length_set, List.length_replicate]); try omega) _ (seg_all' _ (by (try simp only [nn_len, List.length_cons, List.length_nil, List.length_set, List.length_replicate]); try omega))) ⟨BL, R, D, b3, b4, b6, b7, AL, by omega⟩ ?_
    simp only [sZ, sS]
    refine zv 1 35 (.pointer (some ⟨w4.heap.size, 0, none⟩)) (fun _ _ => .of) ⟨BL, R, D, b3, b4, b6, b7, AL, by omega⟩ ?_
    simp only [sZ, sS]
    refine zv 2 36 (.agg (cellsOf .u32 (nn [q0, q1, q2, q3, q4, q5, q6, q7]))) (fun _ ⟨BL, R, D, b3, b4, b6, b7, AL, z1⟩ => Val.cel 32 _ rfl 0 8 (by kernel_rfl) b7 _ Try.underlying32 rfl (by kernel_rfl) (by simp) ((nn [q0, q1, q2, q3, q4, q5, q6, q7]).map (Value.int .u32)) rfl) ⟨BL, R, D, b3, b4, b6, b7, AL, by omega⟩ ?_
    simp only [sZ, sS]
    refine zv 3 37 (va2) (fun _ _ => .of) ⟨BL, R, D, b3, b4, b6, b7, AL, by omega⟩ ?_
    simp only [sZ, sS]
    refine zv 4 38 (.int .i64 ((64 * k : Nat) : Int)) (fun _ _ => .of) ⟨BL, R, D, b3, b4, b6, b7, AL, by omega⟩ ?_
    simp only [sZ, sS]
    refine zv 5 39 (.int .i64 ((64 * k : Nat) : Int)) (fun _ _ => .of) ⟨BL, R, D, b3, b4, b6, b7, AL, by omega⟩ ?_
    simp only [sZ, sS]
    refine zv 6 40 (.int .i64 ((64 * k + 64 : Nat) : Int)) (fun _ ⟨BL, R, D, b3, b4, b6, b7, AL, z1⟩ => Val.as (Val.add 3 _ (.tmp 39) _ rfl ((64 * k : Nat) : Int) 64 (by kernel_rfl) (by kernel_rfl) (by omega)) (congrArg (Value.int .i64) (by omega))) ⟨BL, R, D, b3, b4, b6, b7, AL, by omega⟩ ?_
    simp only [sZ, sS]
    refine zv 7 41 (sliceV va2 (64 * k) (64 * k + 64)) (fun _ ⟨BL, R, D, b3, b4, b6, b7, AL, z1⟩ => Val.slc 29 (.tmp 37) (some (.tmp 38)) (some (.tmp 40)) rfl va2 (by kernel_rfl) AL.sl (64 * k) (64 * k + 64) (.inl (by kernel_rfl)) (.inl (by kernel_rfl)) (by omega) (by rw [nn_len]; omega) Try.underlying29 (by kernel_rfl)) ⟨BL, R, D, b3, b4, b6, b7, AL, by omega⟩ ?_
    simp only [sZ, sS]
    refine zo1 8 rfl ?_
    refine xCall 42 116 #[.agg (cellsOf .u32 (nn tab)), .agg (cellsOf .u32 (nn [q0, q1, q2, q3, q4, q5, q6, q7])), sliceV va2 (64 * k) (64 * k + 64)] (by kernel_rfl) ?_
    refine (rblock_any tab [q0, q1, q2, q3, q4, q5, q6, q7] (((r ++ bs).drop (64 * k)).take 64) _ ht rfl hq32 (by rw [List.length_take, List.length_drop]; omega) (fun x hx => ha8 x (List.mem_of_mem_drop (List.mem_of_mem_take hx))) w9 ((AL.sl.slice (64 * k) (64 * k + 64) (by omega) (by rw [nn_len]; omega)).cast (by rw [Nat.add_sub_cancel_left, nn_take, nn_drop]))).mono ?_
    rintro en w10 ⟨he, hb1⟩
    obtain ⟨p0, p1, p2, p3, p4, p5, p6, p7, hp⟩ := list8 (blockN tab [q0, q1, q2, q3, q4, q5, q6, q7] (((r ++ bs).drop (64 * k)).take 64)) (blockN_len _ _ _ rfl)
    rw [hp] at he
    subst he
    have e5 := belE0 hb1
    have ze5 := e5.size
    replace BL := BL.e0 e5
    replace R := R.e0 e5
    replace D := D.e0 e5
    replace b3 := b3.e0 e5
    replace b4 := b4.e0 e5
    replace b6 := b6.e0 e5
    replace b7 := b7.e0 e5
    replace AL := AL.e0 e5
    clear e5
    refine ⟨.agg (cellsOf .u32 (nn [p0, p1, p2, p3, p4, p5, p6, p7])), rfl, ?_⟩
    refine ze 8 ⟨BL, R, D, b3, b4, b6, b7, AL, by omega⟩ ?_
    simp only [sZ, sS]
    refine zv 9 43 (.pointer (some ⟨w4.heap.size, 0, none⟩)) (fun _ _ => .of) ⟨BL, R, D, b3, b4, b6, b7, AL, by omega⟩ ?_
    simp only [sZ, sS]
    refine zo1 10 rfl ?_
    refine xStoreR 32 (.tmp 43) (.tmp 42) rfl w4.heap.size 142 [.int .u32 ((q0 : Nat) : Int), .int .u32 ((q1 : Nat) : Int), .int .u32 ((q2 : Nat) : Int), .int .u32 ((q3 : Nat) : Int), .int .u32 ((q4 : Nat) : Int), .int .u32 ((q5 : Nat) : Int), .int .u32 ((q6 : Nat) : Int), .int .u32 ((q7 : Nat) : Int), .slice none 0 0, .int .i64 (L + ((bs.length : Nat) : Int))] 0 [.int .u32 ((p0 : Nat) : Int), .int .u32 ((p1 : Nat) : Int), .int .u32 ((p2 : Nat) : Int), .int .u32 ((p3 : Nat) : Int), .int .u32 ((p4 : Nat) : Int), .int .u32 ((p5 : Nat) : Int), .int .u32 ((p6 : Nat) : Int), .int .u32 ((p7 : Nat) : Int)] (by kernel_rfl) (by kernel_rfl) b7 (by kernel_rfl) (by simp) rfl [.int .u32 ((p0 : Nat) : Int), .int .u32 ((p1 : Nat) : Int), .int .u32 ((p2 : Nat) : Int), .int .u32 ((p3 : Nat) : Int), .int .u32 ((p4 : Nat) : Int), .int .u32 ((p5 : Nat) : Int), .int .u32 ((p6 : Nat) : Int), .int .u32 ((p7 : Nat) : Int), .slice none 0 0, .int .i64 (L + ((bs.length : Nat) : Int))] rfl ?_
    intro w11 t2
    have zt2 := t2.z
    have BL_ := BL.ev t2.e (fun i h => show w.heap.size ≤ i by have h : i = w4.heap.size := h; omega)
    have R_ := R.ev t2.e (fun i hi => show ¬ (i = w4.heap.size) by have := hrl i hi; omega)
    have D_ := D.ev t2.e (fun i hi => show ¬ (i = w4.heap.size) by have := hdl i hi; omega)
    have b3_ := b3.ev t2.e (show ¬ (w.heap.size = w4.heap.size) by omega)
    have b4_ := b4.ev t2.e (show ¬ (w1.heap.size = w4.heap.size) by omega)
    have b6_ := b6.ev t2.e (show ¬ (w2.heap.size = w4.heap.size) by omega)
    have AL_ := AL.ev t2.e (fun i hi => show ¬ (i = w4.heap.size) by have := lAL_4 i hi; omega)
    replace BL := BL_; clear BL_
    replace R := R_; clear R_
    replace D := D_; clear D_
    replace b3 := b3_; clear b3_
    replace b4 := b4_; clear b4_
    replace b6 := b6_; clear b6_
    replace AL := AL_; clear AL_
    replace b7 : Cel w11 w4.heap.size 142 [.int .u32 ((p0 : Nat) : Int), .int .u32 ((p1 : Nat) : Int), .int .u32 ((p2 : Nat) : Int), .int .u32 ((p3 : Nat) : Int), .int .u32 ((p4 : Nat) : Int), .int .u32 ((p5 : Nat) : Int), .int .u32 ((p6 : Nat) : Int), .int .u32 ((p7 : Nat) : Int), .slice none 0 0, .int .i64 (L + ((bs.length : Nat) : Int))] := t2.c
    clear t2
    refine zz 10 ?_
    refine zd (by kernel_rfl) ?_ _
    refine hK12 _ _ ?_
    refine cPlain ?_
    refine sv 44 (.int .i64 ((64 * k : Nat) : Int)) .of ?_
    simp only [sZ, sS]
    refine sv 45 (.int .i64 ((64 * (k + 1) : Nat) : Int)) (Val.as (Val.add 3 _ (.tmp 44) _ rfl ((64 * k : Nat) : Int) 64 (by kernel_rfl) (by kernel_rfl) (by omega)) (congrArg (Value.int .i64) (by omega))) ?_
    simp only [sZ, sS]
    refine sv 9 (.int .i64 ((64 * (k + 1) : Nat) : Int)) .of ?_
    simp only [sZ, sS]
    refine wpList_nil ?_
    refine ⟨_, ?_, k + 1, p0, p1, p2, p3, p4, p5, p6, p7, rfl, (by omega), (by rw [← hp, hc0_1, goB_succ]), cutE, BL, R, D, b3, b4, b6, b7, AL, by omega⟩
    omega
  · skip
    have hk : (r ++ bs).length / 64 = k := by omega
    have hdrop : nn ((r ++ bs).drop (64 * k)) = [] ++ ((nn (r ++ bs)).drop (64 * k)).take ((nn (r ++ bs)).length - 64 * k) := by rw [List.nil_append, ← nn_drop, ← nn_take, List.take_of_length_le (by rw [nn_len, List.length_drop]; exact Nat.le_refl _)]
    refine wp_exit ?_
    simp only [Exit.then, Exit.inBlock, ↓reduceIte, Nat.reduceEqDiff]
    refine hK9 _ _ ?_
    refine wp_seq_k fun K13 hK13 => ?_
    have RN : Own 5 .u8 wl0.heap.size wl0 (.slice none 0 0) [] := Own.nil _ _ _ _
    have lRN_1 := RN.ge
    have e6 := drew_e0 wl0
    refine zg (fun w_ => Bl w.heap.size w w_ ∧ SL .u8 w_ (.slice A r.length C) (nn r) ∧ SL .u8 w_ bv (nn bs) ∧ Blk .u32 w_ w.heap.size 35 (nn tab) ∧ Cel w_ w1.heap.size 142 [.int .u32 ((s0_ : Nat) : Int), .int .u32 ((s1_ : Nat) : Int), .int .u32 ((s2_ : Nat) : Int), .int .u32 ((s3_ : Nat) : Int), .int .u32 ((s4_ : Nat) : Int), .int .u32 ((s5_ : Nat) : Int), .int .u32 ((s6_ : Nat) : Int), .int .u32 ((s7_ : Nat) : Int), .slice A r.length C, .int .i64 L] ∧ Cel w_ w2.heap.size 142 [.int .u32 0, .int .u32 0, .int .u32 0, .int .u32 0, .int .u32 0, .int .u32 0, .int .u32 0, .int .u32 0, .slice none 0 0, .int .i64 0] ∧ Cel w_ w4.heap.size 142 [.int .u32 ((q0 : Nat) : Int), .int .u32 ((q1 : Nat) : Int), .int .u32 ((q2 : Nat) : Int), .int .u32 ((q3 : Nat) : Int), .int .u32 ((q4 : Nat) : Int), .int .u32 ((q5 : Nat) : Int), .int .u32 ((q6 : Nat) : Int), .int .u32 ((q7 : Nat) : Int), .slice none 0 0, .int .i64 (L + ((bs.length : Nat) : Int))] ∧ Own 5 .u8 w6.heap.size w_ va2 (nn (r ++ bs)) ∧ wl0.heap.size ≤ w_.heap.size) (fun w_ => Bl w.heap.size w w_ ∧ SL .u8 w_ (.slice A r.length C) (nn r) ∧ SL .u8 w_ bv (nn bs) ∧ Blk .u32 w_ w.heap.size 35 (nn tab) ∧ Cel w_ w1.heap.size 142 [.int .u32 ((s0_ : Nat) : Int), .int .u32 ((s1_ : Nat) : Int), .int .u32 ((s2_ : Nat) : Int), .int .u32 ((s3_ : Nat) : Int), .int .u32 ((s4_ : Nat) : Int), .int .u32 ((s5_ : Nat) : Int), .int .u32 ((s6_ : Nat) : Int), .int .u32 ((s7_ : Nat) : Int), .slice A r.length C, .int .i64 L] ∧ Cel w_ w2.heap.size 142 [.int .u32 0, .int .u32 0, .int .u32 0, .int .u32 0, .int .u32 0, .int .u32 0, .int .u32 0, .int .u32 0, .slice none 0 0, .int .i64 0] ∧ Cel w_ w4.heap.size 142 [.int .u32 ((q0 : Nat) : Int), .int .u32 ((q1 : Nat) : Int), .int .u32 ((q2 : Nat) : Int), .int .u32 ((q3 : Nat) : Int), .int .u32 ((q4 : Nat) : Int), .int .u32 ((q5 : Nat) : Int), .int .u32 ((q6 : Nat) : Int), .int .u32 ((q7 : Nat) : Int), .slice none 0 0, .int .i64 (L + ((bs.length : Nat) : Int))] ∧ Own 5 .u8 w6.heap.size w_ va2 (nn (r ++ bs)) ∧ Own 5 .u8 wl0.heap.size w_ (.slice none 0 0) [] ∧ wl0.heap.size ≤ w_.heap.size) 7 8 ⟨BL.e0 e6, R.e0 e6, D.e0 e6, b3.e0 e6, b4.e0 e6, b6.e0 e6, b7.e0 e6, AL.e0 e6, RN.e0 e6, Nat.le_refl _⟩ ?_
    clear BL R D b3 b4 b6 b7 AL RN
    clear e6
    intro w12
    rintro ⟨BL, R, D, b3, b4, b6, b7, AL, RN, z2⟩
    refine zv 0 46 (.pointer (some ⟨w4.heap.size, 8, none⟩)) (fun _ _ => .of) ⟨BL, R, D, b3, b4, b6, b7, AL, by omega⟩ ?_
    simp only [sZ, sS]
    refine zv 1 47 (.slice none 0 0) (fun _ ⟨BL, R, D, b3, b4, b6, b7, AL, z2⟩ => Val.cel1 29 _ rfl w4.heap.size 8 _ (by kernel_rfl) (fun _ => (by kernel_rfl)) b7 rfl) ⟨BL, R, D, b3, b4, b6, b7, AL, by omega⟩ ?_
    simp only [sZ, sS]
    refine zv 2 48 (va2) (fun _ _ => .of) ⟨BL, R, D, b3, b4, b6, b7, AL, by omega⟩ ?_
    simp only [sZ, sS]
    refine zv 3 49 (.int .i64 ((64 * k : Nat) : Int)) (fun _ _ => .of) ⟨BL, R, D, b3, b4, b6, b7, AL, by omega⟩ ?_
    simp only [sZ, sS]
    refine zv 4 50 (sliceV va2 (64 * k) ((nn (r ++ bs)).length)) (fun _ ⟨BL, R, D, b3, b4, b6, b7, AL, z2⟩ => Val.slc 29 (.tmp 48) (some (.tmp 49)) none rfl va2 (by kernel_rfl) AL.sl (64 * k) ((nn (r ++ bs)).length) (.inl (by kernel_rfl)) (.inr ⟨rfl, rfl⟩) (by rw [nn_len]; omega) (Nat.le_refl _) Try.underlying29 (by kernel_rfl)) ⟨BL, R, D, b3, b4, b6, b7, AL, by omega⟩ ?_
    simp only [sZ, sS]
    refine zo1 5 rfl ?_
    refine xApp 51 (.tmp 47) (.tmp 50) 29 5 .u8 1 rfl Try.underlying29 (by kernel_rfl) wl0.heap.size (.slice none 0 0) [] (by kernel_rfl) RN (sliceV va2 (64 * k) ((nn (r ++ bs)).length)) (((nn (r ++ bs)).drop (64 * k)).take (((nn (r ++ bs)).length) - (64 * k))) (by kernel_rfl) (AL.sl.slice (64 * k) ((nn (r ++ bs)).length) (by rw [nn_len]; omega) (Nat.le_refl _)) ?va3_1 ?va3_2 ?va3_3 ?_
    case va3_1 => (simp only [nn_len, List.length_append, List.length_nil, List.length_take, List.length_drop]; omega)
    case va3_2 => (simp only [nn_len, List.length_append, List.length_nil, List.length_take, List.length_drop]; unfold maxLen; omega)
    case va3_3 => omega
    intro va3 w13 rva3 e7
    have ze7 := e7.size
    have BL_ := BL.ev e7 (fun i h => by have := lRN_1 _ h; omega)
    have R_ := R.ev e7 (fun i hi h => by have := hrl i hi; have := lRN_1 _ h; omega)
    have D_ := D.ev e7 (fun i hi h => by have := hdl i hi; have := lRN_1 _ h; omega)
    have b3_ := b3.ev e7 (fun h => by have := lRN_1 _ h; omega)
    have b4_ := b4.ev e7 (fun h => by have := lRN_1 _ h; omega)
    have b6_ := b6.ev e7 (fun h => by have := lRN_1 _ h; omega)
    have b7_ := b7.ev e7 (fun h => by have := lRN_1 _ h; omega)
    have AL_ := AL.ev e7 (fun i hi h => by have := lAL_4 i hi; have := lRN_1 _ h; omega)
    replace BL := BL_; clear BL_
    replace R := R_; clear R_
    replace D := D_; clear D_
    replace b3 := b3_; clear b3_
    replace b4 := b4_; clear b4_
    replace b6 := b6_; clear b6_
    replace b7 := b7_; clear b7_
    replace AL := AL_; clear AL_
    replace RN := rva3
    clear rva3 e7
    have lRN_2 := RN.ge
    refine ze 5 ⟨BL, R, D, b3, b4, b6, b7, AL, by omega⟩ ?_
    simp only [sZ, sS]
    refine zv 6 52 (.pointer (some ⟨w4.heap.size, 8, none⟩)) (fun _ _ => .of) ⟨BL, R, D, b3, b4, b6, b7, AL, by omega⟩ ?_
    simp only [sZ, sS]
    refine zo1 7 rfl ?_
    refine xStore 29 (.tmp 52) (.tmp 51) rfl w4.heap.size 142 [.int .u32 ((q0 : Nat) : Int), .int .u32 ((q1 : Nat) : Int), .int .u32 ((q2 : Nat) : Int), .int .u32 ((q3 : Nat) : Int), .int .u32 ((q4 : Nat) : Int), .int .u32 ((q5 : Nat) : Int), .int .u32 ((q6 : Nat) : Int), .int .u32 ((q7 : Nat) : Int), .slice none 0 0, .int .i64 (L + ((bs.length : Nat) : Int))] 8 va3 (by kernel_rfl) (by kernel_rfl) b7 (by kernel_rfl) (by simp) RN.sl.oneCell [.int .u32 ((q0 : Nat) : Int), .int .u32 ((q1 : Nat) : Int), .int .u32 ((q2 : Nat) : Int), .int .u32 ((q3 : Nat) : Int), .int .u32 ((q4 : Nat) : Int), .int .u32 ((q5 : Nat) : Int), .int .u32 ((q6 : Nat) : Int), .int .u32 ((q7 : Nat) : Int), va3, .int .i64 (L + ((bs.length : Nat) : Int))] rfl ?_
    intro w14 t3
    have zt3 := t3.z
    have BL_ := BL.ev t3.e (fun i h => show w.heap.size ≤ i by have h : i = w4.heap.size := h; omega)
    have R_ := R.ev t3.e (fun i hi => show ¬ (i = w4.heap.size) by have := hrl i hi; omega)
    have D_ := D.ev t3.e (fun i hi => show ¬ (i = w4.heap.size) by have := hdl i hi; omega)
    have b3_ := b3.ev t3.e (show ¬ (w.heap.size = w4.heap.size) by omega)
    have b4_ := b4.ev t3.e (show ¬ (w1.heap.size = w4.heap.size) by omega)
    have b6_ := b6.ev t3.e (show ¬ (w2.heap.size = w4.heap.size) by omega)
    have AL_ := AL.ev t3.e (fun i hi => show ¬ (i = w4.heap.size) by have := lAL_4 i hi; omega)
    have RN_ := RN.ev t3.e (fun i hi => show ¬ (i = w4.heap.size) by have := lRN_2 i hi; omega)
    replace BL := BL_; clear BL_
    replace R := R_; clear R_
    replace D := D_; clear D_
    replace b3 := b3_; clear b3_
    replace b4 := b4_; clear b4_
    replace b6 := b6_; clear b6_
    replace AL := AL_; clear AL_
    replace RN := RN_; clear RN_
    replace b7 : Cel w14 w4.heap.size 142 [.int .u32 ((q0 : Nat) : Int), .int .u32 ((q1 : Nat) : Int), .int .u32 ((q2 : Nat) : Int), .int .u32 ((q3 : Nat) : Int), .int .u32 ((q4 : Nat) : Int), .int .u32 ((q5 : Nat) : Int), .int .u32 ((q6 : Nat) : Int), .int .u32 ((q7 : Nat) : Int), va3, .int .i64 (L + ((bs.length : Nat) : Int))] := t3.c
    clear t3
    refine zz 7 ?_
    refine zd (by kernel_rfl) ?_ _
    refine hK13 _ _ ?_
    refine wp_seq_k fun K14 hK14 => ?_
    refine cPlain ?_
    refine sv 53 (.agg #[.int .u32 ((q0 : Nat) : Int), .int .u32 ((q1 : Nat) : Int), .int .u32 ((q2 : Nat) : Int), .int .u32 ((q3 : Nat) : Int), .int .u32 ((q4 : Nat) : Int), .int .u32 ((q5 : Nat) : Int), .int .u32 ((q6 : Nat) : Int), .int .u32 ((q7 : Nat) : Int), va3, .int .i64 (L + ((bs.length : Nat) : Int))]) (Val.cel 142 _ rfl 0 10 (by kernel_rfl) b7 _ Try.underlying142 rfl (by kernel_rfl) (by simp) [.int .u32 ((q0 : Nat) : Int), .int .u32 ((q1 : Nat) : Int), .int .u32 ((q2 : Nat) : Int), .int .u32 ((q3 : Nat) : Int), .int .u32 ((q4 : Nat) : Int), .int .u32 ((q5 : Nat) : Int), .int .u32 ((q6 : Nat) : Int), .int .u32 ((q7 : Nat) : Int), va3, .int .i64 (L + ((bs.length : Nat) : Int))] rfl) ?_
    simp only [sZ, sS]
    refine xStoreR 142 (.tmp 6) (.tmp 53) rfl w2.heap.size 142 [.int .u32 0, .int .u32 0, .int .u32 0, .int .u32 0, .int .u32 0, .int .u32 0, .int .u32 0, .int .u32 0, .slice none 0 0, .int .i64 0] 0 [.int .u32 ((q0 : Nat) : Int), .int .u32 ((q1 : Nat) : Int), .int .u32 ((q2 : Nat) : Int), .int .u32 ((q3 : Nat) : Int), .int .u32 ((q4 : Nat) : Int), .int .u32 ((q5 : Nat) : Int), .int .u32 ((q6 : Nat) : Int), .int .u32 ((q7 : Nat) : Int), va3, .int .i64 (L + ((bs.length : Nat) : Int))] (by kernel_rfl) (by kernel_rfl) b6 (by kernel_rfl) (by simp) (allC rfl (allC rfl (allC rfl (allC rfl (allC rfl (allC rfl (allC rfl (allC rfl (allC RN.sl.oneCell (allC rfl allN)))))))))) [.int .u32 ((q0 : Nat) : Int), .int .u32 ((q1 : Nat) : Int), .int .u32 ((q2 : Nat) : Int), .int .u32 ((q3 : Nat) : Int), .int .u32 ((q4 : Nat) : Int), .int .u32 ((q5 : Nat) : Int), .int .u32 ((q6 : Nat) : Int), .int .u32 ((q7 : Nat) : Int), va3, .int .i64 (L + ((bs.length : Nat) : Int))] rfl ?_
    intro w15 t4
    have zt4 := t4.z
    have BL_ := BL.ev t4.e (fun i h => show w.heap.size ≤ i by have h : i = w2.heap.size := h; omega)
    have R_ := R.ev t4.e (fun i hi => show ¬ (i = w2.heap.size) by have := hrl i hi; omega)
    have D_ := D.ev t4.e (fun i hi => show ¬ (i = w2.heap.size) by have := hdl i hi; omega)
    have b3_ := b3.ev t4.e (show ¬ (w.heap.size = w2.heap.size) by omega)
    have b4_ := b4.ev t4.e (show ¬ (w1.heap.size = w2.heap.size) by omega)
    have b7_ := b7.ev t4.e (show ¬ (w4.heap.size = w2.heap.size) by omega)
    have AL_ := AL.ev t4.e (fun i hi => show ¬ (i = w2.heap.size) by have := lAL_4 i hi; omega)
    have RN_ := RN.ev t4.e (fun i hi => show ¬ (i = w2.heap.size) by have := lRN_2 i hi; omega)
    replace BL := BL_; clear BL_
    replace R := R_; clear R_
    replace D := D_; clear D_
    replace b3 := b3_; clear b3_
    replace b4 := b4_; clear b4_
    replace b7 := b7_; clear b7_
    replace AL := AL_; clear AL_
    replace RN := RN_; clear RN_
    replace b6 : Cel w15 w2.heap.size 142 [.int .u32 ((q0 : Nat) : Int), .int .u32 ((q1 : Nat) : Int), .int .u32 ((q2 : Nat) : Int), .int .u32 ((q3 : Nat) : Int), .int .u32 ((q4 : Nat) : Int), .int .u32 ((q5 : Nat) : Int), .int .u32 ((q6 : Nat) : Int), .int .u32 ((q7 : Nat) : Int), va3, .int .i64 (L + ((bs.length : Nat) : Int))] := t4.c
    clear t4
    refine wpList_nil ?_
    refine hK14 _ _ ?_
    refine wp_ret ?_
    (try simp only [Exit.then, Exit.inBlock])
    refine bodyPost_ret (rC rfl _ w2.heap.size _ _ (by kernel_rfl) b6 _ Try.underlying142 rfl (by kernel_rfl)) rfl ?_
    rw [hk, ← hc0_1]
    exact ⟨_, rfl, (RN.cast hdrop.symm).mono (by omega), BL.b⟩

end Go.Proofs.Ytanggdnmoaflfaa
