/-
  sha: hashers.
-/
import Derived.Test.YtanggdnmoaflfaaShaGrow
import Derived.Test.YtanggdnmoaflfaaShaBlk
namespace Go.Proofs.Ytanggdnmoaflfaa
open Go.RowKit
set_option linter.unusedVariables false
set_option linter.unusedSimpArgs false
set_option maxRecDepth 100000
attribute [local irreducible] wpList Code.wp wpAnyZ
/-- A hasher, as a value. -/
def hashV (s : List Nat) (v : Value) (n : Int) : Value := .agg ((nn s).map (Value.int .u32) ++ [v, .int .i64 n]).toArray
theorem list8 {α : Type} (s : List α) (h : s.length = 8) : ∃ a b c d e f g i, s = [a, b, c, d, e, f, g, i] := by
  match s, h with
  | [a, b, c, d, e, f, g, i], _ => exact ⟨a, b, c, d, e, f, g, i, rfl⟩
/-- Is a hasher right (k bytes held)? -/
def rightN (k : Nat) (n : Int) : Bool := decide (0 ≤ n ∧ n ≤ 72057594037927936 ∧ (k : Int) = n % 64)

theorem right_neg (s0 s1 s2 s3 s4 s5 s6 s7 : Nat) (v : Value) (L : Int) (hL : L < 0) (w : World) :
    Calls Try.prog 110 #[hashV [s0, s1, s2, s3, s4, s5, s6, s7] v (L)] w fun e w' => e = .returned (.bool false) ∧ Below w.heap.size w w' := by
  have BL := Bl.refl w
  go_enter Try.func110, Try.ntmps110
  refine wp_seq_k fun K1 hK1 => ?_
  refine cPlain ?_
  refine xBox 1 142 _ [.int .u32 ((s0 : Nat) : Int), .int .u32 ((s1 : Nat) : Int), .int .u32 ((s2 : Nat) : Int), .int .u32 ((s3 : Nat) : Int), .int .u32 ((s4 : Nat) : Int), .int .u32 ((s5 : Nat) : Int), .int .u32 ((s6 : Nat) : Int), .int .u32 ((s7 : Nat) : Int), v, .int .i64 L] rfl (by kernel_rfl) ?_
  intro w1 n1
  have zn1 := n1.z
  have b1 := n1.c
  replace BL := BL.e0 n1.e
  simp only [sZ, sS]
  refine sv 2 (.bool false) .of ?_
  simp only [sZ, sS]
  refine wpList_nil ?_
  refine hK1 _ _ ?_
  refine wp_seq_k fun K2 hK2 => ?_
  refine cPlain ?_
  refine sv 3 (.pointer (some ⟨w.heap.size, 9, none⟩)) .of ?_
  simp only [sZ, sS]
  refine sv 4 (.int .i64 L) (Val.cel1 3 _ rfl w.heap.size 9 _ (by kernel_rfl) (fun _ => (by kernel_rfl)) b1 rfl) ?_
  simp only [sZ, sS]
  refine sv 5 (.bool (decide (0 ≤ L))) (Val.cmp .geq 3 _ (.tmp 4) _ rfl .i64 L 0 (by kernel_rfl) (by kernel_rfl) (by simp) _ rfl) ?_
  simp only [sZ, sS]
  refine sv 6 (.bool (decide (0 ≤ L))) .of ?_
  simp only [sZ, sS]
  by_cases g7 : 0 ≤ L
  · skip
    omega
  · skip
    have dg7 : decide (0 ≤ L) = false := decide_eq_false g7
    simp only [dg7]
    clear dg7
    refine xSkip 7 ?_
    simp only [sZ, sS]
    refine xSkip 8 ?_
    simp only [sZ, sS]
    refine xSkip 9 ?_
    simp only [sZ, sS]
    refine sv 10 (.bool false) .of ?_
    simp only [sZ, sS]
    refine sv 11 (.bool false) .of ?_
    simp only [sZ, sS]
    refine xSkip 12 ?_
    simp only [sZ, sS]
    refine xSkip 13 ?_
    simp only [sZ, sS]
    refine xSkip 14 ?_
    simp only [sZ, sS]
    refine xSkip 15 ?_
    simp only [sZ, sS]
    refine xSkip 16 ?_
    simp only [sZ, sS]
    refine xSkip 17 ?_
    simp only [sZ, sS]
    refine xSkip 18 ?_
    simp only [sZ, sS]
    refine sv 19 (.bool false) .of ?_
    simp only [sZ, sS]
    refine sv 2 (.bool false) .of ?_
    simp only [sZ, sS]
    refine wpList_nil ?_
    refine hK2 _ _ ?_
    refine wp_ret ?_
    (try simp only [Exit.then, Exit.inBlock])
    refine bodyPost_ret (v := .bool false) rT rfl ?_
    exact ⟨rfl, BL.b⟩

theorem right_nat (s0 s1 s2 s3 s4 s5 s6 s7 : Nat) (A : Option Addr) (n C : Nat) (L : Nat) (w : World) :
    Calls Try.prog 110 #[hashV [s0, s1, s2, s3, s4, s5, s6, s7] (.slice A n C) (L : Int)] w fun e w' => e = .returned (.bool (rightN n L)) ∧ Below w.heap.size w w' := by
  have BL := Bl.refl w
  go_enter Try.func110, Try.ntmps110
  refine wp_seq_k fun K1 hK1 => ?_
  refine cPlain ?_
  refine xBox 1 142 _ [.int .u32 ((s0 : Nat) : Int), .int .u32 ((s1 : Nat) : Int), .int .u32 ((s2 : Nat) : Int), .int .u32 ((s3 : Nat) : Int), .int .u32 ((s4 : Nat) : Int), .int .u32 ((s5 : Nat) : Int), .int .u32 ((s6 : Nat) : Int), .int .u32 ((s7 : Nat) : Int), .slice A n C, .int .i64 (L : Int)] rfl (by kernel_rfl) ?_
  intro w1 n1
  have zn1 := n1.z
  have b1 := n1.c
  replace BL := BL.e0 n1.e
  simp only [sZ, sS]
  refine sv 2 (.bool false) .of ?_
  simp only [sZ, sS]
  refine wpList_nil ?_
  refine hK1 _ _ ?_
  refine wp_seq_k fun K2 hK2 => ?_
  refine cPlain ?_
  refine sv 3 (.pointer (some ⟨w.heap.size, 9, none⟩)) .of ?_
  simp only [sZ, sS]
  refine sv 4 (.int .i64 (L : Int)) (Val.cel1 3 _ rfl w.heap.size 9 _ (by kernel_rfl) (fun _ => (by kernel_rfl)) b1 rfl) ?_
  simp only [sZ, sS]
  refine sv 5 (.bool (decide (0 ≤ (L : Int)))) (Val.cmp .geq 3 _ (.tmp 4) _ rfl .i64 (L : Int) 0 (by kernel_rfl) (by kernel_rfl) (by simp) _ rfl) ?_
  simp only [sZ, sS]
  refine sv 6 (.bool (decide (0 ≤ (L : Int)))) .of ?_
  simp only [sZ, sS]
  by_cases g7 : 0 ≤ (L : Int)
  · skip
    have dg7 : decide (0 ≤ (L : Int)) = true := decide_eq_true g7
    simp only [dg7]
    clear dg7
    refine sv 7 (.pointer (some ⟨w.heap.size, 9, none⟩)) .of ?_
    simp only [sZ, sS]
    refine sv 8 (.int .i64 (L : Int)) (Val.cel1 3 _ rfl w.heap.size 9 _ (by kernel_rfl) (fun _ => (by kernel_rfl)) b1 rfl) ?_
    simp only [sZ, sS]
    refine sv 9 (.bool (decide ((L : Int) ≤ 72057594037927936))) (Val.cmp .leq 3 _ (.tmp 8) _ rfl .i64 (L : Int) 72057594037927936 (by kernel_rfl) (by kernel_rfl) (by simp) _ rfl) ?_
    simp only [sZ, sS]
    refine sv 10 (.bool (decide ((L : Int) ≤ 72057594037927936))) .of ?_
    simp only [sZ, sS]
    refine sv 11 (.bool (decide ((L : Int) ≤ 72057594037927936))) .of ?_
    simp only [sZ, sS]
    by_cases g12 : (L : Int) ≤ 72057594037927936
    · skip
      have dg12 : decide ((L : Int) ≤ 72057594037927936) = true := decide_eq_true g12
      simp only [dg12]
      clear dg12
      refine sv 12 (.pointer (some ⟨w.heap.size, 8, none⟩)) .of ?_
      simp only [sZ, sS]
      refine sv 13 (.slice A n C) (Val.cel1 29 _ rfl w.heap.size 8 _ (by kernel_rfl) (fun _ => (by kernel_rfl)) b1 rfl) ?_
      simp only [sZ, sS]
      refine sv 14 (.int .i64 (n : Int)) .of ?_
      simp only [sZ, sS]
      refine sv 15 (.pointer (some ⟨w.heap.size, 9, none⟩)) .of ?_
      simp only [sZ, sS]
      refine sv 16 (.int .i64 (L : Int)) (Val.cel1 3 _ rfl w.heap.size 9 _ (by kernel_rfl) (fun _ => (by kernel_rfl)) b1 rfl) ?_
      simp only [sZ, sS]
      refine sv 17 (.int .i64 ((L % 64 : Nat) : Int)) (Val.as (Val.remN 3 _ (.tmp 16) _ rfl .i64 L 64 (by kernel_rfl) (by kernel_rfl) (by omega)) (congrArg (Value.int .i64) (by omega))) ?_
      simp only [sZ, sS]
      refine sv 18 (.bool (decide ((n : Int) = ((L % 64 : Nat) : Int)))) (Val.cmp .eql 3 _ (.tmp 14) (.tmp 17) rfl .i64 (n : Int) ((L % 64 : Nat) : Int) (by kernel_rfl) (by kernel_rfl) (by simp) _ rfl) ?_
      simp only [sZ, sS]
      refine sv 19 (.bool (decide ((n : Int) = ((L % 64 : Nat) : Int)))) .of ?_
      simp only [sZ, sS]
      refine sv 2 (.bool (decide ((n : Int) = ((L % 64 : Nat) : Int)))) .of ?_
      simp only [sZ, sS]
      refine wpList_nil ?_
      refine hK2 _ _ ?_
      refine wp_ret ?_
      (try simp only [Exit.then, Exit.inBlock])
      refine bodyPost_ret (v := .bool (decide ((n : Int) = ((L % 64 : Nat) : Int)))) rT rfl ?_
      have hR : rightN n L = (decide ((n : Int) = ((L % 64 : Nat) : Int))) := (by unfold rightN; first | exact decide_eq_decide.2 (by omega) | exact decide_eq_true (by omega) | exact decide_eq_false (by omega))
      rw [hR]
      exact ⟨rfl, BL.b⟩
    · skip
      have dg12 : decide ((L : Int) ≤ 72057594037927936) = false := decide_eq_false g12
      simp only [dg12]
      clear dg12
      refine xSkip 12 ?_
      simp only [sZ, sS]
      refine xSkip 13 ?_
      simp only [sZ, sS]
      refine xSkip 14 ?_
      simp only [sZ, sS]
      refine xSkip 15 ?_
      simp only [sZ, sS]
      refine xSkip 16 ?_
      simp only [sZ, sS]
      refine xSkip 17 ?_
      simp only [sZ, sS]
      refine xSkip 18 ?_
      simp only [sZ, sS]
      refine sv 19 (.bool false) .of ?_
      simp only [sZ, sS]
      refine sv 2 (.bool false) .of ?_
      simp only [sZ, sS]
      refine wpList_nil ?_
      refine hK2 _ _ ?_
      refine wp_ret ?_
      (try simp only [Exit.then, Exit.inBlock])
      refine bodyPost_ret (v := .bool false) rT rfl ?_
      have hR : rightN n L = false := (by unfold rightN; first | exact decide_eq_decide.2 (by omega) | exact decide_eq_true (by omega) | exact decide_eq_false (by omega))
      rw [hR]
      exact ⟨rfl, BL.b⟩
  · skip
    omega

/-- sha.right -/
theorem right_any (s : List Nat) (hs : s.length = 8) (A : Option Addr) (n C : Nat) (L : Int) (w : World) :
    Calls Try.prog 110 #[hashV s (.slice A n C) L] w fun e w' => e = .returned (.bool (rightN n L)) ∧ Below w.heap.size w w' := by
  obtain ⟨a, b, c, d, e, f, g, i, rfl⟩ := list8 s hs
  by_cases hL : 0 ≤ L
  · obtain ⟨m, rfl⟩ := Int.eq_ofNat_of_zero_le hL
    exact right_nat a b c d e f g i A n C m w
  · have hR : rightN n L = false := decide_eq_false (by omega)
    rw [hR]
    exact right_neg a b c d e f g i _ L (by omega) w
theorem new_any (T : Nat) (tab : List Nat) (ht : tab.length = 72) (w : World) (TB : Blk .u32 w T 35 (nn tab)) :
    Calls Try.prog 103 #[.pointer (some ⟨T, 0, none⟩)] w fun e w' => e = .returned (hashV (tab.take 8) (.slice none 0 0) 0) ∧ Below w.heap.size w w' := by
  have BL := Bl.refl w
  have hT := TB.lt
  obtain ⟨r0, r1, r2, r3, r4, r5, r6, r7, hq⟩ := list8 (tab.take 8) (by rw [List.length_take]; omega)
  have hseg : seg 0 8 (nn tab) = nn [r0, r1, r2, r3, r4, r5, r6, r7] := by rw [← hq, nn_take]; rfl
  rw [hq]
  go_enter Try.func103, Try.ntmps103
  refine wp_seq_k fun K1 hK1 => ?_
  refine cPlain ?_
  refine xAlloc 2 142 [.int .u32 0, .int .u32 0, .int .u32 0, .int .u32 0, .int .u32 0, .int .u32 0, .int .u32 0, .int .u32 0, .slice none 0 0, .int .i64 0] rfl (by kernel_rfl) ?_
  intro w1 n1
  have zn1 := n1.z
  have b2 := n1.c
  replace TB := TB.e0 n1.e
  replace BL := BL.e0 n1.e
  simp only [sZ, sS]
  refine wpList_nil ?_
  refine hK1 _ _ ?_
  refine wp_seq_k fun K2 hK2 => ?_
  refine wp_seq_k fun K3 hK3 => ?_
  refine cPlain ?_
  refine sv 3 (.pointer (some ⟨T, 0, none⟩)) .of ?_
  simp only [sZ, sS]
  refine sv 4 (.bool false) .of ?_
  simp only [sZ, sS]
  refine wpList_nil ?_
  refine hK3 _ _ ?_
  refine cF ?_
  refine wp_skip ?_
  refine hK2 _ _ ?_
  refine wp_seq_k fun K4 hK4 => ?_
  refine cPlain ?_
  refine sv 6 (.pointer (some ⟨T, 0, none⟩)) .of ?_
  simp only [sZ, sS]
  refine sv 7 (.pointer (some ⟨T, 0, none⟩)) .of ?_
  simp only [sZ, sS]
  refine sv 8 (.pointer (some ⟨T, 0, none⟩)) .of ?_
  simp only [sZ, sS]
  refine sv 9 (.agg (cellsOf .u32 (nn [r0, r1, r2, r3, r4, r5, r6, r7]))) (Val.blk 32 _ rfl 0 8 (by kernel_rfl) TB _ Try.underlying32 rfl (by kernel_rfl) (by rw [nn_len]; omega) _ hseg) ?_
  simp only [sZ, sS]
  refine sv 10 (.agg #[.int .u32 ((r0 : Nat) : Int), .int .u32 ((r1 : Nat) : Int), .int .u32 ((r2 : Nat) : Int), .int .u32 ((r3 : Nat) : Int), .int .u32 ((r4 : Nat) : Int), .int .u32 ((r5 : Nat) : Int), .int .u32 ((r6 : Nat) : Int), .int .u32 ((r7 : Nat) : Int), .slice none 0 0, .int .i64 0]) .of ?_
  simp only [sZ, sS]
  refine xStoreR 142 (.tmp 2) (.tmp 10) rfl w.heap.size 142 [.int .u32 0, .int .u32 0, .int .u32 0, .int .u32 0, .int .u32 0, .int .u32 0, .int .u32 0, .int .u32 0, .slice none 0 0, .int .i64 0] 0 [.int .u32 ((r0 : Nat) : Int), .int .u32 ((r1 : Nat) : Int), .int .u32 ((r2 : Nat) : Int), .int .u32 ((r3 : Nat) : Int), .int .u32 ((r4 : Nat) : Int), .int .u32 ((r5 : Nat) : Int), .int .u32 ((r6 : Nat) : Int), .int .u32 ((r7 : Nat) : Int), .slice none 0 0, .int .i64 0] (by kernel_rfl) (by kernel_rfl) b2 (by kernel_rfl) (by simp) rfl [.int .u32 ((r0 : Nat) : Int), .int .u32 ((r1 : Nat) : Int), .int .u32 ((r2 : Nat) : Int), .int .u32 ((r3 : Nat) : Int), .int .u32 ((r4 : Nat) : Int), .int .u32 ((r5 : Nat) : Int), .int .u32 ((r6 : Nat) : Int), .int .u32 ((r7 : Nat) : Int), .slice none 0 0, .int .i64 0] rfl ?_
  intro w2 t1
  have zt1 := t1.z
  have TB_ := TB.ev t1.e (show ¬ (T = w.heap.size) by omega)
  have BL_ := BL.ev t1.e (fun i h => show w.heap.size ≤ i by have h : i = w.heap.size := h; omega)
  replace TB := TB_; clear TB_
  replace BL := BL_; clear BL_
  replace b2 : Cel w2 w.heap.size 142 [.int .u32 ((r0 : Nat) : Int), .int .u32 ((r1 : Nat) : Int), .int .u32 ((r2 : Nat) : Int), .int .u32 ((r3 : Nat) : Int), .int .u32 ((r4 : Nat) : Int), .int .u32 ((r5 : Nat) : Int), .int .u32 ((r6 : Nat) : Int), .int .u32 ((r7 : Nat) : Int), .slice none 0 0, .int .i64 0] := t1.c
  clear t1
  refine wpList_nil ?_
  refine hK4 _ _ ?_
  refine wp_ret ?_
  (try simp only [Exit.then, Exit.inBlock])
  refine bodyPost_ret (rC rfl _ w.heap.size _ _ (by kernel_rfl) b2 _ Try.underlying142 rfl (by kernel_rfl)) rfl ?_
  exact ⟨rfl, BL.b⟩

/-- What stands behind so many bytes. -/
def padB (n i : Nat) : Nat := (((((n % 18446744073709551616) <<< 3) % 18446744073709551616) >>> (56 - 8 * i))) % 256
def padZ (n : Nat) : List Nat := 128 :: List.replicate ((119 - n % 64) % 64) 0
def padN (n : Nat) : List Nat := padZ n ++ (List.range 8).map (padB n)
theorem padN_len (n : Nat) : (padN n).length = 9 + (119 - n % 64) % 64 := by simp [padN, padZ]; omega

theorem pad_nat (n : Nat) (w : World) :
    Calls Try.prog 113 #[.int .i64 (n : Int)] w fun e w' => ∃ r, e = .returned r ∧ Own 5 .u8 w.heap.size w' r (nn (padN n)) ∧ Below w.heap.size w w' := by
  have BL := Bl.refl w
  go_enter Try.func113, Try.ntmps113
  refine wp_seq_k fun K1 hK1 => ?_
  refine cPlain ?_
  refine sv 2 (.slice none 0 0) .of ?_
  simp only [sZ, sS]
  refine wpList_nil ?_
  refine hK1 _ _ ?_
  refine wp_seq_k fun K2 hK2 => ?_
  refine wp_seq_k fun K3 hK3 => ?_
  refine cPlain ?_
  refine sv 5 (.int .i64 (n : Int)) .of ?_
  simp only [sZ, sS]
  refine sv 6 (.bool (decide ((n : Int) < 0))) (Val.cmp .lss 3 _ (.tmp 5) _ rfl .i64 (n : Int) 0 (by kernel_rfl) (by kernel_rfl) (by simp) _ rfl) ?_
  simp only [sZ, sS]
  refine wpList_nil ?_
  refine hK3 _ _ ?_
  refine cDec ((n : Int) < 0) (by kernel_rfl) (fun c6 => ?_) (fun c6 => ?_)
  · skip
    omega
  · skip
    refine wp_skip ?_
    refine hK2 _ _ ?_
    refine wp_seq_k fun K4 hK4 => ?_
    refine cPlain ?_
    refine xLit 7 29 5 1 _ #[(0, .int .u8 128)] [.int .u8 128] rfl (by kernel_rfl) (by kernel_rfl) ?_
    intro w1 nw
    have e1 : E0 w w1 := nw.e
    have ze1 := e1.size
    replace BL := BL.e0 e1
    clear e1
    have OA : Own 5 .u8 w.heap.size w1 (.slice (some ⟨w.heap.size, 0, none⟩) 1 1) [128] := Own.ofNw nw (Nat.le_refl _) (by unfold maxLen; decide)
    have lOA_1 := OA.ge
    simp only [sZ, sS]
    refine sv 3 (.slice (some ⟨w.heap.size, 0, none⟩) 1 1) .of ?_
    simp only [sZ, sS]
    refine wpList_nil ?_
    refine hK4 _ _ ?_
    refine wp_seq_k fun K5 hK5 => ?_
    refine wp_block ?_
    refine cLoop (fun N_ A_ w_ => ∃ (z : Nat) (u : Value), (N_ = (119 - n % 64) % 64 - z ∧ (z ≤ (119 - n % 64) % 64) ∧ (∃ s1 : Nat → Value, A_ = ⟨[.int .i64 (n : Int), undef, .slice none 0 0, u, undef, .int .i64 (n : Int), .bool (decide ((n : Int) < 0)), .slice (some ⟨w.heap.size, 0, none⟩) 1 1, (s1 8), (s1 9), (s1 10), (s1 11), (s1 12), (s1 13), (s1 14), (s1 15), (s1 16), (s1 17), undef, undef, undef, undef, undef, undef, undef, undef, undef, undef, undef, undef, undef, undef, undef, undef].toArray, []⟩) ∧ Bl w.heap.size w w_ ∧ Own 5 .u8 w.heap.size w_ u (nn (128 :: List.replicate z 0)) ∧ w1.heap.size ≤ w_.heap.size)) _ ⟨0, .slice (some ⟨w.heap.size, 0, none⟩) 1 1, rfl, (by omega), cutE, BL, (OA.cast rfl), Nat.le_refl _⟩ ?_
    clear BL OA
    rintro n_ a_ wl0 ⟨z, u, rfl, hc0_0, ⟨s1, rfl⟩, BL, OA, zl0⟩
    have lOA_2 := OA.ge
    refine wp_seq_k fun K6 hK6 => ?_
    refine wp_seq_k fun K7 hK7 => ?_
    refine cPlain ?_
    refine sv 8 (.int .i64 (n : Int)) .of ?_
    simp only [sZ, sS]
    refine sv 9 (.int .i64 ((n % 64 : Nat) : Int)) (Val.as (Val.remN 3 _ (.tmp 8) _ rfl .i64 n 64 (by kernel_rfl) (by kernel_rfl) (by omega)) (congrArg (Value.int .i64) (by omega))) ?_
    simp only [sZ, sS]
    refine sv 10 (u) .of ?_
    simp only [sZ, sS]
    refine sv 11 (.int .i64 ((z + 1 : Nat) : Int)) (Val.lenO (.tmp 10) 29 rfl (by kernel_rfl) OA (z + 1) (by simp [nn]) Try.underlying29) ?_
    simp only [sZ, sS]
    refine sv 12 (.int .i64 ((n % 64 + (z + 1) : Nat) : Int)) (Val.as (Val.add 3 _ (.tmp 9) (.tmp 11) rfl ((n % 64 : Nat) : Int) ((z + 1 : Nat) : Int) (by kernel_rfl) (by kernel_rfl) (by omega)) (congrArg (Value.int .i64) (by omega))) ?_
    simp only [sZ, sS]
    refine sv 13 (.int .i64 (((n % 64 + (z + 1)) % 64 : Nat) : Int)) (Val.as (Val.remN 3 _ (.tmp 12) _ rfl .i64 (n % 64 + (z + 1)) 64 (by kernel_rfl) (by kernel_rfl) (by omega)) (congrArg (Value.int .i64) (by omega))) ?_
    simp only [sZ, sS]
    refine sv 14 (.bool (decide (¬ ((((n % 64 + (z + 1)) % 64 : Nat) : Int) = 56)))) (Val.cmp .neq 3 _ (.tmp 13) _ rfl .i64 (((n % 64 + (z + 1)) % 64 : Nat) : Int) 56 (by kernel_rfl) (by kernel_rfl) (by simp) _ (by simp [cmpB])) ?_
    simp only [sZ, sS]
    refine wpList_nil ?_
    refine hK7 _ _ ?_
    refine cDec (¬ ((((n % 64 + (z + 1)) % 64 : Nat) : Int) = 56)) (by kernel_rfl) (fun c14 => ?_) (fun c14 => ?_)
    · skip
      refine wp_skip ?_
      refine hK6 _ _ ?_
      refine wp_block ?_
      refine cPlain ?_
      refine sv 15 (u) .of ?_
      simp only [sZ, sS]
      refine xLit 16 29 5 1 _ #[(0, .int .u8 0)] [.int .u8 0] rfl (by kernel_rfl) (by kernel_rfl) ?_
      intro w2 n1
      have zn1 := n1.z
      have b16 := n1.c
      replace b16 : Blk .u8 w2 wl0.heap.size 5 [0] := b16
      replace BL := BL.e0 n1.e
      replace OA := OA.e0 n1.e
      have sb16 : SL .u8 w2 (.slice (some ⟨wl0.heap.size, 0, none⟩) 1 1) [0] := SL.ofBlk b16 rfl (by unfold maxLen; omega)
      have lb16 : ∀ i, Value.ownBlock (.slice (some ⟨wl0.heap.size, 0, none⟩) 1 1) = some i → wl0.heap.size ≤ i ∧ i < w2.heap.size := ownB_lit (by omega)
      simp only [sZ, sS]
      refine xApp 17 (.tmp 15) (.tmp 16) 29 5 .u8 1 rfl Try.underlying29 (by kernel_rfl) w.heap.size u (nn (128 :: List.replicate z 0)) (by kernel_rfl) OA (.slice (some ⟨wl0.heap.size, 0, none⟩) 1 1) [0] (by kernel_rfl) sb16 ?va1_1 ?va1_2 ?va1_3 ?_
      case va1_1 => simp [nn]; omega
      case va1_2 => unfold maxLen; simp [nn]; omega
      case va1_3 => omega
      intro va1 w3 rva1 e2
      have ze2 := e2.size
      have BL_ := BL.ev e2 (fun i h => by have := lOA_2 _ h; omega)
      have b16_ := b16.ev e2 (fun h => by have := lOA_2 _ h; omega)
      have sb16_ := sb16.ev e2 (fun i hi h => by have := lb16 i hi; have := lOA_2 _ h; omega)
      replace BL := BL_; clear BL_
      replace b16 := b16_; clear b16_
      replace sb16 := sb16_; clear sb16_
      replace OA := rva1
      clear rva1 e2
      have lOA_3 := OA.ge
      simp only [sZ, sS]
      refine sv 3 (va1) .of ?_
      simp only [sZ, sS]
      refine wpList_nil ?_
      refine ⟨_, ?_, z + 1, va1, rfl, by omega, cutE, BL, (OA.cast (by rw [List.replicate_succ']; simp [nn])), by omega⟩
      omega
    · skip
      have hz0 : z = (119 - n % 64) % 64 := by omega
      refine wp_exit ?_
      simp only [Exit.then, Exit.inBlock, ↓reduceIte, Nat.reduceEqDiff]
      refine hK5 _ _ ?_
      refine wp_seq_k fun K8 hK8 => ?_
      refine wp_seq_k fun K9 hK9 => ?_
      refine cPlain ?_
      refine sv 18 (.int .i64 0) .of ?_
      simp only [sZ, sS]
      refine wpList_nil ?_
      refine hK9 _ _ ?_
      refine wp_block ?_
      refine cLoop (fun N_ A_ w_ => ∃ (i : Nat) (u2 : Value), (N_ = 8 - i ∧ (i ≤ 8) ∧ (∃ s2 : Nat → Value, A_ = ⟨[.int .i64 (n : Int), undef, .slice none 0 0, u2, (s2 4), .int .i64 (n : Int), .bool (decide ((n : Int) < 0)), .slice (some ⟨w.heap.size, 0, none⟩) 1 1, .int .i64 (n : Int), .int .i64 ((n % 64 : Nat) : Int), u, .int .i64 ((z + 1 : Nat) : Int), .int .i64 ((n % 64 + (z + 1) : Nat) : Int), .int .i64 (((n % 64 + (z + 1)) % 64 : Nat) : Int), .bool (decide (¬ ((((n % 64 + (z + 1)) % 64 : Nat) : Int) = 56))), (s1 15), (s1 16), (s1 17), .int .i64 (i : Int), (s2 19), (s2 20), (s2 21), (s2 22), (s2 23), (s2 24), (s2 25), (s2 26), (s2 27), (s2 28), (s2 29), (s2 30), (s2 31), (s2 32), undef].toArray, []⟩) ∧ Bl w.heap.size w w_ ∧ Own 5 .u8 w.heap.size w_ u2 (nn (padZ n ++ (List.range i).map (padB n))) ∧ wl0.heap.size ≤ w_.heap.size)) _ ⟨0, u, rfl, (by omega), cutE, BL, (OA.cast (by rw [hz0]; simp [padZ])), Nat.le_refl _⟩ ?_
      clear BL OA
      rintro n_ a_ wl1 ⟨i, u2, rfl, hc1_0, ⟨s2, rfl⟩, BL, OA, zl1⟩
      have lOA_4 := OA.ge
      refine wp_seq_k fun K10 hK10 => ?_
      refine cPlain ?_
      refine sv 19 (.bool (decide ((i : Int) < 8))) (Val.cmp .lss 3 _ (.tmp 18) _ rfl .i64 (i : Int) 8 (by kernel_rfl) (by kernel_rfl) (by simp) _ rfl) ?_
      simp only [sZ, sS]
      refine wpList_nil ?_
      refine hK10 _ _ ?_
      refine wp_seq_k fun K11 hK11 => ?_
      refine cDec ((i : Int) < 8) (by kernel_rfl) (fun c19 => ?_) (fun c19 => ?_)
      · skip
        refine wp_skip ?_
        refine hK11 _ _ ?_
        refine wp_seq_k fun K12 hK12 => ?_
        refine wp_block ?_
        refine wp_seq_k fun K13 hK13 => ?_
        refine cPlain ?_
        refine sv 20 (.int .i64 (i : Int)) .of ?_
        simp only [sZ, sS]
        refine sv 4 (.int .i64 (i : Int)) .of ?_
        simp only [sZ, sS]
        refine wpList_nil ?_
        refine hK13 _ _ ?_
        refine cPlain ?_
        refine sv 21 (u2) .of ?_
        simp only [sZ, sS]
        refine sv 22 (.int .i64 (n : Int)) .of ?_
        simp only [sZ, sS]
        refine sv 23 (.int .u64 ((n % 18446744073709551616 : Nat) : Int)) (Val.convN 3 84 (.tmp 22) rfl .u64 n 18446744073709551616 Try.underlying3 Try.underlying84 (by kernel_rfl)) ?_
        simp only [sZ, sS]
        refine sv 24 (.int .u64 ((((n % 18446744073709551616) <<< 3) % 18446744073709551616 : Nat) : Int)) (Val.shlN 84 _ (.tmp 23) _ rfl .u64 .u64 (n % 18446744073709551616) 3 18446744073709551616 (by kernel_rfl) (by kernel_rfl)) ?_
        simp only [sZ, sS]
        refine sv 25 (.int .i64 (i : Int)) .of ?_
        simp only [sZ, sS]
        refine sv 26 (.int .i64 ((8 * i : Nat) : Int)) (Val.as (Val.mul 3 _ _ (.tmp 25) rfl 8 (i : Int) (by kernel_rfl) (by kernel_rfl) (by omega)) (congrArg (Value.int .i64) (by omega))) ?_
        simp only [sZ, sS]
        refine sv 27 (.int .i64 ((56 - 8 * i : Nat) : Int)) (Val.as (Val.sub 3 _ _ (.tmp 26) rfl 56 ((8 * i : Nat) : Int) (by kernel_rfl) (by kernel_rfl) (by omega)) (congrArg (Value.int .i64) (by omega))) ?_
        simp only [sZ, sS]
        refine sv 28 (.int .u64 (((((n % 18446744073709551616) <<< 3) % 18446744073709551616) >>> (56 - 8 * i) : Nat) : Int)) (Val.shrN 84 _ (.tmp 24) (.tmp 27) rfl .u64 .i64 (((n % 18446744073709551616) <<< 3) % 18446744073709551616) (56 - 8 * i) (by kernel_rfl) (by kernel_rfl) (by simp only [IntKind.bits]; omega)) ?_
        simp only [sZ, sS]
        refine sv 29 (.int .u8 ((((((n % 18446744073709551616) <<< 3) % 18446744073709551616) >>> (56 - 8 * i)) % 256 : Nat) : Int)) (Val.convN 84 5 (.tmp 28) rfl .u8 ((((n % 18446744073709551616) <<< 3) % 18446744073709551616) >>> (56 - 8 * i)) 256 Try.underlying84 Try.underlying5 (by kernel_rfl)) ?_
        simp only [sZ, sS]
        refine xLit 30 29 5 1 _ #[(0, .int .u8 ((((((n % 18446744073709551616) <<< 3) % 18446744073709551616) >>> (56 - 8 * i)) % 256 : Nat) : Int))] [.int .u8 ((((((n % 18446744073709551616) <<< 3) % 18446744073709551616) >>> (56 - 8 * i)) % 256 : Nat) : Int)] rfl (by kernel_rfl) (by kernel_rfl) ?_
        intro w4 n2
        have zn2 := n2.z
        have b30 := n2.c
        replace b30 : Blk .u8 w4 wl1.heap.size 5 [((((((n % 18446744073709551616) <<< 3) % 18446744073709551616) >>> (56 - 8 * i)) % 256 : Nat) : Int)] := b30
        replace BL := BL.e0 n2.e
        replace OA := OA.e0 n2.e
        have sb30 : SL .u8 w4 (.slice (some ⟨wl1.heap.size, 0, none⟩) 1 1) [((((((n % 18446744073709551616) <<< 3) % 18446744073709551616) >>> (56 - 8 * i)) % 256 : Nat) : Int)] := SL.ofBlk b30 rfl (by unfold maxLen; omega)
        have lb30 : ∀ i, Value.ownBlock (.slice (some ⟨wl1.heap.size, 0, none⟩) 1 1) = some i → wl1.heap.size ≤ i ∧ i < w4.heap.size := ownB_lit (by omega)
        simp only [sZ, sS]
        refine xApp 31 (.tmp 21) (.tmp 30) 29 5 .u8 1 rfl Try.underlying29 (by kernel_rfl) w.heap.size u2 (nn (padZ n ++ (List.range i).map (padB n))) (by kernel_rfl) OA (.slice (some ⟨wl1.heap.size, 0, none⟩) 1 1) [((((((n % 18446744073709551616) <<< 3) % 18446744073709551616) >>> (56 - 8 * i)) % 256 : Nat) : Int)] (by kernel_rfl) sb30 ?va2_1 ?va2_2 ?va2_3 ?_
        case va2_1 => simp [nn, padZ]; omega
        case va2_2 => unfold maxLen; simp [nn, padZ]; omega
        case va2_3 => omega
        intro va2 w5 rva2 e3
        have ze3 := e3.size
        have BL_ := BL.ev e3 (fun i h => by have := lOA_4 _ h; omega)
        have b30_ := b30.ev e3 (fun h => by have := lOA_4 _ h; omega)
        have sb30_ := sb30.ev e3 (fun i hi h => by have := lb30 i hi; have := lOA_4 _ h; omega)
        replace BL := BL_; clear BL_
        replace b30 := b30_; clear b30_
        replace sb30 := sb30_; clear sb30_
        replace OA := rva2
        clear rva2 e3
        have lOA_5 := OA.ge
        simp only [sZ, sS]
        refine sv 3 (va2) .of ?_
        simp only [sZ, sS]
        refine wpList_nil ?_
        refine hK12 _ _ ?_
        refine cPlain ?_
        refine sv 32 (.int .i64 ((i : Int) + 1)) (Val.add 3 _ (.tmp 18) _ rfl (i : Int) 1 (by kernel_rfl) (by kernel_rfl) (by omega)) ?_
        simp only [sZ, sS]
        refine sv 18 (.int .i64 ((i : Int) + 1)) .of ?_
        simp only [sZ, sS]
        refine wpList_nil ?_
        refine ⟨_, ?_, i + 1, va2, rfl, by omega, cutE, BL, (OA.cast (by rw [List.range_succ, List.map_append, ← List.append_assoc, nn_app _ (List.map _ [i])]; rfl)), by omega⟩
        omega
      · skip
        refine wp_exit ?_
        simp only [Exit.then, Exit.inBlock, ↓reduceIte, Nat.reduceEqDiff]
        refine hK8 _ _ ?_
        refine wp_seq_k fun K14 hK14 => ?_
        refine cPlain ?_
        refine sv 33 (u2) .of ?_
        simp only [sZ, sS]
        refine sv 2 (u2) .of ?_
        simp only [sZ, sS]
        refine wpList_nil ?_
        refine hK14 _ _ ?_
        refine wp_ret ?_
        (try simp only [Exit.then, Exit.inBlock])
        refine bodyPost_ret (v := u2) rT rfl ?_
        have hi8 : i = 8 := by omega
        subst hi8
        exact ⟨_, rfl, OA, BL.b⟩

end Go.Proofs.Ytanggdnmoaflfaa
