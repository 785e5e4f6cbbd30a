/-
  ref18: Right, RightList, Has.
-/
import Derived.Test.YtanggdnmoaflfaaCertB
import Derived.Test.YtanggdnmoaflfaaPk1
namespace Go.Proofs.Ytanggdnmoaflfaa
open Go.RowKit
set_option linter.unusedVariables false
set_option linter.unusedSimpArgs false
set_option maxRecDepth 100000
attribute [local irreducible] wpList Code.wp wpAnyZ
/-- A certificate's cells. -/
def certV (key : Int) (root : List Int) (height : Int) : List Value := .int .i64 key :: (root.map (Value.int .u8) ++ [.int .i64 height])
theorem certV_33 {key height : Int} {root : List Int} (h : root.length = 32) : (certV key root height)[33]? = some (.int .i64 height) := by
  unfold certV
  rw [show 33 = 32 + 1 from rfl, List.getElem?_cons_succ, List.getElem?_append_right (by simp [h])]
  simp [h]
theorem rightC_eq (key height : Int) : rightC key height = decide (1 ≤ key ∧ key ≤ 1048576 ∧ 1 ≤ height ∧ height ≤ 8) := by
  unfold rightC; simp [Bool.and_assoc]
theorem goodB_cons (p x : Int) (xs : List Int) : goodB p (x :: xs) = (decide (p < x ∧ x ≤ 1048576) && goodB x xs) := by
  simp [goodB]
theorem goodB_nil (p : Int) : goodB p [] = true := rfl

set_option maxHeartbeats 4000000 in
theorem r18right_any (key height : Int) (root : List Int) (hr : root.length = 32) (w : World) :
    Calls Try.prog 17 #[.agg (certV key root height).toArray] w fun e w' => e = .returned (.bool (rightC key height)) ∧ Below w.heap.size w w' := by
  have BL := Bl.refl w
  go_enter Try.func17, Try.ntmps17
  refine wp_seq_k fun K1 hK1 => ?_
  refine cPlain ?_
  refine xBox 1 25 _ (certV key root height) rfl (by kernel_rfl) ?_
  intro w1 n1
  have zn1 := n1.z
  have b1 := n1.c
  replace BL := BL.e0 n1.e
  simp only [sZ, sS]
  refine sv 2 (.bool false) .of ?_
  simp only [sZ, sS]
  refine wpList_nil ?_
  refine hK1 _ _ ?_
  refine wp_seq_k fun K2 hK2 => ?_
  refine cPlain ?_
  refine sv 3 (.pointer (some ⟨w.heap.size, 0, none⟩)) .of ?_
  simp only [sZ, sS]
  refine sv 4 (.int .i64 key) (Val.cel1 3 _ rfl w.heap.size 0 _ (by kernel_rfl) (fun _ => (by kernel_rfl)) b1 rfl) ?_
  simp only [sZ, sS]
  refine sv 5 (.bool (decide (1 ≤ key))) (Val.cmp .geq 3 _ (.tmp 4) _ rfl .i64 key 1 (by kernel_rfl) (by kernel_rfl) (by simp) _ rfl) ?_
  simp only [sZ, sS]
  refine sv 6 (.bool (decide (1 ≤ key))) .of ?_
  simp only [sZ, sS]
  by_cases g7 : 1 ≤ key
  · skip
    have dg7 : decide (1 ≤ key) = true := decide_eq_true g7
    simp only [dg7]
    clear dg7
    refine sv 7 (.pointer (some ⟨w.heap.size, 0, none⟩)) .of ?_
    simp only [sZ, sS]
    refine sv 8 (.int .i64 key) (Val.cel1 3 _ rfl w.heap.size 0 _ (by kernel_rfl) (fun _ => (by kernel_rfl)) b1 rfl) ?_
    simp only [sZ, sS]
    refine sv 9 (.bool (decide (key ≤ 1048576))) (Val.cmp .leq 3 _ (.tmp 8) _ rfl .i64 key 1048576 (by kernel_rfl) (by kernel_rfl) (by simp) _ rfl) ?_
    simp only [sZ, sS]
    refine sv 10 (.bool (decide (key ≤ 1048576))) .of ?_
    simp only [sZ, sS]
    refine sv 11 (.bool (decide (key ≤ 1048576))) .of ?_
    simp only [sZ, sS]
    by_cases g12 : key ≤ 1048576
    · skip
      have dg12 : decide (key ≤ 1048576) = true := decide_eq_true g12
      simp only [dg12]
      clear dg12
      refine sv 12 (.pointer (some ⟨w.heap.size, 33, none⟩)) .of ?_
      simp only [sZ, sS]
      refine sv 13 (.int .i64 height) (Val.cel1 3 _ rfl w.heap.size 33 _ (by kernel_rfl) (fun _ => (by kernel_rfl)) b1 (certV_33 hr)) ?_
      simp only [sZ, sS]
      refine sv 14 (.bool (decide (1 ≤ height))) (Val.cmp .geq 3 _ (.tmp 13) _ rfl .i64 height 1 (by kernel_rfl) (by kernel_rfl) (by simp) _ rfl) ?_
      simp only [sZ, sS]
      refine sv 15 (.bool (decide (1 ≤ height))) .of ?_
      simp only [sZ, sS]
      refine sv 16 (.bool (decide (1 ≤ height))) .of ?_
      simp only [sZ, sS]
      by_cases g17 : 1 ≤ height
      · skip
        have dg17 : decide (1 ≤ height) = true := decide_eq_true g17
        simp only [dg17]
        clear dg17
        refine sv 17 (.pointer (some ⟨w.heap.size, 33, none⟩)) .of ?_
        simp only [sZ, sS]
        refine sv 18 (.int .i64 height) (Val.cel1 3 _ rfl w.heap.size 33 _ (by kernel_rfl) (fun _ => (by kernel_rfl)) b1 (certV_33 hr)) ?_
        simp only [sZ, sS]
        refine sv 19 (.bool (decide (height ≤ 8))) (Val.cmp .leq 3 _ (.tmp 18) _ rfl .i64 height 8 (by kernel_rfl) (by kernel_rfl) (by simp) _ rfl) ?_
        simp only [sZ, sS]
        refine sv 20 (.bool (decide (height ≤ 8))) .of ?_
        simp only [sZ, sS]
        refine sv 2 (.bool (decide (height ≤ 8))) .of ?_
        simp only [sZ, sS]
        refine wpList_nil ?_
        refine hK2 _ _ ?_
        refine wp_ret ?_
        (try simp only [Exit.then, Exit.inBlock])
        refine bodyPost_ret (v := .bool (decide (height ≤ 8))) rT rfl ?_
        refine ⟨congrArg (fun b => Ending.returned (.bool b)) ?_, BL.b⟩
        rw [rightC_eq]
        first | exact decide_eq_decide.2 (by omega) | exact (decide_eq_false (by omega)).symm
      · skip
        have dg17 : decide (1 ≤ height) = false := decide_eq_false g17
        simp only [dg17]
        clear dg17
        refine xSkip 17 ?_
        simp only [sZ, sS]
        refine xSkip 18 ?_
        simp only [sZ, sS]
        refine xSkip 19 ?_
        simp only [sZ, sS]
        refine sv 20 (.bool false) .of ?_
        simp only [sZ, sS]
        refine sv 2 (.bool false) .of ?_
        simp only [sZ, sS]
        refine wpList_nil ?_
        refine hK2 _ _ ?_
        refine wp_ret ?_
        (try simp only [Exit.then, Exit.inBlock])
        refine bodyPost_ret (v := .bool false) rT rfl ?_
        refine ⟨congrArg (fun b => Ending.returned (.bool b)) ?_, BL.b⟩
        rw [rightC_eq]
        first | exact decide_eq_decide.2 (by omega) | exact (decide_eq_false (by omega)).symm
    · skip
      have dg12 : decide (key ≤ 1048576) = false := decide_eq_false g12
      simp only [dg12]
      clear dg12
      refine xSkip 12 ?_
      simp only [sZ, sS]
      refine xSkip 13 ?_
      simp only [sZ, sS]
      refine xSkip 14 ?_
      simp only [sZ, sS]
      refine sv 15 (.bool false) .of ?_
      simp only [sZ, sS]
      refine sv 16 (.bool false) .of ?_
      simp only [sZ, sS]
      refine xSkip 17 ?_
      simp only [sZ, sS]
      refine xSkip 18 ?_
      simp only [sZ, sS]
      refine xSkip 19 ?_
      simp only [sZ, sS]
      refine sv 20 (.bool false) .of ?_
      simp only [sZ, sS]
      refine sv 2 (.bool false) .of ?_
      simp only [sZ, sS]
      refine wpList_nil ?_
      refine hK2 _ _ ?_
      refine wp_ret ?_
      (try simp only [Exit.then, Exit.inBlock])
      refine bodyPost_ret (v := .bool false) rT rfl ?_
      refine ⟨congrArg (fun b => Ending.returned (.bool b)) ?_, BL.b⟩
      rw [rightC_eq]
      first | exact decide_eq_decide.2 (by omega) | exact (decide_eq_false (by omega)).symm
  · skip
    have dg7 : decide (1 ≤ key) = false := decide_eq_false g7
    simp only [dg7]
    clear dg7
    refine xSkip 7 ?_
    simp only [sZ, sS]
    refine xSkip 8 ?_
    simp only [sZ, sS]
    refine xSkip 9 ?_
    simp only [sZ, sS]
    refine sv 10 (.bool false) .of ?_
    simp only [sZ, sS]
    refine sv 11 (.bool false) .of ?_
    simp only [sZ, sS]
    refine xSkip 12 ?_
    simp only [sZ, sS]
    refine xSkip 13 ?_
    simp only [sZ, sS]
    refine xSkip 14 ?_
    simp only [sZ, sS]
    refine sv 15 (.bool false) .of ?_
    simp only [sZ, sS]
    refine sv 16 (.bool false) .of ?_
    simp only [sZ, sS]
    refine xSkip 17 ?_
    simp only [sZ, sS]
    refine xSkip 18 ?_
    simp only [sZ, sS]
    refine xSkip 19 ?_
    simp only [sZ, sS]
    refine sv 20 (.bool false) .of ?_
    simp only [sZ, sS]
    refine sv 2 (.bool false) .of ?_
    simp only [sZ, sS]
    refine wpList_nil ?_
    refine hK2 _ _ ?_
    refine wp_ret ?_
    (try simp only [Exit.then, Exit.inBlock])
    refine bodyPost_ret (v := .bool false) rT rfl ?_
    refine ⟨congrArg (fun b => Ending.returned (.bool b)) ?_, BL.b⟩
    rw [rightC_eq]
    first | exact decide_eq_decide.2 (by omega) | exact (decide_eq_false (by omega)).symm

set_option maxHeartbeats 4000000 in
theorem r18rightlist_any (seq : Int) (A : Option Addr) (C : Nat) (xs : List Int) (w : World) (D : SL .i64 w (.slice A xs.length C) xs) :
    Calls Try.prog 19 #[.agg #[.int .i64 seq, .slice A xs.length C]] w fun e w' => e = .returned (.bool (rightL seq xs)) ∧ Below w.heap.size w w' := by
  have BL := Bl.refl w
  have hvl := D.lt
  have hgt : ∀ k, k < xs.length → xs.drop k = xs.getD k 0 :: xs.drop (k + 1) := fun k hk => by rw [List.drop_eq_getElem_cons hk]; simp [hk]
  go_enter Try.func19, Try.ntmps19
  refine wp_seq_k fun K1 hK1 => ?_
  refine cPlain ?_
  refine xBox 1 28 _ [.int .i64 seq, .slice A xs.length C] rfl (by kernel_rfl) ?_
  intro w1 n1
  have zn1 := n1.z
  have b1 := n1.c
  replace BL := BL.e0 n1.e
  replace D := D.e0 n1.e
  simp only [sZ, sS]
  refine sv 2 (.bool false) .of ?_
  simp only [sZ, sS]
  refine wpList_nil ?_
  refine hK1 _ _ ?_
  refine wp_seq_k fun K2 hK2 => ?_
  refine wp_seq_k fun K3 hK3 => ?_
  refine cPlain ?_
  refine sv 4 (.pointer (some ⟨w.heap.size, 0, none⟩)) .of ?_
  simp only [sZ, sS]
  refine sv 5 (.int .i64 seq) (Val.cel1 3 _ rfl w.heap.size 0 _ (by kernel_rfl) (fun _ => (by kernel_rfl)) b1 rfl) ?_
  simp only [sZ, sS]
  refine sv 6 (.bool (decide (seq < 0))) (Val.cmp .lss 3 _ (.tmp 5) _ rfl .i64 seq 0 (by kernel_rfl) (by kernel_rfl) (by simp) _ rfl) ?_
  simp only [sZ, sS]
  refine sv 7 (.bool (decide (seq < 0))) .of ?_
  simp only [sZ, sS]
  by_cases g8 : seq < 0
  · skip
    have dg8 : decide (seq < 0) = true := decide_eq_true g8
    simp only [dg8]
    clear dg8
    refine xSkip 8 ?_
    simp only [sZ, sS]
    refine xSkip 9 ?_
    simp only [sZ, sS]
    refine xSkip 10 ?_
    simp only [sZ, sS]
    refine sv 11 (.bool true) .of ?_
    simp only [sZ, sS]
    refine sv 12 (.bool true) .of ?_
    simp only [sZ, sS]
    refine xSkip 13 ?_
    simp only [sZ, sS]
    refine xSkip 14 ?_
    simp only [sZ, sS]
    refine xSkip 15 ?_
    simp only [sZ, sS]
    refine xSkip 16 ?_
    simp only [sZ, sS]
    refine sv 17 (.bool true) .of ?_
    simp only [sZ, sS]
    refine wpList_nil ?_
    refine hK3 _ _ ?_
    refine cT ?_
    refine wp_seq_k fun K4 hK4 => ?_
    refine cPlain ?_
    refine sv 2 (.bool false) .of ?_
    simp only [sZ, sS]
    refine wpList_nil ?_
    refine hK4 _ _ ?_
    refine wp_ret ?_
    (try simp only [Exit.then, Exit.inBlock])
    refine bodyPost_ret (v := .bool false) rT rfl ?_
    have hf : rightL seq xs = false := by unfold rightL; simp; omega
    rw [hf]
    exact ⟨rfl, BL.b⟩
  · skip
    have dg8 : decide (seq < 0) = false := decide_eq_false g8
    simp only [dg8]
    clear dg8
    refine sv 8 (.pointer (some ⟨w.heap.size, 0, none⟩)) .of ?_
    simp only [sZ, sS]
    refine sv 9 (.int .i64 seq) (Val.cel1 3 _ rfl w.heap.size 0 _ (by kernel_rfl) (fun _ => (by kernel_rfl)) b1 rfl) ?_
    simp only [sZ, sS]
    refine sv 10 (.bool (decide (1073741824 < seq))) (Val.cmp .gtr 3 _ (.tmp 9) _ rfl .i64 seq 1073741824 (by kernel_rfl) (by kernel_rfl) (by simp) _ rfl) ?_
    simp only [sZ, sS]
    refine sv 11 (.bool (decide (1073741824 < seq))) .of ?_
    simp only [sZ, sS]
    refine sv 12 (.bool (decide (1073741824 < seq))) .of ?_
    simp only [sZ, sS]
    by_cases g13 : 1073741824 < seq
    · skip
      have dg13 : decide (1073741824 < seq) = true := decide_eq_true g13
      simp only [dg13]
      clear dg13
      refine xSkip 13 ?_
      simp only [sZ, sS]
      refine xSkip 14 ?_
      simp only [sZ, sS]
      refine xSkip 15 ?_
      simp only [sZ, sS]
      refine xSkip 16 ?_
      simp only [sZ, sS]
      refine sv 17 (.bool true) .of ?_
      simp only [sZ, sS]
      refine wpList_nil ?_
      refine hK3 _ _ ?_
      refine cT ?_
      refine wp_seq_k fun K5 hK5 => ?_
      refine cPlain ?_
      refine sv 2 (.bool false) .of ?_
      simp only [sZ, sS]
      refine wpList_nil ?_
      refine hK5 _ _ ?_
      refine wp_ret ?_
      (try simp only [Exit.then, Exit.inBlock])
      refine bodyPost_ret (v := .bool false) rT rfl ?_
      have hf : rightL seq xs = false := by unfold rightL; simp; omega
      rw [hf]
      exact ⟨rfl, BL.b⟩
    · skip
      have dg13 : decide (1073741824 < seq) = false := decide_eq_false g13
      simp only [dg13]
      clear dg13
      refine sv 13 (.pointer (some ⟨w.heap.size, 1, none⟩)) .of ?_
      simp only [sZ, sS]
      refine sv 14 (.slice A xs.length C) (Val.cel1 26 _ rfl w.heap.size 1 _ (by kernel_rfl) (fun _ => (by kernel_rfl)) b1 rfl) ?_
      simp only [sZ, sS]
      refine sv 15 (.int .i64 (xs.length : Int)) .of ?_
      simp only [sZ, sS]
      refine sv 16 (.bool (decide (50 < (xs.length : Int)))) (Val.cmp .gtr 3 _ (.tmp 15) _ rfl .i64 (xs.length : Int) 50 (by kernel_rfl) (by kernel_rfl) (by simp) _ rfl) ?_
      simp only [sZ, sS]
      refine sv 17 (.bool (decide (50 < (xs.length : Int)))) .of ?_
      simp only [sZ, sS]
      refine wpList_nil ?_
      refine hK3 _ _ ?_
      refine cDec (50 < (xs.length : Int)) (by kernel_rfl) (fun c17 => ?_) (fun c17 => ?_)
      · skip
        refine wp_seq_k fun K6 hK6 => ?_
        refine cPlain ?_
        refine sv 2 (.bool false) .of ?_
        simp only [sZ, sS]
        refine wpList_nil ?_
        refine hK6 _ _ ?_
        refine wp_ret ?_
        (try simp only [Exit.then, Exit.inBlock])
        refine bodyPost_ret (v := .bool false) rT rfl ?_
        have hf : rightL seq xs = false := by unfold rightL; simp; omega
        rw [hf]
        exact ⟨rfl, BL.b⟩
      · skip
        refine wp_skip ?_
        refine hK2 _ _ ?_
        refine wp_seq_k fun K7 hK7 => ?_
        refine wp_seq_k fun K8 hK8 => ?_
        refine cPlain ?_
        refine sv 3 (.int .i64 0) .of ?_
        simp only [sZ, sS]
        refine wpList_nil ?_
        refine hK8 _ _ ?_
        refine wp_block ?_
        refine cLoop (fun N_ A_ w_ => ∃ (k : Nat) (p : Int), (N_ = xs.length - k ∧ (k ≤ xs.length) ∧ (goodB 0 xs = goodB p (xs.drop k)) ∧ ((k = 0 ∧ p = 0) ∨ (0 < k ∧ p = xs.getD (k - 1) 0 ∧ 1 ≤ p)) ∧ (∃ s1 : Nat → Value, A_ = ⟨[.agg #[.int .i64 seq, .slice A xs.length C], .pointer (some ⟨w.heap.size, 0, none⟩), (s1 2), .int .i64 ((k : Nat) : Int), .pointer (some ⟨w.heap.size, 0, none⟩), .int .i64 seq, .bool false, .bool false, .pointer (some ⟨w.heap.size, 0, none⟩), .int .i64 seq, .bool false, .bool false, .bool false, .pointer (some ⟨w.heap.size, 1, none⟩), .slice A xs.length C, .int .i64 (xs.length : Int), .bool (decide (50 < (xs.length : Int))), .bool (decide (50 < (xs.length : Int))), (s1 18), (s1 19), (s1 20), (s1 21), (s1 22), (s1 23), (s1 24), (s1 25), (s1 26), (s1 27), (s1 28), (s1 29), (s1 30), (s1 31), (s1 32), (s1 33), (s1 34), (s1 35), (s1 36), (s1 37), (s1 38), (s1 39), (s1 40), (s1 41), (s1 42), (s1 43), (s1 44), (s1 45), (s1 46), (s1 47), (s1 48), (s1 49), (s1 50), (s1 51), (s1 52), (s1 53), (s1 54), (s1 55), (s1 56)].toArray, []⟩) ∧ Bl w.heap.size w w_ ∧ SL .i64 w_ (.slice A xs.length C) xs ∧ Cel w_ w.heap.size 28 [.int .i64 seq, .slice A xs.length C] ∧ w1.heap.size ≤ w_.heap.size)) _ ⟨0, 0, rfl, (Nat.zero_le _), rfl, (.inl ⟨rfl, rfl⟩), cutE, BL, D, b1, Nat.le_refl _⟩ ?_
        clear BL D b1
        rintro n_ a_ wl0 ⟨k, p, rfl, hc0_0, hc0_1, hc0_2, ⟨s1, rfl⟩, BL, D, b1, zl0⟩
        refine wp_seq_k fun K9 hK9 => ?_
        refine wp_seq_k fun K10 hK10 => ?_
        refine cPlain ?_
        refine sv 18 (.int .i64 ((k : Nat) : Int)) .of ?_
        simp only [sZ, sS]
        refine sv 19 (.pointer (some ⟨w.heap.size, 1, none⟩)) .of ?_
        simp only [sZ, sS]
        refine sv 20 (.slice A xs.length C) (Val.cel1 26 _ rfl w.heap.size 1 _ (by kernel_rfl) (fun _ => (by kernel_rfl)) b1 rfl) ?_
        simp only [sZ, sS]
        refine sv 21 (.int .i64 (xs.length : Int)) .of ?_
        simp only [sZ, sS]
        refine sv 22 (.bool (decide (((k : Nat) : Int) < (xs.length : Int)))) (Val.cmp .lss 3 _ (.tmp 18) (.tmp 21) rfl .i64 ((k : Nat) : Int) (xs.length : Int) (by kernel_rfl) (by kernel_rfl) (by simp) _ rfl) ?_
        simp only [sZ, sS]
        refine wpList_nil ?_
        refine hK10 _ _ ?_
        refine cDec (((k : Nat) : Int) < (xs.length : Int)) (by kernel_rfl) (fun c22 => ?_) (fun c22 => ?_)
        · skip
          refine wp_skip ?_
          refine hK9 _ _ ?_
          refine wp_seq_k fun K11 hK11 => ?_
          refine wp_block ?_
          refine wp_seq_k fun K12 hK12 => ?_
          obtain ⟨j, hjd⟩ : ∃ j, j = k - 1 := ⟨_, rfl⟩
          have hx := hgt k (by omega)
          rw [← hjd] at hc0_2
          have e1 := drew_e0 wl0
          refine zg (fun w_ => Bl w.heap.size w w_ ∧ SL .i64 w_ (.slice A xs.length C) xs ∧ Cel w_ w.heap.size 28 [.int .i64 seq, .slice A xs.length C] ∧ wl0.heap.size ≤ w_.heap.size) (fun w_ => Bl w.heap.size w w_ ∧ SL .i64 w_ (.slice A xs.length C) xs ∧ Cel w_ w.heap.size 28 [.int .i64 seq, .slice A xs.length C] ∧ wl0.heap.size ≤ w_.heap.size) 100000 32 ⟨BL.e0 e1, D.e0 e1, b1.e0 e1, Nat.le_refl _⟩ ?_
          clear BL D b1
          clear e1
          intro w2
          rintro ⟨BL, D, b1, z1⟩
          refine zv 0 25 (.pointer (some ⟨w.heap.size, 1, none⟩)) (fun _ _ => .of) ⟨BL, D, b1, by omega⟩ ?_
          simp only [sZ, sS]
          refine zv 1 26 (.slice A xs.length C) (fun _ ⟨BL, D, b1, z1⟩ => Val.cel1 26 _ rfl w.heap.size 1 _ (by kernel_rfl) (fun _ => (by kernel_rfl)) b1 rfl) ⟨BL, D, b1, by omega⟩ ?_
          simp only [sZ, sS]
          refine zv 2 27 (.int .i64 ((k : Nat) : Int)) (fun _ _ => .of) ⟨BL, D, b1, by omega⟩ ?_
          simp only [sZ, sS]
          refine zv 3 28 (elemP (.slice A xs.length C) k) (fun _ ⟨BL, D, b1, z1⟩ => Val.idxE 26 (.tmp 26) (.tmp 27) rfl (.slice A xs.length C) k (by kernel_rfl) (by kernel_rfl) D Try.underlying26 (by kernel_rfl) (by omega)) ⟨BL, D, b1, by omega⟩ ?_
          simp only [sZ, sS]
          refine zv 4 29 (.int .i64 (xs.getD k 0)) (fun _ ⟨BL, D, b1, z1⟩ => Val.ldE 3 _ rfl (.slice A xs.length C) k (by kernel_rfl) (fun _ => (by kernel_rfl)) D (by omega)) ⟨BL, D, b1, by omega⟩ ?_
          simp only [sZ, sS]
          refine zv 5 30 (.bool (decide ((xs.getD k 0) < 1))) (fun _ ⟨BL, D, b1, z1⟩ => Val.cmp .lss 3 _ (.tmp 29) _ rfl .i64 (xs.getD k 0) 1 (by kernel_rfl) (by kernel_rfl) (by simp) _ rfl) ⟨BL, D, b1, by omega⟩ ?_
          simp only [sZ, sS]
          refine zv 6 31 (.bool (decide ((xs.getD k 0) < 1))) (fun _ _ => .of) ⟨BL, D, b1, by omega⟩ ?_
          simp only [sZ, sS]
          by_cases g32 : (xs.getD k 0) < 1
          · skip
            have dg32 : decide ((xs.getD k 0) < 1) = true := decide_eq_true g32
            simp only [dg32]
            clear dg32
            refine zs 7 32 ⟨BL, D, b1, by omega⟩ ?_
            simp only [sZ, sS]
            refine zs 8 33 ⟨BL, D, b1, by omega⟩ ?_
            simp only [sZ, sS]
            refine zs 9 34 ⟨BL, D, b1, by omega⟩ ?_
            simp only [sZ, sS]
            refine zs 10 35 ⟨BL, D, b1, by omega⟩ ?_
            simp only [sZ, sS]
            refine zs 11 36 ⟨BL, D, b1, by omega⟩ ?_
            simp only [sZ, sS]
            refine zs 12 37 ⟨BL, D, b1, by omega⟩ ?_
            simp only [sZ, sS]
            refine zv 13 38 (.bool true) (fun _ _ => .of) ⟨BL, D, b1, by omega⟩ ?_
            simp only [sZ, sS]
            refine zv 14 39 (.bool true) (fun _ _ => .of) ⟨BL, D, b1, by omega⟩ ?_
            simp only [sZ, sS]
            refine zs 15 40 ⟨BL, D, b1, by omega⟩ ?_
            simp only [sZ, sS]
            refine zs 16 41 ⟨BL, D, b1, by omega⟩ ?_
            simp only [sZ, sS]
            refine zs 17 42 ⟨BL, D, b1, by omega⟩ ?_
            simp only [sZ, sS]
            refine zs 18 43 ⟨BL, D, b1, by omega⟩ ?_
            simp only [sZ, sS]
            refine zs 19 44 ⟨BL, D, b1, by omega⟩ ?_
            simp only [sZ, sS]
            refine zs 20 45 ⟨BL, D, b1, by omega⟩ ?_
            simp only [sZ, sS]
            refine zs 21 46 ⟨BL, D, b1, by omega⟩ ?_
            simp only [sZ, sS]
            refine zs 22 47 ⟨BL, D, b1, by omega⟩ ?_
            simp only [sZ, sS]
            refine zs 23 48 ⟨BL, D, b1, by omega⟩ ?_
            simp only [sZ, sS]
            refine zs 24 49 ⟨BL, D, b1, by omega⟩ ?_
            simp only [sZ, sS]
            refine zs 25 50 ⟨BL, D, b1, by omega⟩ ?_
            simp only [sZ, sS]
            refine zs 26 51 ⟨BL, D, b1, by omega⟩ ?_
            simp only [sZ, sS]
            refine zs 27 52 ⟨BL, D, b1, by omega⟩ ?_
            simp only [sZ, sS]
            refine zs 28 53 ⟨BL, D, b1, by omega⟩ ?_
            simp only [sZ, sS]
            refine zs 29 54 ⟨BL, D, b1, by omega⟩ ?_
            simp only [sZ, sS]
            refine zs 30 55 ⟨BL, D, b1, by omega⟩ ?_
            simp only [sZ, sS]
            refine zv 31 56 (.bool true) (fun _ _ => .of) ⟨BL, D, b1, by omega⟩ ?_
            simp only [sZ, sS]
            refine zd (by kernel_rfl) ?_ _
            refine hK12 _ _ ?_
            refine cT ?_
            refine wp_seq_k fun K13 hK13 => ?_
            refine cPlain ?_
            refine sv 2 (.bool false) .of ?_
            simp only [sZ, sS]
            refine wpList_nil ?_
            refine hK13 _ _ ?_
            refine wp_ret ?_
            (try simp only [Exit.then, Exit.inBlock])
            refine bodyPost_ret (v := .bool false) rT rfl ?_
            have hf : rightL seq xs = false := by
              unfold rightL
              rw [hc0_1, hx, goodB_cons, decide_eq_false (show ¬ (p < xs.getD k 0 ∧ xs.getD k 0 ≤ 1048576) by omega)]
              simp
            rw [hf]
            exact ⟨rfl, BL.b⟩
          · skip
            have dg32 : decide ((xs.getD k 0) < 1) = false := decide_eq_false g32
            simp only [dg32]
            clear dg32
            refine zv 7 32 (.pointer (some ⟨w.heap.size, 1, none⟩)) (fun _ _ => .of) ⟨BL, D, b1, by omega⟩ ?_
            simp only [sZ, sS]
            refine zv 8 33 (.slice A xs.length C) (fun _ ⟨BL, D, b1, z1⟩ => Val.cel1 26 _ rfl w.heap.size 1 _ (by kernel_rfl) (fun _ => (by kernel_rfl)) b1 rfl) ⟨BL, D, b1, by omega⟩ ?_
            simp only [sZ, sS]
            refine zv 9 34 (.int .i64 ((k : Nat) : Int)) (fun _ _ => .of) ⟨BL, D, b1, by omega⟩ ?_
            simp only [sZ, sS]
            refine zv 10 35 (elemP (.slice A xs.length C) k) (fun _ ⟨BL, D, b1, z1⟩ => Val.idxE 26 (.tmp 33) (.tmp 34) rfl (.slice A xs.length C) k (by kernel_rfl) (by kernel_rfl) D Try.underlying26 (by kernel_rfl) (by omega)) ⟨BL, D, b1, by omega⟩ ?_
            simp only [sZ, sS]
            refine zv 11 36 (.int .i64 (xs.getD k 0)) (fun _ ⟨BL, D, b1, z1⟩ => Val.ldE 3 _ rfl (.slice A xs.length C) k (by kernel_rfl) (fun _ => (by kernel_rfl)) D (by omega)) ⟨BL, D, b1, by omega⟩ ?_
            simp only [sZ, sS]
            refine zv 12 37 (.bool (decide (1048576 < (xs.getD k 0)))) (fun _ ⟨BL, D, b1, z1⟩ => Val.cmp .gtr 3 _ (.tmp 36) _ rfl .i64 (xs.getD k 0) 1048576 (by kernel_rfl) (by kernel_rfl) (by simp) _ rfl) ⟨BL, D, b1, by omega⟩ ?_
            simp only [sZ, sS]
            refine zv 13 38 (.bool (decide (1048576 < (xs.getD k 0)))) (fun _ _ => .of) ⟨BL, D, b1, by omega⟩ ?_
            simp only [sZ, sS]
            refine zv 14 39 (.bool (decide (1048576 < (xs.getD k 0)))) (fun _ _ => .of) ⟨BL, D, b1, by omega⟩ ?_
            simp only [sZ, sS]
            by_cases g40 : 1048576 < (xs.getD k 0)
            · skip
              have dg40 : decide (1048576 < (xs.getD k 0)) = true := decide_eq_true g40
              simp only [dg40]
              clear dg40
              refine zs 15 40 ⟨BL, D, b1, by omega⟩ ?_
              simp only [sZ, sS]
              refine zs 16 41 ⟨BL, D, b1, by omega⟩ ?_
              simp only [sZ, sS]
              refine zs 17 42 ⟨BL, D, b1, by omega⟩ ?_
              simp only [sZ, sS]
              refine zs 18 43 ⟨BL, D, b1, by omega⟩ ?_
              simp only [sZ, sS]
              refine zs 19 44 ⟨BL, D, b1, by omega⟩ ?_
              simp only [sZ, sS]
              refine zs 20 45 ⟨BL, D, b1, by omega⟩ ?_
              simp only [sZ, sS]
              refine zs 21 46 ⟨BL, D, b1, by omega⟩ ?_
              simp only [sZ, sS]
              refine zs 22 47 ⟨BL, D, b1, by omega⟩ ?_
              simp only [sZ, sS]
              refine zs 23 48 ⟨BL, D, b1, by omega⟩ ?_
              simp only [sZ, sS]
              refine zs 24 49 ⟨BL, D, b1, by omega⟩ ?_
              simp only [sZ, sS]
              refine zs 25 50 ⟨BL, D, b1, by omega⟩ ?_
              simp only [sZ, sS]
              refine zs 26 51 ⟨BL, D, b1, by omega⟩ ?_
              simp only [sZ, sS]
              refine zs 27 52 ⟨BL, D, b1, by omega⟩ ?_
              simp only [sZ, sS]
              refine zs 28 53 ⟨BL, D, b1, by omega⟩ ?_
              simp only [sZ, sS]
              refine zs 29 54 ⟨BL, D, b1, by omega⟩ ?_
              simp only [sZ, sS]
              refine zs 30 55 ⟨BL, D, b1, by omega⟩ ?_
              simp only [sZ, sS]
              refine zv 31 56 (.bool true) (fun _ _ => .of) ⟨BL, D, b1, by omega⟩ ?_
              simp only [sZ, sS]
              refine zd (by kernel_rfl) ?_ _
              refine hK12 _ _ ?_
              refine cT ?_
              refine wp_seq_k fun K14 hK14 => ?_
              refine cPlain ?_
              refine sv 2 (.bool false) .of ?_
              simp only [sZ, sS]
              refine wpList_nil ?_
              refine hK14 _ _ ?_
              refine wp_ret ?_
              (try simp only [Exit.then, Exit.inBlock])
              refine bodyPost_ret (v := .bool false) rT rfl ?_
              have hf : rightL seq xs = false := by
                unfold rightL
                rw [hc0_1, hx, goodB_cons, decide_eq_false (show ¬ (p < xs.getD k 0 ∧ xs.getD k 0 ≤ 1048576) by omega)]
                simp
              rw [hf]
              exact ⟨rfl, BL.b⟩
            · skip
              have dg40 : decide (1048576 < (xs.getD k 0)) = false := decide_eq_false g40
              simp only [dg40]
              clear dg40
              refine zv 15 40 (.int .i64 ((k : Nat) : Int)) (fun _ _ => .of) ⟨BL, D, b1, by omega⟩ ?_
              simp only [sZ, sS]
              refine zv 16 41 (.bool (decide (0 < k))) (fun _ ⟨BL, D, b1, z1⟩ => Val.cmp .gtr 3 _ (.tmp 40) _ rfl .i64 ((k : Nat) : Int) 0 (by kernel_rfl) (by kernel_rfl) (by simp) _ (by simp [cmpB])) ⟨BL, D, b1, by omega⟩ ?_
              simp only [sZ, sS]
              refine zv 17 42 (.bool (decide (0 < k))) (fun _ _ => .of) ⟨BL, D, b1, by omega⟩ ?_
              simp only [sZ, sS]
              by_cases g43 : 0 < k
              · skip
                have hj : (k : Int) - 1 = ((j : Nat) : Int) := by omega
                have dg43 : decide (0 < k) = true := decide_eq_true g43
                simp only [dg43]
                clear dg43
                refine zv 18 43 (.pointer (some ⟨w.heap.size, 1, none⟩)) (fun _ _ => .of) ⟨BL, D, b1, by omega⟩ ?_
                simp only [sZ, sS]
                refine zv 19 44 (.slice A xs.length C) (fun _ ⟨BL, D, b1, z1⟩ => Val.cel1 26 _ rfl w.heap.size 1 _ (by kernel_rfl) (fun _ => (by kernel_rfl)) b1 rfl) ⟨BL, D, b1, by omega⟩ ?_
                simp only [sZ, sS]
                refine zv 20 45 (.int .i64 ((k : Nat) : Int)) (fun _ _ => .of) ⟨BL, D, b1, by omega⟩ ?_
                simp only [sZ, sS]
                refine zv 21 46 (.int .i64 ((k : Int) - 1)) (fun _ ⟨BL, D, b1, z1⟩ => Val.sub 3 _ (.tmp 45) _ rfl ((k : Nat) : Int) 1 (by kernel_rfl) (by kernel_rfl) (by omega)) ⟨BL, D, b1, by omega⟩ ?_
                simp only [sZ, sS]
                refine zv 22 47 (elemP (.slice A xs.length C) j) (fun _ ⟨BL, D, b1, z1⟩ => Val.idxE 26 (.tmp 44) (.tmp 46) rfl (.slice A xs.length C) j (by kernel_rfl) (by rw [hj]; kernel_rfl) D Try.underlying26 (by kernel_rfl) (by omega)) ⟨BL, D, b1, by omega⟩ ?_
                simp only [sZ, sS]
                refine zv 23 48 (.int .i64 (xs.getD j 0)) (fun _ ⟨BL, D, b1, z1⟩ => Val.ldE 3 _ rfl (.slice A xs.length C) j (by kernel_rfl) (fun _ => (by kernel_rfl)) D (by omega)) ⟨BL, D, b1, by omega⟩ ?_
                simp only [sZ, sS]
                refine zv 24 49 (.pointer (some ⟨w.heap.size, 1, none⟩)) (fun _ _ => .of) ⟨BL, D, b1, by omega⟩ ?_
                simp only [sZ, sS]
                refine zv 25 50 (.slice A xs.length C) (fun _ ⟨BL, D, b1, z1⟩ => Val.cel1 26 _ rfl w.heap.size 1 _ (by kernel_rfl) (fun _ => (by kernel_rfl)) b1 rfl) ⟨BL, D, b1, by omega⟩ ?_
                simp only [sZ, sS]
                refine zv 26 51 (.int .i64 ((k : Nat) : Int)) (fun _ _ => .of) ⟨BL, D, b1, by omega⟩ ?_
                simp only [sZ, sS]
                refine zv 27 52 (elemP (.slice A xs.length C) k) (fun _ ⟨BL, D, b1, z1⟩ => Val.idxE 26 (.tmp 50) (.tmp 51) rfl (.slice A xs.length C) k (by kernel_rfl) (by kernel_rfl) D Try.underlying26 (by kernel_rfl) (by omega)) ⟨BL, D, b1, by omega⟩ ?_
                simp only [sZ, sS]
                refine zv 28 53 (.int .i64 (xs.getD k 0)) (fun _ ⟨BL, D, b1, z1⟩ => Val.ldE 3 _ rfl (.slice A xs.length C) k (by kernel_rfl) (fun _ => (by kernel_rfl)) D (by omega)) ⟨BL, D, b1, by omega⟩ ?_
                simp only [sZ, sS]
                refine zv 29 54 (.bool (decide ((xs.getD k 0) ≤ (xs.getD j 0)))) (fun _ ⟨BL, D, b1, z1⟩ => Val.cmp .geq 3 _ (.tmp 48) (.tmp 53) rfl .i64 (xs.getD j 0) (xs.getD k 0) (by kernel_rfl) (by kernel_rfl) (by simp) _ rfl) ⟨BL, D, b1, by omega⟩ ?_
                simp only [sZ, sS]
                refine zv 30 55 (.bool (decide ((xs.getD k 0) ≤ (xs.getD j 0)))) (fun _ _ => .of) ⟨BL, D, b1, by omega⟩ ?_
                simp only [sZ, sS]
                refine zv 31 56 (.bool (decide ((xs.getD k 0) ≤ (xs.getD j 0)))) (fun _ _ => .of) ⟨BL, D, b1, by omega⟩ ?_
                simp only [sZ, sS]
                refine zd (by kernel_rfl) ?_ _
                refine hK12 _ _ ?_
                refine cDec ((xs.getD k 0) ≤ (xs.getD j 0)) (by kernel_rfl) (fun c56 => ?_) (fun c56 => ?_)
                · skip
                  refine wp_seq_k fun K15 hK15 => ?_
                  refine cPlain ?_
                  refine sv 2 (.bool false) .of ?_
                  simp only [sZ, sS]
                  refine wpList_nil ?_
                  refine hK15 _ _ ?_
                  refine wp_ret ?_
                  (try simp only [Exit.then, Exit.inBlock])
                  refine bodyPost_ret (v := .bool false) rT rfl ?_
                  have hf : rightL seq xs = false := by
                    unfold rightL
                    rw [hc0_1, hx, goodB_cons, decide_eq_false (show ¬ (p < xs.getD k 0 ∧ xs.getD k 0 ≤ 1048576) by omega)]
                    simp
                  rw [hf]
                  exact ⟨rfl, BL.b⟩
                · skip
                  refine wp_skip ?_
                  refine hK11 _ _ ?_
                  refine cPlain ?_
                  refine sv 23 (.int .i64 ((k : Nat) : Int)) .of ?_
                  simp only [sZ, sS]
                  refine sv 24 (.int .i64 ((k + 1 : Nat) : Int)) (Val.as (Val.add 3 _ (.tmp 23) _ rfl ((k : Nat) : Int) 1 (by kernel_rfl) (by kernel_rfl) (by omega)) (congrArg (Value.int .i64) (by omega))) ?_
                  simp only [sZ, sS]
                  refine sv 3 (.int .i64 ((k + 1 : Nat) : Int)) .of ?_
                  simp only [sZ, sS]
                  refine wpList_nil ?_
                  refine ⟨_, ?_, k + 1, xs.getD k 0, rfl, (by omega), (by rw [hc0_1, hx, goodB_cons, decide_eq_true (show p < xs.getD k 0 ∧ xs.getD k 0 ≤ 1048576 by omega)]; rfl), (.inr ⟨by omega, rfl, by omega⟩), cutE, BL, D, b1, by omega⟩
                  omega
              · skip
                have dg43 : decide (0 < k) = false := decide_eq_false g43
                simp only [dg43]
                clear dg43
                refine zs 18 43 ⟨BL, D, b1, by omega⟩ ?_
                simp only [sZ, sS]
                refine zs 19 44 ⟨BL, D, b1, by omega⟩ ?_
                simp only [sZ, sS]
                refine zs 20 45 ⟨BL, D, b1, by omega⟩ ?_
                simp only [sZ, sS]
                refine zs 21 46 ⟨BL, D, b1, by omega⟩ ?_
                simp only [sZ, sS]
                refine zs 22 47 ⟨BL, D, b1, by omega⟩ ?_
                simp only [sZ, sS]
                refine zs 23 48 ⟨BL, D, b1, by omega⟩ ?_
                simp only [sZ, sS]
                refine zs 24 49 ⟨BL, D, b1, by omega⟩ ?_
                simp only [sZ, sS]
                refine zs 25 50 ⟨BL, D, b1, by omega⟩ ?_
                simp only [sZ, sS]
                refine zs 26 51 ⟨BL, D, b1, by omega⟩ ?_
                simp only [sZ, sS]
                refine zs 27 52 ⟨BL, D, b1, by omega⟩ ?_
                simp only [sZ, sS]
                refine zs 28 53 ⟨BL, D, b1, by omega⟩ ?_
                simp only [sZ, sS]
                refine zs 29 54 ⟨BL, D, b1, by omega⟩ ?_
                simp only [sZ, sS]
                refine zv 30 55 (.bool false) (fun _ _ => .of) ⟨BL, D, b1, by omega⟩ ?_
                simp only [sZ, sS]
                refine zv 31 56 (.bool false) (fun _ _ => .of) ⟨BL, D, b1, by omega⟩ ?_
                simp only [sZ, sS]
                refine zd (by kernel_rfl) ?_ _
                refine hK12 _ _ ?_
                refine cF ?_
                refine wp_skip ?_
                refine hK11 _ _ ?_
                refine cPlain ?_
                refine sv 23 (.int .i64 ((k : Nat) : Int)) .of ?_
                simp only [sZ, sS]
                refine sv 24 (.int .i64 ((k + 1 : Nat) : Int)) (Val.as (Val.add 3 _ (.tmp 23) _ rfl ((k : Nat) : Int) 1 (by kernel_rfl) (by kernel_rfl) (by omega)) (congrArg (Value.int .i64) (by omega))) ?_
                simp only [sZ, sS]
                refine sv 3 (.int .i64 ((k + 1 : Nat) : Int)) .of ?_
                simp only [sZ, sS]
                refine wpList_nil ?_
                refine ⟨_, ?_, k + 1, xs.getD k 0, rfl, (by omega), (by rw [hc0_1, hx, goodB_cons, decide_eq_true (show p < xs.getD k 0 ∧ xs.getD k 0 ≤ 1048576 by omega)]; rfl), (.inr ⟨by omega, rfl, by omega⟩), cutE, BL, D, b1, by omega⟩
                omega
        · skip
          rw [List.drop_of_length_le (show xs.length ≤ k by omega), goodB_nil] at hc0_1
          refine wp_exit ?_
          simp only [Exit.then, Exit.inBlock, ↓reduceIte, Nat.reduceEqDiff]
          refine hK7 _ _ ?_
          refine wp_seq_k fun K16 hK16 => ?_
          refine cPlain ?_
          refine sv 2 (.bool true) .of ?_
          simp only [sZ, sS]
          refine wpList_nil ?_
          refine hK16 _ _ ?_
          refine wp_ret ?_
          (try simp only [Exit.then, Exit.inBlock])
          refine bodyPost_ret (v := .bool true) rT rfl ?_
          have hf : rightL seq xs = true := by
            unfold rightL
            rw [hc0_1]
            simp
            omega
          rw [hf]
          exact ⟨rfl, BL.b⟩

theorem r18has_any (seq : Int) (A : Option Addr) (C : Nat) (xs : List Int) (key : Int) (w : World) (D : SL .i64 w (.slice A xs.length C) xs) :
    Calls Try.prog 21 #[.agg #[.int .i64 seq, .slice A xs.length C], .int .i64 key] w fun e w' => e = .returned (.bool (rightL seq xs && decide (key ∈ xs))) ∧ Below w.heap.size w w' := by
  have BL := Bl.refl w
  have hvl := D.lt
  obtain ⟨_, _, _, hml⟩ := D.len
  unfold maxLen at hml
  go_enter Try.func21, Try.ntmps21
  refine wp_seq_k fun K1 hK1 => ?_
  refine cPlain ?_
  refine xBox 2 28 _ [.int .i64 seq, .slice A xs.length C] rfl (by kernel_rfl) ?_
  intro w1 n1
  have zn1 := n1.z
  have b2 := n1.c
  replace BL := BL.e0 n1.e
  replace D := D.e0 n1.e
  simp only [sZ, sS]
  refine sv 4 (.bool false) .of ?_
  simp only [sZ, sS]
  refine wpList_nil ?_
  refine hK1 _ _ ?_
  refine wp_seq_k fun K2 hK2 => ?_
  refine wp_seq_k fun K3 hK3 => ?_
  refine cPlain ?_
  refine sv 5 (.int .i64 0) .of ?_
  simp only [sZ, sS]
  refine wpList_nil ?_
  refine hK3 _ _ ?_
  refine wp_block ?_
  refine cLoop (fun N_ A_ w_ => ∃ (k : Nat), (N_ = xs.length - k ∧ (k ≤ xs.length) ∧ (∀ j, j < k → xs.getD j 0 ≠ key) ∧ (∃ s1 : Nat → Value, A_ = ⟨[.agg #[.int .i64 seq, .slice A xs.length C], .int .i64 key, .pointer (some ⟨w.heap.size, 0, none⟩), undef, (s1 4), .int .i64 ((k : Nat) : Int), (s1 6), (s1 7), (s1 8), (s1 9), (s1 10), (s1 11), (s1 12), (s1 13), (s1 14), (s1 15), (s1 16), (s1 17), (s1 18), (s1 19), (s1 20), (s1 21)].toArray, []⟩) ∧ Bl w.heap.size w w_ ∧ SL .i64 w_ (.slice A xs.length C) xs ∧ Cel w_ w.heap.size 28 [.int .i64 seq, .slice A xs.length C] ∧ w1.heap.size ≤ w_.heap.size)) _ ⟨0, rfl, (Nat.zero_le _), (fun j h => absurd h (Nat.not_lt_zero _)), cutE, BL, D, b2, Nat.le_refl _⟩ ?_
  clear BL D b2
  rintro n_ a_ wl0 ⟨k, rfl, hc0_0, hc0_1, ⟨s1, rfl⟩, BL, D, b2, zl0⟩
  refine wp_seq_k fun K4 hK4 => ?_
  refine wp_seq_k fun K5 hK5 => ?_
  refine cPlain ?_
  refine sv 6 (.int .i64 ((k : Nat) : Int)) .of ?_
  simp only [sZ, sS]
  refine sv 7 (.pointer (some ⟨w.heap.size, 1, none⟩)) .of ?_
  simp only [sZ, sS]
  refine sv 8 (.slice A xs.length C) (Val.cel1 26 _ rfl w.heap.size 1 _ (by kernel_rfl) (fun _ => (by kernel_rfl)) b2 rfl) ?_
  simp only [sZ, sS]
  refine sv 9 (.int .i64 (xs.length : Int)) .of ?_
  simp only [sZ, sS]
  refine sv 10 (.bool (decide (((k : Nat) : Int) < (xs.length : Int)))) (Val.cmp .lss 3 _ (.tmp 6) (.tmp 9) rfl .i64 ((k : Nat) : Int) (xs.length : Int) (by kernel_rfl) (by kernel_rfl) (by simp) _ rfl) ?_
  simp only [sZ, sS]
  refine wpList_nil ?_
  refine hK5 _ _ ?_
  refine cDec (((k : Nat) : Int) < (xs.length : Int)) (by kernel_rfl) (fun c10 => ?_) (fun c10 => ?_)
  · skip
    refine wp_skip ?_
    refine hK4 _ _ ?_
    refine wp_seq_k fun K6 hK6 => ?_
    refine wp_block ?_
    refine wp_seq_k fun K7 hK7 => ?_
    refine cPlain ?_
    refine sv 13 (.pointer (some ⟨w.heap.size, 1, none⟩)) .of ?_
    simp only [sZ, sS]
    refine sv 14 (.slice A xs.length C) (Val.cel1 26 _ rfl w.heap.size 1 _ (by kernel_rfl) (fun _ => (by kernel_rfl)) b2 rfl) ?_
    simp only [sZ, sS]
    refine sv 15 (.int .i64 ((k : Nat) : Int)) .of ?_
    simp only [sZ, sS]
    refine sv 16 (elemP (.slice A xs.length C) k) (Val.idxE 26 (.tmp 14) (.tmp 15) rfl (.slice A xs.length C) k (by kernel_rfl) (by kernel_rfl) D Try.underlying26 (by kernel_rfl) (by omega)) ?_
    simp only [sZ, sS]
    refine sv 17 (.int .i64 (xs.getD k 0)) (Val.ldE 3 _ rfl (.slice A xs.length C) k (by kernel_rfl) (fun _ => (by kernel_rfl)) D (by omega)) ?_
    simp only [sZ, sS]
    refine sv 18 (.int .i64 key) .of ?_
    simp only [sZ, sS]
    refine sv 19 (.bool (decide ((xs.getD k 0) = key))) (Val.cmp .eql 3 _ (.tmp 17) (.tmp 18) rfl .i64 (xs.getD k 0) key (by kernel_rfl) (by kernel_rfl) (by simp) _ rfl) ?_
    simp only [sZ, sS]
    refine wpList_nil ?_
    refine hK7 _ _ ?_
    refine cDec ((xs.getD k 0) = key) (by kernel_rfl) (fun c19 => ?_) (fun c19 => ?_)
    · skip
      refine wp_seq_k fun K8 hK8 => ?_
      refine cPlain ?_
      refine sv 20 (.agg #[.int .i64 seq, .slice A xs.length C]) (Val.cel 28 _ rfl 0 2 (by kernel_rfl) b2 _ Try.underlying28 rfl (by kernel_rfl) (by simp) [.int .i64 seq, .slice A xs.length C] rfl) ?_
      simp only [sZ, sS]
      refine xCall 21 19 #[.agg #[.int .i64 seq, .slice A xs.length C]] (by kernel_rfl) ?_
      refine (r18rightlist_any seq A C xs wl0 D).mono ?_
      rintro en w2 ⟨rfl, hb1⟩
      have e1 := belE0 hb1
      have ze1 := e1.size
      replace BL := BL.e0 e1
      replace D := D.e0 e1
      replace b2 := b2.e0 e1
      clear e1
      refine ⟨.bool (rightL seq xs), rfl, ?_⟩
      simp only [sZ, sS]
      refine sv 4 (.bool (rightL seq xs)) .of ?_
      simp only [sZ, sS]
      refine wpList_nil ?_
      refine hK8 _ _ ?_
      refine wp_ret ?_
      (try simp only [Exit.then, Exit.inBlock])
      refine bodyPost_ret (v := .bool (rightL seq xs)) rT rfl ?_
      have hm : key ∈ xs := by
        have hk : k < xs.length := by omega
        have : xs.getD k 0 = xs[k] := by rw [List.getD_eq_getElem?_getD, List.getElem?_eq_getElem hk]; rfl
        rw [← c19, this]; exact List.getElem_mem hk
      rw [decide_eq_true hm, Bool.and_true]
      exact ⟨rfl, BL.b⟩
    · skip
      refine wp_skip ?_
      refine hK6 _ _ ?_
      refine cPlain ?_
      refine sv 11 (.int .i64 ((k : Nat) : Int)) .of ?_
      simp only [sZ, sS]
      refine sv 12 (.int .i64 ((k + 1 : Nat) : Int)) (Val.as (Val.add 3 _ (.tmp 11) _ rfl ((k : Nat) : Int) 1 (by kernel_rfl) (by kernel_rfl) (by omega)) (congrArg (Value.int .i64) (by omega))) ?_
      simp only [sZ, sS]
      refine sv 5 (.int .i64 ((k + 1 : Nat) : Int)) .of ?_
      simp only [sZ, sS]
      refine wpList_nil ?_
      refine ⟨_, ?_, k + 1, rfl, (by omega), (fun j h => by rcases Nat.lt_or_ge j k with h3 | h3; exact hc0_1 j h3; obtain rfl : j = k := (by omega); exact c19), cutE, BL, D, b2, by omega⟩
      omega
  · skip
    refine wp_exit ?_
    simp only [Exit.then, Exit.inBlock, ↓reduceIte, Nat.reduceEqDiff]
    refine hK2 _ _ ?_
    refine wp_seq_k fun K9 hK9 => ?_
    refine cPlain ?_
    refine sv 4 (.bool false) .of ?_
    simp only [sZ, sS]
    refine wpList_nil ?_
    refine hK9 _ _ ?_
    refine wp_ret ?_
    (try simp only [Exit.then, Exit.inBlock])
    refine bodyPost_ret (v := .bool false) rT rfl ?_
    have hm : ¬ key ∈ xs := fun h => by
      obtain ⟨j, hj, he⟩ := List.getElem_of_mem h
      refine hc0_1 j (by omega) ?_
      rw [List.getD_eq_getElem?_getD, List.getElem?_eq_getElem hj]; exact he
    rw [decide_eq_false hm, Bool.and_false]
    exact ⟨rfl, BL.b⟩

end Go.Proofs.Ytanggdnmoaflfaa
