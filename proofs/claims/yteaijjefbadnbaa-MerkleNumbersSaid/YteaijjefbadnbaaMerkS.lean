/-
  blockhouselow.SameDigests, CopyDigests, SamePath, Pick; law10.grown.
-/
import Derived.Test.YteaijjefbadnbaaMerkX
import Derived.Test.YteaijjefbadnbaaPk2
namespace Go.Proofs.Yteaijjefbadnbaa
open Go.RowKit
set_option linter.unusedVariables false
set_option linter.unusedSimpArgs false
set_option maxRecDepth 100000
attribute [local irreducible] wpList Code.wp wpAnyZ taggedN mnode
theorem neq_nn (a b : List Nat) : (if BinOp.neq = BinOp.eql then decide (nn a = nn b) else !decide (nn a = nn b)) = decide (¬ a = b) := by
  rw [if_neg (by decide)]
  by_cases h : a = b
  · subst h; simp
  · have : ¬ nn a = nn b := fun e => h (nn_inj e)
    simp [h, this]
theorem takeD_next {xs ys : List (List Nat)} {k : Nat} (h : xs.length = ys.length) (hk : k < xs.length) (h1 : xs.take k = ys.take k) (h2 : xs.getD k [] = ys.getD k []) : xs.take (k + 1) = ys.take (k + 1) := by
  have hy : k < ys.length := by omega
  rw [List.take_add_one, List.take_add_one, h1, List.getElem?_eq_getElem hk, List.getElem?_eq_getElem hy]
  rw [List.getD_eq_getElem?_getD, List.getD_eq_getElem?_getD, List.getElem?_eq_getElem hk, List.getElem?_eq_getElem hy] at h2
  simp only [Option.getD_some] at h2
  rw [h2]
set_option maxHeartbeats 4000000 in
theorem samedig_any (v0 v1 : Value) (xs ys : List (List Nat)) (w : World) (H0 : SE .u8 32 w v0 (nnd xs)) (H1 : SE .u8 32 w v1 (nnd ys)) :
    Calls Try.prog 49 #[v0, v1] w fun e w' => e = .returned (.bool (decide (xs = ys))) ∧ Below w.heap.size w w' := by
  have BL := Bl.refl w
  have h0 := H0.lt
  have h1 := H1.lt
  have hx := nnd_lens H0.lens
  have hy := nnd_lens H1.lens
  obtain ⟨A0, C0, hv0, hc0⟩ := H0.len
  obtain ⟨A1, C1, hv1, hc1⟩ := H1.len
  rw [nnd_len] at hv0 hv1 hc0 hc1
  subst hv0 hv1
  have hm0 := H0.cap.2.2
  unfold maxLen at hm0
  go_enter Try.func49, Try.ntmps49
  refine wp_seq_k fun K1 hK1 => ?_
  refine cPlain ?_
  refine sv 4 (.bool false) .of ?_
  simp only [List.set_cons_zero, List.set_cons_succ]
  refine wpList_nil ?_
  refine hK1 _ _ ?_
  refine wp_seq_k fun K2 hK2 => ?_
  refine wp_seq_k fun K3 hK3 => ?_
  refine cPlain ?_
  refine sv 6 (.slice A0 xs.length C0) .of ?_
  simp only [List.set_cons_zero, List.set_cons_succ]
  refine sv 7 (.int .i64 (xs.length : Int)) .of ?_
  simp only [List.set_cons_zero, List.set_cons_succ]
  refine sv 8 (.slice A1 ys.length C1) .of ?_
  simp only [List.set_cons_zero, List.set_cons_succ]
  refine sv 9 (.int .i64 (ys.length : Int)) .of ?_
  simp only [List.set_cons_zero, List.set_cons_succ]
  refine sv 10 (.bool (decide (¬ ((xs.length : Int) = (ys.length : Int))))) (Val.cmp .neq 3 _ (.tmp 7) (.tmp 9) rfl .i64 (xs.length : Int) (ys.length : Int) (by kernel_rfl) (by kernel_rfl) (by simp) _ (by simp [cmpB])) ?_
  simp only [List.set_cons_zero, List.set_cons_succ]
  refine wpList_nil ?_
  refine hK3 _ _ ?_
  refine cDec (¬ ((xs.length : Int) = (ys.length : Int))) (by kernel_rfl) (fun c10 => ?_) (fun c10 => ?_)
  · skip
    refine wp_seq_k fun K4 hK4 => ?_
    refine cPlain ?_
    refine sv 4 (.bool false) .of ?_
    simp only [List.set_cons_zero, List.set_cons_succ]
    refine wpList_nil ?_
    refine hK4 _ _ ?_
    refine wp_ret ?_
    (try simp only [Exit.then, Exit.inBlock])
    refine bodyPost_ret (v := .bool false) rT rfl ?_
    rw [decide_eq_false (fun h => by subst h; first | exact c10 rfl | exact c25 rfl)]
    exact ⟨rfl, BL.b⟩
  · skip
    refine wp_skip ?_
    refine hK2 _ _ ?_
    refine wp_seq_k fun K5 hK5 => ?_
    refine wp_seq_k fun K6 hK6 => ?_
    refine cPlain ?_
    refine sv 5 (.int .i64 0) .of ?_
    simp only [List.set_cons_zero, List.set_cons_succ]
    refine wpList_nil ?_
    refine hK6 _ _ ?_
    refine wp_block ?_
    refine cLoop (fun N_ A_ w_ => ∃ (k : Nat), (N_ = xs.length - k ∧ (k ≤ xs.length) ∧ (xs.take k = ys.take k) ∧ (∃ s1 : Nat → Value, A_ = ⟨[.slice A0 xs.length C0, .slice A1 ys.length C1, undef, undef, (s1 4), .int .i64 ((k : Nat) : Int), .slice A0 xs.length C0, .int .i64 (xs.length : Int), .slice A1 ys.length C1, .int .i64 (ys.length : Int), .bool (decide (¬ ((xs.length : Int) = (ys.length : Int)))), (s1 11), (s1 12), (s1 13), (s1 14), (s1 15), (s1 16), (s1 17), (s1 18), (s1 19), (s1 20), (s1 21), (s1 22), (s1 23), (s1 24), (s1 25)].toArray, []⟩) ∧ Bl w.heap.size w w_ ∧ SE .u8 32 w_ (.slice A0 xs.length C0) (nnd xs) ∧ SE .u8 32 w_ (.slice A1 ys.length C1) (nnd ys) ∧ w.heap.size ≤ w_.heap.size)) _ ⟨0, rfl, (Nat.zero_le _), (by simp), cutE, BL, H0, H1, Nat.le_refl _⟩ ?_
    clear BL H0 H1
    rintro n_ a_ wl0 ⟨k, rfl, hc0_0, hc0_1, ⟨s1, rfl⟩, BL, H0, H1, zl0⟩
    refine wp_seq_k fun K7 hK7 => ?_
    refine wp_seq_k fun K8 hK8 => ?_
    refine cPlain ?_
    refine sv 11 (.int .i64 ((k : Nat) : Int)) .of ?_
    simp only [List.set_cons_zero, List.set_cons_succ]
    refine sv 12 (.slice A0 xs.length C0) .of ?_
    simp only [List.set_cons_zero, List.set_cons_succ]
    refine sv 13 (.int .i64 (xs.length : Int)) .of ?_
    simp only [List.set_cons_zero, List.set_cons_succ]
    refine sv 14 (.bool (decide (((k : Nat) : Int) < (xs.length : Int)))) (Val.cmp .lss 3 _ (.tmp 11) (.tmp 13) rfl .i64 ((k : Nat) : Int) (xs.length : Int) (by kernel_rfl) (by kernel_rfl) (by simp) _ rfl) ?_
    simp only [List.set_cons_zero, List.set_cons_succ]
    refine wpList_nil ?_
    refine hK8 _ _ ?_
    refine cDec (((k : Nat) : Int) < (xs.length : Int)) (by kernel_rfl) (fun c14 => ?_) (fun c14 => ?_)
    · skip
      refine wp_skip ?_
      refine hK7 _ _ ?_
      refine wp_seq_k fun K9 hK9 => ?_
      refine wp_block ?_
      refine wp_seq_k fun K10 hK10 => ?_
      have e1 := drew_e0 wl0
      refine zg (fun w_ => Bl w.heap.size w w_ ∧ SE .u8 32 w_ (.slice A0 xs.length C0) (nnd xs) ∧ SE .u8 32 w_ (.slice A1 ys.length C1) (nnd ys) ∧ wl0.heap.size ≤ w_.heap.size) (fun w_ => Bl w.heap.size w w_ ∧ SE .u8 32 w_ (.slice A0 xs.length C0) (nnd xs) ∧ SE .u8 32 w_ (.slice A1 ys.length C1) (nnd ys) ∧ wl0.heap.size ≤ w_.heap.size) 100000 9 ⟨BL.e0 e1, H0.e0 e1, H1.e0 e1, Nat.le_refl _⟩ ?_
      clear BL H0 H1
      clear e1
      intro w1
      rintro ⟨BL, H0, H1, z1⟩
      refine zv 0 17 (.slice A0 xs.length C0) (fun _ _ => .of) ⟨BL, H0, H1, by omega⟩ ?_
      simp only [List.set_cons_zero, List.set_cons_succ]
      refine zv 1 18 (.int .i64 ((k : Nat) : Int)) (fun _ _ => .of) ⟨BL, H0, H1, by omega⟩ ?_
      simp only [List.set_cons_zero, List.set_cons_succ]
      refine zv 2 19 (elemE 32 (.slice A0 xs.length C0) k) (fun _ ⟨BL, H0, H1, z1⟩ => Val.ixE 63 (.tmp 17) (.tmp 18) rfl (.slice A0 xs.length C0) k (by kernel_rfl) (by kernel_rfl) H0 Try.underlying63 (by kernel_rfl) (by simp only [nnd_len]; omega)) ⟨BL, H0, H1, by omega⟩ ?_
      simp only [List.set_cons_zero, List.set_cons_succ]
      refine zv 3 20 (.agg (cellsOf .u8 (nn (xs.getD k [])))) (fun _ ⟨BL, H0, H1, z1⟩ => Val.ldGN 37 _ rfl (.slice A0 xs.length C0) k (by kernel_rfl) H0 _ Try.underlying37 rfl (by kernel_rfl) (by simp only [nnd_len]; omega)) ⟨BL, H0, H1, by omega⟩ ?_
      simp only [List.set_cons_zero, List.set_cons_succ]
      refine zv 4 21 (.slice A1 ys.length C1) (fun _ _ => .of) ⟨BL, H0, H1, by omega⟩ ?_
      simp only [List.set_cons_zero, List.set_cons_succ]
      refine zv 5 22 (.int .i64 ((k : Nat) : Int)) (fun _ _ => .of) ⟨BL, H0, H1, by omega⟩ ?_
      simp only [List.set_cons_zero, List.set_cons_succ]
      refine zv 6 23 (elemE 32 (.slice A1 ys.length C1) k) (fun _ ⟨BL, H0, H1, z1⟩ => Val.ixE 63 (.tmp 21) (.tmp 22) rfl (.slice A1 ys.length C1) k (by kernel_rfl) (by kernel_rfl) H1 Try.underlying63 (by kernel_rfl) (by simp only [nnd_len]; omega)) ⟨BL, H0, H1, by omega⟩ ?_
      simp only [List.set_cons_zero, List.set_cons_succ]
      refine zv 7 24 (.agg (cellsOf .u8 (nn (ys.getD k [])))) (fun _ ⟨BL, H0, H1, z1⟩ => Val.ldGN 37 _ rfl (.slice A1 ys.length C1) k (by kernel_rfl) H1 _ Try.underlying37 rfl (by kernel_rfl) (by simp only [nnd_len]; omega)) ⟨BL, H0, H1, by omega⟩ ?_
      simp only [List.set_cons_zero, List.set_cons_succ]
      refine zv 8 25 (.bool (decide (¬ xs.getD k [] = ys.getD k []))) (fun _ ⟨BL, H0, H1, z1⟩ => Val.eqA .neq 37 _ (.tmp 20) (.tmp 24) rfl Try.underlying37 Try.underlying5 (by kernel_rfl) (by kernel_rfl) (nn (xs.getD k [])) (nn (ys.getD k [])) (by kernel_rfl) (by kernel_rfl) (by rw [nn_len]; exact fe_getDN hx (by omega)) (by rw [nn_len]; exact fe_getDN hy (by omega)) (.inr rfl) _ (neq_nn _ _)) ⟨BL, H0, H1, by omega⟩ ?_
      simp only [List.set_cons_zero, List.set_cons_succ]
      refine zd (by kernel_rfl) ?_ _
      refine hK10 _ _ ?_
      refine cDec (¬ xs.getD k [] = ys.getD k []) (by kernel_rfl) (fun c25 => ?_) (fun c25 => ?_)
      · skip
        refine wp_seq_k fun K11 hK11 => ?_
        refine cPlain ?_
        refine sv 4 (.bool false) .of ?_
        simp only [List.set_cons_zero, List.set_cons_succ]
        refine wpList_nil ?_
        refine hK11 _ _ ?_
        refine wp_ret ?_
        (try simp only [Exit.then, Exit.inBlock])
        refine bodyPost_ret (v := .bool false) rT rfl ?_
        rw [decide_eq_false (fun h => by subst h; first | exact c10 rfl | exact c25 rfl)]
        exact ⟨rfl, BL.b⟩
      · skip
        refine wp_skip ?_
        refine hK9 _ _ ?_
        refine cPlain ?_
        refine sv 15 (.int .i64 ((k : Nat) : Int)) .of ?_
        simp only [List.set_cons_zero, List.set_cons_succ]
        refine sv 16 (.int .i64 (((k : Nat) : Int) + 1)) (Val.add 3 _ (.tmp 15) _ rfl ((k : Nat) : Int) 1 (by kernel_rfl) (by kernel_rfl) (by omega)) ?_
        simp only [List.set_cons_zero, List.set_cons_succ]
        refine sv 5 (.int .i64 (((k : Nat) : Int) + 1)) .of ?_
        simp only [List.set_cons_zero, List.set_cons_succ]
        refine wpList_nil ?_
        refine ⟨_, ?_, k + 1, rfl, (by omega), (takeD_next (by omega) (by omega) hc0_1 (Classical.not_not.1 c25)), cutE, BL, H0, H1, by omega⟩
        omega
    · skip
      rw [show k = xs.length by omega, List.take_length, List.take_of_length_le (by omega)] at hc0_1
      refine wp_exit ?_
      simp only [Exit.then, Exit.inBlock, ↓reduceIte, Nat.reduceEqDiff]
      refine hK5 _ _ ?_
      refine wp_seq_k fun K12 hK12 => ?_
      refine cPlain ?_
      refine sv 4 (.bool true) .of ?_
      simp only [List.set_cons_zero, List.set_cons_succ]
      refine wpList_nil ?_
      refine hK12 _ _ ?_
      refine wp_ret ?_
      (try simp only [Exit.then, Exit.inBlock])
      refine bodyPost_ret (v := .bool true) rT rfl ?_
      exact ⟨by rw [decide_eq_true hc0_1], BL.b⟩

end Go.Proofs.Yteaijjefbadnbaa
