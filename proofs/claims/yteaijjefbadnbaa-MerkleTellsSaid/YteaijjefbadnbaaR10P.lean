/-
  ref10: Root, Right, Climb, Path.
-/
import Derived.Test.YteaijjefbadnbaaRef10
namespace Go.Proofs.Yteaijjefbadnbaa
open Go.RowKit
set_option linter.unusedVariables false
set_option linter.unusedSimpArgs false
set_option maxRecDepth 100000
attribute [local irreducible] wpList Code.wp wpAnyZ taggedN mnode
theorem r10Root_any (tab : List Nat) (ht : tab.length = 72) (h32 : ∀ x ∈ tab, x < 4294967296) (w : World) (v : Value) (es : List (List Nat)) (D : SE .u8 32 w v (nnd es)) (hes : ∀ d ∈ es, d.length = 32) (hb : B8 es) (h : Nat) (hh : h ≤ 8) (hn : es.length = 2 ^ h) :
    Calls Try.prog 50 #[.agg (cellsOf .u32 (nn tab)), v] w fun e w' => e = .returned (.tuple #[.agg (cellsOf .u8 (nn (mroot tab h es))), .int .i64 0]) ∧ Below w.heap.size w w' := by
  have BL := Bl.refl w
  have hvl := D.lt
  have hrl := mroot_len tab h es hn hes
  obtain ⟨vA, vC, hv, hvc⟩ := D.len
  rw [nnd_len] at hv hvc
  subst hv
  go_enter Try.func50, Try.ntmps50
  refine wp_seq_k fun K1 hK1 => ?_
  refine cPlain ?_
  refine xBox 2 26 _ ((nn tab).map (Value.int .u32)) rfl (cells_toList _ _) ?_
  intro w1 n1
  have zn1 := n1.z
  have b2 := n1.c
  replace b2 : Blk .u32 w1 w.heap.size 26 (nn tab) := b2
  replace BL := BL.e0 n1.e
  replace D := D.e0 n1.e
  simp only [List.set_cons_zero, List.set_cons_succ]
  refine xAlloc 4 37 ((nn (List.replicate 32 0)).map (Value.int .u8)) rfl (by kernel_rfl) ?_
  intro w2 n2
  have zn2 := n2.z
  have b4 := n2.c
  replace b4 : Blk .u8 w2 w1.heap.size 37 (nn (List.replicate 32 0)) := b4
  replace BL := BL.e0 n2.e
  replace D := D.e0 n2.e
  replace b2 := b2.e0 n2.e
  simp only [List.set_cons_zero, List.set_cons_succ]
  refine sv 5 (.int .i64 0) .of ?_
  simp only [List.set_cons_zero, List.set_cons_succ]
  refine wpList_nil ?_
  refine hK1 _ _ ?_
  refine wp_seq_k fun K2 hK2 => ?_
  refine wp_seq_k fun K3 hK3 => ?_
  refine cPlain ?_
  refine sv 6 (.slice vA es.length vC) .of ?_
  simp only [List.set_cons_zero, List.set_cons_succ]
  refine sv 7 (.int .i64 (es.length : Int)) .of ?_
  simp only [List.set_cons_zero, List.set_cons_succ]
  refine xCall 8 99 #[.int .i64 (es.length : Int)] (by kernel_rfl) ?_
  refine (r10height_any es.length w2).mono ?_
  rintro en w3 ⟨he, hw⟩
  rw [heightN_pow hn hh] at he
  subst he
  have e1 : E0 w2 w3 := (hw ▸ Ev.refl _ _)
  have ze1 := e1.size
  replace BL := BL.e0 e1
  replace D := D.e0 e1
  replace b2 := b2.e0 e1
  replace b4 := b4.e0 e1
  clear e1
  refine ⟨.int .i64 ((h : Nat) : Int), rfl, ?_⟩
  simp only [List.set_cons_zero, List.set_cons_succ]
  refine sv 9 (.bool false) (Val.cmp .lss 3 _ (.tmp 8) _ rfl .i64 ((h : Nat) : Int) 0 (by kernel_rfl) (by kernel_rfl) (by simp) _ (by simp [cmpB]; try omega)) ?_
  simp only [List.set_cons_zero, List.set_cons_succ]
  refine wpList_nil ?_
  refine hK3 _ _ ?_
  refine cF ?_
  refine wp_skip ?_
  refine hK2 _ _ ?_
  refine wp_seq_k fun K4 hK4 => ?_
  refine cPlain ?_
  refine sv 11 (.agg (cellsOf .u32 (nn tab))) (Val.blk 26 _ rfl 0 72 (by kernel_rfl) b2 _ Try.underlying26 rfl (by kernel_rfl) (by (try simp only [nn_len, List.length_cons, List.length_nil, List.length_set, List.length_replicate]); try omega) _ (seg_all' _ (by (try simp only [nn_len, List.length_cons, List.length_nil, List.length_set, List.length_replicate]); try omega))) ?_
  simp only [List.set_cons_zero, List.set_cons_succ]
  refine sv 12 (.slice vA es.length vC) .of ?_
  simp only [List.set_cons_zero, List.set_cons_succ]
  refine xCall 13 100 #[.agg (cellsOf .u32 (nn tab)), .slice vA es.length vC] (by kernel_rfl) ?_
  refine (r10root_any tab ht h32 h hh w3 _ es D hes hb hn).mono ?_
  rintro en w4 ⟨rfl, hb1⟩
  have e2 := belE0 hb1
  have ze2 := e2.size
  replace BL := BL.e0 e2
  replace D := D.e0 e2
  replace b2 := b2.e0 e2
  replace b4 := b4.e0 e2
  clear e2
  refine ⟨.agg (cellsOf .u8 (nn (mroot tab h es))), rfl, ?_⟩
  simp only [List.set_cons_zero, List.set_cons_succ]
  refine xStoreA 37 (.tmp 4) (.tmp 13) rfl .u8 w1.heap.size 37 (nn (List.replicate 32 0)) 0 (nn (mroot tab h es)) (by kernel_rfl) (by kernel_rfl) b4 (by rw [show (nn (mroot tab h es)).length = 32 by ((try simp only [nn_len, List.length_cons, List.length_nil, List.length_set, List.length_replicate]); try omega)]; kernel_rfl) (by (try simp only [nn_len, List.length_cons, List.length_nil, List.length_set, List.length_replicate]); try omega) (nn (mroot tab h es)) (over_whole _ _ (by (try simp only [nn_len, List.length_cons, List.length_nil, List.length_set, List.length_replicate]); try omega)) ?_
  intro w5 t1
  have zt1 := t1.z
  have BL_ := BL.ev t1.e (fun i h => show w.heap.size ≤ i by have h : i = w1.heap.size := h; omega)
  have D_ := D.ev t1.e (fun i hi => show ¬ (i = w1.heap.size) by have := hvl i hi; omega)
  have b2_ := b2.ev t1.e (show ¬ (w.heap.size = w1.heap.size) by omega)
  replace BL := BL_; clear BL_
  replace D := D_; clear D_
  replace b2 := b2_; clear b2_
  replace b4 : Blk .u8 w5 w1.heap.size 37 (nn (mroot tab h es)) := t1.c
  clear t1
  refine sv 5 (.int .i64 0) .of ?_
  simp only [List.set_cons_zero, List.set_cons_succ]
  refine wpList_nil ?_
  refine hK4 _ _ ?_
  refine wp_ret ?_
  (try simp only [Exit.then, Exit.inBlock])
  refine bodyPost_ret (rCT rfl _ w1.heap.size _ _ (.int .i64 0) (by kernel_rfl) (by kernel_rfl) b4.cel _ Try.underlying37 rfl (by rw [List.length_map, show (nn (mroot tab h es)).length = 32 by ((try simp only [nn_len, List.length_cons, List.length_nil, List.length_set, List.length_replicate]); try omega)]; kernel_rfl)) rfl ?_
  exact ⟨rfl, BL.b⟩

theorem r10Root_no (tab : List Nat) (ht : tab.length = 72) (h32 : ∀ x ∈ tab, x < 4294967296) (w : World) (v : Value) (es : List (List Nat)) (D : SE .u8 32 w v (nnd es)) (hno : heightN es.length = none) :
    Calls Try.prog 50 #[.agg (cellsOf .u32 (nn tab)), v] w fun e w' => e = .returned (.tuple #[.agg (cellsOf .u8 (nn (List.replicate 32 0))), .int .i64 2]) ∧ Below w.heap.size w w' := by
  have BL := Bl.refl w
  obtain ⟨vA, vC, hv, hvc⟩ := D.len
  rw [nnd_len] at hv hvc
  subst hv
  go_enter Try.func50, Try.ntmps50
  refine wp_seq_k fun K1 hK1 => ?_
  refine cPlain ?_
  refine xBox 2 26 _ ((nn tab).map (Value.int .u32)) rfl (cells_toList _ _) ?_
  intro w1 n1
  have zn1 := n1.z
  have b2 := n1.c
  replace b2 : Blk .u32 w1 w.heap.size 26 (nn tab) := b2
  replace BL := BL.e0 n1.e
  simp only [List.set_cons_zero, List.set_cons_succ]
  refine xAlloc 4 37 ((nn (List.replicate 32 0)).map (Value.int .u8)) rfl (by kernel_rfl) ?_
  intro w2 n2
  have zn2 := n2.z
  have b4 := n2.c
  replace b4 : Blk .u8 w2 w1.heap.size 37 (nn (List.replicate 32 0)) := b4
  replace BL := BL.e0 n2.e
  replace b2 := b2.e0 n2.e
  simp only [List.set_cons_zero, List.set_cons_succ]
  refine sv 5 (.int .i64 0) .of ?_
  simp only [List.set_cons_zero, List.set_cons_succ]
  refine wpList_nil ?_
  refine hK1 _ _ ?_
  refine wp_seq_k fun K2 hK2 => ?_
  refine wp_seq_k fun K3 hK3 => ?_
  refine cPlain ?_
  refine sv 6 (.slice vA es.length vC) .of ?_
  simp only [List.set_cons_zero, List.set_cons_succ]
  refine sv 7 (.int .i64 (es.length : Int)) .of ?_
  simp only [List.set_cons_zero, List.set_cons_succ]
  refine xCall 8 99 #[.int .i64 (es.length : Int)] (by kernel_rfl) ?_
  refine (r10height_any es.length w2).mono ?_
  rintro en w3 ⟨he, hw⟩
  rw [hno] at he
  subst he
  have e1 : E0 w2 w3 := (hw ▸ Ev.refl _ _)
  have ze1 := e1.size
  replace BL := BL.e0 e1
  replace b2 := b2.e0 e1
  replace b4 := b4.e0 e1
  clear e1
  refine ⟨.int .i64 (-1), rfl, ?_⟩
  simp only [List.set_cons_zero, List.set_cons_succ]
  refine sv 9 (.bool true) (Val.cmp .lss 3 _ (.tmp 8) _ rfl .i64 (-1) 0 (by kernel_rfl) (by kernel_rfl) (by simp) _ rfl) ?_
  simp only [List.set_cons_zero, List.set_cons_succ]
  refine wpList_nil ?_
  refine hK3 _ _ ?_
  refine cT ?_
  refine wp_seq_k fun K4 hK4 => ?_
  refine cPlain ?_
  refine sv 10 (.agg (cellsOf .u8 (nn [0, 0, 0, 0, 0, 0, 0, 0, 0, 0, 0, 0, 0, 0, 0, 0, 0, 0, 0, 0, 0, 0, 0, 0, 0, 0, 0, 0, 0, 0, 0, 0]))) .of ?_
  simp only [List.set_cons_zero, List.set_cons_succ]
  refine xStoreA 37 (.tmp 4) (.tmp 10) rfl .u8 w1.heap.size 37 (nn (List.replicate 32 0)) 0 (nn [0, 0, 0, 0, 0, 0, 0, 0, 0, 0, 0, 0, 0, 0, 0, 0, 0, 0, 0, 0, 0, 0, 0, 0, 0, 0, 0, 0, 0, 0, 0, 0]) (by kernel_rfl) (by kernel_rfl) b4 (by rw [show (nn [0, 0, 0, 0, 0, 0, 0, 0, 0, 0, 0, 0, 0, 0, 0, 0, 0, 0, 0, 0, 0, 0, 0, 0, 0, 0, 0, 0, 0, 0, 0, 0]).length = 32 by ((try simp only [nn_len, List.length_cons, List.length_nil, List.length_set, List.length_replicate]); try omega)]; kernel_rfl) (by (try simp only [nn_len, List.length_cons, List.length_nil, List.length_set, List.length_replicate]); try omega) (nn [0, 0, 0, 0, 0, 0, 0, 0, 0, 0, 0, 0, 0, 0, 0, 0, 0, 0, 0, 0, 0, 0, 0, 0, 0, 0, 0, 0, 0, 0, 0, 0]) (over_whole _ _ (by (try simp only [nn_len, List.length_cons, List.length_nil, List.length_set, List.length_replicate]); try omega)) ?_
  intro w4 t1
  have zt1 := t1.z
  have BL_ := BL.ev t1.e (fun i h => show w.heap.size ≤ i by have h : i = w1.heap.size := h; omega)
  have b2_ := b2.ev t1.e (show ¬ (w.heap.size = w1.heap.size) by omega)
  replace BL := BL_; clear BL_
  replace b2 := b2_; clear b2_
  replace b4 : Blk .u8 w4 w1.heap.size 37 (nn [0, 0, 0, 0, 0, 0, 0, 0, 0, 0, 0, 0, 0, 0, 0, 0, 0, 0, 0, 0, 0, 0, 0, 0, 0, 0, 0, 0, 0, 0, 0, 0]) := t1.c
  clear t1
  refine sv 5 (.int .i64 2) .of ?_
  simp only [List.set_cons_zero, List.set_cons_succ]
  refine wpList_nil ?_
  refine hK4 _ _ ?_
  refine wp_ret ?_
  (try simp only [Exit.then, Exit.inBlock])
  refine bodyPost_ret (rCT rfl _ w1.heap.size _ _ (.int .i64 2) (by kernel_rfl) (by kernel_rfl) b4.cel _ Try.underlying37 rfl (by rw [List.length_map, show (nn [0, 0, 0, 0, 0, 0, 0, 0, 0, 0, 0, 0, 0, 0, 0, 0, 0, 0, 0, 0, 0, 0, 0, 0, 0, 0, 0, 0, 0, 0, 0, 0]).length = 32 by ((try simp only [nn_len, List.length_cons, List.length_nil, List.length_set, List.length_replicate]); try omega)]; kernel_rfl)) rfl ?_
  exact ⟨rfl, BL.b⟩

set_option maxHeartbeats 4000000 in
theorem r10right_any (leaf : Int) (A : Option Addr) (m C : Nat) (w : World) :
    Calls Try.prog 54 #[.agg #[.int .i64 leaf, .slice A m C]] w fun e w' => e = .returned (.bool (mright m leaf)) ∧ Below w.heap.size w w' := by
  have BL := Bl.refl w
  go_enter Try.func54, Try.ntmps54
  refine wp_seq_k fun K1 hK1 => ?_
  refine cPlain ?_
  refine xBox 1 66 _ [.int .i64 leaf, .slice A m C] rfl (by kernel_rfl) ?_
  intro w1 n1
  have zn1 := n1.z
  have b1 := n1.c
  replace BL := BL.e0 n1.e
  simp only [List.set_cons_zero, List.set_cons_succ]
  refine sv 2 (.bool false) .of ?_
  simp only [List.set_cons_zero, List.set_cons_succ]
  refine wpList_nil ?_
  refine hK1 _ _ ?_
  refine wp_seq_k fun K2 hK2 => ?_
  refine cPlain ?_
  refine sv 6 (.pointer (some ⟨w.heap.size, 1, none⟩)) .of ?_
  simp only [List.set_cons_zero, List.set_cons_succ]
  refine sv 7 (.slice A m C) (Val.cel1 63 _ rfl w.heap.size 1 _ (by kernel_rfl) (fun _ => (by kernel_rfl)) b1 rfl) ?_
  simp only [List.set_cons_zero, List.set_cons_succ]
  refine sv 8 (.int .i64 (m : Int)) .of ?_
  simp only [List.set_cons_zero, List.set_cons_succ]
  refine sv 3 (.int .i64 (m : Int)) .of ?_
  simp only [List.set_cons_zero, List.set_cons_succ]
  refine wpList_nil ?_
  refine hK2 _ _ ?_
  refine wp_seq_k fun K3 hK3 => ?_
  refine wp_seq_k fun K4 hK4 => ?_
  refine cPlain ?_
  refine sv 9 (.int .i64 (m : Int)) .of ?_
  simp only [List.set_cons_zero, List.set_cons_succ]
  refine sv 10 (.bool (decide (8 < (m : Int)))) (Val.cmp .gtr 3 _ (.tmp 9) _ rfl .i64 (m : Int) 8 (by kernel_rfl) (by kernel_rfl) (by simp) _ rfl) ?_
  simp only [List.set_cons_zero, List.set_cons_succ]
  refine sv 11 (.bool (decide (8 < (m : Int)))) .of ?_
  simp only [List.set_cons_zero, List.set_cons_succ]
  by_cases g12 : 8 < (m : Int)
  · skip
    have dg12 : decide (8 < (m : Int)) = true := decide_eq_true g12
    simp only [dg12]
    clear dg12
    refine xSkip 12 ?_
    simp only [List.set_cons_zero, List.set_cons_succ]
    refine xSkip 13 ?_
    simp only [List.set_cons_zero, List.set_cons_succ]
    refine xSkip 14 ?_
    simp only [List.set_cons_zero, List.set_cons_succ]
    refine sv 15 (.bool true) .of ?_
    simp only [List.set_cons_zero, List.set_cons_succ]
    refine wpList_nil ?_
    refine hK4 _ _ ?_
    refine cT ?_
    refine wp_seq_k fun K5 hK5 => ?_
    refine cPlain ?_
    refine sv 2 (.bool false) .of ?_
    simp only [List.set_cons_zero, List.set_cons_succ]
    refine wpList_nil ?_
    refine hK5 _ _ ?_
    refine wp_ret ?_
    (try simp only [Exit.then, Exit.inBlock])
    refine bodyPost_ret (v := .bool false) rT rfl ?_
    refine ⟨congrArg (fun b => Ending.returned (.bool b)) ?_, BL.b⟩
    unfold mright
    exact (decide_eq_false (by omega)).symm
  · skip
    have dg12 : decide (8 < (m : Int)) = false := decide_eq_false g12
    simp only [dg12]
    clear dg12
    refine sv 12 (.pointer (some ⟨w.heap.size, 0, none⟩)) .of ?_
    simp only [List.set_cons_zero, List.set_cons_succ]
    refine sv 13 (.int .i64 leaf) (Val.cel1 3 _ rfl w.heap.size 0 _ (by kernel_rfl) (fun _ => (by kernel_rfl)) b1 rfl) ?_
    simp only [List.set_cons_zero, List.set_cons_succ]
    refine sv 14 (.bool (decide (leaf < 0))) (Val.cmp .lss 3 _ (.tmp 13) _ rfl .i64 leaf 0 (by kernel_rfl) (by kernel_rfl) (by simp) _ rfl) ?_
    simp only [List.set_cons_zero, List.set_cons_succ]
    refine sv 15 (.bool (decide (leaf < 0))) .of ?_
    simp only [List.set_cons_zero, List.set_cons_succ]
    refine wpList_nil ?_
    refine hK4 _ _ ?_
    refine cDec (leaf < 0) (by kernel_rfl) (fun c15 => ?_) (fun c15 => ?_)
    · skip
      refine wp_seq_k fun K6 hK6 => ?_
      refine cPlain ?_
      refine sv 2 (.bool false) .of ?_
      simp only [List.set_cons_zero, List.set_cons_succ]
      refine wpList_nil ?_
      refine hK6 _ _ ?_
      refine wp_ret ?_
      (try simp only [Exit.then, Exit.inBlock])
      refine bodyPost_ret (v := .bool false) rT rfl ?_
      refine ⟨congrArg (fun b => Ending.returned (.bool b)) ?_, BL.b⟩
      unfold mright
      exact (decide_eq_false (by omega)).symm
    · skip
      refine wp_skip ?_
      refine hK3 _ _ ?_
      refine wp_seq_k fun K7 hK7 => ?_
      refine cPlain ?_
      refine sv 4 (.int .i64 1) .of ?_
      simp only [List.set_cons_zero, List.set_cons_succ]
      refine wpList_nil ?_
      refine hK7 _ _ ?_
      refine wp_seq_k fun K8 hK8 => ?_
      refine wp_seq_k fun K9 hK9 => ?_
      refine cPlain ?_
      refine sv 5 (.int .i64 0) .of ?_
      simp only [List.set_cons_zero, List.set_cons_succ]
      refine wpList_nil ?_
      refine hK9 _ _ ?_
      refine wp_block ?_
      refine cLoop (fun N_ A_ w_ => ∃ (i : Nat), (N_ = m - i ∧ (i ≤ m) ∧ (∃ s1 : Nat → Value, A_ = ⟨[.agg #[.int .i64 leaf, .slice A m C], .pointer (some ⟨w.heap.size, 0, none⟩), .bool false, .int .i64 (m : Int), .int .i64 ((2 ^ i : Nat) : Int), .int .i64 ((i : Nat) : Int), .pointer (some ⟨w.heap.size, 1, none⟩), .slice A m C, .int .i64 (m : Int), .int .i64 (m : Int), .bool false, .bool false, .pointer (some ⟨w.heap.size, 0, none⟩), .int .i64 leaf, .bool (decide (leaf < 0)), .bool (decide (leaf < 0)), (s1 16), (s1 17), (s1 18), (s1 19), (s1 20), (s1 21), (s1 22), undef, undef, undef, undef].toArray, []⟩) ∧ Bl w.heap.size w w_ ∧ Cel w_ w.heap.size 66 [.int .i64 leaf, .slice A m C] ∧ w1.heap.size ≤ w_.heap.size)) _ ⟨0, rfl, (Nat.zero_le _), cutE, BL, b1, Nat.le_refl _⟩ ?_
      clear BL b1
      rintro n_ a_ wl0 ⟨i, rfl, hc0_0, ⟨s1, rfl⟩, BL, b1, zl0⟩
      refine wp_seq_k fun K10 hK10 => ?_
      refine wp_seq_k fun K11 hK11 => ?_
      refine cPlain ?_
      refine sv 16 (.int .i64 ((i : Nat) : Int)) .of ?_
      simp only [List.set_cons_zero, List.set_cons_succ]
      refine sv 17 (.int .i64 (m : Int)) .of ?_
      simp only [List.set_cons_zero, List.set_cons_succ]
      refine sv 18 (.bool (decide (((i : Nat) : Int) < (m : Int)))) (Val.cmp .lss 3 _ (.tmp 16) (.tmp 17) rfl .i64 ((i : Nat) : Int) (m : Int) (by kernel_rfl) (by kernel_rfl) (by simp) _ rfl) ?_
      simp only [List.set_cons_zero, List.set_cons_succ]
      refine wpList_nil ?_
      refine hK11 _ _ ?_
      refine cDec (((i : Nat) : Int) < (m : Int)) (by kernel_rfl) (fun c18 => ?_) (fun c18 => ?_)
      · skip
        refine wp_skip ?_
        refine hK10 _ _ ?_
        refine wp_seq_k fun K12 hK12 => ?_
        refine wp_block ?_
        have hp0 := Nat.two_pow_pos i
        have hpi : 2 ^ i ≤ 256 := Nat.pow_le_pow_right (by omega) (by omega : i ≤ 8)
        refine cPlain ?_
        refine sv 21 (.int .i64 ((2 ^ i : Nat) : Int)) .of ?_
        simp only [List.set_cons_zero, List.set_cons_succ]
        refine sv 22 (.int .i64 ((2 ^ (i + 1) : Nat) : Int)) (Val.as (Val.mul 3 _ (.tmp 21) _ rfl ((2 ^ i : Nat) : Int) 2 (by kernel_rfl) (by kernel_rfl) (by omega)) (congrArg (Value.int .i64) (by rw [Nat.pow_succ]; omega))) ?_
        simp only [List.set_cons_zero, List.set_cons_succ]
        refine sv 4 (.int .i64 ((2 ^ (i + 1) : Nat) : Int)) .of ?_
        simp only [List.set_cons_zero, List.set_cons_succ]
        refine wpList_nil ?_
        refine hK12 _ _ ?_
        refine cPlain ?_
        refine sv 19 (.int .i64 ((i : Nat) : Int)) .of ?_
        simp only [List.set_cons_zero, List.set_cons_succ]
        refine sv 20 (.int .i64 ((i + 1 : Nat) : Int)) (Val.as (Val.add 3 _ (.tmp 19) _ rfl ((i : Nat) : Int) 1 (by kernel_rfl) (by kernel_rfl) (by omega)) (congrArg (Value.int .i64) (by omega))) ?_
        simp only [List.set_cons_zero, List.set_cons_succ]
        refine sv 5 (.int .i64 ((i + 1 : Nat) : Int)) .of ?_
        simp only [List.set_cons_zero, List.set_cons_succ]
        refine wpList_nil ?_
        refine ⟨_, ?_, i + 1, rfl, by omega, cutE, BL, b1, by omega⟩
        omega
      · skip
        refine wp_exit ?_
        simp only [Exit.then, Exit.inBlock, ↓reduceIte, Nat.reduceEqDiff]
        refine hK8 _ _ ?_
        refine wp_seq_k fun K13 hK13 => ?_
        refine cPlain ?_
        refine sv 23 (.pointer (some ⟨w.heap.size, 0, none⟩)) .of ?_
        simp only [List.set_cons_zero, List.set_cons_succ]
        refine sv 24 (.int .i64 leaf) (Val.cel1 3 _ rfl w.heap.size 0 _ (by kernel_rfl) (fun _ => (by kernel_rfl)) b1 rfl) ?_
        simp only [List.set_cons_zero, List.set_cons_succ]
        refine sv 25 (.int .i64 ((2 ^ i : Nat) : Int)) .of ?_
        simp only [List.set_cons_zero, List.set_cons_succ]
        refine sv 26 (.bool (decide (leaf < ((2 ^ i : Nat) : Int)))) (Val.cmp .lss 3 _ (.tmp 24) (.tmp 25) rfl .i64 leaf ((2 ^ i : Nat) : Int) (by kernel_rfl) (by kernel_rfl) (by simp) _ rfl) ?_
        simp only [List.set_cons_zero, List.set_cons_succ]
        refine sv 2 (.bool (decide (leaf < ((2 ^ i : Nat) : Int)))) .of ?_
        simp only [List.set_cons_zero, List.set_cons_succ]
        refine wpList_nil ?_
        refine hK13 _ _ ?_
        refine wp_ret ?_
        (try simp only [Exit.then, Exit.inBlock])
        refine bodyPost_ret (v := .bool (decide (leaf < ((2 ^ i : Nat) : Int)))) rT rfl ?_
        refine ⟨congrArg (fun b => Ending.returned (.bool b)) ?_, BL.b⟩
        unfold mright
        rw [show i = m by omega]
        exact decide_eq_decide.2 (by omega)

set_option maxHeartbeats 4000000 in
theorem r10climb_any (tab : List Nat) (ht : tab.length = 72) (h32 : ∀ x ∈ tab, x < 4294967296) (w : World) (dx : List Nat) (hx : dx.length = 32) (hx8 : ∀ x ∈ dx, x < 256) (lf : Nat) (A : Option Addr) (C : Nat) (bs : List (List Nat)) (D : SE .u8 32 w (.slice A bs.length C) (nnd bs)) (hbs : ∀ d ∈ bs, d.length = 32) (hb8 : B8 bs) (h8 : bs.length ≤ 8) (hlf : lf < 2 ^ bs.length) :
    Calls Try.prog 52 #[.agg (cellsOf .u32 (nn tab)), .agg (cellsOf .u8 (nn dx)), .agg #[.int .i64 ((lf : Nat) : Int), .slice A bs.length C]] w fun e w' => e = .returned (.tuple #[.agg (cellsOf .u8 (nn (mclimb tab dx lf bs))), .int .i64 0]) ∧ Below w.heap.size w w' := by
  have BL := Bl.refl w
  have hvl := D.lt
  have hpw : 2 ^ bs.length ≤ 256 := Nat.pow_le_pow_right (by omega) h8
  have hR : mright bs.length ((lf : Nat) : Int) = true := decide_eq_true ⟨h8, by omega, by omega⟩
  have e1 : lf = lf / 2 ^ 0 := by rw [Nat.pow_zero, Nat.div_one]
  go_enter Try.func52, Try.ntmps52
  refine wp_seq_k fun K1 hK1 => ?_
  refine cPlain ?_
  refine xBox 3 26 _ ((nn tab).map (Value.int .u32)) rfl (cells_toList _ _) ?_
  intro w1 n1
  have zn1 := n1.z
  have b3 := n1.c
  replace b3 : Blk .u32 w1 w.heap.size 26 (nn tab) := b3
  replace BL := BL.e0 n1.e
  replace D := D.e0 n1.e
  simp only [List.set_cons_zero, List.set_cons_succ]
  refine xBox 4 37 _ ((nn (dx)).map (Value.int .u8)) rfl (cells_toList _ _) ?_
  intro w2 n2
  have zn2 := n2.z
  have b4 := n2.c
  replace b4 : Blk .u8 w2 w1.heap.size 37 (nn (dx)) := b4
  replace BL := BL.e0 n2.e
  replace D := D.e0 n2.e
  replace b3 := b3.e0 n2.e
  simp only [List.set_cons_zero, List.set_cons_succ]
  refine xBox 5 66 _ [.int .i64 ((lf : Nat) : Int), .slice A bs.length C] rfl (by kernel_rfl) ?_
  intro w3 n3
  have zn3 := n3.z
  have b5 := n3.c
  replace BL := BL.e0 n3.e
  replace D := D.e0 n3.e
  replace b3 := b3.e0 n3.e
  replace b4 := b4.e0 n3.e
  simp only [List.set_cons_zero, List.set_cons_succ]
  refine xAlloc 6 37 ((nn (List.replicate 32 0)).map (Value.int .u8)) rfl (by kernel_rfl) ?_
  intro w4 n4
  have zn4 := n4.z
  have b6 := n4.c
  replace b6 : Blk .u8 w4 w3.heap.size 37 (nn (List.replicate 32 0)) := b6
  replace BL := BL.e0 n4.e
  replace D := D.e0 n4.e
  replace b3 := b3.e0 n4.e
  replace b4 := b4.e0 n4.e
  replace b5 := b5.e0 n4.e
  simp only [List.set_cons_zero, List.set_cons_succ]
  refine sv 7 (.int .i64 0) .of ?_
  simp only [List.set_cons_zero, List.set_cons_succ]
  refine wpList_nil ?_
  refine hK1 _ _ ?_
  refine wp_seq_k fun K2 hK2 => ?_
  refine wp_seq_k fun K3 hK3 => ?_
  refine cPlain ?_
  refine sv 10 (.agg #[.int .i64 ((lf : Nat) : Int), .slice A bs.length C]) (Val.cel 66 _ rfl 0 2 (by kernel_rfl) b5 _ Try.underlying66 rfl (by kernel_rfl) (by simp) [.int .i64 ((lf : Nat) : Int), .slice A bs.length C] rfl) ?_
  simp only [List.set_cons_zero, List.set_cons_succ]
  refine xCall 11 54 #[.agg #[.int .i64 ((lf : Nat) : Int), .slice A bs.length C]] (by kernel_rfl) ?_
  refine (r10right_any ((lf : Nat) : Int) A bs.length C w4).mono ?_
  rintro en w5 ⟨he, hb1⟩
  rw [hR] at he
  subst he
  have e1 := belE0 hb1
  have ze1 := e1.size
  replace BL := BL.e0 e1
  replace D := D.e0 e1
  replace b3 := b3.e0 e1
  replace b4 := b4.e0 e1
  replace b5 := b5.e0 e1
  replace b6 := b6.e0 e1
  clear e1
  refine ⟨.bool true, rfl, ?_⟩
  simp only [List.set_cons_zero, List.set_cons_succ]
  refine sv 12 (.bool false) .of ?_
  simp only [List.set_cons_zero, List.set_cons_succ]
  refine wpList_nil ?_
  refine hK3 _ _ ?_
  refine cF ?_
  refine wp_skip ?_
  refine hK2 _ _ ?_
  refine wp_seq_k fun K4 hK4 => ?_
  refine cPlain ?_
  refine sv 14 (.pointer (some ⟨w2.heap.size, 0, none⟩)) .of ?_
  simp only [List.set_cons_zero, List.set_cons_succ]
  refine sv 15 (.int .i64 ((lf / 2 ^ 0 : Nat) : Int)) (Val.asN (Val.cel1 3 _ rfl w2.heap.size 0 _ (by kernel_rfl) (fun _ => (by kernel_rfl)) b5 rfl) e1) ?_
  simp only [List.set_cons_zero, List.set_cons_succ]
  refine sv 8 (.int .i64 ((lf / 2 ^ 0 : Nat) : Int)) .of ?_
  simp only [List.set_cons_zero, List.set_cons_succ]
  refine wpList_nil ?_
  refine hK4 _ _ ?_
  refine wp_seq_k fun K5 hK5 => ?_
  refine wp_seq_k fun K6 hK6 => ?_
  refine cPlain ?_
  refine sv 9 (.int .i64 0) .of ?_
  simp only [List.set_cons_zero, List.set_cons_succ]
  refine wpList_nil ?_
  refine hK6 _ _ ?_
  refine wp_block ?_
  refine cLoop (fun N_ A_ w_ => ∃ (i : Nat), (N_ = bs.length - i ∧ (i ≤ bs.length) ∧ (∃ s1 : Nat → Value, A_ = ⟨[.agg (cellsOf .u32 (nn tab)), .agg (cellsOf .u8 (nn (dx))), .agg #[.int .i64 ((lf : Nat) : Int), .slice A bs.length C], .pointer (some ⟨w.heap.size, 0, none⟩), .pointer (some ⟨w1.heap.size, 0, none⟩), .pointer (some ⟨w2.heap.size, 0, none⟩), .pointer (some ⟨w3.heap.size, 0, none⟩), .int .i64 0, .int .i64 ((lf / 2 ^ i : Nat) : Int), .int .i64 ((i : Nat) : Int), .agg #[.int .i64 ((lf : Nat) : Int), .slice A bs.length C], .bool true, .bool false, undef, .pointer (some ⟨w2.heap.size, 0, none⟩), .int .i64 ((lf / 2 ^ 0 : Nat) : Int), (s1 16), (s1 17), (s1 18), (s1 19), (s1 20), (s1 21), (s1 22), (s1 23), (s1 24), (s1 25), (s1 26), (s1 27), (s1 28), (s1 29), (s1 30), (s1 31), (s1 32), (s1 33), (s1 34), (s1 35), (s1 36), (s1 37), (s1 38), (s1 39), (s1 40), (s1 41), (s1 42), (s1 43), undef].toArray, []⟩) ∧ Bl w.heap.size w w_ ∧ SE .u8 32 w_ (.slice A bs.length C) (nnd bs) ∧ Blk .u32 w_ w.heap.size 26 (nn tab) ∧ Blk .u8 w_ w1.heap.size 37 (nn (mclimb tab dx lf (bs.take i))) ∧ Cel w_ w2.heap.size 66 [.int .i64 ((lf : Nat) : Int), .slice A bs.length C] ∧ Blk .u8 w_ w3.heap.size 37 (nn (List.replicate 32 0)) ∧ w5.heap.size ≤ w_.heap.size)) _ ⟨0, rfl, (Nat.zero_le _), cutE, BL, D, b3, b4, b5, b6, Nat.le_refl _⟩ ?_
  clear BL D b3 b4 b5 b6
  rintro n_ a_ wl0 ⟨i, rfl, hc0_0, ⟨s1, rfl⟩, BL, D, b3, b4, b5, b6, zl0⟩
  refine wp_seq_k fun K7 hK7 => ?_
  refine wp_seq_k fun K8 hK8 => ?_
  refine cPlain ?_
  refine sv 16 (.int .i64 ((i : Nat) : Int)) .of ?_
  simp only [List.set_cons_zero, List.set_cons_succ]
  refine sv 17 (.pointer (some ⟨w2.heap.size, 1, none⟩)) .of ?_
  simp only [List.set_cons_zero, List.set_cons_succ]
  refine sv 18 (.slice A bs.length C) (Val.cel1 63 _ rfl w2.heap.size 1 _ (by kernel_rfl) (fun _ => (by kernel_rfl)) b5 rfl) ?_
  simp only [List.set_cons_zero, List.set_cons_succ]
  refine sv 19 (.int .i64 (bs.length : Int)) .of ?_
  simp only [List.set_cons_zero, List.set_cons_succ]
  refine sv 20 (.bool (decide (((i : Nat) : Int) < (bs.length : Int)))) (Val.cmp .lss 3 _ (.tmp 16) (.tmp 19) rfl .i64 ((i : Nat) : Int) (bs.length : Int) (by kernel_rfl) (by kernel_rfl) (by simp) _ rfl) ?_
  simp only [List.set_cons_zero, List.set_cons_succ]
  refine wpList_nil ?_
  refine hK8 _ _ ?_
  refine cDec (((i : Nat) : Int) < (bs.length : Int)) (by kernel_rfl) (fun c20 => ?_) (fun c20 => ?_)
  · skip
    refine wp_skip ?_
    refine hK7 _ _ ?_
    refine wp_seq_k fun K9 hK9 => ?_
    refine wp_block ?_
    refine wp_seq_k fun K10 hK10 => ?_
    refine wp_seq_k fun K11 hK11 => ?_
    have hdl : lf / 2 ^ i ≤ lf := Nat.div_le_self _ _
    have hcl := mclimb_len tab (bs.take i) dx lf hx
    have hbi : (bs.getD i []).length = 32 := fe_getDN hbs (by omega)
    have hml1 := mnode_len tab (mclimb tab dx lf (bs.take i)) (bs.getD i [])
    have hml2 := mnode_len tab (bs.getD i []) (mclimb tab dx lf (bs.take i))
    have hst : mclimb tab dx lf (bs.take (i + 1)) = if lf / 2 ^ i % 2 = 0 then mnode tab (mclimb tab dx lf (bs.take i)) (bs.getD i []) else mnode tab (bs.getD i []) (mclimb tab dx lf (bs.take i)) := by
      have hti : (bs.take i).length = i := by rw [List.length_take]; omega
      have hge : bs.getD i [] = bs[i] := by rw [List.getD_eq_getElem?_getD, List.getElem?_eq_getElem (by omega)]; rfl
      rw [List.take_add_one, List.getElem?_eq_getElem (show i < bs.length by omega), hge]
      show mclimb tab dx lf (bs.take i ++ [bs[i]]) = _
      rw [mclimb_snoc, hti]
    refine cPlain ?_
    refine sv 23 (.int .i64 ((lf / 2 ^ i : Nat) : Int)) .of ?_
    simp only [List.set_cons_zero, List.set_cons_succ]
    refine sv 24 (.int .i64 (((lf / 2 ^ i) % 2 : Nat) : Int)) (Val.remN 3 _ (.tmp 23) _ rfl .i64 (lf / 2 ^ i) 2 (by kernel_rfl) (by kernel_rfl) (by omega)) ?_
    simp only [List.set_cons_zero, List.set_cons_succ]
    refine sv 25 (.bool (decide ((((lf / 2 ^ i) % 2 : Nat) : Int) = 0))) (Val.cmp .eql 3 _ (.tmp 24) _ rfl .i64 (((lf / 2 ^ i) % 2 : Nat) : Int) 0 (by kernel_rfl) (by kernel_rfl) (by simp) _ rfl) ?_
    simp only [List.set_cons_zero, List.set_cons_succ]
    refine wpList_nil ?_
    refine hK11 _ _ ?_
    refine cDec ((((lf / 2 ^ i) % 2 : Nat) : Int) = 0) (by kernel_rfl) (fun c25 => ?_) (fun c25 => ?_)
    · skip
      have e2 := drew_e0 wl0
      refine zg (fun w_ => Bl w.heap.size w w_ ∧ SE .u8 32 w_ (.slice A bs.length C) (nnd bs) ∧ Blk .u32 w_ w.heap.size 26 (nn tab) ∧ Blk .u8 w_ w1.heap.size 37 (nn (mclimb tab dx lf (bs.take i))) ∧ Cel w_ w2.heap.size 66 [.int .i64 ((lf : Nat) : Int), .slice A bs.length C] ∧ Blk .u8 w_ w3.heap.size 37 (nn (List.replicate 32 0)) ∧ wl0.heap.size ≤ w_.heap.size) (fun w_ => Bl w.heap.size w w_ ∧ SE .u8 32 w_ (.slice A bs.length C) (nnd bs) ∧ Blk .u32 w_ w.heap.size 26 (nn tab) ∧ Blk .u8 w_ w1.heap.size 37 (nn (mclimb tab dx lf (bs.take i))) ∧ Cel w_ w2.heap.size 66 [.int .i64 ((lf : Nat) : Int), .slice A bs.length C] ∧ Blk .u8 w_ w3.heap.size 37 (nn (List.replicate 32 0)) ∧ wl0.heap.size ≤ w_.heap.size) 8 9 ⟨BL.e0 e2, D.e0 e2, b3.e0 e2, b4.e0 e2, b5.e0 e2, b6.e0 e2, Nat.le_refl _⟩ ?_
      clear BL D b3 b4 b5 b6
      clear e2
      intro w6
      rintro ⟨BL, D, b3, b4, b5, b6, z1⟩
      refine zv 0 26 (.agg (cellsOf .u32 (nn tab))) (fun _ ⟨BL, D, b3, b4, b5, b6, z1⟩ => Val.blk 26 _ rfl 0 72 (by kernel_rfl) b3 _ Try.underlying26 rfl (by kernel_rfl) (by (try simp only [nn_len, List.length_cons, List.length_nil, List.length_set, List.length_replicate]); try omega) _ (seg_all' _ (by (try simp only [nn_len, List.length_cons, List.length_nil, List.length_set, List.length_replicate]); try omega))) ⟨BL, D, b3, b4, b5, b6, by omega⟩ ?_
      simp only [List.set_cons_zero, List.set_cons_succ]
      refine zv 1 27 (.agg (cellsOf .u8 (nn (mclimb tab dx lf (bs.take i))))) (fun _ ⟨BL, D, b3, b4, b5, b6, z1⟩ => Val.blk 37 _ rfl 0 32 (by kernel_rfl) b4 _ Try.underlying37 rfl (by kernel_rfl) (by (try simp only [nn_len, List.length_cons, List.length_nil, List.length_set, List.length_replicate]); try omega) _ (seg_all' _ (by (try simp only [nn_len, List.length_cons, List.length_nil, List.length_set, List.length_replicate]); try omega))) ⟨BL, D, b3, b4, b5, b6, by omega⟩ ?_
      simp only [List.set_cons_zero, List.set_cons_succ]
      refine zv 2 28 (.pointer (some ⟨w2.heap.size, 1, none⟩)) (fun _ _ => .of) ⟨BL, D, b3, b4, b5, b6, by omega⟩ ?_
      simp only [List.set_cons_zero, List.set_cons_succ]
      refine zv 3 29 (.slice A bs.length C) (fun _ ⟨BL, D, b3, b4, b5, b6, z1⟩ => Val.cel1 63 _ rfl w2.heap.size 1 _ (by kernel_rfl) (fun _ => (by kernel_rfl)) b5 rfl) ⟨BL, D, b3, b4, b5, b6, by omega⟩ ?_
      simp only [List.set_cons_zero, List.set_cons_succ]
      refine zv 4 30 (.int .i64 ((i : Nat) : Int)) (fun _ _ => .of) ⟨BL, D, b3, b4, b5, b6, by omega⟩ ?_
      simp only [List.set_cons_zero, List.set_cons_succ]
      refine zv 5 31 (elemE 32 (.slice A bs.length C) i) (fun _ ⟨BL, D, b3, b4, b5, b6, z1⟩ => Val.ixE 63 (.tmp 29) (.tmp 30) rfl (.slice A bs.length C) i (by kernel_rfl) (by kernel_rfl) D Try.underlying63 (by kernel_rfl) (by simp only [nnd_len]; omega)) ⟨BL, D, b3, b4, b5, b6, by omega⟩ ?_
      simp only [List.set_cons_zero, List.set_cons_succ]
      refine zv 6 32 (.agg (cellsOf .u8 (nn (bs.getD i [])))) (fun _ ⟨BL, D, b3, b4, b5, b6, z1⟩ => Val.ldGN 37 _ rfl (.slice A bs.length C) i (by kernel_rfl) D _ Try.underlying37 rfl (by kernel_rfl) (by simp only [nnd_len]; omega)) ⟨BL, D, b3, b4, b5, b6, by omega⟩ ?_
      simp only [List.set_cons_zero, List.set_cons_succ]
      refine zo1 7 rfl ?_
      refine xCall 33 55 #[.agg (cellsOf .u32 (nn tab)), .agg (cellsOf .u8 (nn (mclimb tab dx lf (bs.take i)))), .agg (cellsOf .u8 (nn (bs.getD i [])))] (by kernel_rfl) ?_
      refine (r10node_any tab ht h32 w6 (mclimb tab dx lf (bs.take i)) (bs.getD i []) (mclimb_len tab _ _ _ hx) (fe_getDN hbs (by omega)) (mclimb_b tab _ _ _ hx8) (hb8.at (by omega))).mono ?_
      rintro en w7 ⟨rfl, hb1⟩
      have e3 := belE0 hb1
      have ze3 := e3.size
      replace BL := BL.e0 e3
      replace D := D.e0 e3
      replace b3 := b3.e0 e3
      replace b4 := b4.e0 e3
      replace b5 := b5.e0 e3
      replace b6 := b6.e0 e3
      clear e3
      refine ⟨.agg (cellsOf .u8 (nn (mnode tab (mclimb tab dx lf (bs.take i)) (bs.getD i [])))), rfl, ?_⟩
      refine ze 7 ⟨BL, D, b3, b4, b5, b6, by omega⟩ ?_
      simp only [List.set_cons_zero, List.set_cons_succ]
      refine zo1 8 rfl ?_
      refine xStoreA 37 (.tmp 4) (.tmp 33) rfl .u8 w1.heap.size 37 (nn (mclimb tab dx lf (bs.take i))) 0 (nn (mnode tab (mclimb tab dx lf (bs.take i)) (bs.getD i []))) (by kernel_rfl) (by kernel_rfl) b4 (by rw [show (nn (mnode tab (mclimb tab dx lf (bs.take i)) (bs.getD i []))).length = 32 by ((try simp only [nn_len, List.length_cons, List.length_nil, List.length_set, List.length_replicate]); try omega)]; kernel_rfl) (by (try simp only [nn_len, List.length_cons, List.length_nil, List.length_set, List.length_replicate]); try omega) (nn (mnode tab (mclimb tab dx lf (bs.take i)) (bs.getD i []))) (over_whole _ _ (by (try simp only [nn_len, List.length_cons, List.length_nil, List.length_set, List.length_replicate]); try omega)) ?_
      intro w8 t1
      have zt1 := t1.z
      have BL_ := BL.ev t1.e (fun i h => show w.heap.size ≤ i by have h : i = w1.heap.size := h; omega)
      have D_ := D.ev t1.e (fun i hi => show ¬ (i = w1.heap.size) by have := hvl i hi; omega)
      have b3_ := b3.ev t1.e (show ¬ (w.heap.size = w1.heap.size) by omega)
      have b5_ := b5.ev t1.e (show ¬ (w2.heap.size = w1.heap.size) by omega)
      have b6_ := b6.ev t1.e (show ¬ (w3.heap.size = w1.heap.size) by omega)
      replace BL := BL_; clear BL_
      replace D := D_; clear D_
      replace b3 := b3_; clear b3_
      replace b5 := b5_; clear b5_
      replace b6 := b6_; clear b6_
      replace b4 : Blk .u8 w8 w1.heap.size 37 (nn (mnode tab (mclimb tab dx lf (bs.take i)) (bs.getD i []))) := t1.c
      clear t1
      refine zz 8 ?_
      refine zd (by kernel_rfl) ?_ _
      refine hK10 _ _ ?_
      refine cPlain ?_
      refine sv 42 (.int .i64 ((lf / 2 ^ i : Nat) : Int)) .of ?_
      simp only [List.set_cons_zero, List.set_cons_succ]
      refine sv 43 (.int .i64 ((lf / 2 ^ (i + 1) : Nat) : Int)) (Val.asN (Val.quoI 3 _ (.tmp 42) _ rfl (lf / 2 ^ i) 2 (by kernel_rfl) (by kernel_rfl) (by omega) (by omega)) (half_pow _ _)) ?_
      simp only [List.set_cons_zero, List.set_cons_succ]
      refine sv 8 (.int .i64 ((lf / 2 ^ (i + 1) : Nat) : Int)) .of ?_
      simp only [List.set_cons_zero, List.set_cons_succ]
      refine wpList_nil ?_
      refine hK9 _ _ ?_
      refine cPlain ?_
      refine sv 21 (.int .i64 ((i : Nat) : Int)) .of ?_
      simp only [List.set_cons_zero, List.set_cons_succ]
      refine sv 22 (.int .i64 ((i + 1 : Nat) : Int)) (Val.as (Val.add 3 _ (.tmp 21) _ rfl ((i : Nat) : Int) 1 (by kernel_rfl) (by kernel_rfl) (by omega)) (congrArg (Value.int .i64) (by omega))) ?_
      simp only [List.set_cons_zero, List.set_cons_succ]
      refine sv 9 (.int .i64 ((i + 1 : Nat) : Int)) .of ?_
      simp only [List.set_cons_zero, List.set_cons_succ]
      refine wpList_nil ?_
      refine ⟨_, ?_, i + 1, rfl, by omega, cutE, BL, D, b3, (by first | (rw [hst, if_pos (by omega)]; exact b4) | (rw [hst, if_neg (by omega)]; exact b4)), b5, b6, by omega⟩
      omega
    · skip
      have e4 := drew_e0 wl0
      refine zg (fun w_ => Bl w.heap.size w w_ ∧ SE .u8 32 w_ (.slice A bs.length C) (nnd bs) ∧ Blk .u32 w_ w.heap.size 26 (nn tab) ∧ Blk .u8 w_ w1.heap.size 37 (nn (mclimb tab dx lf (bs.take i))) ∧ Cel w_ w2.heap.size 66 [.int .i64 ((lf : Nat) : Int), .slice A bs.length C] ∧ Blk .u8 w_ w3.heap.size 37 (nn (List.replicate 32 0)) ∧ wl0.heap.size ≤ w_.heap.size) (fun w_ => Bl w.heap.size w w_ ∧ SE .u8 32 w_ (.slice A bs.length C) (nnd bs) ∧ Blk .u32 w_ w.heap.size 26 (nn tab) ∧ Blk .u8 w_ w1.heap.size 37 (nn (mclimb tab dx lf (bs.take i))) ∧ Cel w_ w2.heap.size 66 [.int .i64 ((lf : Nat) : Int), .slice A bs.length C] ∧ Blk .u8 w_ w3.heap.size 37 (nn (List.replicate 32 0)) ∧ wl0.heap.size ≤ w_.heap.size) 8 9 ⟨BL.e0 e4, D.e0 e4, b3.e0 e4, b4.e0 e4, b5.e0 e4, b6.e0 e4, Nat.le_refl _⟩ ?_
      clear BL D b3 b4 b5 b6
      clear e4
      intro w9
      rintro ⟨BL, D, b3, b4, b5, b6, z2⟩
      refine zv 0 34 (.agg (cellsOf .u32 (nn tab))) (fun _ ⟨BL, D, b3, b4, b5, b6, z2⟩ => Val.blk 26 _ rfl 0 72 (by kernel_rfl) b3 _ Try.underlying26 rfl (by kernel_rfl) (by (try simp only [nn_len, List.length_cons, List.length_nil, List.length_set, List.length_replicate]); try omega) _ (seg_all' _ (by (try simp only [nn_len, List.length_cons, List.length_nil, List.length_set, List.length_replicate]); try omega))) ⟨BL, D, b3, b4, b5, b6, by omega⟩ ?_
      simp only [List.set_cons_zero, List.set_cons_succ]
      refine zv 1 35 (.pointer (some ⟨w2.heap.size, 1, none⟩)) (fun _ _ => .of) ⟨BL, D, b3, b4, b5, b6, by omega⟩ ?_
      simp only [List.set_cons_zero, List.set_cons_succ]
      refine zv 2 36 (.slice A bs.length C) (fun _ ⟨BL, D, b3, b4, b5, b6, z2⟩ => Val.cel1 63 _ rfl w2.heap.size 1 _ (by kernel_rfl) (fun _ => (by kernel_rfl)) b5 rfl) ⟨BL, D, b3, b4, b5, b6, by omega⟩ ?_
      simp only [List.set_cons_zero, List.set_cons_succ]
      refine zv 3 37 (.int .i64 ((i : Nat) : Int)) (fun _ _ => .of) ⟨BL, D, b3, b4, b5, b6, by omega⟩ ?_
      simp only [List.set_cons_zero, List.set_cons_succ]
      refine zv 4 38 (elemE 32 (.slice A bs.length C) i) (fun _ ⟨BL, D, b3, b4, b5, b6, z2⟩ => Val.ixE 63 (.tmp 36) (.tmp 37) rfl (.slice A bs.length C) i (by kernel_rfl) (by kernel_rfl) D Try.underlying63 (by kernel_rfl) (by simp only [nnd_len]; omega)) ⟨BL, D, b3, b4, b5, b6, by omega⟩ ?_
      simp only [List.set_cons_zero, List.set_cons_succ]
      refine zv 5 39 (.agg (cellsOf .u8 (nn (bs.getD i [])))) (fun _ ⟨BL, D, b3, b4, b5, b6, z2⟩ => Val.ldGN 37 _ rfl (.slice A bs.length C) i (by kernel_rfl) D _ Try.underlying37 rfl (by kernel_rfl) (by simp only [nnd_len]; omega)) ⟨BL, D, b3, b4, b5, b6, by omega⟩ ?_
      simp only [List.set_cons_zero, List.set_cons_succ]
      refine zv 6 40 (.agg (cellsOf .u8 (nn (mclimb tab dx lf (bs.take i))))) (fun _ ⟨BL, D, b3, b4, b5, b6, z2⟩ => Val.blk 37 _ rfl 0 32 (by kernel_rfl) b4 _ Try.underlying37 rfl (by kernel_rfl) (by (try simp only [nn_len, List.length_cons, List.length_nil, List.length_set, List.length_replicate]); try omega) _ (seg_all' _ (by (try simp only [nn_len, List.length_cons, List.length_nil, List.length_set, List.length_replicate]); try omega))) ⟨BL, D, b3, b4, b5, b6, by omega⟩ ?_
      simp only [List.set_cons_zero, List.set_cons_succ]
      refine zo1 7 rfl ?_
      refine xCall 41 55 #[.agg (cellsOf .u32 (nn tab)), .agg (cellsOf .u8 (nn (bs.getD i []))), .agg (cellsOf .u8 (nn (mclimb tab dx lf (bs.take i))))] (by kernel_rfl) ?_
      refine (r10node_any tab ht h32 w9 (bs.getD i []) (mclimb tab dx lf (bs.take i)) (fe_getDN hbs (by omega)) (mclimb_len tab _ _ _ hx) (hb8.at (by omega)) (mclimb_b tab _ _ _ hx8)).mono ?_
      rintro en w10 ⟨rfl, hb1⟩
      have e5 := belE0 hb1
      have ze5 := e5.size
      replace BL := BL.e0 e5
      replace D := D.e0 e5
      replace b3 := b3.e0 e5
      replace b4 := b4.e0 e5
      replace b5 := b5.e0 e5
      replace b6 := b6.e0 e5
      clear e5
      refine ⟨.agg (cellsOf .u8 (nn (mnode tab (bs.getD i []) (mclimb tab dx lf (bs.take i))))), rfl, ?_⟩
      refine ze 7 ⟨BL, D, b3, b4, b5, b6, by omega⟩ ?_
      simp only [List.set_cons_zero, List.set_cons_succ]
      refine zo1 8 rfl ?_
      refine xStoreA 37 (.tmp 4) (.tmp 41) rfl .u8 w1.heap.size 37 (nn (mclimb tab dx lf (bs.take i))) 0 (nn (mnode tab (bs.getD i []) (mclimb tab dx lf (bs.take i)))) (by kernel_rfl) (by kernel_rfl) b4 (by rw [show (nn (mnode tab (bs.getD i []) (mclimb tab dx lf (bs.take i)))).length = 32 by ((try simp only [nn_len, List.length_cons, List.length_nil, List.length_set, List.length_replicate]); try omega)]; kernel_rfl) (by (try simp only [nn_len, List.length_cons, List.length_nil, List.length_set, List.length_replicate]); try omega) (nn (mnode tab (bs.getD i []) (mclimb tab dx lf (bs.take i)))) (over_whole _ _ (by (try simp only [nn_len, List.length_cons, List.length_nil, List.length_set, List.length_replicate]); try omega)) ?_
      intro w11 t2
      have zt2 := t2.z
      have BL_ := BL.ev t2.e (fun i h => show w.heap.size ≤ i by have h : i = w1.heap.size := h; omega)
      have D_ := D.ev t2.e (fun i hi => show ¬ (i = w1.heap.size) by have := hvl i hi; omega)
      have b3_ := b3.ev t2.e (show ¬ (w.heap.size = w1.heap.size) by omega)
      have b5_ := b5.ev t2.e (show ¬ (w2.heap.size = w1.heap.size) by omega)
      have b6_ := b6.ev t2.e (show ¬ (w3.heap.size = w1.heap.size) by omega)
      replace BL := BL_; clear BL_
      replace D := D_; clear D_
      replace b3 := b3_; clear b3_
      replace b5 := b5_; clear b5_
      replace b6 := b6_; clear b6_
      replace b4 : Blk .u8 w11 w1.heap.size 37 (nn (mnode tab (bs.getD i []) (mclimb tab dx lf (bs.take i)))) := t2.c
      clear t2
      refine zz 8 ?_
      refine zd (by kernel_rfl) ?_ _
      refine hK10 _ _ ?_
      refine cPlain ?_
      refine sv 42 (.int .i64 ((lf / 2 ^ i : Nat) : Int)) .of ?_
      simp only [List.set_cons_zero, List.set_cons_succ]
      refine sv 43 (.int .i64 ((lf / 2 ^ (i + 1) : Nat) : Int)) (Val.asN (Val.quoI 3 _ (.tmp 42) _ rfl (lf / 2 ^ i) 2 (by kernel_rfl) (by kernel_rfl) (by omega) (by omega)) (half_pow _ _)) ?_
      simp only [List.set_cons_zero, List.set_cons_succ]
      refine sv 8 (.int .i64 ((lf / 2 ^ (i + 1) : Nat) : Int)) .of ?_
      simp only [List.set_cons_zero, List.set_cons_succ]
      refine wpList_nil ?_
      refine hK9 _ _ ?_
      refine cPlain ?_
      refine sv 21 (.int .i64 ((i : Nat) : Int)) .of ?_
      simp only [List.set_cons_zero, List.set_cons_succ]
      refine sv 22 (.int .i64 ((i + 1 : Nat) : Int)) (Val.as (Val.add 3 _ (.tmp 21) _ rfl ((i : Nat) : Int) 1 (by kernel_rfl) (by kernel_rfl) (by omega)) (congrArg (Value.int .i64) (by omega))) ?_
      simp only [List.set_cons_zero, List.set_cons_succ]
      refine sv 9 (.int .i64 ((i + 1 : Nat) : Int)) .of ?_
      simp only [List.set_cons_zero, List.set_cons_succ]
      refine wpList_nil ?_
      refine ⟨_, ?_, i + 1, rfl, by omega, cutE, BL, D, b3, (by first | (rw [hst, if_pos (by omega)]; exact b4) | (rw [hst, if_neg (by omega)]; exact b4)), b5, b6, by omega⟩
      omega
  · skip
    refine wp_exit ?_
    simp only [Exit.then, Exit.inBlock, ↓reduceIte, Nat.reduceEqDiff]
    refine hK5 _ _ ?_
    refine wp_seq_k fun K12 hK12 => ?_
    have hcl := mclimb_len tab (bs.take i) dx lf hx
    refine cPlain ?_
    refine sv 44 (.agg (cellsOf .u8 (nn (mclimb tab dx lf (bs.take i))))) (Val.blk 37 _ rfl 0 32 (by kernel_rfl) b4 _ Try.underlying37 rfl (by kernel_rfl) (by (try simp only [nn_len, List.length_cons, List.length_nil, List.length_set, List.length_replicate]); try omega) _ (seg_all' _ (by (try simp only [nn_len, List.length_cons, List.length_nil, List.length_set, List.length_replicate]); try omega))) ?_
    simp only [List.set_cons_zero, List.set_cons_succ]
    refine xStoreA 37 (.tmp 6) (.tmp 44) rfl .u8 w3.heap.size 37 (nn (List.replicate 32 0)) 0 (nn (mclimb tab dx lf (bs.take i))) (by kernel_rfl) (by kernel_rfl) b6 (by rw [show (nn (mclimb tab dx lf (bs.take i))).length = 32 by ((try simp only [nn_len, List.length_cons, List.length_nil, List.length_set, List.length_replicate]); try omega)]; kernel_rfl) (by (try simp only [nn_len, List.length_cons, List.length_nil, List.length_set, List.length_replicate]); try omega) (nn (mclimb tab dx lf (bs.take i))) (over_whole _ _ (by (try simp only [nn_len, List.length_cons, List.length_nil, List.length_set, List.length_replicate]); try omega)) ?_
    intro w12 t3
    have zt3 := t3.z
    have BL_ := BL.ev t3.e (fun i h => show w.heap.size ≤ i by have h : i = w3.heap.size := h; omega)
    have D_ := D.ev t3.e (fun i hi => show ¬ (i = w3.heap.size) by have := hvl i hi; omega)
    have b3_ := b3.ev t3.e (show ¬ (w.heap.size = w3.heap.size) by omega)
    have b4_ := b4.ev t3.e (show ¬ (w1.heap.size = w3.heap.size) by omega)
    have b5_ := b5.ev t3.e (show ¬ (w2.heap.size = w3.heap.size) by omega)
    replace BL := BL_; clear BL_
    replace D := D_; clear D_
    replace b3 := b3_; clear b3_
    replace b4 := b4_; clear b4_
    replace b5 := b5_; clear b5_
    replace b6 : Blk .u8 w12 w3.heap.size 37 (nn (mclimb tab dx lf (bs.take i))) := t3.c
    clear t3
    refine sv 7 (.int .i64 0) .of ?_
    simp only [List.set_cons_zero, List.set_cons_succ]
    refine wpList_nil ?_
    refine hK12 _ _ ?_
    refine wp_ret ?_
    (try simp only [Exit.then, Exit.inBlock])
    refine bodyPost_ret (rCT rfl _ w3.heap.size _ _ (.int .i64 0) (by kernel_rfl) (by kernel_rfl) b6.cel _ Try.underlying37 rfl (by rw [List.length_map, show (nn (mclimb tab dx lf (bs.take i))).length = 32 by ((try simp only [nn_len, List.length_cons, List.length_nil, List.length_set, List.length_replicate]); try omega)]; kernel_rfl)) rfl ?_
    rw [List.take_of_length_le (show bs.length ≤ i by omega)]
    exact ⟨rfl, BL.b⟩

theorem r10climb_no (tab : List Nat) (ht : tab.length = 72) (h32 : ∀ x ∈ tab, x < 4294967296) (w : World) (dx : List Nat) (hx : dx.length = 32) (lf : Int) (A : Option Addr) (m C : Nat) (hno : mright m lf = false) :
    Calls Try.prog 52 #[.agg (cellsOf .u32 (nn tab)), .agg (cellsOf .u8 (nn dx)), .agg #[.int .i64 lf, .slice A m C]] w fun e w' => e = .returned (.tuple #[.agg (cellsOf .u8 (nn (List.replicate 32 0))), .int .i64 2]) ∧ Below w.heap.size w w' := by
  have BL := Bl.refl w
  go_enter Try.func52, Try.ntmps52
  refine wp_seq_k fun K1 hK1 => ?_
  refine cPlain ?_
  refine xBox 3 26 _ ((nn tab).map (Value.int .u32)) rfl (cells_toList _ _) ?_
  intro w1 n1
  have zn1 := n1.z
  have b3 := n1.c
  replace b3 : Blk .u32 w1 w.heap.size 26 (nn tab) := b3
  replace BL := BL.e0 n1.e
  simp only [List.set_cons_zero, List.set_cons_succ]
  refine xBox 4 37 _ ((nn (dx)).map (Value.int .u8)) rfl (cells_toList _ _) ?_
  intro w2 n2
  have zn2 := n2.z
  have b4 := n2.c
  replace b4 : Blk .u8 w2 w1.heap.size 37 (nn (dx)) := b4
  replace BL := BL.e0 n2.e
  replace b3 := b3.e0 n2.e
  simp only [List.set_cons_zero, List.set_cons_succ]
  refine xBox 5 66 _ [.int .i64 lf, .slice A m C] rfl (by kernel_rfl) ?_
  intro w3 n3
  have zn3 := n3.z
  have b5 := n3.c
  replace BL := BL.e0 n3.e
  replace b3 := b3.e0 n3.e
  replace b4 := b4.e0 n3.e
  simp only [List.set_cons_zero, List.set_cons_succ]
  refine xAlloc 6 37 ((nn (List.replicate 32 0)).map (Value.int .u8)) rfl (by kernel_rfl) ?_
  intro w4 n4
  have zn4 := n4.z
  have b6 := n4.c
  replace b6 : Blk .u8 w4 w3.heap.size 37 (nn (List.replicate 32 0)) := b6
  replace BL := BL.e0 n4.e
  replace b3 := b3.e0 n4.e
  replace b4 := b4.e0 n4.e
  replace b5 := b5.e0 n4.e
  simp only [List.set_cons_zero, List.set_cons_succ]
  refine sv 7 (.int .i64 0) .of ?_
  simp only [List.set_cons_zero, List.set_cons_succ]
  refine wpList_nil ?_
  refine hK1 _ _ ?_
  refine wp_seq_k fun K2 hK2 => ?_
  refine wp_seq_k fun K3 hK3 => ?_
  refine cPlain ?_
  refine sv 10 (.agg #[.int .i64 lf, .slice A m C]) (Val.cel 66 _ rfl 0 2 (by kernel_rfl) b5 _ Try.underlying66 rfl (by kernel_rfl) (by simp) [.int .i64 lf, .slice A m C] rfl) ?_
  simp only [List.set_cons_zero, List.set_cons_succ]
  refine xCall 11 54 #[.agg #[.int .i64 lf, .slice A m C]] (by kernel_rfl) ?_
  refine (r10right_any lf A m C w4).mono ?_
  rintro en w5 ⟨he, hb1⟩
  rw [hno] at he
  subst he
  have e1 := belE0 hb1
  have ze1 := e1.size
  replace BL := BL.e0 e1
  replace b3 := b3.e0 e1
  replace b4 := b4.e0 e1
  replace b5 := b5.e0 e1
  replace b6 := b6.e0 e1
  clear e1
  refine ⟨.bool false, rfl, ?_⟩
  simp only [List.set_cons_zero, List.set_cons_succ]
  refine sv 12 (.bool true) .of ?_
  simp only [List.set_cons_zero, List.set_cons_succ]
  refine wpList_nil ?_
  refine hK3 _ _ ?_
  refine cT ?_
  refine wp_seq_k fun K4 hK4 => ?_
  refine cPlain ?_
  refine sv 13 (.agg (cellsOf .u8 (nn [0, 0, 0, 0, 0, 0, 0, 0, 0, 0, 0, 0, 0, 0, 0, 0, 0, 0, 0, 0, 0, 0, 0, 0, 0, 0, 0, 0, 0, 0, 0, 0]))) .of ?_
  simp only [List.set_cons_zero, List.set_cons_succ]
  refine xStoreA 37 (.tmp 6) (.tmp 13) rfl .u8 w3.heap.size 37 (nn (List.replicate 32 0)) 0 (nn [0, 0, 0, 0, 0, 0, 0, 0, 0, 0, 0, 0, 0, 0, 0, 0, 0, 0, 0, 0, 0, 0, 0, 0, 0, 0, 0, 0, 0, 0, 0, 0]) (by kernel_rfl) (by kernel_rfl) b6 (by rw [show (nn [0, 0, 0, 0, 0, 0, 0, 0, 0, 0, 0, 0, 0, 0, 0, 0, 0, 0, 0, 0, 0, 0, 0, 0, 0, 0, 0, 0, 0, 0, 0, 0]).length = 32 by ((try simp only [nn_len, List.length_cons, List.length_nil, List.length_set, List.length_replicate]); try omega)]; kernel_rfl) (by (try simp only [nn_len, List.length_cons, List.length_nil, List.length_set, List.length_replicate]); try omega) (nn [0, 0, 0, 0, 0, 0, 0, 0, 0, 0, 0, 0, 0, 0, 0, 0, 0, 0, 0, 0, 0, 0, 0, 0, 0, 0, 0, 0, 0, 0, 0, 0]) (over_whole _ _ (by (try simp only [nn_len, List.length_cons, List.length_nil, List.length_set, List.length_replicate]); try omega)) ?_
  intro w6 t1
  have zt1 := t1.z
  have BL_ := BL.ev t1.e (fun i h => show w.heap.size ≤ i by have h : i = w3.heap.size := h; omega)
  have b3_ := b3.ev t1.e (show ¬ (w.heap.size = w3.heap.size) by omega)
  have b4_ := b4.ev t1.e (show ¬ (w1.heap.size = w3.heap.size) by omega)
  have b5_ := b5.ev t1.e (show ¬ (w2.heap.size = w3.heap.size) by omega)
  replace BL := BL_; clear BL_
  replace b3 := b3_; clear b3_
  replace b4 := b4_; clear b4_
  replace b5 := b5_; clear b5_
  replace b6 : Blk .u8 w6 w3.heap.size 37 (nn [0, 0, 0, 0, 0, 0, 0, 0, 0, 0, 0, 0, 0, 0, 0, 0, 0, 0, 0, 0, 0, 0, 0, 0, 0, 0, 0, 0, 0, 0, 0, 0]) := t1.c
  clear t1
  refine sv 7 (.int .i64 2) .of ?_
  simp only [List.set_cons_zero, List.set_cons_succ]
  refine wpList_nil ?_
  refine hK4 _ _ ?_
  refine wp_ret ?_
  (try simp only [Exit.then, Exit.inBlock])
  refine bodyPost_ret (rCT rfl _ w3.heap.size _ _ (.int .i64 2) (by kernel_rfl) (by kernel_rfl) b6.cel _ Try.underlying37 rfl (by rw [List.length_map, show (nn [0, 0, 0, 0, 0, 0, 0, 0, 0, 0, 0, 0, 0, 0, 0, 0, 0, 0, 0, 0, 0, 0, 0, 0, 0, 0, 0, 0, 0, 0, 0, 0]).length = 32 by ((try simp only [nn_len, List.length_cons, List.length_nil, List.length_set, List.length_replicate]); try omega)]; kernel_rfl)) rfl ?_
  exact ⟨rfl, BL.b⟩

set_option maxHeartbeats 4000000 in
theorem r10path_no (tab : List Nat) (ht : tab.length = 72) (h32 : ∀ x ∈ tab, x < 4294967296) (w : World) (v : Value) (es : List (List Nat)) (leaf : Int) (D : SE .u8 32 w v (nnd es)) (hno : heightN es.length = none) :
    Calls Try.prog 51 #[.agg (cellsOf .u32 (nn tab)), v, .int .i64 leaf] w fun e w' => e = .returned (.tuple #[.agg #[.int .i64 0, .slice none 0 0], .int .i64 2]) ∧ Below w.heap.size w w' := by
  have BL := Bl.refl w
  obtain ⟨vA, vC, hv, hvc⟩ := D.len
  rw [nnd_len] at hv hvc
  subst hv
  go_enter Try.func51, Try.ntmps51
  refine wp_seq_k fun K1 hK1 => ?_
  refine cPlain ?_
  refine xBox 3 26 _ ((nn tab).map (Value.int .u32)) rfl (cells_toList _ _) ?_
  intro w1 n1
  have zn1 := n1.z
  have b3 := n1.c
  replace b3 : Blk .u32 w1 w.heap.size 26 (nn tab) := b3
  replace BL := BL.e0 n1.e
  simp only [List.set_cons_zero, List.set_cons_succ]
  refine xAlloc 6 66 [.int .i64 0, .slice none 0 0] rfl (by kernel_rfl) ?_
  intro w2 n2
  have zn2 := n2.z
  have b6 := n2.c
  replace BL := BL.e0 n2.e
  replace b3 := b3.e0 n2.e
  simp only [List.set_cons_zero, List.set_cons_succ]
  refine sv 7 (.int .i64 0) .of ?_
  simp only [List.set_cons_zero, List.set_cons_succ]
  refine wpList_nil ?_
  refine hK1 _ _ ?_
  refine wp_seq_k fun K2 hK2 => ?_
  refine wp_seq_k fun K3 hK3 => ?_
  refine cPlain ?_
  refine sv 13 (.slice vA es.length vC) .of ?_
  simp only [List.set_cons_zero, List.set_cons_succ]
  refine sv 14 (.int .i64 (es.length : Int)) .of ?_
  simp only [List.set_cons_zero, List.set_cons_succ]
  refine xCall 15 99 #[.int .i64 (es.length : Int)] (by kernel_rfl) ?_
  refine (r10height_any es.length w2).mono ?_
  rintro en w3 ⟨he, hw⟩
  rw [hno] at he
  subst he
  have e1 : E0 w2 w3 := (hw ▸ Ev.refl _ _)
  have ze1 := e1.size
  replace BL := BL.e0 e1
  replace b3 := b3.e0 e1
  replace b6 := b6.e0 e1
  clear e1
  refine ⟨.int .i64 (-1), rfl, ?_⟩
  simp only [List.set_cons_zero, List.set_cons_succ]
  refine sv 16 (.bool true) (Val.cmp .lss 3 _ (.tmp 15) _ rfl .i64 (-1) 0 (by kernel_rfl) (by kernel_rfl) (by simp) _ rfl) ?_
  simp only [List.set_cons_zero, List.set_cons_succ]
  refine sv 17 (.bool true) .of ?_
  simp only [List.set_cons_zero, List.set_cons_succ]
  refine xSkip 18 ?_
  simp only [List.set_cons_zero, List.set_cons_succ]
  refine xSkip 19 ?_
  simp only [List.set_cons_zero, List.set_cons_succ]
  refine sv 20 (.bool true) .of ?_
  simp only [List.set_cons_zero, List.set_cons_succ]
  refine sv 21 (.bool true) .of ?_
  simp only [List.set_cons_zero, List.set_cons_succ]
  refine xSkip 22 ?_
  simp only [List.set_cons_zero, List.set_cons_succ]
  refine xSkip 23 ?_
  simp only [List.set_cons_zero, List.set_cons_succ]
  refine xSkip 24 ?_
  simp only [List.set_cons_zero, List.set_cons_succ]
  refine xSkip 25 ?_
  simp only [List.set_cons_zero, List.set_cons_succ]
  refine sv 26 (.bool true) .of ?_
  simp only [List.set_cons_zero, List.set_cons_succ]
  refine wpList_nil ?_
  refine hK3 _ _ ?_
  refine cT ?_
  refine wp_seq_k fun K4 hK4 => ?_
  refine cPlain ?_
  refine sv 27 (.agg #[.int .i64 0, .slice none 0 0]) .of ?_
  simp only [List.set_cons_zero, List.set_cons_succ]
  refine xStoreR 66 (.tmp 6) (.tmp 27) rfl w1.heap.size 66 [.int .i64 0, .slice none 0 0] 0 [.int .i64 0, .slice none 0 0] (by kernel_rfl) (by kernel_rfl) b6 (by kernel_rfl) (by simp) rfl [.int .i64 0, .slice none 0 0] rfl ?_
  intro w4 t1
  have zt1 := t1.z
  have BL_ := BL.ev t1.e (fun i h => show w.heap.size ≤ i by have h : i = w1.heap.size := h; omega)
  have b3_ := b3.ev t1.e (show ¬ (w.heap.size = w1.heap.size) by omega)
  replace BL := BL_; clear BL_
  replace b3 := b3_; clear b3_
  replace b6 : Cel w4 w1.heap.size 66 [.int .i64 0, .slice none 0 0] := t1.c
  clear t1
  refine sv 7 (.int .i64 2) .of ?_
  simp only [List.set_cons_zero, List.set_cons_succ]
  refine wpList_nil ?_
  refine hK4 _ _ ?_
  refine wp_ret ?_
  (try simp only [Exit.then, Exit.inBlock])
  refine bodyPost_ret (rCT rfl _ w1.heap.size _ _ (.int .i64 2) (by kernel_rfl) (by kernel_rfl) b6 _ Try.underlying66 rfl (by kernel_rfl)) rfl ?_
  exact ⟨rfl, BL.b⟩

set_option maxHeartbeats 4000000 in
theorem r10path_bad (tab : List Nat) (ht : tab.length = 72) (h32 : ∀ x ∈ tab, x < 4294967296) (w : World) (v : Value) (es : List (List Nat)) (leaf : Int) (D : SE .u8 32 w v (nnd es)) (h : Nat) (hh : h ≤ 8) (hn : es.length = 2 ^ h) (hbad : leaf < 0 ∨ (es.length : Int) ≤ leaf) :
    Calls Try.prog 51 #[.agg (cellsOf .u32 (nn tab)), v, .int .i64 leaf] w fun e w' => e = .returned (.tuple #[.agg #[.int .i64 0, .slice none 0 0], .int .i64 2]) ∧ Below w.heap.size w w' := by
  have BL := Bl.refl w
  obtain ⟨vA, vC, hv, hvc⟩ := D.len
  rw [nnd_len] at hv hvc
  subst hv
  go_enter Try.func51, Try.ntmps51
  refine wp_seq_k fun K1 hK1 => ?_
  refine cPlain ?_
  refine xBox 3 26 _ ((nn tab).map (Value.int .u32)) rfl (cells_toList _ _) ?_
  intro w1 n1
  have zn1 := n1.z
  have b3 := n1.c
  replace b3 : Blk .u32 w1 w.heap.size 26 (nn tab) := b3
  replace BL := BL.e0 n1.e
  simp only [List.set_cons_zero, List.set_cons_succ]
  refine xAlloc 6 66 [.int .i64 0, .slice none 0 0] rfl (by kernel_rfl) ?_
  intro w2 n2
  have zn2 := n2.z
  have b6 := n2.c
  replace BL := BL.e0 n2.e
  replace b3 := b3.e0 n2.e
  simp only [List.set_cons_zero, List.set_cons_succ]
  refine sv 7 (.int .i64 0) .of ?_
  simp only [List.set_cons_zero, List.set_cons_succ]
  refine wpList_nil ?_
  refine hK1 _ _ ?_
  refine wp_seq_k fun K2 hK2 => ?_
  refine wp_seq_k fun K3 hK3 => ?_
  refine cPlain ?_
  refine sv 13 (.slice vA es.length vC) .of ?_
  simp only [List.set_cons_zero, List.set_cons_succ]
  refine sv 14 (.int .i64 (es.length : Int)) .of ?_
  simp only [List.set_cons_zero, List.set_cons_succ]
  refine xCall 15 99 #[.int .i64 (es.length : Int)] (by kernel_rfl) ?_
  refine (r10height_any es.length w2).mono ?_
  rintro en w3 ⟨he, hw⟩
  rw [heightN_pow hn hh] at he
  subst he
  have e1 : E0 w2 w3 := (hw ▸ Ev.refl _ _)
  have ze1 := e1.size
  replace BL := BL.e0 e1
  replace b3 := b3.e0 e1
  replace b6 := b6.e0 e1
  clear e1
  refine ⟨.int .i64 ((h : Nat) : Int), rfl, ?_⟩
  simp only [List.set_cons_zero, List.set_cons_succ]
  refine sv 16 (.bool false) (Val.cmp .lss 3 _ (.tmp 15) _ rfl .i64 ((h : Nat) : Int) 0 (by kernel_rfl) (by kernel_rfl) (by simp) _ (by simp [cmpB]; try omega)) ?_
  simp only [List.set_cons_zero, List.set_cons_succ]
  refine sv 17 (.bool false) .of ?_
  simp only [List.set_cons_zero, List.set_cons_succ]
  refine sv 18 (.int .i64 leaf) .of ?_
  simp only [List.set_cons_zero, List.set_cons_succ]
  refine sv 19 (.bool (decide (leaf < 0))) (Val.cmp .lss 3 _ (.tmp 18) _ rfl .i64 leaf 0 (by kernel_rfl) (by kernel_rfl) (by simp) _ rfl) ?_
  simp only [List.set_cons_zero, List.set_cons_succ]
  refine sv 20 (.bool (decide (leaf < 0))) .of ?_
  simp only [List.set_cons_zero, List.set_cons_succ]
  refine sv 21 (.bool (decide (leaf < 0))) .of ?_
  simp only [List.set_cons_zero, List.set_cons_succ]
  by_cases g22 : leaf < 0
  · skip
    have dg22 : decide (leaf < 0) = true := decide_eq_true g22
    simp only [dg22]
    clear dg22
    refine xSkip 22 ?_
    simp only [List.set_cons_zero, List.set_cons_succ]
    refine xSkip 23 ?_
    simp only [List.set_cons_zero, List.set_cons_succ]
    refine xSkip 24 ?_
    simp only [List.set_cons_zero, List.set_cons_succ]
    refine xSkip 25 ?_
    simp only [List.set_cons_zero, List.set_cons_succ]
    refine sv 26 (.bool true) .of ?_
    simp only [List.set_cons_zero, List.set_cons_succ]
    refine wpList_nil ?_
    refine hK3 _ _ ?_
    refine cT ?_
    refine wp_seq_k fun K4 hK4 => ?_
    refine cPlain ?_
    refine sv 27 (.agg #[.int .i64 0, .slice none 0 0]) .of ?_
    simp only [List.set_cons_zero, List.set_cons_succ]
    refine xStoreR 66 (.tmp 6) (.tmp 27) rfl w1.heap.size 66 [.int .i64 0, .slice none 0 0] 0 [.int .i64 0, .slice none 0 0] (by kernel_rfl) (by kernel_rfl) b6 (by kernel_rfl) (by simp) rfl [.int .i64 0, .slice none 0 0] rfl ?_
    intro w4 t1
    have zt1 := t1.z
    have BL_ := BL.ev t1.e (fun i h => show w.heap.size ≤ i by have h : i = w1.heap.size := h; omega)
    have b3_ := b3.ev t1.e (show ¬ (w.heap.size = w1.heap.size) by omega)
    replace BL := BL_; clear BL_
    replace b3 := b3_; clear b3_
    replace b6 : Cel w4 w1.heap.size 66 [.int .i64 0, .slice none 0 0] := t1.c
    clear t1
    refine sv 7 (.int .i64 2) .of ?_
    simp only [List.set_cons_zero, List.set_cons_succ]
    refine wpList_nil ?_
    refine hK4 _ _ ?_
    refine wp_ret ?_
    (try simp only [Exit.then, Exit.inBlock])
    refine bodyPost_ret (rCT rfl _ w1.heap.size _ _ (.int .i64 2) (by kernel_rfl) (by kernel_rfl) b6 _ Try.underlying66 rfl (by kernel_rfl)) rfl ?_
    exact ⟨rfl, BL.b⟩
  · skip
    have dg22 : decide (leaf < 0) = false := decide_eq_false g22
    simp only [dg22]
    clear dg22
    refine sv 22 (.int .i64 leaf) .of ?_
    simp only [List.set_cons_zero, List.set_cons_succ]
    refine sv 23 (.slice vA es.length vC) .of ?_
    simp only [List.set_cons_zero, List.set_cons_succ]
    refine sv 24 (.int .i64 (es.length : Int)) .of ?_
    simp only [List.set_cons_zero, List.set_cons_succ]
    refine sv 25 (.bool true) (Val.cmp .geq 3 _ (.tmp 22) (.tmp 24) rfl .i64 leaf (es.length : Int) (by kernel_rfl) (by kernel_rfl) (by simp) _ (by simp [cmpB]; omega)) ?_
    simp only [List.set_cons_zero, List.set_cons_succ]
    refine sv 26 (.bool true) .of ?_
    simp only [List.set_cons_zero, List.set_cons_succ]
    refine wpList_nil ?_
    refine hK3 _ _ ?_
    refine cT ?_
    refine wp_seq_k fun K5 hK5 => ?_
    refine cPlain ?_
    refine sv 27 (.agg #[.int .i64 0, .slice none 0 0]) .of ?_
    simp only [List.set_cons_zero, List.set_cons_succ]
    refine xStoreR 66 (.tmp 6) (.tmp 27) rfl w1.heap.size 66 [.int .i64 0, .slice none 0 0] 0 [.int .i64 0, .slice none 0 0] (by kernel_rfl) (by kernel_rfl) b6 (by kernel_rfl) (by simp) rfl [.int .i64 0, .slice none 0 0] rfl ?_
    intro w5 t2
    have zt2 := t2.z
    have BL_ := BL.ev t2.e (fun i h => show w.heap.size ≤ i by have h : i = w1.heap.size := h; omega)
    have b3_ := b3.ev t2.e (show ¬ (w.heap.size = w1.heap.size) by omega)
    replace BL := BL_; clear BL_
    replace b3 := b3_; clear b3_
    replace b6 : Cel w5 w1.heap.size 66 [.int .i64 0, .slice none 0 0] := t2.c
    clear t2
    refine sv 7 (.int .i64 2) .of ?_
    simp only [List.set_cons_zero, List.set_cons_succ]
    refine wpList_nil ?_
    refine hK5 _ _ ?_
    refine wp_ret ?_
    (try simp only [Exit.then, Exit.inBlock])
    refine bodyPost_ret (rCT rfl _ w1.heap.size _ _ (.int .i64 2) (by kernel_rfl) (by kernel_rfl) b6 _ Try.underlying66 rfl (by kernel_rfl)) rfl ?_
    exact ⟨rfl, BL.b⟩

set_option maxHeartbeats 8000000 in
theorem r10path_any (tab : List Nat) (ht : tab.length = 72) (h32 : ∀ x ∈ tab, x < 4294967296) (w : World) (v : Value) (es : List (List Nat)) (D0 : SE .u8 32 w v (nnd es)) (hes : ∀ d ∈ es, d.length = 32) (hb : B8 es) (h : Nat) (hh : h ≤ 8) (hn : es.length = 2 ^ h) (k : Nat) (hk : k < 2 ^ h) :
    Calls Try.prog 51 #[.agg (cellsOf .u32 (nn tab)), v, .int .i64 ((k : Nat) : Int)] w fun e w' => ∃ (A : Option Addr) (n C : Nat), e = .returned (.tuple #[.agg #[.int .i64 ((k : Nat) : Int), .slice A n C], .int .i64 0]) ∧ OwnE 37 .u8 32 w.heap.size w' (.slice A n C) (nnd (mpath tab h es k)) ∧ Below w.heap.size w w' := by
  have BL := Bl.refl w
  have hvl := D0.lt
  have hpw : 2 ^ h ≤ 256 := Nat.pow_le_pow_right (by omega) hh
  obtain ⟨vA, vC, hv, hvc⟩ := D0.len
  rw [nnd_len] at hv hvc
  subst hv
  go_enter Try.func51, Try.ntmps51
  refine wp_seq_k fun K1 hK1 => ?_
  refine cPlain ?_
  refine xBox 3 26 _ ((nn tab).map (Value.int .u32)) rfl (cells_toList _ _) ?_
  intro w1 n1
  have zn1 := n1.z
  have b3 := n1.c
  replace b3 : Blk .u32 w1 w.heap.size 26 (nn tab) := b3
  replace BL := BL.e0 n1.e
  replace D0 := D0.e0 n1.e
  simp only [List.set_cons_zero, List.set_cons_succ]
  refine xAlloc 6 66 [.int .i64 0, .slice none 0 0] rfl (by kernel_rfl) ?_
  intro w2 n2
  have zn2 := n2.z
  have b6 := n2.c
  replace BL := BL.e0 n2.e
  replace D0 := D0.e0 n2.e
  replace b3 := b3.e0 n2.e
  simp only [List.set_cons_zero, List.set_cons_succ]
  refine sv 7 (.int .i64 0) .of ?_
  simp only [List.set_cons_zero, List.set_cons_succ]
  refine wpList_nil ?_
  refine hK1 _ _ ?_
  refine wp_seq_k fun K2 hK2 => ?_
  refine wp_seq_k fun K3 hK3 => ?_
  refine cPlain ?_
  refine sv 13 (.slice vA es.length vC) .of ?_
  simp only [List.set_cons_zero, List.set_cons_succ]
  refine sv 14 (.int .i64 (es.length : Int)) .of ?_
  simp only [List.set_cons_zero, List.set_cons_succ]
  refine xCall 15 99 #[.int .i64 (es.length : Int)] (by kernel_rfl) ?_
  refine (r10height_any es.length w2).mono ?_
  rintro en w3 ⟨he, hw⟩
  rw [heightN_pow hn hh] at he
  subst he
  have e1 : E0 w2 w3 := (hw ▸ Ev.refl _ _)
  have ze1 := e1.size
  replace BL := BL.e0 e1
  replace D0 := D0.e0 e1
  replace b3 := b3.e0 e1
  replace b6 := b6.e0 e1
  clear e1
  refine ⟨.int .i64 ((h : Nat) : Int), rfl, ?_⟩
  simp only [List.set_cons_zero, List.set_cons_succ]
  refine sv 16 (.bool false) (Val.cmp .lss 3 _ (.tmp 15) _ rfl .i64 ((h : Nat) : Int) 0 (by kernel_rfl) (by kernel_rfl) (by simp) _ (by simp [cmpB]; try omega)) ?_
  simp only [List.set_cons_zero, List.set_cons_succ]
  refine sv 17 (.bool false) .of ?_
  simp only [List.set_cons_zero, List.set_cons_succ]
  refine sv 18 (.int .i64 ((k : Nat) : Int)) .of ?_
  simp only [List.set_cons_zero, List.set_cons_succ]
  refine sv 19 (.bool false) (Val.cmp .lss 3 _ (.tmp 18) _ rfl .i64 ((k : Nat) : Int) 0 (by kernel_rfl) (by kernel_rfl) (by simp) _ (by simp [cmpB]; try omega)) ?_
  simp only [List.set_cons_zero, List.set_cons_succ]
  refine sv 20 (.bool false) .of ?_
  simp only [List.set_cons_zero, List.set_cons_succ]
  refine sv 21 (.bool false) .of ?_
  simp only [List.set_cons_zero, List.set_cons_succ]
  refine sv 22 (.int .i64 ((k : Nat) : Int)) .of ?_
  simp only [List.set_cons_zero, List.set_cons_succ]
  refine sv 23 (.slice vA es.length vC) .of ?_
  simp only [List.set_cons_zero, List.set_cons_succ]
  refine sv 24 (.int .i64 (es.length : Int)) .of ?_
  simp only [List.set_cons_zero, List.set_cons_succ]
  refine sv 25 (.bool false) (Val.cmp .geq 3 _ (.tmp 22) (.tmp 24) rfl .i64 ((k : Nat) : Int) (es.length : Int) (by kernel_rfl) (by kernel_rfl) (by simp) _ (by simp [cmpB]; omega)) ?_
  simp only [List.set_cons_zero, List.set_cons_succ]
  refine sv 26 (.bool false) .of ?_
  simp only [List.set_cons_zero, List.set_cons_succ]
  refine wpList_nil ?_
  refine hK3 _ _ ?_
  refine cF ?_
  refine wp_skip ?_
  refine hK2 _ _ ?_
  refine wp_seq_k fun K4 hK4 => ?_
  refine cPlain ?_
  refine sv 8 (.slice none 0 0) .of ?_
  simp only [List.set_cons_zero, List.set_cons_succ]
  refine wpList_nil ?_
  refine hK4 _ _ ?_
  refine wp_seq_k fun K5 hK5 => ?_
  have DN : OwnE 37 .u8 32 w3.heap.size w3 (.slice none 0 0) (nnd []) := OwnE.nil _ _ _ _ _
  have lDN_1 := DN.ge
  refine cPlain ?_
  refine sv 28 (.int .i64 ((k : Nat) : Int)) .of ?_
  simp only [List.set_cons_zero, List.set_cons_succ]
  refine sv 9 (.int .i64 ((k : Nat) : Int)) .of ?_
  simp only [List.set_cons_zero, List.set_cons_succ]
  refine wpList_nil ?_
  refine hK5 _ _ ?_
  refine wp_seq_k fun K6 hK6 => ?_
  refine wp_block ?_
  refine cLoop (fun N_ A_ w_ => ∃ (j a : Nat) (m dn : List (List Nat)) (MA : Option Addr) (MC : Nat) (NA : Option Addr) (nN NC : Nat), (N_ = j + 1 ∧ (m.length = 2 ^ j) ∧ (dn.length + j = h) ∧ (a < 2 ^ j) ∧ (mpath tab h es k = mpath tab j m a ++ dn.reverse) ∧ (∀ i, Value.ownBlock (.slice MA m.length MC) = some i → i < w.heap.size) ∧ (B8 m) ∧ (∃ s1 : Nat → Value, A_ = ⟨[.agg (cellsOf .u32 (nn tab)), .slice MA m.length MC, .int .i64 ((k : Nat) : Int), .pointer (some ⟨w.heap.size, 0, none⟩), undef, undef, .pointer (some ⟨w1.heap.size, 0, none⟩), .int .i64 0, .slice NA nN NC, .int .i64 ((a : Nat) : Int), (s1 10), undef, undef, .slice vA es.length vC, .int .i64 (es.length : Int), .int .i64 ((h : Nat) : Int), .bool false, .bool false, .int .i64 ((k : Nat) : Int), .bool false, .bool false, .bool false, .int .i64 ((k : Nat) : Int), .slice vA es.length vC, .int .i64 (es.length : Int), .bool false, .bool false, undef, .int .i64 ((k : Nat) : Int), (s1 29), (s1 30), (s1 31), (s1 32), (s1 33), (s1 34), (s1 35), (s1 36), (s1 37), (s1 38), (s1 39), (s1 40), (s1 41), (s1 42), (s1 43), (s1 44), (s1 45), (s1 46), (s1 47), (s1 48), (s1 49), (s1 50), (s1 51), (s1 52), (s1 53), (s1 54), (s1 55), (s1 56), (s1 57), (s1 58), (s1 59), (s1 60), (s1 61), (s1 62), undef, undef, undef, undef, undef, undef, undef, undef, undef, undef, undef, undef, undef, undef, undef, undef, undef, undef, undef].toArray, []⟩) ∧ Bl w.heap.size w w_ ∧ Blk .u32 w_ w.heap.size 26 (nn tab) ∧ Cel w_ w1.heap.size 66 [.int .i64 0, .slice none 0 0] ∧ OwnE 37 .u8 32 w3.heap.size w_ (.slice NA nN NC) (nnd dn) ∧ SE .u8 32 w_ (.slice MA m.length MC) (nnd m) ∧ w3.heap.size ≤ w_.heap.size)) _ ⟨h, k, es, [], vA, vC, none, 0, 0, rfl, hn, (Nat.zero_add _), hk, (by simp), hvl, hb, cutE, BL, b3, b6, DN, D0, Nat.le_refl _⟩ ?_
  clear BL D0 b3 b6 DN
  rintro n_ a_ wl0 ⟨j, a, m, dn, MA, MC, NA, nN, NC, rfl, hc0_0, hc0_1, hc0_2, hc0_3, hc0_4, hc0_5, ⟨s1, rfl⟩, BL, b3, b6, DN, D, zl0⟩
  have lDN_2 := DN.ge
  refine wp_seq_k fun K7 hK7 => ?_
  refine wp_seq_k fun K8 hK8 => ?_
  refine cPlain ?_
  refine sv 29 (.slice MA m.length MC) .of ?_
  simp only [List.set_cons_zero, List.set_cons_succ]
  refine sv 30 (.int .i64 (m.length : Int)) .of ?_
  simp only [List.set_cons_zero, List.set_cons_succ]
  refine sv 31 (.bool (decide (1 < (m.length : Int)))) (Val.cmp .gtr 3 _ (.tmp 30) _ rfl .i64 (m.length : Int) 1 (by kernel_rfl) (by kernel_rfl) (by simp) _ rfl) ?_
  simp only [List.set_cons_zero, List.set_cons_succ]
  refine wpList_nil ?_
  refine hK8 _ _ ?_
  refine cDec (1 < (m.length : Int)) (by kernel_rfl) (fun c31 => ?_) (fun c31 => ?_)
  · skip
    refine wp_skip ?_
    refine hK7 _ _ ?_
    refine wp_block ?_
    refine wp_seq_k fun K9 hK9 => ?_
    obtain ⟨q, hq⟩ : ∃ q, m.length / 2 = q := ⟨_, rfl⟩
    have hj0 : 0 < j := Nat.pos_of_ne_zero fun e => by subst e; simp at hc0_0; omega
    have hq2 : m.length = 2 * 2 ^ (j - 1) := by rw [hc0_0, ← Nat.pow_succ']; congr 1; omega
    have hq3 : q = 2 ^ (j - 1) := by omega
    have hpj : 2 ^ j ≤ 2 ^ h := Nat.pow_le_pow_right (by omega) (by omega)
    obtain ⟨m1, hm1⟩ : ∃ x, m.take q = x := ⟨_, rfl⟩
    obtain ⟨m2, hm2⟩ : ∃ x, m.drop q = x := ⟨_, rfl⟩
    have hn1 : m1.length = q := by rw [← hm1, List.length_take]; omega
    have hn2 : m2.length = q := by rw [← hm2, List.length_drop]; omega
    obtain ⟨A1, C1, hk1, D1⟩ := D.part 0 q (Nat.zero_le _) (by omega) m1 (by rw [List.drop_zero, Nat.sub_zero, hm1])
    obtain ⟨A2, C2, hk2, D2⟩ := D.part q m.length (by omega) (Nat.le_refl _) m2 (by rw [List.take_of_length_le (by rw [List.length_drop]; omega), hm2])
    have hvl1 : ∀ i, Value.ownBlock (.slice A1 m1.length C1) = some i → i < w.heap.size := fun i hi => hc0_4 i (sliceE_own (hk1 ▸ hi))
    have hvl2 : ∀ i, Value.ownBlock (.slice A2 m2.length C2) = some i → i < w.heap.size := fun i hi => hc0_4 i (sliceE_own (hk2 ▸ hi))
    have h132 := nnd_lens D1.lens
    have h232 := nnd_lens D2.lens
    have hb1_ : B8 m1 := by rw [← hm1]; exact hc0_5.take q
    have hb2_ : B8 m2 := by rw [← hm2]; exact hc0_5.drop q
    have hmm : m1 ++ m2 = m := by rw [← hm1, ← hm2, List.take_append_drop]
    have hl1 := mroot_len tab (j - 1) m1 (by omega) h132
    have hl2 := mroot_len tab (j - 1) m2 (by omega) h232
    have hj1 : j - 1 + 1 = j := by omega
    have D1 : SE .u8 32 wl0 (.slice A1 m1.length C1) (nnd m1) := D1
    have D2 : SE .u8 32 wl0 (.slice A2 m2.length C2) (nnd m2) := D2
    refine cPlain ?_
    refine sv 32 (.slice MA m.length MC) .of ?_
    simp only [List.set_cons_zero, List.set_cons_succ]
    refine sv 33 (.int .i64 (m.length : Int)) .of ?_
    simp only [List.set_cons_zero, List.set_cons_succ]
    refine sv 34 (.int .i64 ((q : Nat) : Int)) (Val.asN (Val.quoI 3 _ (.tmp 33) _ rfl m.length 2 (by kernel_rfl) (by kernel_rfl) (by omega) (by omega)) hq) ?_
    simp only [List.set_cons_zero, List.set_cons_succ]
    refine sv 10 (.int .i64 ((q : Nat) : Int)) .of ?_
    simp only [List.set_cons_zero, List.set_cons_succ]
    refine wpList_nil ?_
    refine hK9 _ _ ?_
    refine wp_seq_k fun K10 hK10 => ?_
    refine cPlain ?_
    refine sv 35 (.int .i64 ((a : Nat) : Int)) .of ?_
    simp only [List.set_cons_zero, List.set_cons_succ]
    refine sv 36 (.int .i64 ((q : Nat) : Int)) .of ?_
    simp only [List.set_cons_zero, List.set_cons_succ]
    refine sv 37 (.bool (decide (((a : Nat) : Int) < ((q : Nat) : Int)))) (Val.cmp .lss 3 _ (.tmp 35) (.tmp 36) rfl .i64 ((a : Nat) : Int) ((q : Nat) : Int) (by kernel_rfl) (by kernel_rfl) (by simp) _ rfl) ?_
    simp only [List.set_cons_zero, List.set_cons_succ]
    refine wpList_nil ?_
    refine hK10 _ _ ?_
    refine cDec (((a : Nat) : Int) < ((q : Nat) : Int)) (by kernel_rfl) (fun c37 => ?_) (fun c37 => ?_)
    · skip
      have hpth : mpath tab j m a = mpath tab (j - 1) m1 a ++ [mroot tab (j - 1) m2] := by have := mpath_lo tab (j - 1) m1 m2 a (by omega) (by omega) (by omega); rw [hmm, hj1] at this; exact this
      refine wp_seq_k fun K11 hK11 => ?_
      have e2 := drew_e0 wl0
      refine zg (fun w_ => Bl w.heap.size w w_ ∧ Blk .u32 w_ w.heap.size 26 (nn tab) ∧ Cel w_ w1.heap.size 66 [.int .i64 0, .slice none 0 0] ∧ SE .u8 32 w_ (.slice MA m.length MC) (nnd m) ∧ SE .u8 32 w_ (.slice A1 m1.length C1) (nnd m1) ∧ SE .u8 32 w_ (.slice A2 m2.length C2) (nnd m2) ∧ wl0.heap.size ≤ w_.heap.size) (fun w_ => Bl w.heap.size w w_ ∧ Blk .u32 w_ w.heap.size 26 (nn tab) ∧ Cel w_ w1.heap.size 66 [.int .i64 0, .slice none 0 0] ∧ OwnE 37 .u8 32 w3.heap.size w_ (.slice NA nN NC) (nnd dn) ∧ SE .u8 32 w_ (.slice MA m.length MC) (nnd m) ∧ SE .u8 32 w_ (.slice A1 m1.length C1) (nnd m1) ∧ SE .u8 32 w_ (.slice A2 m2.length C2) (nnd m2) ∧ wl0.heap.size ≤ w_.heap.size) 100000 9 ⟨BL.e0 e2, b3.e0 e2, b6.e0 e2, DN.e0 e2, D.e0 e2, D1.e0 e2, D2.e0 e2, Nat.le_refl _⟩ ?_
      clear BL b3 b6 DN D D1 D2
      clear e2
      intro w4
      rintro ⟨BL, b3, b6, DN, D, D1, D2, z1⟩
      refine zv 0 38 (.slice NA nN NC) (fun _ _ => .of) ⟨BL, b3, b6, D, D1, D2, by omega⟩ ?_
      simp only [List.set_cons_zero, List.set_cons_succ]
      refine zv 1 39 (.agg (cellsOf .u32 (nn tab))) (fun _ ⟨BL, b3, b6, D, D1, D2, z1⟩ => Val.blk 26 _ rfl 0 72 (by kernel_rfl) b3 _ Try.underlying26 rfl (by kernel_rfl) (by (try simp only [nn_len, List.length_cons, List.length_nil, List.length_set, List.length_replicate]); try omega) _ (seg_all' _ (by (try simp only [nn_len, List.length_cons, List.length_nil, List.length_set, List.length_replicate]); try omega))) ⟨BL, b3, b6, D, D1, D2, by omega⟩ ?_
      simp only [List.set_cons_zero, List.set_cons_succ]
      refine zv 2 40 (.slice MA m.length MC) (fun _ _ => .of) ⟨BL, b3, b6, D, D1, D2, by omega⟩ ?_
      simp only [List.set_cons_zero, List.set_cons_succ]
      refine zv 3 41 (.int .i64 ((q : Nat) : Int)) (fun _ _ => .of) ⟨BL, b3, b6, D, D1, D2, by omega⟩ ?_
      simp only [List.set_cons_zero, List.set_cons_succ]
      refine zv 4 42 (.slice A2 m2.length C2) (fun _ ⟨BL, b3, b6, D, D1, D2, z1⟩ => Val.as (Val.slcE 63 (.tmp 40) (some (.tmp 41)) none rfl (.slice MA m.length MC) (by kernel_rfl) D q m.length (.inl (by kernel_rfl)) (.inr ⟨rfl, (nnd_len _).symm⟩) (by omega) (by rw [nnd_len]; omega) Try.underlying63 (by kernel_rfl)) hk2) ⟨BL, b3, b6, D, D1, D2, by omega⟩ ?_
      simp only [List.set_cons_zero, List.set_cons_succ]
      refine zo1 5 rfl ?_
      refine xCall 43 100 #[.agg (cellsOf .u32 (nn tab)), .slice A2 m2.length C2] (by kernel_rfl) ?_
      refine (r10root_any tab ht h32 (j - 1) (by omega) w4 _ m2 D2 h232 hb2_ (by omega)).mono ?_
      rintro en w5 ⟨rfl, hb1⟩
      have e3 := belE0 hb1
      have ze3 := e3.size
      replace BL := BL.e0 e3
      replace b3 := b3.e0 e3
      replace b6 := b6.e0 e3
      replace DN := DN.e0 e3
      replace D := D.e0 e3
      replace D1 := D1.e0 e3
      replace D2 := D2.e0 e3
      clear e3
      refine ⟨.agg (cellsOf .u8 (nn (mroot tab (j - 1) m2))), rfl, ?_⟩
      refine ze 5 ⟨BL, b3, b6, D, D1, D2, by omega⟩ ?_
      simp only [List.set_cons_zero, List.set_cons_succ]
      refine zo1 6 rfl ?_
      refine xLitE 44 63 37 1 _ rfl .u8 32 (nnd [(mroot tab (j - 1) m2)]) (by kernel_rfl) Try.underlying63 (by kernel_rfl) (by omega) rfl (by omega) (by omega) (lenC (by (try simp only [nn_len, List.length_cons, List.length_nil, List.length_set, List.length_replicate]); try omega) lenN) ?_
      intro w6 n3 b44
      have zn3 := n3.z
      replace BL := BL.e0 n3.e
      replace b3 := b3.e0 n3.e
      replace b6 := b6.e0 n3.e
      replace DN := DN.e0 n3.e
      replace D := D.e0 n3.e
      replace D1 := D1.e0 n3.e
      replace D2 := D2.e0 n3.e
      have lb44_1 := b44.ge
      refine ze 6 ⟨BL, b3, b6, D, D1, D2, by omega⟩ ?_
      simp only [List.set_cons_zero, List.set_cons_succ]
      refine zo1 7 rfl ?_
      refine xAppE 45 (.tmp 38) (.tmp 44) 63 37 .u8 32 32 rfl Try.underlying63 (by kernel_rfl) (by omega) w3.heap.size (.slice NA nN NC) (nnd dn) (by kernel_rfl) DN (.slice (some ⟨w5.heap.size, 0, none⟩) 1 1) (nnd [(mroot tab (j - 1) m2)]) (by kernel_rfl) b44.se ?va1_1 ?va1_2 ?va1_3 ?_
      case va1_1 => (simp only [nnd_len, List.length_cons, List.length_nil]; omega)
      case va1_2 => (simp only [nnd_len, List.length_cons, List.length_nil]; unfold maxLen; omega)
      case va1_3 => omega
      intro va1 w7 rva1 e4
      have ze4 := e4.size
      have BL_ := BL.ev e4 (fun i h => by have := lDN_2 _ h; omega)
      have b3_ := b3.ev e4 (fun h => by have := lDN_2 _ h; omega)
      have b6_ := b6.ev e4 (fun h => by have := lDN_2 _ h; omega)
      have D_ := D.ev e4 (fun i hi h => by have := hc0_4 i hi; have := lDN_2 _ h; omega)
      have D1_ := D1.ev e4 (fun i hi h => by have := hvl1 i hi; have := lDN_2 _ h; omega)
      have D2_ := D2.ev e4 (fun i hi h => by have := hvl2 i hi; have := lDN_2 _ h; omega)
      have b44_ := b44.ev e4 (fun i hi h => by have := lb44_1 i hi; have := lDN_2 _ h; omega)
      replace BL := BL_; clear BL_
      replace b3 := b3_; clear b3_
      replace b6 := b6_; clear b6_
      replace D := D_; clear D_
      replace D1 := D1_; clear D1_
      replace D2 := D2_; clear D2_
      replace b44 := b44_; clear b44_
      rw [← nnd_app] at rva1
      obtain ⟨Na, Nc, hNa, hlNa⟩ := rva1.len; rw [nnd_len] at hNa hlNa
      subst hNa
      replace DN := rva1
      clear rva1 e4
      have lDN_3 := DN.ge
      refine ze 7 ⟨BL, b3, b6, D, D1, D2, by omega⟩ ?_
      simp only [List.set_cons_zero, List.set_cons_succ]
      refine zv 8 8 (.slice Na ((dn ++ [(mroot tab (j - 1) m2)])).length Nc) (fun _ _ => .of) ⟨BL, b3, b6, D, D1, D2, by omega⟩ ?_
      simp only [List.set_cons_zero, List.set_cons_succ]
      refine zd (by kernel_rfl) ?_ _
      refine hK11 _ _ ?_
      refine cPlain ?_
      refine sv 46 (.slice MA m.length MC) .of ?_
      simp only [List.set_cons_zero, List.set_cons_succ]
      refine sv 47 (.int .i64 ((q : Nat) : Int)) .of ?_
      simp only [List.set_cons_zero, List.set_cons_succ]
      refine sv 48 (.slice A1 m1.length C1) (Val.as (Val.slcE 63 (.tmp 46) none (some (.tmp 47)) rfl (.slice MA m.length MC) (by kernel_rfl) D 0 q (.inr ⟨rfl, rfl⟩) (.inl (by kernel_rfl)) (Nat.zero_le _) (by rw [nnd_len]; omega) Try.underlying63 (by kernel_rfl)) hk1) ?_
      simp only [List.set_cons_zero, List.set_cons_succ]
      refine sv 1 (.slice A1 m1.length C1) .of ?_
      simp only [List.set_cons_zero, List.set_cons_succ]
      refine wpList_nil ?_
      refine ⟨_, ?_, j - 1, a, m1, dn ++ [mroot tab (j - 1) m2], A1, C1, Na, ((dn ++ [(mroot tab (j - 1) m2)])).length, Nc, rfl, (by omega), (by simp only [List.length_append, List.length_cons, List.length_nil]; omega), (by omega), (by rw [hc0_3, hpth, List.reverse_append, List.append_assoc]; rfl), hvl1, hb1_, cutE, BL, b3, b6, DN, (by first | exact D1 | exact D2), by omega⟩
      omega
    · skip
      have hpth : mpath tab j m a = mpath tab (j - 1) m2 (a - q) ++ [mroot tab (j - 1) m1] := by have := mpath_hi tab (j - 1) m1 m2 (a - q) (by omega) (by omega) (by omega); rw [hmm, hj1, ← hq3, show q + (a - q) = a by omega] at this; exact this
      refine wp_seq_k fun K12 hK12 => ?_
      have e5 := drew_e0 wl0
      refine zg (fun w_ => Bl w.heap.size w w_ ∧ Blk .u32 w_ w.heap.size 26 (nn tab) ∧ Cel w_ w1.heap.size 66 [.int .i64 0, .slice none 0 0] ∧ SE .u8 32 w_ (.slice MA m.length MC) (nnd m) ∧ SE .u8 32 w_ (.slice A1 m1.length C1) (nnd m1) ∧ SE .u8 32 w_ (.slice A2 m2.length C2) (nnd m2) ∧ wl0.heap.size ≤ w_.heap.size) (fun w_ => Bl w.heap.size w w_ ∧ Blk .u32 w_ w.heap.size 26 (nn tab) ∧ Cel w_ w1.heap.size 66 [.int .i64 0, .slice none 0 0] ∧ OwnE 37 .u8 32 w3.heap.size w_ (.slice NA nN NC) (nnd dn) ∧ SE .u8 32 w_ (.slice MA m.length MC) (nnd m) ∧ SE .u8 32 w_ (.slice A1 m1.length C1) (nnd m1) ∧ SE .u8 32 w_ (.slice A2 m2.length C2) (nnd m2) ∧ wl0.heap.size ≤ w_.heap.size) 100000 9 ⟨BL.e0 e5, b3.e0 e5, b6.e0 e5, DN.e0 e5, D.e0 e5, D1.e0 e5, D2.e0 e5, Nat.le_refl _⟩ ?_
      clear BL b3 b6 DN D D1 D2
      clear e5
      intro w8
      rintro ⟨BL, b3, b6, DN, D, D1, D2, z2⟩
      refine zv 0 49 (.slice NA nN NC) (fun _ _ => .of) ⟨BL, b3, b6, D, D1, D2, by omega⟩ ?_
      simp only [List.set_cons_zero, List.set_cons_succ]
      refine zv 1 50 (.agg (cellsOf .u32 (nn tab))) (fun _ ⟨BL, b3, b6, D, D1, D2, z2⟩ => Val.blk 26 _ rfl 0 72 (by kernel_rfl) b3 _ Try.underlying26 rfl (by kernel_rfl) (by (try simp only [nn_len, List.length_cons, List.length_nil, List.length_set, List.length_replicate]); try omega) _ (seg_all' _ (by (try simp only [nn_len, List.length_cons, List.length_nil, List.length_set, List.length_replicate]); try omega))) ⟨BL, b3, b6, D, D1, D2, by omega⟩ ?_
      simp only [List.set_cons_zero, List.set_cons_succ]
      refine zv 2 51 (.slice MA m.length MC) (fun _ _ => .of) ⟨BL, b3, b6, D, D1, D2, by omega⟩ ?_
      simp only [List.set_cons_zero, List.set_cons_succ]
      refine zv 3 52 (.int .i64 ((q : Nat) : Int)) (fun _ _ => .of) ⟨BL, b3, b6, D, D1, D2, by omega⟩ ?_
      simp only [List.set_cons_zero, List.set_cons_succ]
      refine zv 4 53 (.slice A1 m1.length C1) (fun _ ⟨BL, b3, b6, D, D1, D2, z2⟩ => Val.as (Val.slcE 63 (.tmp 51) none (some (.tmp 52)) rfl (.slice MA m.length MC) (by kernel_rfl) D 0 q (.inr ⟨rfl, rfl⟩) (.inl (by kernel_rfl)) (Nat.zero_le _) (by rw [nnd_len]; omega) Try.underlying63 (by kernel_rfl)) hk1) ⟨BL, b3, b6, D, D1, D2, by omega⟩ ?_
      simp only [List.set_cons_zero, List.set_cons_succ]
      refine zo1 5 rfl ?_
      refine xCall 54 100 #[.agg (cellsOf .u32 (nn tab)), .slice A1 m1.length C1] (by kernel_rfl) ?_
      refine (r10root_any tab ht h32 (j - 1) (by omega) w8 _ m1 D1 h132 hb1_ (by omega)).mono ?_
      rintro en w9 ⟨rfl, hb1⟩
      have e6 := belE0 hb1
      have ze6 := e6.size
      replace BL := BL.e0 e6
      replace b3 := b3.e0 e6
      replace b6 := b6.e0 e6
      replace DN := DN.e0 e6
      replace D := D.e0 e6
      replace D1 := D1.e0 e6
      replace D2 := D2.e0 e6
      clear e6
      refine ⟨.agg (cellsOf .u8 (nn (mroot tab (j - 1) m1))), rfl, ?_⟩
      refine ze 5 ⟨BL, b3, b6, D, D1, D2, by omega⟩ ?_
      simp only [List.set_cons_zero, List.set_cons_succ]
      refine zo1 6 rfl ?_
      refine xLitE 55 63 37 1 _ rfl .u8 32 (nnd [(mroot tab (j - 1) m1)]) (by kernel_rfl) Try.underlying63 (by kernel_rfl) (by omega) rfl (by omega) (by omega) (lenC (by (try simp only [nn_len, List.length_cons, List.length_nil, List.length_set, List.length_replicate]); try omega) lenN) ?_
      intro w10 n4 b55
      have zn4 := n4.z
      replace BL := BL.e0 n4.e
      replace b3 := b3.e0 n4.e
      replace b6 := b6.e0 n4.e
      replace DN := DN.e0 n4.e
      replace D := D.e0 n4.e
      replace D1 := D1.e0 n4.e
      replace D2 := D2.e0 n4.e
      have lb55_1 := b55.ge
      refine ze 6 ⟨BL, b3, b6, D, D1, D2, by omega⟩ ?_
      simp only [List.set_cons_zero, List.set_cons_succ]
      refine zo1 7 rfl ?_
      refine xAppE 56 (.tmp 49) (.tmp 55) 63 37 .u8 32 32 rfl Try.underlying63 (by kernel_rfl) (by omega) w3.heap.size (.slice NA nN NC) (nnd dn) (by kernel_rfl) DN (.slice (some ⟨w9.heap.size, 0, none⟩) 1 1) (nnd [(mroot tab (j - 1) m1)]) (by kernel_rfl) b55.se ?va2_1 ?va2_2 ?va2_3 ?_
      case va2_1 => (simp only [nnd_len, List.length_cons, List.length_nil]; omega)
      case va2_2 => (simp only [nnd_len, List.length_cons, List.length_nil]; unfold maxLen; omega)
      case va2_3 => omega
      intro va2 w11 rva2 e7
      have ze7 := e7.size
      have BL_ := BL.ev e7 (fun i h => by have := lDN_2 _ h; omega)
      have b3_ := b3.ev e7 (fun h => by have := lDN_2 _ h; omega)
      have b6_ := b6.ev e7 (fun h => by have := lDN_2 _ h; omega)
      have D_ := D.ev e7 (fun i hi h => by have := hc0_4 i hi; have := lDN_2 _ h; omega)
      have D1_ := D1.ev e7 (fun i hi h => by have := hvl1 i hi; have := lDN_2 _ h; omega)
      have D2_ := D2.ev e7 (fun i hi h => by have := hvl2 i hi; have := lDN_2 _ h; omega)
      have b55_ := b55.ev e7 (fun i hi h => by have := lb55_1 i hi; have := lDN_2 _ h; omega)
      replace BL := BL_; clear BL_
      replace b3 := b3_; clear b3_
      replace b6 := b6_; clear b6_
      replace D := D_; clear D_
      replace D1 := D1_; clear D1_
      replace D2 := D2_; clear D2_
      replace b55 := b55_; clear b55_
      rw [← nnd_app] at rva2
      obtain ⟨Na, Nc, hNa, hlNa⟩ := rva2.len; rw [nnd_len] at hNa hlNa
      subst hNa
      replace DN := rva2
      clear rva2 e7
      have lDN_4 := DN.ge
      refine ze 7 ⟨BL, b3, b6, D, D1, D2, by omega⟩ ?_
      simp only [List.set_cons_zero, List.set_cons_succ]
      refine zv 8 8 (.slice Na ((dn ++ [(mroot tab (j - 1) m1)])).length Nc) (fun _ _ => .of) ⟨BL, b3, b6, D, D1, D2, by omega⟩ ?_
      simp only [List.set_cons_zero, List.set_cons_succ]
      refine zd (by kernel_rfl) ?_ _
      refine hK12 _ _ ?_
      refine wp_seq_k fun K13 hK13 => ?_
      refine cPlain ?_
      refine sv 57 (.slice MA m.length MC) .of ?_
      simp only [List.set_cons_zero, List.set_cons_succ]
      refine sv 58 (.int .i64 ((q : Nat) : Int)) .of ?_
      simp only [List.set_cons_zero, List.set_cons_succ]
      refine sv 59 (.slice A2 m2.length C2) (Val.as (Val.slcE 63 (.tmp 57) (some (.tmp 58)) none rfl (.slice MA m.length MC) (by kernel_rfl) D q m.length (.inl (by kernel_rfl)) (.inr ⟨rfl, (nnd_len _).symm⟩) (by omega) (by rw [nnd_len]; omega) Try.underlying63 (by kernel_rfl)) hk2) ?_
      simp only [List.set_cons_zero, List.set_cons_succ]
      refine sv 1 (.slice A2 m2.length C2) .of ?_
      simp only [List.set_cons_zero, List.set_cons_succ]
      refine wpList_nil ?_
      refine hK13 _ _ ?_
      refine cPlain ?_
      refine sv 60 (.int .i64 ((a : Nat) : Int)) .of ?_
      simp only [List.set_cons_zero, List.set_cons_succ]
      refine sv 61 (.int .i64 ((q : Nat) : Int)) .of ?_
      simp only [List.set_cons_zero, List.set_cons_succ]
      refine sv 62 (.int .i64 ((a - q : Nat) : Int)) (Val.as (Val.sub 3 _ (.tmp 60) (.tmp 61) rfl ((a : Nat) : Int) ((q : Nat) : Int) (by kernel_rfl) (by kernel_rfl) (by omega)) (congrArg (Value.int .i64) (by omega))) ?_
      simp only [List.set_cons_zero, List.set_cons_succ]
      refine sv 9 (.int .i64 ((a - q : Nat) : Int)) .of ?_
      simp only [List.set_cons_zero, List.set_cons_succ]
      refine wpList_nil ?_
      refine ⟨_, ?_, j - 1, a - q, m2, dn ++ [mroot tab (j - 1) m1], A2, C2, Na, ((dn ++ [(mroot tab (j - 1) m1)])).length, Nc, rfl, (by omega), (by simp only [List.length_append, List.length_cons, List.length_nil]; omega), (by omega), (by rw [hc0_3, hpth, List.reverse_append, List.append_assoc]; rfl), hvl2, hb2_, cutE, BL, b3, b6, DN, (by first | exact D1 | exact D2), by omega⟩
      omega
  · skip
    refine wp_exit ?_
    simp only [Exit.then, Exit.inBlock, ↓reduceIte, Nat.reduceEqDiff]
    refine hK6 _ _ ?_
    refine wp_seq_k fun K14 hK14 => ?_
    have hj0 : j = 0 := by
      rcases Nat.eq_zero_or_pos j with h0 | h0
      · exact h0
      · have := two_le_pow h0; omega
    have hfin : mpath tab h es k = dn.reverse := by rw [hc0_3, hj0]; simp only [mpath, List.nil_append]
    have hd32 := nnd_lens DN.lens
    have hdn8 : dn.length ≤ 8 := by omega
    have hcap := DN.se.cap.1
    rw [nnd_len] at hcap
    have hDNb := DN.ge
    refine cPlain ?_
    refine sv 63 (.int .i64 ((k : Nat) : Int)) .of ?_
    simp only [List.set_cons_zero, List.set_cons_succ]
    refine sv 64 (.agg #[.int .i64 ((k : Nat) : Int), .slice none 0 0]) .of ?_
    simp only [List.set_cons_zero, List.set_cons_succ]
    refine xAlloc 11 66 [.int .i64 0, .slice none 0 0] rfl (by kernel_rfl) ?_
    intro w12 n5
    have zn5 := n5.z
    have b11 := n5.c
    replace BL := BL.e0 n5.e
    replace b3 := b3.e0 n5.e
    replace b6 := b6.e0 n5.e
    replace DN := DN.e0 n5.e
    replace D := D.e0 n5.e
    simp only [List.set_cons_zero, List.set_cons_succ]
    refine xStoreR 66 (.tmp 11) (.tmp 64) rfl wl0.heap.size 66 [.int .i64 0, .slice none 0 0] 0 [.int .i64 ((k : Nat) : Int), .slice none 0 0] (by kernel_rfl) (by kernel_rfl) b11 (by kernel_rfl) (by simp) rfl [.int .i64 ((k : Nat) : Int), .slice none 0 0] rfl ?_
    intro w13 t1
    have zt1 := t1.z
    have BL_ := BL.ev t1.e (fun i h => show w.heap.size ≤ i by have h : i = wl0.heap.size := h; omega)
    have b3_ := b3.ev t1.e (show ¬ (w.heap.size = wl0.heap.size) by omega)
    have b6_ := b6.ev t1.e (show ¬ (w1.heap.size = wl0.heap.size) by omega)
    have DN_ := DN.ev t1.e (fun i hi => show ¬ (i = wl0.heap.size) by have := lDN_2 i hi; omega)
    have D_ := D.ev t1.e (fun i hi => show ¬ (i = wl0.heap.size) by have := hc0_4 i hi; omega)
    replace BL := BL_; clear BL_
    replace b3 := b3_; clear b3_
    replace b6 := b6_; clear b6_
    replace DN := DN_; clear DN_
    replace D := D_; clear D_
    replace b11 : Cel w13 wl0.heap.size 66 [.int .i64 ((k : Nat) : Int), .slice none 0 0] := t1.c
    clear t1
    refine wpList_nil ?_
    refine hK14 _ _ ?_
    refine wp_seq_k fun K15 hK15 => ?_
    refine wp_seq_k fun K16 hK16 => ?_
    have PO : OwnE 37 .u8 32 w13.heap.size w13 (.slice none 0 0) (nnd []) := OwnE.nil _ _ _ _ _
    have lPO_1 := PO.ge
    refine cPlain ?_
    refine sv 65 (.slice NA nN NC) .of ?_
    simp only [List.set_cons_zero, List.set_cons_succ]
    refine sv 66 (.int .i64 (nN : Int)) .of ?_
    simp only [List.set_cons_zero, List.set_cons_succ]
    refine sv 67 (.int .i64 ((dn.length : Int) - ((0 + 1 : Nat) : Int))) (Val.as (Val.sub 3 _ (.tmp 66) _ rfl ((nN : Nat) : Int) 1 (by kernel_rfl) (by kernel_rfl) (by omega)) (congrArg (Value.int .i64) (by omega))) ?_
    simp only [List.set_cons_zero, List.set_cons_succ]
    refine sv 12 (.int .i64 ((dn.length : Int) - ((0 + 1 : Nat) : Int))) .of ?_
    simp only [List.set_cons_zero, List.set_cons_succ]
    refine wpList_nil ?_
    refine hK16 _ _ ?_
    refine wp_block ?_
    refine cLoop (fun N_ A_ w_ => ∃ (c : Nat) (PA : Option Addr) (pN PC : Nat), (N_ = dn.length - c ∧ (c ≤ dn.length) ∧ (∃ s2 : Nat → Value, A_ = ⟨[.agg (cellsOf .u32 (nn tab)), .slice MA m.length MC, .int .i64 ((k : Nat) : Int), .pointer (some ⟨w.heap.size, 0, none⟩), undef, undef, .pointer (some ⟨w1.heap.size, 0, none⟩), .int .i64 0, .slice NA nN NC, .int .i64 ((a : Nat) : Int), (s1 10), .pointer (some ⟨wl0.heap.size, 0, none⟩), .int .i64 ((dn.length : Int) - ((c + 1 : Nat) : Int)), .slice vA es.length vC, .int .i64 (es.length : Int), .int .i64 ((h : Nat) : Int), .bool false, .bool false, .int .i64 ((k : Nat) : Int), .bool false, .bool false, .bool false, .int .i64 ((k : Nat) : Int), .slice vA es.length vC, .int .i64 (es.length : Int), .bool false, .bool false, undef, .int .i64 ((k : Nat) : Int), .slice MA m.length MC, .int .i64 (m.length : Int), .bool (decide (1 < (m.length : Int))), (s1 32), (s1 33), (s1 34), (s1 35), (s1 36), (s1 37), (s1 38), (s1 39), (s1 40), (s1 41), (s1 42), (s1 43), (s1 44), (s1 45), (s1 46), (s1 47), (s1 48), (s1 49), (s1 50), (s1 51), (s1 52), (s1 53), (s1 54), (s1 55), (s1 56), (s1 57), (s1 58), (s1 59), (s1 60), (s1 61), (s1 62), .int .i64 ((k : Nat) : Int), .agg #[.int .i64 ((k : Nat) : Int), .slice none 0 0], .slice NA nN NC, .int .i64 (nN : Int), .int .i64 ((dn.length : Int) - ((0 + 1 : Nat) : Int)), (s2 68), (s2 69), (s2 70), (s2 71), (s2 72), (s2 73), (s2 74), (s2 75), (s2 76), (s2 77), (s2 78), (s2 79), (s2 80), undef].toArray, []⟩) ∧ Bl w.heap.size w w_ ∧ Blk .u32 w_ w.heap.size 26 (nn tab) ∧ Cel w_ w1.heap.size 66 [.int .i64 0, .slice none 0 0] ∧ OwnE 37 .u8 32 w3.heap.size w_ (.slice NA nN NC) (nnd dn) ∧ SE .u8 32 w_ (.slice MA m.length MC) (nnd m) ∧ Cel w_ wl0.heap.size 66 [.int .i64 ((k : Nat) : Int), .slice PA pN PC] ∧ OwnE 37 .u8 32 w13.heap.size w_ (.slice PA pN PC) (nnd ((dn.reverse).take c)) ∧ w13.heap.size ≤ w_.heap.size)) _ ⟨0, none, 0, 0, rfl, (Nat.zero_le _), cutE, BL, b3, b6, DN, D, b11, PO, Nat.le_refl _⟩ ?_
    clear BL b3 b6 DN D b11 PO
    rintro n_ a_ wl1 ⟨c, PA, pN, PC, rfl, hc1_0, ⟨s2, rfl⟩, BL, b3, b6, DN, D, b11, PO, zl1⟩
    have lDN_5 := DN.ge
    have lPO_2 := PO.ge
    refine wp_seq_k fun K17 hK17 => ?_
    refine wp_seq_k fun K18 hK18 => ?_
    refine cPlain ?_
    refine sv 68 (.int .i64 ((dn.length : Int) - ((c + 1 : Nat) : Int))) .of ?_
    simp only [List.set_cons_zero, List.set_cons_succ]
    refine sv 69 (.bool (decide (c < dn.length))) (Val.cmp .geq 3 _ (.tmp 68) _ rfl .i64 ((dn.length : Int) - ((c + 1 : Nat) : Int)) 0 (by kernel_rfl) (by kernel_rfl) (by simp) _ (by simp only [cmpB, decide_eq_decide]; omega)) ?_
    simp only [List.set_cons_zero, List.set_cons_succ]
    refine wpList_nil ?_
    refine hK18 _ _ ?_
    refine cDec (c < dn.length) (by kernel_rfl) (fun c69 => ?_) (fun c69 => ?_)
    · skip
      refine wp_skip ?_
      refine hK17 _ _ ?_
      refine wp_seq_k fun K19 hK19 => ?_
      refine wp_block ?_
      obtain ⟨ix, hixd⟩ : ∃ ix, ix = dn.length - 1 - c := ⟨_, rfl⟩
      have hix : ((dn.length : Int) - ((c + 1 : Nat) : Int)) = ((ix : Nat) : Int) := by omega
      have hdi : (dn.getD ix []).length = 32 := fe_getDN hd32 (by omega)
      have hrv : (dn.reverse).take (c + 1) = (dn.reverse).take c ++ [dn.getD ix []] := by
        rw [List.take_add_one, List.getElem?_reverse (by omega), ← hixd, List.getElem?_eq_getElem (show ix < dn.length by omega), List.getD_eq_getElem?_getD, List.getElem?_eq_getElem (show ix < dn.length by omega)]
        rfl
      have e8 := drew_e0 wl1
      refine zg (fun w_ => Bl w.heap.size w w_ ∧ Blk .u32 w_ w.heap.size 26 (nn tab) ∧ Cel w_ w1.heap.size 66 [.int .i64 0, .slice none 0 0] ∧ OwnE 37 .u8 32 w3.heap.size w_ (.slice NA nN NC) (nnd dn) ∧ SE .u8 32 w_ (.slice MA m.length MC) (nnd m) ∧ Cel w_ wl0.heap.size 66 [.int .i64 ((k : Nat) : Int), .slice PA pN PC] ∧ wl1.heap.size ≤ w_.heap.size) (fun w_ => Bl w.heap.size w w_ ∧ Blk .u32 w_ w.heap.size 26 (nn tab) ∧ Cel w_ w1.heap.size 66 [.int .i64 0, .slice none 0 0] ∧ OwnE 37 .u8 32 w3.heap.size w_ (.slice NA nN NC) (nnd dn) ∧ SE .u8 32 w_ (.slice MA m.length MC) (nnd m) ∧ Cel w_ wl0.heap.size 66 [.int .i64 ((k : Nat) : Int), .slice PA pN PC] ∧ OwnE 37 .u8 32 w13.heap.size w_ (.slice PA pN PC) (nnd ((dn.reverse).take c)) ∧ wl1.heap.size ≤ w_.heap.size) 9 10 ⟨BL.e0 e8, b3.e0 e8, b6.e0 e8, DN.e0 e8, D.e0 e8, b11.e0 e8, PO.e0 e8, Nat.le_refl _⟩ ?_
      clear BL b3 b6 DN D b11 PO
      clear e8
      intro w14
      rintro ⟨BL, b3, b6, DN, D, b11, PO, z3⟩
      refine zv 0 72 (.pointer (some ⟨wl0.heap.size, 1, none⟩)) (fun _ _ => .of) ⟨BL, b3, b6, DN, D, b11, by omega⟩ ?_
      simp only [List.set_cons_zero, List.set_cons_succ]
      refine zv 1 73 (.slice PA pN PC) (fun _ ⟨BL, b3, b6, DN, D, b11, z3⟩ => Val.cel1 63 _ rfl wl0.heap.size 1 _ (by kernel_rfl) (fun _ => (by kernel_rfl)) b11 rfl) ⟨BL, b3, b6, DN, D, b11, by omega⟩ ?_
      simp only [List.set_cons_zero, List.set_cons_succ]
      refine zv 2 74 (.slice NA nN NC) (fun _ _ => .of) ⟨BL, b3, b6, DN, D, b11, by omega⟩ ?_
      simp only [List.set_cons_zero, List.set_cons_succ]
      refine zv 3 75 (.int .i64 ((dn.length : Int) - ((c + 1 : Nat) : Int))) (fun _ _ => .of) ⟨BL, b3, b6, DN, D, b11, by omega⟩ ?_
      simp only [List.set_cons_zero, List.set_cons_succ]
      refine zv 4 76 (elemE 32 (.slice NA nN NC) ix) (fun _ ⟨BL, b3, b6, DN, D, b11, z3⟩ => Val.ixE 63 (.tmp 74) (.tmp 75) rfl (.slice NA nN NC) ix (by kernel_rfl) (by rw [hix]; kernel_rfl) DN.se Try.underlying63 (by kernel_rfl) (by simp only [nnd_len]; omega)) ⟨BL, b3, b6, DN, D, b11, by omega⟩ ?_
      simp only [List.set_cons_zero, List.set_cons_succ]
      refine zv 5 77 (.agg (cellsOf .u8 (nn (dn.getD ix [])))) (fun _ ⟨BL, b3, b6, DN, D, b11, z3⟩ => Val.ldGN 37 _ rfl (.slice NA nN NC) ix (by kernel_rfl) DN.se _ Try.underlying37 rfl (by kernel_rfl) (by simp only [nnd_len]; omega)) ⟨BL, b3, b6, DN, D, b11, by omega⟩ ?_
      simp only [List.set_cons_zero, List.set_cons_succ]
      refine zo1 6 rfl ?_
      refine xLitE 78 63 37 1 _ rfl .u8 32 (nnd [(dn.getD ix [])]) (by kernel_rfl) Try.underlying63 (by kernel_rfl) (by omega) rfl (by omega) (by omega) (lenC (by (try simp only [nn_len, List.length_cons, List.length_nil, List.length_set, List.length_replicate]); try omega) lenN) ?_
      intro w15 n6 b78
      have zn6 := n6.z
      replace BL := BL.e0 n6.e
      replace b3 := b3.e0 n6.e
      replace b6 := b6.e0 n6.e
      replace DN := DN.e0 n6.e
      replace D := D.e0 n6.e
      replace b11 := b11.e0 n6.e
      replace PO := PO.e0 n6.e
      have lb78_1 := b78.ge
      refine ze 6 ⟨BL, b3, b6, DN, D, b11, by omega⟩ ?_
      simp only [List.set_cons_zero, List.set_cons_succ]
      refine zo1 7 rfl ?_
      refine xAppE 79 (.tmp 73) (.tmp 78) 63 37 .u8 32 32 rfl Try.underlying63 (by kernel_rfl) (by omega) w13.heap.size (.slice PA pN PC) (nnd ((dn.reverse).take c)) (by kernel_rfl) PO (.slice (some ⟨w14.heap.size, 0, none⟩) 1 1) (nnd [(dn.getD ix [])]) (by kernel_rfl) b78.se ?va3_1 ?va3_2 ?va3_3 ?_
      case va3_1 => (simp only [nnd_len, List.length_take, List.length_reverse, List.length_cons, List.length_nil]; omega)
      case va3_2 => (simp only [nnd_len, List.length_take, List.length_reverse, List.length_cons, List.length_nil]; unfold maxLen; omega)
      case va3_3 => omega
      intro va3 w16 rva3 e9
      have ze9 := e9.size
      have BL_ := BL.ev e9 (fun i h => by have := lPO_2 _ h; omega)
      have b3_ := b3.ev e9 (fun h => by have := lPO_2 _ h; omega)
      have b6_ := b6.ev e9 (fun h => by have := lPO_2 _ h; omega)
      have DN_ := DN.ev e9 (fun i hi h => by have := hDNb i hi; have := lPO_2 _ h; omega)
      have D_ := D.ev e9 (fun i hi h => by have := hc0_4 i hi; have := lPO_2 _ h; omega)
      have b11_ := b11.ev e9 (fun h => by have := lPO_2 _ h; omega)
      have b78_ := b78.ev e9 (fun i hi h => by have := lb78_1 i hi; have := lPO_2 _ h; omega)
      replace BL := BL_; clear BL_
      replace b3 := b3_; clear b3_
      replace b6 := b6_; clear b6_
      replace DN := DN_; clear DN_
      replace D := D_; clear D_
      replace b11 := b11_; clear b11_
      replace b78 := b78_; clear b78_
      rw [← nnd_app] at rva3
      obtain ⟨Pa, Pc, hPa, hlPa⟩ := rva3.len; rw [nnd_len] at hPa hlPa
      subst hPa
      replace PO := rva3
      clear rva3 e9
      have lPO_3 := PO.ge
      refine ze 7 ⟨BL, b3, b6, DN, D, b11, by omega⟩ ?_
      simp only [List.set_cons_zero, List.set_cons_succ]
      refine zv 8 80 (.pointer (some ⟨wl0.heap.size, 1, none⟩)) (fun _ _ => .of) ⟨BL, b3, b6, DN, D, b11, by omega⟩ ?_
      simp only [List.set_cons_zero, List.set_cons_succ]
      refine zo1 9 rfl ?_
      refine xStore 63 (.tmp 80) (.tmp 79) rfl wl0.heap.size 66 [.int .i64 ((k : Nat) : Int), .slice PA pN PC] 1 (.slice Pa ((((dn.reverse).take c) ++ [(dn.getD ix [])])).length Pc) (by kernel_rfl) (by kernel_rfl) b11 (by kernel_rfl) (by simp) rfl [.int .i64 ((k : Nat) : Int), .slice Pa ((((dn.reverse).take c) ++ [(dn.getD ix [])])).length Pc] rfl ?_
      intro w17 t2
      have zt2 := t2.z
      have BL_ := BL.ev t2.e (fun i h => show w.heap.size ≤ i by have h : i = wl0.heap.size := h; omega)
      have b3_ := b3.ev t2.e (show ¬ (w.heap.size = wl0.heap.size) by omega)
      have b6_ := b6.ev t2.e (show ¬ (w1.heap.size = wl0.heap.size) by omega)
      have DN_ := DN.ev t2.e (fun i hi => show ¬ (i = wl0.heap.size) by have := hDNb i hi; omega)
      have D_ := D.ev t2.e (fun i hi => show ¬ (i = wl0.heap.size) by have := hc0_4 i hi; omega)
      have PO_ := PO.ev t2.e (fun i hi => show ¬ (i = wl0.heap.size) by have := lPO_3 i hi; omega)
      have b78_ := b78.ev t2.e (fun i hi => show ¬ (i = wl0.heap.size) by have := lb78_1 i hi; omega)
      replace BL := BL_; clear BL_
      replace b3 := b3_; clear b3_
      replace b6 := b6_; clear b6_
      replace DN := DN_; clear DN_
      replace D := D_; clear D_
      replace PO := PO_; clear PO_
      replace b78 := b78_; clear b78_
      replace b11 : Cel w17 wl0.heap.size 66 [.int .i64 ((k : Nat) : Int), .slice Pa ((((dn.reverse).take c) ++ [(dn.getD ix [])])).length Pc] := t2.c
      clear t2
      refine zz 9 ?_
      refine zd (by kernel_rfl) ?_ _
      refine hK19 _ _ ?_
      refine cPlain ?_
      refine sv 70 (.int .i64 ((dn.length : Int) - ((c + 1 : Nat) : Int))) .of ?_
      simp only [List.set_cons_zero, List.set_cons_succ]
      refine sv 71 (.int .i64 ((dn.length : Int) - ((c + 1 + 1 : Nat) : Int))) (Val.as (Val.sub 3 _ (.tmp 70) _ rfl ((dn.length : Int) - ((c + 1 : Nat) : Int)) 1 (by kernel_rfl) (by kernel_rfl) (by omega)) (congrArg (Value.int .i64) (by omega))) ?_
      simp only [List.set_cons_zero, List.set_cons_succ]
      refine sv 12 (.int .i64 ((dn.length : Int) - ((c + 1 + 1 : Nat) : Int))) .of ?_
      simp only [List.set_cons_zero, List.set_cons_succ]
      refine wpList_nil ?_
      refine ⟨_, ?_, c + 1, Pa, ((((dn.reverse).take c) ++ [(dn.getD ix [])])).length, Pc, rfl, (by omega), cutE, BL, b3, b6, DN, D, b11, (PO.cast (by rw [hrv])), by omega⟩
      omega
    · skip
      refine wp_exit ?_
      simp only [Exit.then, Exit.inBlock, ↓reduceIte, Nat.reduceEqDiff]
      refine hK15 _ _ ?_
      refine wp_seq_k fun K20 hK20 => ?_
      refine cPlain ?_
      refine sv 81 (.agg #[.int .i64 ((k : Nat) : Int), .slice PA pN PC]) (Val.cel 66 _ rfl 0 2 (by kernel_rfl) b11 _ Try.underlying66 rfl (by kernel_rfl) (by simp) [.int .i64 ((k : Nat) : Int), .slice PA pN PC] rfl) ?_
      simp only [List.set_cons_zero, List.set_cons_succ]
      refine xStoreR 66 (.tmp 6) (.tmp 81) rfl w1.heap.size 66 [.int .i64 0, .slice none 0 0] 0 [.int .i64 ((k : Nat) : Int), .slice PA pN PC] (by kernel_rfl) (by kernel_rfl) b6 (by kernel_rfl) (by simp) rfl [.int .i64 ((k : Nat) : Int), .slice PA pN PC] rfl ?_
      intro w18 t3
      have zt3 := t3.z
      have BL_ := BL.ev t3.e (fun i h => show w.heap.size ≤ i by have h : i = w1.heap.size := h; omega)
      have b3_ := b3.ev t3.e (show ¬ (w.heap.size = w1.heap.size) by omega)
      have DN_ := DN.ev t3.e (fun i hi => show ¬ (i = w1.heap.size) by have := hDNb i hi; omega)
      have D_ := D.ev t3.e (fun i hi => show ¬ (i = w1.heap.size) by have := hc0_4 i hi; omega)
      have b11_ := b11.ev t3.e (show ¬ (wl0.heap.size = w1.heap.size) by omega)
      have PO_ := PO.ev t3.e (fun i hi => show ¬ (i = w1.heap.size) by have := lPO_2 i hi; omega)
      replace BL := BL_; clear BL_
      replace b3 := b3_; clear b3_
      replace DN := DN_; clear DN_
      replace D := D_; clear D_
      replace b11 := b11_; clear b11_
      replace PO := PO_; clear PO_
      replace b6 : Cel w18 w1.heap.size 66 [.int .i64 ((k : Nat) : Int), .slice PA pN PC] := t3.c
      clear t3
      refine sv 7 (.int .i64 0) .of ?_
      simp only [List.set_cons_zero, List.set_cons_succ]
      refine wpList_nil ?_
      refine hK20 _ _ ?_
      refine wp_ret ?_
      (try simp only [Exit.then, Exit.inBlock])
      refine bodyPost_ret (rCT rfl _ w1.heap.size _ _ (.int .i64 0) (by kernel_rfl) (by kernel_rfl) b6 _ Try.underlying66 rfl (by kernel_rfl)) rfl ?_
      rw [List.take_of_length_le (by rw [List.length_reverse]; omega), ← hfin] at PO
      exact ⟨_, _, _, rfl, PO.mono (by omega), BL.b⟩

end Go.Proofs.Yteaijjefbadnbaa
