/-
  law10.awake.
-/
import Derived.Test.YteaijjefbadnbaaMerkS
import Derived.Test.YteaijjefbadnbaaShaTl
namespace Go.Proofs.Yteaijjefbadnbaa
open Go.RowKit
set_option linter.unusedVariables false
set_option linter.unusedSimpArgs false
set_option maxRecDepth 100000
attribute [local irreducible] wpList Code.wp wpAnyZ taggedN mnode ofN tabL
def dgE (n : Nat) : List Nat := [n, 0, 0, 0, 0, 0, 0, 0, 0, 0, 0, 0, 0, 0, 0, 0, 0, 0, 0, 0, 0, 0, 0, 0, 0, 0, 0, 0, 0, 0, 0, 0]
theorem dgE_len (n : Nat) : (dgE n).length = 32 := rfl
theorem mroot_4 (tab a b c d : List Nat) : mroot tab 2 [a, b, c, d] = mnode tab (mnode tab a b) (mnode tab c d) := by simp only [mroot, mups, mup, List.getD_cons_zero]
theorem mpath_4 (tab a b c d : List Nat) : mpath tab 2 [a, b, c, d] 2 = [d, mnode tab a b] := by
  have e1 : 2 ^^^ 1 = 3 := rfl
  have e2 : 2 / 2 ^^^ 1 = 0 := rfl
  simp only [mpath, mup, e1, e2, List.getD_cons_zero, List.getD_cons_succ]
theorem mclimb_4 (tab a b c d : List Nat) : mclimb tab c 2 [d, mnode tab a b] = mnode tab (mnode tab a b) (mnode tab c d) := by
  simp [mclimb]
attribute [local irreducible] dgE
theorem four_lens (a b c d : Nat) : ∀ x ∈ [dgE a, dgE b, dgE c, dgE d], x.length = 32 := by
  intro x hx
  simp only [List.mem_cons, List.not_mem_nil, or_false] at hx
  rcases hx with rfl | rfl | rfl | rfl <;> exact dgE_len _

set_option maxHeartbeats 8000000 in
theorem awake10 (w : World) :
    Calls Try.prog 41 #[] w fun e w' => e = .returned (.bool true) ∧ Below w.heap.size w w' := by
  have BL := Bl.refl w
  have hTL := tabL_len
  have hal := mnode_len tabL (dgE 1) (dgE 2)
  have hcl := mnode_len tabL (dgE 3) (dgE 4)
  have hrl := mnode_len tabL (mnode tabL (dgE 1) (dgE 2)) (mnode tabL (dgE 3) (dgE 4))
  have hl1 := dgE_len 1
  have hl2 := dgE_len 2
  have hl3 := dgE_len 3
  have hl4 := dgE_len 4
  go_enter Try.func41, Try.ntmps41
  refine wp_seq_k fun K1 hK1 => ?_
  refine cPlain ?_
  refine sv 0 (.bool false) .of ?_
  simp only [List.set_cons_zero, List.set_cons_succ]
  refine wpList_nil ?_
  refine hK1 _ _ ?_
  refine wp_seq_k fun K2 hK2 => ?_
  refine cPlain ?_
  refine xCall 21 13 #[] (by kernel_rfl) ?_
  refine (table_any w).mono ?_
  rintro en w1 ⟨he, hb1⟩
  rw [tableN_eq] at he
  subst he
  have e1 := belE0 hb1
  have ze1 := e1.size
  replace BL := BL.e0 e1
  clear e1
  refine ⟨.agg (cellsOf .u32 (nn tabL)), rfl, ?_⟩
  simp only [List.set_cons_zero, List.set_cons_succ]
  refine xAlloc 1 26 ((nn (List.replicate 72 0)).map (Value.int .u32)) rfl (by kernel_rfl) ?_
  intro w2 n1
  have zn1 := n1.z
  have b1 := n1.c
  replace b1 : Blk .u32 w2 w1.heap.size 26 (nn (List.replicate 72 0)) := b1
  replace BL := BL.e0 n1.e
  simp only [List.set_cons_zero, List.set_cons_succ]
  refine xStoreA 26 (.tmp 1) (.tmp 21) rfl .u32 w1.heap.size 26 (nn (List.replicate 72 0)) 0 (nn tabL) (by kernel_rfl) (by kernel_rfl) b1 (by rw [show (nn tabL).length = 72 by ((try simp only [nn_len, List.length_cons, List.length_nil, List.length_set, List.length_replicate]); try omega)]; kernel_rfl) (by (try simp only [nn_len, List.length_cons, List.length_nil, List.length_set, List.length_replicate]); try omega) (nn tabL) (over_whole _ _ (by (try simp only [nn_len, List.length_cons, List.length_nil, List.length_set, List.length_replicate]); try omega)) ?_
  intro w3 t1
  have zt1 := t1.z
  have BL_ := BL.ev t1.e (fun i h => show w.heap.size ≤ i by have h : i = w1.heap.size := h; omega)
  replace BL := BL_; clear BL_
  replace b1 : Blk .u32 w3 w1.heap.size 26 (nn tabL) := t1.c
  clear t1
  refine wpList_nil ?_
  refine hK2 _ _ ?_
  refine wp_seq_k fun K3 hK3 => ?_
  refine cPlain ?_
  refine sv 22 (.agg (cellsOf .u8 (nn (dgE 1)))) (by unfold dgE; exact Val.of) ?_
  simp only [List.set_cons_zero, List.set_cons_succ]
  refine sv 23 (.agg (cellsOf .u8 (nn (dgE 2)))) (by unfold dgE; exact Val.of) ?_
  simp only [List.set_cons_zero, List.set_cons_succ]
  refine sv 24 (.agg (cellsOf .u8 (nn (dgE 3)))) (by unfold dgE; exact Val.of) ?_
  simp only [List.set_cons_zero, List.set_cons_succ]
  refine sv 25 (.agg (cellsOf .u8 (nn (dgE 4)))) (by unfold dgE; exact Val.of) ?_
  simp only [List.set_cons_zero, List.set_cons_succ]
  refine xAlloc 2 37 ((nn (List.replicate 32 0)).map (Value.int .u8)) rfl (by kernel_rfl) ?_
  intro w4 n2
  have zn2 := n2.z
  have b2 := n2.c
  replace b2 : Blk .u8 w4 w3.heap.size 37 (nn (List.replicate 32 0)) := b2
  replace BL := BL.e0 n2.e
  replace b1 := b1.e0 n2.e
  simp only [List.set_cons_zero, List.set_cons_succ]
  refine xAlloc 3 37 ((nn (List.replicate 32 0)).map (Value.int .u8)) rfl (by kernel_rfl) ?_
  intro w5 n3
  have zn3 := n3.z
  have b3 := n3.c
  replace b3 : Blk .u8 w5 w4.heap.size 37 (nn (List.replicate 32 0)) := b3
  replace BL := BL.e0 n3.e
  replace b1 := b1.e0 n3.e
  replace b2 := b2.e0 n3.e
  simp only [List.set_cons_zero, List.set_cons_succ]
  refine xAlloc 4 37 ((nn (List.replicate 32 0)).map (Value.int .u8)) rfl (by kernel_rfl) ?_
  intro w6 n4
  have zn4 := n4.z
  have b4 := n4.c
  replace b4 : Blk .u8 w6 w5.heap.size 37 (nn (List.replicate 32 0)) := b4
  replace BL := BL.e0 n4.e
  replace b1 := b1.e0 n4.e
  replace b2 := b2.e0 n4.e
  replace b3 := b3.e0 n4.e
  simp only [List.set_cons_zero, List.set_cons_succ]
  refine xAlloc 5 37 ((nn (List.replicate 32 0)).map (Value.int .u8)) rfl (by kernel_rfl) ?_
  intro w7 n5
  have zn5 := n5.z
  have b5 := n5.c
  replace b5 : Blk .u8 w7 w6.heap.size 37 (nn (List.replicate 32 0)) := b5
  replace BL := BL.e0 n5.e
  replace b1 := b1.e0 n5.e
  replace b2 := b2.e0 n5.e
  replace b3 := b3.e0 n5.e
  replace b4 := b4.e0 n5.e
  simp only [List.set_cons_zero, List.set_cons_succ]
  refine xStoreA 37 (.tmp 2) (.tmp 22) rfl .u8 w3.heap.size 37 (nn (List.replicate 32 0)) 0 (nn (dgE 1)) (by kernel_rfl) (by kernel_rfl) b2 (by rw [show (nn (dgE 1)).length = 32 by ((try simp only [nn_len, List.length_cons, List.length_nil, List.length_set, List.length_replicate]); try omega)]; kernel_rfl) (by (try simp only [nn_len, List.length_cons, List.length_nil, List.length_set, List.length_replicate]); try omega) (nn (dgE 1)) (over_whole _ _ (by (try simp only [nn_len, List.length_cons, List.length_nil, List.length_set, List.length_replicate]); try omega)) ?_
  intro w8 t2
  have zt2 := t2.z
  have BL_ := BL.ev t2.e (fun i h => show w.heap.size ≤ i by have h : i = w3.heap.size := h; omega)
  have b1_ := b1.ev t2.e (show ¬ (w1.heap.size = w3.heap.size) by omega)
  have b3_ := b3.ev t2.e (show ¬ (w4.heap.size = w3.heap.size) by omega)
  have b4_ := b4.ev t2.e (show ¬ (w5.heap.size = w3.heap.size) by omega)
  have b5_ := b5.ev t2.e (show ¬ (w6.heap.size = w3.heap.size) by omega)
  replace BL := BL_; clear BL_
  replace b1 := b1_; clear b1_
  replace b3 := b3_; clear b3_
  replace b4 := b4_; clear b4_
  replace b5 := b5_; clear b5_
  replace b2 : Blk .u8 w8 w3.heap.size 37 (nn (dgE 1)) := t2.c
  clear t2
  refine xStoreA 37 (.tmp 3) (.tmp 23) rfl .u8 w4.heap.size 37 (nn (List.replicate 32 0)) 0 (nn (dgE 2)) (by kernel_rfl) (by kernel_rfl) b3 (by rw [show (nn (dgE 2)).length = 32 by ((try simp only [nn_len, List.length_cons, List.length_nil, List.length_set, List.length_replicate]); try omega)]; kernel_rfl) (by (try simp only [nn_len, List.length_cons, List.length_nil, List.length_set, List.length_replicate]); try omega) (nn (dgE 2)) (over_whole _ _ (by (try simp only [nn_len, List.length_cons, List.length_nil, List.length_set, List.length_replicate]); try omega)) ?_
  intro w9 t3
  have zt3 := t3.z
  have BL_ := BL.ev t3.e (fun i h => show w.heap.size ≤ i by have h : i = w4.heap.size := h; omega)
  have b1_ := b1.ev t3.e (show ¬ (w1.heap.size = w4.heap.size) by omega)
  have b2_ := b2.ev t3.e (show ¬ (w3.heap.size = w4.heap.size) by omega)
  have b4_ := b4.ev t3.e (show ¬ (w5.heap.size = w4.heap.size) by omega)
  have b5_ := b5.ev t3.e (show ¬ (w6.heap.size = w4.heap.size) by omega)
  replace BL := BL_; clear BL_
  replace b1 := b1_; clear b1_
  replace b2 := b2_; clear b2_
  replace b4 := b4_; clear b4_
  replace b5 := b5_; clear b5_
  replace b3 : Blk .u8 w9 w4.heap.size 37 (nn (dgE 2)) := t3.c
  clear t3
  refine xStoreA 37 (.tmp 4) (.tmp 24) rfl .u8 w5.heap.size 37 (nn (List.replicate 32 0)) 0 (nn (dgE 3)) (by kernel_rfl) (by kernel_rfl) b4 (by rw [show (nn (dgE 3)).length = 32 by ((try simp only [nn_len, List.length_cons, List.length_nil, List.length_set, List.length_replicate]); try omega)]; kernel_rfl) (by (try simp only [nn_len, List.length_cons, List.length_nil, List.length_set, List.length_replicate]); try omega) (nn (dgE 3)) (over_whole _ _ (by (try simp only [nn_len, List.length_cons, List.length_nil, List.length_set, List.length_replicate]); try omega)) ?_
  intro w10 t4
  have zt4 := t4.z
  have BL_ := BL.ev t4.e (fun i h => show w.heap.size ≤ i by have h : i = w5.heap.size := h; omega)
  have b1_ := b1.ev t4.e (show ¬ (w1.heap.size = w5.heap.size) by omega)
  have b2_ := b2.ev t4.e (show ¬ (w3.heap.size = w5.heap.size) by omega)
  have b3_ := b3.ev t4.e (show ¬ (w4.heap.size = w5.heap.size) by omega)
  have b5_ := b5.ev t4.e (show ¬ (w6.heap.size = w5.heap.size) by omega)
  replace BL := BL_; clear BL_
  replace b1 := b1_; clear b1_
  replace b2 := b2_; clear b2_
  replace b3 := b3_; clear b3_
  replace b5 := b5_; clear b5_
  replace b4 : Blk .u8 w10 w5.heap.size 37 (nn (dgE 3)) := t4.c
  clear t4
  refine xStoreA 37 (.tmp 5) (.tmp 25) rfl .u8 w6.heap.size 37 (nn (List.replicate 32 0)) 0 (nn (dgE 4)) (by kernel_rfl) (by kernel_rfl) b5 (by rw [show (nn (dgE 4)).length = 32 by ((try simp only [nn_len, List.length_cons, List.length_nil, List.length_set, List.length_replicate]); try omega)]; kernel_rfl) (by (try simp only [nn_len, List.length_cons, List.length_nil, List.length_set, List.length_replicate]); try omega) (nn (dgE 4)) (over_whole _ _ (by (try simp only [nn_len, List.length_cons, List.length_nil, List.length_set, List.length_replicate]); try omega)) ?_
  intro w11 t5
  have zt5 := t5.z
  have BL_ := BL.ev t5.e (fun i h => show w.heap.size ≤ i by have h : i = w6.heap.size := h; omega)
  have b1_ := b1.ev t5.e (show ¬ (w1.heap.size = w6.heap.size) by omega)
  have b2_ := b2.ev t5.e (show ¬ (w3.heap.size = w6.heap.size) by omega)
  have b3_ := b3.ev t5.e (show ¬ (w4.heap.size = w6.heap.size) by omega)
  have b4_ := b4.ev t5.e (show ¬ (w5.heap.size = w6.heap.size) by omega)
  replace BL := BL_; clear BL_
  replace b1 := b1_; clear b1_
  replace b2 := b2_; clear b2_
  replace b3 := b3_; clear b3_
  replace b4 := b4_; clear b4_
  replace b5 : Blk .u8 w11 w6.heap.size 37 (nn (dgE 4)) := t5.c
  clear t5
  refine wpList_nil ?_
  refine hK3 _ _ ?_
  refine wp_seq_k fun K4 hK4 => ?_
  refine cPlain ?_
  refine sv 26 (.agg (cellsOf .u8 (nn (dgE 1)))) (Val.blk 37 _ rfl 0 32 (by kernel_rfl) b2 _ Try.underlying37 rfl (by kernel_rfl) (by (try simp only [nn_len, List.length_cons, List.length_nil, List.length_set, List.length_replicate]); try omega) _ (seg_all' _ (by (try simp only [nn_len, List.length_cons, List.length_nil, List.length_set, List.length_replicate]); try omega))) ?_
  simp only [List.set_cons_zero, List.set_cons_succ]
  refine sv 27 (.agg (cellsOf .u8 (nn (dgE 2)))) (Val.blk 37 _ rfl 0 32 (by kernel_rfl) b3 _ Try.underlying37 rfl (by kernel_rfl) (by (try simp only [nn_len, List.length_cons, List.length_nil, List.length_set, List.length_replicate]); try omega) _ (seg_all' _ (by (try simp only [nn_len, List.length_cons, List.length_nil, List.length_set, List.length_replicate]); try omega))) ?_
  simp only [List.set_cons_zero, List.set_cons_succ]
  refine sv 28 (.agg (cellsOf .u8 (nn (dgE 3)))) (Val.blk 37 _ rfl 0 32 (by kernel_rfl) b4 _ Try.underlying37 rfl (by kernel_rfl) (by (try simp only [nn_len, List.length_cons, List.length_nil, List.length_set, List.length_replicate]); try omega) _ (seg_all' _ (by (try simp only [nn_len, List.length_cons, List.length_nil, List.length_set, List.length_replicate]); try omega))) ?_
  simp only [List.set_cons_zero, List.set_cons_succ]
  refine sv 29 (.agg (cellsOf .u8 (nn (dgE 4)))) (Val.blk 37 _ rfl 0 32 (by kernel_rfl) b5 _ Try.underlying37 rfl (by kernel_rfl) (by (try simp only [nn_len, List.length_cons, List.length_nil, List.length_set, List.length_replicate]); try omega) _ (seg_all' _ (by (try simp only [nn_len, List.length_cons, List.length_nil, List.length_set, List.length_replicate]); try omega))) ?_
  simp only [List.set_cons_zero, List.set_cons_succ]
  refine xLitE 30 63 37 4 _ rfl .u8 32 (nnd [(dgE 1), (dgE 2), (dgE 3), (dgE 4)]) (by kernel_rfl) Try.underlying63 (by kernel_rfl) (by omega) rfl (by omega) (by omega) (lenC (by (try simp only [nn_len, List.length_cons, List.length_nil, List.length_set, List.length_replicate]); try omega) (lenC (by (try simp only [nn_len, List.length_cons, List.length_nil, List.length_set, List.length_replicate]); try omega) (lenC (by (try simp only [nn_len, List.length_cons, List.length_nil, List.length_set, List.length_replicate]); try omega) (lenC (by (try simp only [nn_len, List.length_cons, List.length_nil, List.length_set, List.length_replicate]); try omega) lenN)))) ?_
  intro w12 n6 b30
  have zn6 := n6.z
  replace BL := BL.e0 n6.e
  replace b1 := b1.e0 n6.e
  replace b2 := b2.e0 n6.e
  replace b3 := b3.e0 n6.e
  replace b4 := b4.e0 n6.e
  replace b5 := b5.e0 n6.e
  have lb30_1 := b30.ge
  simp only [List.set_cons_zero, List.set_cons_succ]
  refine sv 6 (.slice (some ⟨w11.heap.size, 0, none⟩) 4 4) .of ?_
  simp only [List.set_cons_zero, List.set_cons_succ]
  refine wpList_nil ?_
  refine hK4 _ _ ?_
  refine wp_seq_k fun K5 hK5 => ?_
  refine cPlain ?_
  refine sv 32 (.slice (some ⟨w11.heap.size, 0, none⟩) 4 4) .of ?_
  simp only [List.set_cons_zero, List.set_cons_succ]
  refine xCall 33 45 #[.pointer (some ⟨w1.heap.size, 0, none⟩), .slice (some ⟨w11.heap.size, 0, none⟩) 4 4] (by kernel_rfl) ?_
  refine (mroot_any w1.heap.size tabL hTL w12 b1 _ [dgE 1, dgE 2, dgE 3, dgE 4] b30.se (four_lens 1 2 3 4) 2 (by omega) rfl).mono ?_
  rintro en w13 ⟨he, hb1⟩
  rw [mroot_4] at he
  subst he
  have e2 := belE0 hb1
  have ze2 := e2.size
  replace BL := BL.e0 e2
  replace b1 := b1.e0 e2
  replace b2 := b2.e0 e2
  replace b3 := b3.e0 e2
  replace b4 := b4.e0 e2
  replace b5 := b5.e0 e2
  replace b30 := b30.e0 e2
  clear e2
  refine ⟨.tuple #[.agg (cellsOf .u8 (nn (mnode tabL (mnode tabL (dgE 1) (dgE 2)) (mnode tabL (dgE 3) (dgE 4))))), .int .i64 0], rfl, ?_⟩
  simp only [List.set_cons_zero, List.set_cons_succ]
  refine sv 31 (.tuple #[.agg (cellsOf .u8 (nn (mnode tabL (mnode tabL (dgE 1) (dgE 2)) (mnode tabL (dgE 3) (dgE 4))))), .int .i64 0]) .of ?_
  simp only [List.set_cons_zero, List.set_cons_succ]
  refine sv 34 (.agg (cellsOf .u8 (nn (mnode tabL (mnode tabL (dgE 1) (dgE 2)) (mnode tabL (dgE 3) (dgE 4)))))) .of ?_
  simp only [List.set_cons_zero, List.set_cons_succ]
  refine sv 35 (.int .i64 0) .of ?_
  simp only [List.set_cons_zero, List.set_cons_succ]
  refine xAlloc 7 37 ((nn (List.replicate 32 0)).map (Value.int .u8)) rfl (by kernel_rfl) ?_
  intro w14 n7
  have zn7 := n7.z
  have b7 := n7.c
  replace b7 : Blk .u8 w14 w13.heap.size 37 (nn (List.replicate 32 0)) := b7
  replace BL := BL.e0 n7.e
  replace b1 := b1.e0 n7.e
  replace b2 := b2.e0 n7.e
  replace b3 := b3.e0 n7.e
  replace b4 := b4.e0 n7.e
  replace b5 := b5.e0 n7.e
  replace b30 := b30.e0 n7.e
  simp only [List.set_cons_zero, List.set_cons_succ]
  refine xStoreA 37 (.tmp 7) (.tmp 34) rfl .u8 w13.heap.size 37 (nn (List.replicate 32 0)) 0 (nn (mnode tabL (mnode tabL (dgE 1) (dgE 2)) (mnode tabL (dgE 3) (dgE 4)))) (by kernel_rfl) (by kernel_rfl) b7 (by rw [show (nn (mnode tabL (mnode tabL (dgE 1) (dgE 2)) (mnode tabL (dgE 3) (dgE 4)))).length = 32 by ((try simp only [nn_len, List.length_cons, List.length_nil, List.length_set, List.length_replicate]); try omega)]; kernel_rfl) (by (try simp only [nn_len, List.length_cons, List.length_nil, List.length_set, List.length_replicate]); try omega) (nn (mnode tabL (mnode tabL (dgE 1) (dgE 2)) (mnode tabL (dgE 3) (dgE 4)))) (over_whole _ _ (by (try simp only [nn_len, List.length_cons, List.length_nil, List.length_set, List.length_replicate]); try omega)) ?_
  intro w15 t6
  have zt6 := t6.z
  have BL_ := BL.ev t6.e (fun i h => show w.heap.size ≤ i by have h : i = w13.heap.size := h; omega)
  have b1_ := b1.ev t6.e (show ¬ (w1.heap.size = w13.heap.size) by omega)
  have b2_ := b2.ev t6.e (show ¬ (w3.heap.size = w13.heap.size) by omega)
  have b3_ := b3.ev t6.e (show ¬ (w4.heap.size = w13.heap.size) by omega)
  have b4_ := b4.ev t6.e (show ¬ (w5.heap.size = w13.heap.size) by omega)
  have b5_ := b5.ev t6.e (show ¬ (w6.heap.size = w13.heap.size) by omega)
  have b30_ := b30.ev t6.e (fun i hi => show ¬ (i = w13.heap.size) by have := lb30_1 i hi; omega)
  replace BL := BL_; clear BL_
  replace b1 := b1_; clear b1_
  replace b2 := b2_; clear b2_
  replace b3 := b3_; clear b3_
  replace b4 := b4_; clear b4_
  replace b5 := b5_; clear b5_
  replace b30 := b30_; clear b30_
  replace b7 : Blk .u8 w15 w13.heap.size 37 (nn (mnode tabL (mnode tabL (dgE 1) (dgE 2)) (mnode tabL (dgE 3) (dgE 4)))) := t6.c
  clear t6
  refine sv 8 (.int .i64 0) .of ?_
  simp only [List.set_cons_zero, List.set_cons_succ]
  refine wpList_nil ?_
  refine hK5 _ _ ?_
  refine wp_seq_k fun K6 hK6 => ?_
  refine cPlain ?_
  refine sv 37 (.slice (some ⟨w11.heap.size, 0, none⟩) 4 4) .of ?_
  simp only [List.set_cons_zero, List.set_cons_succ]
  refine xCall 38 46 #[.pointer (some ⟨w1.heap.size, 0, none⟩), .slice (some ⟨w11.heap.size, 0, none⟩) 4 4, .int .i64 2] (by kernel_rfl) ?_
  refine (mpath_any w1.heap.size tabL hTL w15 b1 _ [dgE 1, dgE 2, dgE 3, dgE 4] b30.se (four_lens 1 2 3 4) 2 (by omega) rfl 2 (by omega)).mono ?_
  rintro en w16 ⟨pA, pN, pC, he, hBO, hb1⟩
  rw [mpath_4] at hBO
  have hpN : pN = 2 := by have := hBO.se.cap.1; rw [nnd_len] at this; exact this
  subst hpN
  subst he
  have e3 := belE0 hb1
  have ze3 := e3.size
  replace BL := BL.e0 e3
  replace b1 := b1.e0 e3
  replace b2 := b2.e0 e3
  replace b3 := b3.e0 e3
  replace b4 := b4.e0 e3
  replace b5 := b5.e0 e3
  replace b30 := b30.e0 e3
  replace b7 := b7.e0 e3
  clear e3
  have PO : OwnE 37 .u8 32 w15.heap.size w16 (.slice pA 2 pC) (nnd [dgE 4, mnode tabL (dgE 1) (dgE 2)]) := hBO
  have lPO_1 := PO.ge
  refine ⟨.tuple #[.agg #[.int .i64 ((2 : Nat) : Int), .slice pA 2 pC], .int .i64 0], rfl, ?_⟩
  simp only [List.set_cons_zero, List.set_cons_succ]
  refine sv 36 (.tuple #[.agg #[.int .i64 ((2 : Nat) : Int), .slice pA 2 pC], .int .i64 0]) .of ?_
  simp only [List.set_cons_zero, List.set_cons_succ]
  refine sv 39 (.agg #[.int .i64 ((2 : Nat) : Int), .slice pA 2 pC]) .of ?_
  simp only [List.set_cons_zero, List.set_cons_succ]
  refine sv 40 (.int .i64 0) .of ?_
  simp only [List.set_cons_zero, List.set_cons_succ]
  refine xAlloc 9 66 [.int .i64 0, .slice none 0 0] rfl (by kernel_rfl) ?_
  intro w17 n8
  have zn8 := n8.z
  have b9 := n8.c
  replace BL := BL.e0 n8.e
  replace b1 := b1.e0 n8.e
  replace b2 := b2.e0 n8.e
  replace b3 := b3.e0 n8.e
  replace b4 := b4.e0 n8.e
  replace b5 := b5.e0 n8.e
  replace b30 := b30.e0 n8.e
  replace b7 := b7.e0 n8.e
  replace PO := PO.e0 n8.e
  simp only [List.set_cons_zero, List.set_cons_succ]
  refine xStoreR 66 (.tmp 9) (.tmp 39) rfl w16.heap.size 66 [.int .i64 0, .slice none 0 0] 0 [.int .i64 ((2 : Nat) : Int), .slice pA 2 pC] (by kernel_rfl) (by kernel_rfl) b9 (by kernel_rfl) (by simp) rfl [.int .i64 ((2 : Nat) : Int), .slice pA 2 pC] rfl ?_
  intro w18 t7
  have zt7 := t7.z
  have BL_ := BL.ev t7.e (fun i h => show w.heap.size ≤ i by have h : i = w16.heap.size := h; omega)
  have b1_ := b1.ev t7.e (show ¬ (w1.heap.size = w16.heap.size) by omega)
  have b2_ := b2.ev t7.e (show ¬ (w3.heap.size = w16.heap.size) by omega)
  have b3_ := b3.ev t7.e (show ¬ (w4.heap.size = w16.heap.size) by omega)
  have b4_ := b4.ev t7.e (show ¬ (w5.heap.size = w16.heap.size) by omega)
  have b5_ := b5.ev t7.e (show ¬ (w6.heap.size = w16.heap.size) by omega)
  have b30_ := b30.ev t7.e (fun i hi => show ¬ (i = w16.heap.size) by have := lb30_1 i hi; omega)
  have b7_ := b7.ev t7.e (show ¬ (w13.heap.size = w16.heap.size) by omega)
  have PO_ := PO.ev t7.e (fun i hi => show ¬ (i = w16.heap.size) by have := lPO_1 i hi; omega)
  replace BL := BL_; clear BL_
  replace b1 := b1_; clear b1_
  replace b2 := b2_; clear b2_
  replace b3 := b3_; clear b3_
  replace b4 := b4_; clear b4_
  replace b5 := b5_; clear b5_
  replace b30 := b30_; clear b30_
  replace b7 := b7_; clear b7_
  replace PO := PO_; clear PO_
  replace b9 : Cel w18 w16.heap.size 66 [.int .i64 ((2 : Nat) : Int), .slice pA 2 pC] := t7.c
  clear t7
  refine sv 10 (.int .i64 0) .of ?_
  simp only [List.set_cons_zero, List.set_cons_succ]
  refine wpList_nil ?_
  refine hK6 _ _ ?_
  refine wp_seq_k fun K7 hK7 => ?_
  refine cPlain ?_
  refine sv 42 (.agg (cellsOf .u8 (nn (dgE 3)))) (Val.blk 37 _ rfl 0 32 (by kernel_rfl) b4 _ Try.underlying37 rfl (by kernel_rfl) (by (try simp only [nn_len, List.length_cons, List.length_nil, List.length_set, List.length_replicate]); try omega) _ (seg_all' _ (by (try simp only [nn_len, List.length_cons, List.length_nil, List.length_set, List.length_replicate]); try omega))) ?_
  simp only [List.set_cons_zero, List.set_cons_succ]
  refine sv 43 (.agg #[.int .i64 ((2 : Nat) : Int), .slice pA 2 pC]) (Val.cel 66 _ rfl 0 2 (by kernel_rfl) b9 _ Try.underlying66 rfl (by kernel_rfl) (by simp) [.int .i64 ((2 : Nat) : Int), .slice pA 2 pC] rfl) ?_
  simp only [List.set_cons_zero, List.set_cons_succ]
  refine xCall 44 43 #[.pointer (some ⟨w1.heap.size, 0, none⟩), .agg (cellsOf .u8 (nn (dgE 3))), .agg #[.int .i64 ((2 : Nat) : Int), .slice pA 2 pC]] (by kernel_rfl) ?_
  refine (mclimb_any w1.heap.size tabL hTL w18 b1 (dgE 3) (dgE_len 3) 2 pA pC [dgE 4, mnode tabL (dgE 1) (dgE 2)] PO.se (fun d hd => by simp only [List.mem_cons, List.not_mem_nil, or_false] at hd; rcases hd with rfl | rfl; exact dgE_len _; exact mnode_len _ _ _) (by simp) (by simp)).mono ?_
  rintro en w19 ⟨he, hb1⟩
  rw [mclimb_4] at he
  subst he
  have e4 := belE0 hb1
  have ze4 := e4.size
  replace BL := BL.e0 e4
  replace b1 := b1.e0 e4
  replace b2 := b2.e0 e4
  replace b3 := b3.e0 e4
  replace b4 := b4.e0 e4
  replace b5 := b5.e0 e4
  replace b30 := b30.e0 e4
  replace b7 := b7.e0 e4
  replace PO := PO.e0 e4
  replace b9 := b9.e0 e4
  clear e4
  refine ⟨.tuple #[.agg (cellsOf .u8 (nn (mnode tabL (mnode tabL (dgE 1) (dgE 2)) (mnode tabL (dgE 3) (dgE 4))))), .int .i64 0], rfl, ?_⟩
  simp only [List.set_cons_zero, List.set_cons_succ]
  refine sv 41 (.tuple #[.agg (cellsOf .u8 (nn (mnode tabL (mnode tabL (dgE 1) (dgE 2)) (mnode tabL (dgE 3) (dgE 4))))), .int .i64 0]) .of ?_
  simp only [List.set_cons_zero, List.set_cons_succ]
  refine sv 45 (.agg (cellsOf .u8 (nn (mnode tabL (mnode tabL (dgE 1) (dgE 2)) (mnode tabL (dgE 3) (dgE 4)))))) .of ?_
  simp only [List.set_cons_zero, List.set_cons_succ]
  refine sv 46 (.int .i64 0) .of ?_
  simp only [List.set_cons_zero, List.set_cons_succ]
  refine xAlloc 11 37 ((nn (List.replicate 32 0)).map (Value.int .u8)) rfl (by kernel_rfl) ?_
  intro w20 n9
  have zn9 := n9.z
  have b11 := n9.c
  replace b11 : Blk .u8 w20 w19.heap.size 37 (nn (List.replicate 32 0)) := b11
  replace BL := BL.e0 n9.e
  replace b1 := b1.e0 n9.e
  replace b2 := b2.e0 n9.e
  replace b3 := b3.e0 n9.e
  replace b4 := b4.e0 n9.e
  replace b5 := b5.e0 n9.e
  replace b30 := b30.e0 n9.e
  replace b7 := b7.e0 n9.e
  replace PO := PO.e0 n9.e
  replace b9 := b9.e0 n9.e
  simp only [List.set_cons_zero, List.set_cons_succ]
  refine xStoreA 37 (.tmp 11) (.tmp 45) rfl .u8 w19.heap.size 37 (nn (List.replicate 32 0)) 0 (nn (mnode tabL (mnode tabL (dgE 1) (dgE 2)) (mnode tabL (dgE 3) (dgE 4)))) (by kernel_rfl) (by kernel_rfl) b11 (by rw [show (nn (mnode tabL (mnode tabL (dgE 1) (dgE 2)) (mnode tabL (dgE 3) (dgE 4)))).length = 32 by ((try simp only [nn_len, List.length_cons, List.length_nil, List.length_set, List.length_replicate]); try omega)]; kernel_rfl) (by (try simp only [nn_len, List.length_cons, List.length_nil, List.length_set, List.length_replicate]); try omega) (nn (mnode tabL (mnode tabL (dgE 1) (dgE 2)) (mnode tabL (dgE 3) (dgE 4)))) (over_whole _ _ (by (try simp only [nn_len, List.length_cons, List.length_nil, List.length_set, List.length_replicate]); try omega)) ?_
  intro w21 t8
  have zt8 := t8.z
  have BL_ := BL.ev t8.e (fun i h => show w.heap.size ≤ i by have h : i = w19.heap.size := h; omega)
  have b1_ := b1.ev t8.e (show ¬ (w1.heap.size = w19.heap.size) by omega)
  have b2_ := b2.ev t8.e (show ¬ (w3.heap.size = w19.heap.size) by omega)
  have b3_ := b3.ev t8.e (show ¬ (w4.heap.size = w19.heap.size) by omega)
  have b4_ := b4.ev t8.e (show ¬ (w5.heap.size = w19.heap.size) by omega)
  have b5_ := b5.ev t8.e (show ¬ (w6.heap.size = w19.heap.size) by omega)
  have b30_ := b30.ev t8.e (fun i hi => show ¬ (i = w19.heap.size) by have := lb30_1 i hi; omega)
  have b7_ := b7.ev t8.e (show ¬ (w13.heap.size = w19.heap.size) by omega)
  have PO_ := PO.ev t8.e (fun i hi => show ¬ (i = w19.heap.size) by have := lPO_1 i hi; omega)
  have b9_ := b9.ev t8.e (show ¬ (w16.heap.size = w19.heap.size) by omega)
  replace BL := BL_; clear BL_
  replace b1 := b1_; clear b1_
  replace b2 := b2_; clear b2_
  replace b3 := b3_; clear b3_
  replace b4 := b4_; clear b4_
  replace b5 := b5_; clear b5_
  replace b30 := b30_; clear b30_
  replace b7 := b7_; clear b7_
  replace PO := PO_; clear PO_
  replace b9 := b9_; clear b9_
  replace b11 : Blk .u8 w21 w19.heap.size 37 (nn (mnode tabL (mnode tabL (dgE 1) (dgE 2)) (mnode tabL (dgE 3) (dgE 4)))) := t8.c
  clear t8
  refine sv 12 (.int .i64 0) .of ?_
  simp only [List.set_cons_zero, List.set_cons_succ]
  refine wpList_nil ?_
  refine hK7 _ _ ?_
  refine wp_seq_k fun K8 hK8 => ?_
  refine cPlain ?_
  refine sv 48 (.slice (some ⟨w11.heap.size, 0, none⟩) 4 4) .of ?_
  simp only [List.set_cons_zero, List.set_cons_succ]
  refine sv 49 (sliceE 32 (.slice (some ⟨w11.heap.size, 0, none⟩) 4 4) 0 3) (Val.slcE 63 (.tmp 48) none (some _) rfl (.slice (some ⟨w11.heap.size, 0, none⟩) 4 4) (by kernel_rfl) b30.se 0 3 (.inr ⟨rfl, rfl⟩) (.inl (by kernel_rfl)) (by omega) (by simp only [nnd_len, List.length_cons, List.length_nil]; omega) Try.underlying63 (by kernel_rfl)) ?_
  simp only [List.set_cons_zero, List.set_cons_succ]
  refine xCall 50 45 #[.pointer (some ⟨w1.heap.size, 0, none⟩), sliceE 32 (.slice (some ⟨w11.heap.size, 0, none⟩) 4 4) 0 3] (by kernel_rfl) ?_
  refine (mroot_no _ _ (([dgE 1, dgE 2, dgE 3, dgE 4].drop 0).take (3 - 0)) w21 (SE.cast (b30.se.slice 0 3 (by omega) (by simp only [nnd_len, List.length_cons, List.length_nil]; omega)) (nnd_seg _ _ _)) (by simp) rfl).mono ?_
  rintro en w22 ⟨rfl, hb1⟩
  have e5 := belE0 hb1
  have ze5 := e5.size
  replace BL := BL.e0 e5
  replace b1 := b1.e0 e5
  replace b2 := b2.e0 e5
  replace b3 := b3.e0 e5
  replace b4 := b4.e0 e5
  replace b5 := b5.e0 e5
  replace b30 := b30.e0 e5
  replace b7 := b7.e0 e5
  replace PO := PO.e0 e5
  replace b9 := b9.e0 e5
  replace b11 := b11.e0 e5
  clear e5
  refine ⟨.tuple #[.agg (cellsOf .u8 (nn (List.replicate 32 0))), .int .i64 2], rfl, ?_⟩
  simp only [List.set_cons_zero, List.set_cons_succ]
  refine sv 47 (.tuple #[.agg (cellsOf .u8 (nn (List.replicate 32 0))), .int .i64 2]) .of ?_
  simp only [List.set_cons_zero, List.set_cons_succ]
  refine sv 51 (.agg (cellsOf .u8 (nn (List.replicate 32 0)))) .of ?_
  simp only [List.set_cons_zero, List.set_cons_succ]
  refine sv 52 (.int .i64 2) .of ?_
  simp only [List.set_cons_zero, List.set_cons_succ]
  refine xAlloc 13 37 ((nn (List.replicate 32 0)).map (Value.int .u8)) rfl (by kernel_rfl) ?_
  intro w23 n10
  have zn10 := n10.z
  have b13 := n10.c
  replace b13 : Blk .u8 w23 w22.heap.size 37 (nn (List.replicate 32 0)) := b13
  replace BL := BL.e0 n10.e
  replace b1 := b1.e0 n10.e
  replace b2 := b2.e0 n10.e
  replace b3 := b3.e0 n10.e
  replace b4 := b4.e0 n10.e
  replace b5 := b5.e0 n10.e
  replace b30 := b30.e0 n10.e
  replace b7 := b7.e0 n10.e
  replace PO := PO.e0 n10.e
  replace b9 := b9.e0 n10.e
  replace b11 := b11.e0 n10.e
  simp only [List.set_cons_zero, List.set_cons_succ]
  refine xStoreA 37 (.tmp 13) (.tmp 51) rfl .u8 w22.heap.size 37 (nn (List.replicate 32 0)) 0 (nn (List.replicate 32 0)) (by kernel_rfl) (by kernel_rfl) b13 (by rw [show (nn (List.replicate 32 0)).length = 32 by ((try simp only [nn_len, List.length_cons, List.length_nil, List.length_set, List.length_replicate]); try omega)]; kernel_rfl) (by (try simp only [nn_len, List.length_cons, List.length_nil, List.length_set, List.length_replicate]); try omega) (nn (List.replicate 32 0)) (over_whole _ _ (by (try simp only [nn_len, List.length_cons, List.length_nil, List.length_set, List.length_replicate]); try omega)) ?_
  intro w24 t9
  have zt9 := t9.z
  have BL_ := BL.ev t9.e (fun i h => show w.heap.size ≤ i by have h : i = w22.heap.size := h; omega)
  have b1_ := b1.ev t9.e (show ¬ (w1.heap.size = w22.heap.size) by omega)
  have b2_ := b2.ev t9.e (show ¬ (w3.heap.size = w22.heap.size) by omega)
  have b3_ := b3.ev t9.e (show ¬ (w4.heap.size = w22.heap.size) by omega)
  have b4_ := b4.ev t9.e (show ¬ (w5.heap.size = w22.heap.size) by omega)
  have b5_ := b5.ev t9.e (show ¬ (w6.heap.size = w22.heap.size) by omega)
  have b30_ := b30.ev t9.e (fun i hi => show ¬ (i = w22.heap.size) by have := lb30_1 i hi; omega)
  have b7_ := b7.ev t9.e (show ¬ (w13.heap.size = w22.heap.size) by omega)
  have PO_ := PO.ev t9.e (fun i hi => show ¬ (i = w22.heap.size) by have := lPO_1 i hi; omega)
  have b9_ := b9.ev t9.e (show ¬ (w16.heap.size = w22.heap.size) by omega)
  have b11_ := b11.ev t9.e (show ¬ (w19.heap.size = w22.heap.size) by omega)
  replace BL := BL_; clear BL_
  replace b1 := b1_; clear b1_
  replace b2 := b2_; clear b2_
  replace b3 := b3_; clear b3_
  replace b4 := b4_; clear b4_
  replace b5 := b5_; clear b5_
  replace b30 := b30_; clear b30_
  replace b7 := b7_; clear b7_
  replace PO := PO_; clear PO_
  replace b9 := b9_; clear b9_
  replace b11 := b11_; clear b11_
  replace b13 : Blk .u8 w24 w22.heap.size 37 (nn (List.replicate 32 0)) := t9.c
  clear t9
  refine sv 14 (.int .i64 2) .of ?_
  simp only [List.set_cons_zero, List.set_cons_succ]
  refine wpList_nil ?_
  refine hK8 _ _ ?_
  refine wp_seq_k fun K9 hK9 => ?_
  refine cPlain ?_
  refine xCall 54 45 #[.pointer (some ⟨w1.heap.size, 0, none⟩), .slice none 0 0] (by kernel_rfl) ?_
  refine (mroot_no _ _ [] w24 (SE.nil _ _ _) (by simp) rfl).mono ?_
  rintro en w25 ⟨rfl, hb1⟩
  have e6 := belE0 hb1
  have ze6 := e6.size
  replace BL := BL.e0 e6
  replace b1 := b1.e0 e6
  replace b2 := b2.e0 e6
  replace b3 := b3.e0 e6
  replace b4 := b4.e0 e6
  replace b5 := b5.e0 e6
  replace b30 := b30.e0 e6
  replace b7 := b7.e0 e6
  replace PO := PO.e0 e6
  replace b9 := b9.e0 e6
  replace b11 := b11.e0 e6
  replace b13 := b13.e0 e6
  clear e6
  refine ⟨.tuple #[.agg (cellsOf .u8 (nn (List.replicate 32 0))), .int .i64 2], rfl, ?_⟩
  simp only [List.set_cons_zero, List.set_cons_succ]
  refine sv 53 (.tuple #[.agg (cellsOf .u8 (nn (List.replicate 32 0))), .int .i64 2]) .of ?_
  simp only [List.set_cons_zero, List.set_cons_succ]
  refine sv 55 (.agg (cellsOf .u8 (nn (List.replicate 32 0)))) .of ?_
  simp only [List.set_cons_zero, List.set_cons_succ]
  refine sv 56 (.int .i64 2) .of ?_
  simp only [List.set_cons_zero, List.set_cons_succ]
  refine xAlloc 15 37 ((nn (List.replicate 32 0)).map (Value.int .u8)) rfl (by kernel_rfl) ?_
  intro w26 n11
  have zn11 := n11.z
  have b15 := n11.c
  replace b15 : Blk .u8 w26 w25.heap.size 37 (nn (List.replicate 32 0)) := b15
  replace BL := BL.e0 n11.e
  replace b1 := b1.e0 n11.e
  replace b2 := b2.e0 n11.e
  replace b3 := b3.e0 n11.e
  replace b4 := b4.e0 n11.e
  replace b5 := b5.e0 n11.e
  replace b30 := b30.e0 n11.e
  replace b7 := b7.e0 n11.e
  replace PO := PO.e0 n11.e
  replace b9 := b9.e0 n11.e
  replace b11 := b11.e0 n11.e
  replace b13 := b13.e0 n11.e
  simp only [List.set_cons_zero, List.set_cons_succ]
  refine xStoreA 37 (.tmp 15) (.tmp 55) rfl .u8 w25.heap.size 37 (nn (List.replicate 32 0)) 0 (nn (List.replicate 32 0)) (by kernel_rfl) (by kernel_rfl) b15 (by rw [show (nn (List.replicate 32 0)).length = 32 by ((try simp only [nn_len, List.length_cons, List.length_nil, List.length_set, List.length_replicate]); try omega)]; kernel_rfl) (by (try simp only [nn_len, List.length_cons, List.length_nil, List.length_set, List.length_replicate]); try omega) (nn (List.replicate 32 0)) (over_whole _ _ (by (try simp only [nn_len, List.length_cons, List.length_nil, List.length_set, List.length_replicate]); try omega)) ?_
  intro w27 t10
  have zt10 := t10.z
  have BL_ := BL.ev t10.e (fun i h => show w.heap.size ≤ i by have h : i = w25.heap.size := h; omega)
  have b1_ := b1.ev t10.e (show ¬ (w1.heap.size = w25.heap.size) by omega)
  have b2_ := b2.ev t10.e (show ¬ (w3.heap.size = w25.heap.size) by omega)
  have b3_ := b3.ev t10.e (show ¬ (w4.heap.size = w25.heap.size) by omega)
  have b4_ := b4.ev t10.e (show ¬ (w5.heap.size = w25.heap.size) by omega)
  have b5_ := b5.ev t10.e (show ¬ (w6.heap.size = w25.heap.size) by omega)
  have b30_ := b30.ev t10.e (fun i hi => show ¬ (i = w25.heap.size) by have := lb30_1 i hi; omega)
  have b7_ := b7.ev t10.e (show ¬ (w13.heap.size = w25.heap.size) by omega)
  have PO_ := PO.ev t10.e (fun i hi => show ¬ (i = w25.heap.size) by have := lPO_1 i hi; omega)
  have b9_ := b9.ev t10.e (show ¬ (w16.heap.size = w25.heap.size) by omega)
  have b11_ := b11.ev t10.e (show ¬ (w19.heap.size = w25.heap.size) by omega)
  have b13_ := b13.ev t10.e (show ¬ (w22.heap.size = w25.heap.size) by omega)
  replace BL := BL_; clear BL_
  replace b1 := b1_; clear b1_
  replace b2 := b2_; clear b2_
  replace b3 := b3_; clear b3_
  replace b4 := b4_; clear b4_
  replace b5 := b5_; clear b5_
  replace b30 := b30_; clear b30_
  replace b7 := b7_; clear b7_
  replace PO := PO_; clear PO_
  replace b9 := b9_; clear b9_
  replace b11 := b11_; clear b11_
  replace b13 := b13_; clear b13_
  replace b15 : Blk .u8 w27 w25.heap.size 37 (nn (List.replicate 32 0)) := t10.c
  clear t10
  refine sv 16 (.int .i64 2) .of ?_
  simp only [List.set_cons_zero, List.set_cons_succ]
  refine wpList_nil ?_
  refine hK9 _ _ ?_
  refine wp_seq_k fun K10 hK10 => ?_
  refine cPlain ?_
  refine sv 58 (.slice (some ⟨w11.heap.size, 0, none⟩) 4 4) .of ?_
  simp only [List.set_cons_zero, List.set_cons_succ]
  refine sv 59 (sliceE 32 (.slice (some ⟨w11.heap.size, 0, none⟩) 4 4) 0 1) (Val.slcE 63 (.tmp 58) none (some _) rfl (.slice (some ⟨w11.heap.size, 0, none⟩) 4 4) (by kernel_rfl) b30.se 0 1 (.inr ⟨rfl, rfl⟩) (.inl (by kernel_rfl)) (by omega) (by simp only [nnd_len, List.length_cons, List.length_nil]; omega) Try.underlying63 (by kernel_rfl)) ?_
  simp only [List.set_cons_zero, List.set_cons_succ]
  refine xCall 60 45 #[.pointer (some ⟨w1.heap.size, 0, none⟩), sliceE 32 (.slice (some ⟨w11.heap.size, 0, none⟩) 4 4) 0 1] (by kernel_rfl) ?_
  refine (mroot_any w1.heap.size tabL hTL w27 b1 _ (([dgE 1, dgE 2, dgE 3, dgE 4].drop 0).take (1 - 0)) (SE.cast (b30.se.slice 0 1 (by omega) (by simp only [nnd_len, List.length_cons, List.length_nil]; omega)) (nnd_seg _ _ _)) (fun d hd => four_lens 1 2 3 4 d (List.mem_of_mem_take hd)) 0 (by omega) rfl).mono ?_
  rintro en w28 ⟨he, hb1⟩
  rw [show mroot tabL 0 (([dgE 1, dgE 2, dgE 3, dgE 4].drop 0).take (1 - 0)) = dgE 1 from rfl] at he
  subst he
  have e7 := belE0 hb1
  have ze7 := e7.size
  replace BL := BL.e0 e7
  replace b1 := b1.e0 e7
  replace b2 := b2.e0 e7
  replace b3 := b3.e0 e7
  replace b4 := b4.e0 e7
  replace b5 := b5.e0 e7
  replace b30 := b30.e0 e7
  replace b7 := b7.e0 e7
  replace PO := PO.e0 e7
  replace b9 := b9.e0 e7
  replace b11 := b11.e0 e7
  replace b13 := b13.e0 e7
  replace b15 := b15.e0 e7
  clear e7
  refine ⟨.tuple #[.agg (cellsOf .u8 (nn (dgE 1))), .int .i64 0], rfl, ?_⟩
  simp only [List.set_cons_zero, List.set_cons_succ]
  refine sv 57 (.tuple #[.agg (cellsOf .u8 (nn (dgE 1))), .int .i64 0]) .of ?_
  simp only [List.set_cons_zero, List.set_cons_succ]
  refine sv 61 (.agg (cellsOf .u8 (nn (dgE 1)))) .of ?_
  simp only [List.set_cons_zero, List.set_cons_succ]
  refine sv 62 (.int .i64 0) .of ?_
  simp only [List.set_cons_zero, List.set_cons_succ]
  refine xAlloc 17 37 ((nn (List.replicate 32 0)).map (Value.int .u8)) rfl (by kernel_rfl) ?_
  intro w29 n12
  have zn12 := n12.z
  have b17 := n12.c
  replace b17 : Blk .u8 w29 w28.heap.size 37 (nn (List.replicate 32 0)) := b17
  replace BL := BL.e0 n12.e
  replace b1 := b1.e0 n12.e
  replace b2 := b2.e0 n12.e
  replace b3 := b3.e0 n12.e
  replace b4 := b4.e0 n12.e
  replace b5 := b5.e0 n12.e
  replace b30 := b30.e0 n12.e
  replace b7 := b7.e0 n12.e
  replace PO := PO.e0 n12.e
  replace b9 := b9.e0 n12.e
  replace b11 := b11.e0 n12.e
  replace b13 := b13.e0 n12.e
  replace b15 := b15.e0 n12.e
  simp only [List.set_cons_zero, List.set_cons_succ]
  refine xStoreA 37 (.tmp 17) (.tmp 61) rfl .u8 w28.heap.size 37 (nn (List.replicate 32 0)) 0 (nn (dgE 1)) (by kernel_rfl) (by kernel_rfl) b17 (by rw [show (nn (dgE 1)).length = 32 by ((try simp only [nn_len, List.length_cons, List.length_nil, List.length_set, List.length_replicate]); try omega)]; kernel_rfl) (by (try simp only [nn_len, List.length_cons, List.length_nil, List.length_set, List.length_replicate]); try omega) (nn (dgE 1)) (over_whole _ _ (by (try simp only [nn_len, List.length_cons, List.length_nil, List.length_set, List.length_replicate]); try omega)) ?_
  intro w30 t11
  have zt11 := t11.z
  have BL_ := BL.ev t11.e (fun i h => show w.heap.size ≤ i by have h : i = w28.heap.size := h; omega)
  have b1_ := b1.ev t11.e (show ¬ (w1.heap.size = w28.heap.size) by omega)
  have b2_ := b2.ev t11.e (show ¬ (w3.heap.size = w28.heap.size) by omega)
  have b3_ := b3.ev t11.e (show ¬ (w4.heap.size = w28.heap.size) by omega)
  have b4_ := b4.ev t11.e (show ¬ (w5.heap.size = w28.heap.size) by omega)
  have b5_ := b5.ev t11.e (show ¬ (w6.heap.size = w28.heap.size) by omega)
  have b30_ := b30.ev t11.e (fun i hi => show ¬ (i = w28.heap.size) by have := lb30_1 i hi; omega)
  have b7_ := b7.ev t11.e (show ¬ (w13.heap.size = w28.heap.size) by omega)
  have PO_ := PO.ev t11.e (fun i hi => show ¬ (i = w28.heap.size) by have := lPO_1 i hi; omega)
  have b9_ := b9.ev t11.e (show ¬ (w16.heap.size = w28.heap.size) by omega)
  have b11_ := b11.ev t11.e (show ¬ (w19.heap.size = w28.heap.size) by omega)
  have b13_ := b13.ev t11.e (show ¬ (w22.heap.size = w28.heap.size) by omega)
  have b15_ := b15.ev t11.e (show ¬ (w25.heap.size = w28.heap.size) by omega)
  replace BL := BL_; clear BL_
  replace b1 := b1_; clear b1_
  replace b2 := b2_; clear b2_
  replace b3 := b3_; clear b3_
  replace b4 := b4_; clear b4_
  replace b5 := b5_; clear b5_
  replace b30 := b30_; clear b30_
  replace b7 := b7_; clear b7_
  replace PO := PO_; clear PO_
  replace b9 := b9_; clear b9_
  replace b11 := b11_; clear b11_
  replace b13 := b13_; clear b13_
  replace b15 := b15_; clear b15_
  replace b17 : Blk .u8 w30 w28.heap.size 37 (nn (dgE 1)) := t11.c
  clear t11
  refine sv 18 (.int .i64 0) .of ?_
  simp only [List.set_cons_zero, List.set_cons_succ]
  refine wpList_nil ?_
  refine hK10 _ _ ?_
  refine wp_seq_k fun K11 hK11 => ?_
  refine cPlain ?_
  refine sv 64 (.slice (some ⟨w11.heap.size, 0, none⟩) 4 4) .of ?_
  simp only [List.set_cons_zero, List.set_cons_succ]
  refine sv 65 (sliceE 32 (.slice (some ⟨w11.heap.size, 0, none⟩) 4 4) 0 1) (Val.slcE 63 (.tmp 64) none (some _) rfl (.slice (some ⟨w11.heap.size, 0, none⟩) 4 4) (by kernel_rfl) b30.se 0 1 (.inr ⟨rfl, rfl⟩) (.inl (by kernel_rfl)) (by omega) (by simp only [nnd_len, List.length_cons, List.length_nil]; omega) Try.underlying63 (by kernel_rfl)) ?_
  simp only [List.set_cons_zero, List.set_cons_succ]
  refine xCall 66 46 #[.pointer (some ⟨w1.heap.size, 0, none⟩), sliceE 32 (.slice (some ⟨w11.heap.size, 0, none⟩) 4 4) 0 1, .int .i64 0] (by kernel_rfl) ?_
  refine (mpath_any w1.heap.size tabL hTL w30 b1 _ (([dgE 1, dgE 2, dgE 3, dgE 4].drop 0).take (1 - 0)) (SE.cast (b30.se.slice 0 1 (by omega) (by simp only [nnd_len, List.length_cons, List.length_nil]; omega)) (nnd_seg _ _ _)) (fun d hd => four_lens 1 2 3 4 d (List.mem_of_mem_take hd)) 0 (by omega) rfl 0 (by omega)).mono ?_
  rintro en w31 ⟨qA, qN, qC, he, hBQ, hb1⟩
  have hqN : qN = 0 := by have := hBQ.se.cap.1; rw [nnd_len, mpath_len] at this; exact this
  subst hqN
  subst he
  have e8 := belE0 hb1
  have ze8 := e8.size
  replace BL := BL.e0 e8
  replace b1 := b1.e0 e8
  replace b2 := b2.e0 e8
  replace b3 := b3.e0 e8
  replace b4 := b4.e0 e8
  replace b5 := b5.e0 e8
  replace b30 := b30.e0 e8
  replace b7 := b7.e0 e8
  replace PO := PO.e0 e8
  replace b9 := b9.e0 e8
  replace b11 := b11.e0 e8
  replace b13 := b13.e0 e8
  replace b15 := b15.e0 e8
  replace b17 := b17.e0 e8
  clear e8
  refine ⟨.tuple #[.agg #[.int .i64 ((0 : Nat) : Int), .slice qA 0 qC], .int .i64 0], rfl, ?_⟩
  simp only [List.set_cons_zero, List.set_cons_succ]
  refine sv 63 (.tuple #[.agg #[.int .i64 ((0 : Nat) : Int), .slice qA 0 qC], .int .i64 0]) .of ?_
  simp only [List.set_cons_zero, List.set_cons_succ]
  refine sv 67 (.agg #[.int .i64 ((0 : Nat) : Int), .slice qA 0 qC]) .of ?_
  simp only [List.set_cons_zero, List.set_cons_succ]
  refine sv 68 (.int .i64 0) .of ?_
  simp only [List.set_cons_zero, List.set_cons_succ]
  refine xAlloc 19 66 [.int .i64 0, .slice none 0 0] rfl (by kernel_rfl) ?_
  intro w32 n13
  have zn13 := n13.z
  have b19 := n13.c
  replace BL := BL.e0 n13.e
  replace b1 := b1.e0 n13.e
  replace b2 := b2.e0 n13.e
  replace b3 := b3.e0 n13.e
  replace b4 := b4.e0 n13.e
  replace b5 := b5.e0 n13.e
  replace b30 := b30.e0 n13.e
  replace b7 := b7.e0 n13.e
  replace PO := PO.e0 n13.e
  replace b9 := b9.e0 n13.e
  replace b11 := b11.e0 n13.e
  replace b13 := b13.e0 n13.e
  replace b15 := b15.e0 n13.e
  replace b17 := b17.e0 n13.e
  simp only [List.set_cons_zero, List.set_cons_succ]
  refine xStoreR 66 (.tmp 19) (.tmp 67) rfl w31.heap.size 66 [.int .i64 0, .slice none 0 0] 0 [.int .i64 ((0 : Nat) : Int), .slice qA 0 qC] (by kernel_rfl) (by kernel_rfl) b19 (by kernel_rfl) (by simp) rfl [.int .i64 ((0 : Nat) : Int), .slice qA 0 qC] rfl ?_
  intro w33 t12
  have zt12 := t12.z
  have BL_ := BL.ev t12.e (fun i h => show w.heap.size ≤ i by have h : i = w31.heap.size := h; omega)
  have b1_ := b1.ev t12.e (show ¬ (w1.heap.size = w31.heap.size) by omega)
  have b2_ := b2.ev t12.e (show ¬ (w3.heap.size = w31.heap.size) by omega)
  have b3_ := b3.ev t12.e (show ¬ (w4.heap.size = w31.heap.size) by omega)
  have b4_ := b4.ev t12.e (show ¬ (w5.heap.size = w31.heap.size) by omega)
  have b5_ := b5.ev t12.e (show ¬ (w6.heap.size = w31.heap.size) by omega)
  have b30_ := b30.ev t12.e (fun i hi => show ¬ (i = w31.heap.size) by have := lb30_1 i hi; omega)
  have b7_ := b7.ev t12.e (show ¬ (w13.heap.size = w31.heap.size) by omega)
  have PO_ := PO.ev t12.e (fun i hi => show ¬ (i = w31.heap.size) by have := lPO_1 i hi; omega)
  have b9_ := b9.ev t12.e (show ¬ (w16.heap.size = w31.heap.size) by omega)
  have b11_ := b11.ev t12.e (show ¬ (w19.heap.size = w31.heap.size) by omega)
  have b13_ := b13.ev t12.e (show ¬ (w22.heap.size = w31.heap.size) by omega)
  have b15_ := b15.ev t12.e (show ¬ (w25.heap.size = w31.heap.size) by omega)
  have b17_ := b17.ev t12.e (show ¬ (w28.heap.size = w31.heap.size) by omega)
  replace BL := BL_; clear BL_
  replace b1 := b1_; clear b1_
  replace b2 := b2_; clear b2_
  replace b3 := b3_; clear b3_
  replace b4 := b4_; clear b4_
  replace b5 := b5_; clear b5_
  replace b30 := b30_; clear b30_
  replace b7 := b7_; clear b7_
  replace PO := PO_; clear PO_
  replace b9 := b9_; clear b9_
  replace b11 := b11_; clear b11_
  replace b13 := b13_; clear b13_
  replace b15 := b15_; clear b15_
  replace b17 := b17_; clear b17_
  replace b19 : Cel w33 w31.heap.size 66 [.int .i64 ((0 : Nat) : Int), .slice qA 0 qC] := t12.c
  clear t12
  refine sv 20 (.int .i64 0) .of ?_
  simp only [List.set_cons_zero, List.set_cons_succ]
  refine wpList_nil ?_
  refine hK11 _ _ ?_
  refine wp_seq_k fun K12 hK12 => ?_
  have e9 := drew_e0 w33
  refine zg (fun w_ => Bl w.heap.size w w_ ∧ Blk .u32 w_ w1.heap.size 26 (nn tabL) ∧ Blk .u8 w_ w3.heap.size 37 (nn (dgE 1)) ∧ Blk .u8 w_ w4.heap.size 37 (nn (dgE 2)) ∧ Blk .u8 w_ w5.heap.size 37 (nn (dgE 3)) ∧ Blk .u8 w_ w6.heap.size 37 (nn (dgE 4)) ∧ OwnE 37 .u8 32 w11.heap.size w_ (.slice (some ⟨w11.heap.size, 0, none⟩) 4 4) (nnd [(dgE 1), (dgE 2), (dgE 3), (dgE 4)]) ∧ Blk .u8 w_ w13.heap.size 37 (nn (mnode tabL (mnode tabL (dgE 1) (dgE 2)) (mnode tabL (dgE 3) (dgE 4)))) ∧ OwnE 37 .u8 32 w15.heap.size w_ (.slice pA 2 pC) (nnd [dgE 4, mnode tabL (dgE 1) (dgE 2)]) ∧ Cel w_ w16.heap.size 66 [.int .i64 ((2 : Nat) : Int), .slice pA 2 pC] ∧ Blk .u8 w_ w19.heap.size 37 (nn (mnode tabL (mnode tabL (dgE 1) (dgE 2)) (mnode tabL (dgE 3) (dgE 4)))) ∧ Blk .u8 w_ w22.heap.size 37 (nn (List.replicate 32 0)) ∧ Blk .u8 w_ w25.heap.size 37 (nn (List.replicate 32 0)) ∧ Blk .u8 w_ w28.heap.size 37 (nn (dgE 1)) ∧ Cel w_ w31.heap.size 66 [.int .i64 ((0 : Nat) : Int), .slice qA 0 qC] ∧ w33.heap.size ≤ w_.heap.size) (fun w_ => Bl w.heap.size w w_ ∧ Blk .u32 w_ w1.heap.size 26 (nn tabL) ∧ Blk .u8 w_ w3.heap.size 37 (nn (dgE 1)) ∧ Blk .u8 w_ w4.heap.size 37 (nn (dgE 2)) ∧ Blk .u8 w_ w5.heap.size 37 (nn (dgE 3)) ∧ Blk .u8 w_ w6.heap.size 37 (nn (dgE 4)) ∧ OwnE 37 .u8 32 w11.heap.size w_ (.slice (some ⟨w11.heap.size, 0, none⟩) 4 4) (nnd [(dgE 1), (dgE 2), (dgE 3), (dgE 4)]) ∧ Blk .u8 w_ w13.heap.size 37 (nn (mnode tabL (mnode tabL (dgE 1) (dgE 2)) (mnode tabL (dgE 3) (dgE 4)))) ∧ OwnE 37 .u8 32 w15.heap.size w_ (.slice pA 2 pC) (nnd [dgE 4, mnode tabL (dgE 1) (dgE 2)]) ∧ Cel w_ w16.heap.size 66 [.int .i64 ((2 : Nat) : Int), .slice pA 2 pC] ∧ Blk .u8 w_ w19.heap.size 37 (nn (mnode tabL (mnode tabL (dgE 1) (dgE 2)) (mnode tabL (dgE 3) (dgE 4)))) ∧ Blk .u8 w_ w22.heap.size 37 (nn (List.replicate 32 0)) ∧ Blk .u8 w_ w25.heap.size 37 (nn (List.replicate 32 0)) ∧ Blk .u8 w_ w28.heap.size 37 (nn (dgE 1)) ∧ Cel w_ w31.heap.size 66 [.int .i64 ((0 : Nat) : Int), .slice qA 0 qC] ∧ w33.heap.size ≤ w_.heap.size) 100000 65 ⟨BL.e0 e9, b1.e0 e9, b2.e0 e9, b3.e0 e9, b4.e0 e9, b5.e0 e9, b30.e0 e9, b7.e0 e9, PO.e0 e9, b9.e0 e9, b11.e0 e9, b13.e0 e9, b15.e0 e9, b17.e0 e9, b19.e0 e9, Nat.le_refl _⟩ ?_
  clear BL b1 b2 b3 b4 b5 b30 b7 PO b9 b11 b13 b15 b17 b19
  clear e9
  intro w34
  rintro ⟨BL, b1, b2, b3, b4, b5, b30, b7, PO, b9, b11, b13, b15, b17, b19, z1⟩
  refine zv 0 69 (.int .i64 0) (fun _ _ => .of) ⟨BL, b1, b2, b3, b4, b5, b30, b7, PO, b9, b11, b13, b15, b17, b19, by omega⟩ ?_
  simp only [List.set_cons_zero, List.set_cons_succ]
  refine zv 1 70 (.int .i64 0) (fun _ _ => .of) ⟨BL, b1, b2, b3, b4, b5, b30, b7, PO, b9, b11, b13, b15, b17, b19, by omega⟩ ?_
  simp only [List.set_cons_zero, List.set_cons_succ]
  refine zv 2 71 (.int .i64 (0 + 0)) (fun _ ⟨BL, b1, b2, b3, b4, b5, b30, b7, PO, b9, b11, b13, b15, b17, b19, z1⟩ => Val.add 67 _ (.tmp 69) (.tmp 70) rfl 0 0 (by kernel_rfl) (by kernel_rfl) (by omega)) ⟨BL, b1, b2, b3, b4, b5, b30, b7, PO, b9, b11, b13, b15, b17, b19, by omega⟩ ?_
  simp only [List.set_cons_zero, List.set_cons_succ]
  refine zv 3 72 (.int .i64 0) (fun _ _ => .of) ⟨BL, b1, b2, b3, b4, b5, b30, b7, PO, b9, b11, b13, b15, b17, b19, by omega⟩ ?_
  simp only [List.set_cons_zero, List.set_cons_succ]
  refine zv 4 73 (.int .i64 ((0 + 0) + 0)) (fun _ ⟨BL, b1, b2, b3, b4, b5, b30, b7, PO, b9, b11, b13, b15, b17, b19, z1⟩ => Val.add 67 _ (.tmp 71) (.tmp 72) rfl (0 + 0) 0 (by kernel_rfl) (by kernel_rfl) (by omega)) ⟨BL, b1, b2, b3, b4, b5, b30, b7, PO, b9, b11, b13, b15, b17, b19, by omega⟩ ?_
  simp only [List.set_cons_zero, List.set_cons_succ]
  refine zv 5 74 (.bool true) (fun _ _ => .of) ⟨BL, b1, b2, b3, b4, b5, b30, b7, PO, b9, b11, b13, b15, b17, b19, by omega⟩ ?_
  simp only [List.set_cons_zero, List.set_cons_succ]
  refine zv 6 75 (.bool true) (fun _ _ => .of) ⟨BL, b1, b2, b3, b4, b5, b30, b7, PO, b9, b11, b13, b15, b17, b19, by omega⟩ ?_
  simp only [List.set_cons_zero, List.set_cons_succ]
  refine zv 7 76 (.agg (cellsOf .u8 (nn (mnode tabL (mnode tabL (dgE 1) (dgE 2)) (mnode tabL (dgE 3) (dgE 4)))))) (fun _ ⟨BL, b1, b2, b3, b4, b5, b30, b7, PO, b9, b11, b13, b15, b17, b19, z1⟩ => Val.blk 37 _ rfl 0 32 (by kernel_rfl) b7 _ Try.underlying37 rfl (by kernel_rfl) (by (try simp only [nn_len, List.length_cons, List.length_nil, List.length_set, List.length_replicate]); try omega) _ (seg_all' _ (by (try simp only [nn_len, List.length_cons, List.length_nil, List.length_set, List.length_replicate]); try omega))) ⟨BL, b1, b2, b3, b4, b5, b30, b7, PO, b9, b11, b13, b15, b17, b19, by omega⟩ ?_
  simp only [List.set_cons_zero, List.set_cons_succ]
  refine zv 8 77 (.agg (cellsOf .u8 (nn (dgE 1)))) (fun _ ⟨BL, b1, b2, b3, b4, b5, b30, b7, PO, b9, b11, b13, b15, b17, b19, z1⟩ => Val.blk 37 _ rfl 0 32 (by kernel_rfl) b2 _ Try.underlying37 rfl (by kernel_rfl) (by (try simp only [nn_len, List.length_cons, List.length_nil, List.length_set, List.length_replicate]); try omega) _ (seg_all' _ (by (try simp only [nn_len, List.length_cons, List.length_nil, List.length_set, List.length_replicate]); try omega))) ⟨BL, b1, b2, b3, b4, b5, b30, b7, PO, b9, b11, b13, b15, b17, b19, by omega⟩ ?_
  simp only [List.set_cons_zero, List.set_cons_succ]
  refine zv 9 78 (.agg (cellsOf .u8 (nn (dgE 2)))) (fun _ ⟨BL, b1, b2, b3, b4, b5, b30, b7, PO, b9, b11, b13, b15, b17, b19, z1⟩ => Val.blk 37 _ rfl 0 32 (by kernel_rfl) b3 _ Try.underlying37 rfl (by kernel_rfl) (by (try simp only [nn_len, List.length_cons, List.length_nil, List.length_set, List.length_replicate]); try omega) _ (seg_all' _ (by (try simp only [nn_len, List.length_cons, List.length_nil, List.length_set, List.length_replicate]); try omega))) ⟨BL, b1, b2, b3, b4, b5, b30, b7, PO, b9, b11, b13, b15, b17, b19, by omega⟩ ?_
  simp only [List.set_cons_zero, List.set_cons_succ]
  refine zv 11 80 (.agg (cellsOf .u8 (nn (dgE 3)))) (fun _ ⟨BL, b1, b2, b3, b4, b5, b30, b7, PO, b9, b11, b13, b15, b17, b19, z1⟩ => Val.blk 37 _ rfl 0 32 (by kernel_rfl) b4 _ Try.underlying37 rfl (by kernel_rfl) (by (try simp only [nn_len, List.length_cons, List.length_nil, List.length_set, List.length_replicate]); try omega) _ (seg_all' _ (by (try simp only [nn_len, List.length_cons, List.length_nil, List.length_set, List.length_replicate]); try omega))) ⟨BL, b1, b2, b3, b4, b5, b30, b7, PO, b9, b11, b13, b15, b17, b19, by omega⟩ ?_
  simp only [List.set_cons_zero, List.set_cons_succ]
  refine zv 12 81 (.agg (cellsOf .u8 (nn (dgE 4)))) (fun _ ⟨BL, b1, b2, b3, b4, b5, b30, b7, PO, b9, b11, b13, b15, b17, b19, z1⟩ => Val.blk 37 _ rfl 0 32 (by kernel_rfl) b5 _ Try.underlying37 rfl (by kernel_rfl) (by (try simp only [nn_len, List.length_cons, List.length_nil, List.length_set, List.length_replicate]); try omega) _ (seg_all' _ (by (try simp only [nn_len, List.length_cons, List.length_nil, List.length_set, List.length_replicate]); try omega))) ⟨BL, b1, b2, b3, b4, b5, b30, b7, PO, b9, b11, b13, b15, b17, b19, by omega⟩ ?_
  simp only [List.set_cons_zero, List.set_cons_succ]
  refine zo1 10 rfl ?_
  refine xCall 79 40 #[.pointer (some ⟨w1.heap.size, 0, none⟩), .agg (cellsOf .u8 (nn (dgE 1))), .agg (cellsOf .u8 (nn (dgE 2)))] (by kernel_rfl) ?_
  refine (mnode_any w1.heap.size tabL hTL w34 b1 (dgE 1) (dgE 2) (dgE_len _) (dgE_len _)).mono ?_
  rintro en w35 ⟨rfl, hb1⟩
  have e10 := belE0 hb1
  have ze10 := e10.size
  replace BL := BL.e0 e10
  replace b1 := b1.e0 e10
  replace b2 := b2.e0 e10
  replace b3 := b3.e0 e10
  replace b4 := b4.e0 e10
  replace b5 := b5.e0 e10
  replace b30 := b30.e0 e10
  replace b7 := b7.e0 e10
  replace PO := PO.e0 e10
  replace b9 := b9.e0 e10
  replace b11 := b11.e0 e10
  replace b13 := b13.e0 e10
  replace b15 := b15.e0 e10
  replace b17 := b17.e0 e10
  replace b19 := b19.e0 e10
  clear e10
  refine ⟨.agg (cellsOf .u8 (nn (mnode tabL (dgE 1) (dgE 2)))), rfl, ?_⟩
  refine ze 10 ⟨BL, b1, b2, b3, b4, b5, b30, b7, PO, b9, b11, b13, b15, b17, b19, by omega⟩ ?_
  simp only [List.set_cons_zero, List.set_cons_succ]
  refine zo1 13 rfl ?_
  refine xCall 82 40 #[.pointer (some ⟨w1.heap.size, 0, none⟩), .agg (cellsOf .u8 (nn (dgE 3))), .agg (cellsOf .u8 (nn (dgE 4)))] (by kernel_rfl) ?_
  refine (mnode_any w1.heap.size tabL hTL w35 b1 (dgE 3) (dgE 4) (dgE_len _) (dgE_len _)).mono ?_
  rintro en w36 ⟨rfl, hb1⟩
  have e11 := belE0 hb1
  have ze11 := e11.size
  replace BL := BL.e0 e11
  replace b1 := b1.e0 e11
  replace b2 := b2.e0 e11
  replace b3 := b3.e0 e11
  replace b4 := b4.e0 e11
  replace b5 := b5.e0 e11
  replace b30 := b30.e0 e11
  replace b7 := b7.e0 e11
  replace PO := PO.e0 e11
  replace b9 := b9.e0 e11
  replace b11 := b11.e0 e11
  replace b13 := b13.e0 e11
  replace b15 := b15.e0 e11
  replace b17 := b17.e0 e11
  replace b19 := b19.e0 e11
  clear e11
  refine ⟨.agg (cellsOf .u8 (nn (mnode tabL (dgE 3) (dgE 4)))), rfl, ?_⟩
  refine ze 13 ⟨BL, b1, b2, b3, b4, b5, b30, b7, PO, b9, b11, b13, b15, b17, b19, by omega⟩ ?_
  simp only [List.set_cons_zero, List.set_cons_succ]
  refine zo1 14 rfl ?_
  refine xCall 83 40 #[.pointer (some ⟨w1.heap.size, 0, none⟩), .agg (cellsOf .u8 (nn (mnode tabL (dgE 1) (dgE 2)))), .agg (cellsOf .u8 (nn (mnode tabL (dgE 3) (dgE 4))))] (by kernel_rfl) ?_
  refine (mnode_any w1.heap.size tabL hTL w36 b1 (mnode tabL (dgE 1) (dgE 2)) (mnode tabL (dgE 3) (dgE 4)) (mnode_len _ _ _) (mnode_len _ _ _)).mono ?_
  rintro en w37 ⟨rfl, hb1⟩
  have e12 := belE0 hb1
  have ze12 := e12.size
  replace BL := BL.e0 e12
  replace b1 := b1.e0 e12
  replace b2 := b2.e0 e12
  replace b3 := b3.e0 e12
  replace b4 := b4.e0 e12
  replace b5 := b5.e0 e12
  replace b30 := b30.e0 e12
  replace b7 := b7.e0 e12
  replace PO := PO.e0 e12
  replace b9 := b9.e0 e12
  replace b11 := b11.e0 e12
  replace b13 := b13.e0 e12
  replace b15 := b15.e0 e12
  replace b17 := b17.e0 e12
  replace b19 := b19.e0 e12
  clear e12
  refine ⟨.agg (cellsOf .u8 (nn (mnode tabL (mnode tabL (dgE 1) (dgE 2)) (mnode tabL (dgE 3) (dgE 4))))), rfl, ?_⟩
  refine ze 14 ⟨BL, b1, b2, b3, b4, b5, b30, b7, PO, b9, b11, b13, b15, b17, b19, by omega⟩ ?_
  simp only [List.set_cons_zero, List.set_cons_succ]
  refine zv 15 84 (.bool true) (fun _ ⟨BL, b1, b2, b3, b4, b5, b30, b7, PO, b9, b11, b13, b15, b17, b19, z1⟩ => Val.eqA .eql 37 _ (.tmp 76) (.tmp 83) rfl Try.underlying37 Try.underlying5 (by kernel_rfl) (by kernel_rfl) (nn (mnode tabL (mnode tabL (dgE 1) (dgE 2)) (mnode tabL (dgE 3) (dgE 4)))) (nn (mnode tabL (mnode tabL (dgE 1) (dgE 2)) (mnode tabL (dgE 3) (dgE 4)))) (by kernel_rfl) (by kernel_rfl) (by rw [nn_len]; exact (mnode_len _ _ _)) (by rw [nn_len]; exact (mnode_len _ _ _)) (.inl rfl) true (by simp)) ⟨BL, b1, b2, b3, b4, b5, b30, b7, PO, b9, b11, b13, b15, b17, b19, by omega⟩ ?_
  simp only [List.set_cons_zero, List.set_cons_succ]
  refine zv 16 85 (.bool true) (fun _ _ => .of) ⟨BL, b1, b2, b3, b4, b5, b30, b7, PO, b9, b11, b13, b15, b17, b19, by omega⟩ ?_
  simp only [List.set_cons_zero, List.set_cons_succ]
  refine zv 17 86 (.bool true) (fun _ _ => .of) ⟨BL, b1, b2, b3, b4, b5, b30, b7, PO, b9, b11, b13, b15, b17, b19, by omega⟩ ?_
  simp only [List.set_cons_zero, List.set_cons_succ]
  refine zv 18 87 (.pointer (some ⟨w16.heap.size, 0, none⟩)) (fun _ _ => .of) ⟨BL, b1, b2, b3, b4, b5, b30, b7, PO, b9, b11, b13, b15, b17, b19, by omega⟩ ?_
  simp only [List.set_cons_zero, List.set_cons_succ]
  refine zv 19 88 (.int .i64 ((2 : Nat) : Int)) (fun _ ⟨BL, b1, b2, b3, b4, b5, b30, b7, PO, b9, b11, b13, b15, b17, b19, z1⟩ => Val.cel1 3 _ rfl w16.heap.size 0 _ (by kernel_rfl) (fun _ => (by kernel_rfl)) b9 rfl) ⟨BL, b1, b2, b3, b4, b5, b30, b7, PO, b9, b11, b13, b15, b17, b19, by omega⟩ ?_
  simp only [List.set_cons_zero, List.set_cons_succ]
  refine zv 20 89 (.bool true) (fun _ ⟨BL, b1, b2, b3, b4, b5, b30, b7, PO, b9, b11, b13, b15, b17, b19, z1⟩ => Val.cmp .eql 3 _ (.tmp 88) _ rfl .i64 ((2 : Nat) : Int) 2 (by kernel_rfl) (by kernel_rfl) (by simp) _ (by simp [cmpB])) ⟨BL, b1, b2, b3, b4, b5, b30, b7, PO, b9, b11, b13, b15, b17, b19, by omega⟩ ?_
  simp only [List.set_cons_zero, List.set_cons_succ]
  refine zv 21 90 (.bool true) (fun _ _ => .of) ⟨BL, b1, b2, b3, b4, b5, b30, b7, PO, b9, b11, b13, b15, b17, b19, by omega⟩ ?_
  simp only [List.set_cons_zero, List.set_cons_succ]
  refine zv 22 91 (.bool true) (fun _ _ => .of) ⟨BL, b1, b2, b3, b4, b5, b30, b7, PO, b9, b11, b13, b15, b17, b19, by omega⟩ ?_
  simp only [List.set_cons_zero, List.set_cons_succ]
  refine zv 23 92 (.pointer (some ⟨w16.heap.size, 1, none⟩)) (fun _ _ => .of) ⟨BL, b1, b2, b3, b4, b5, b30, b7, PO, b9, b11, b13, b15, b17, b19, by omega⟩ ?_
  simp only [List.set_cons_zero, List.set_cons_succ]
  refine zv 24 93 (.slice pA 2 pC) (fun _ ⟨BL, b1, b2, b3, b4, b5, b30, b7, PO, b9, b11, b13, b15, b17, b19, z1⟩ => Val.cel1 63 _ rfl w16.heap.size 1 _ (by kernel_rfl) (fun _ => (by kernel_rfl)) b9 rfl) ⟨BL, b1, b2, b3, b4, b5, b30, b7, PO, b9, b11, b13, b15, b17, b19, by omega⟩ ?_
  simp only [List.set_cons_zero, List.set_cons_succ]
  refine zv 25 94 (.agg (cellsOf .u8 (nn (dgE 4)))) (fun _ ⟨BL, b1, b2, b3, b4, b5, b30, b7, PO, b9, b11, b13, b15, b17, b19, z1⟩ => Val.blk 37 _ rfl 0 32 (by kernel_rfl) b5 _ Try.underlying37 rfl (by kernel_rfl) (by (try simp only [nn_len, List.length_cons, List.length_nil, List.length_set, List.length_replicate]); try omega) _ (seg_all' _ (by (try simp only [nn_len, List.length_cons, List.length_nil, List.length_set, List.length_replicate]); try omega))) ⟨BL, b1, b2, b3, b4, b5, b30, b7, PO, b9, b11, b13, b15, b17, b19, by omega⟩ ?_
  simp only [List.set_cons_zero, List.set_cons_succ]
  refine zv 26 95 (.agg (cellsOf .u8 (nn (dgE 1)))) (fun _ ⟨BL, b1, b2, b3, b4, b5, b30, b7, PO, b9, b11, b13, b15, b17, b19, z1⟩ => Val.blk 37 _ rfl 0 32 (by kernel_rfl) b2 _ Try.underlying37 rfl (by kernel_rfl) (by (try simp only [nn_len, List.length_cons, List.length_nil, List.length_set, List.length_replicate]); try omega) _ (seg_all' _ (by (try simp only [nn_len, List.length_cons, List.length_nil, List.length_set, List.length_replicate]); try omega))) ⟨BL, b1, b2, b3, b4, b5, b30, b7, PO, b9, b11, b13, b15, b17, b19, by omega⟩ ?_
  simp only [List.set_cons_zero, List.set_cons_succ]
  refine zv 27 96 (.agg (cellsOf .u8 (nn (dgE 2)))) (fun _ ⟨BL, b1, b2, b3, b4, b5, b30, b7, PO, b9, b11, b13, b15, b17, b19, z1⟩ => Val.blk 37 _ rfl 0 32 (by kernel_rfl) b3 _ Try.underlying37 rfl (by kernel_rfl) (by (try simp only [nn_len, List.length_cons, List.length_nil, List.length_set, List.length_replicate]); try omega) _ (seg_all' _ (by (try simp only [nn_len, List.length_cons, List.length_nil, List.length_set, List.length_replicate]); try omega))) ⟨BL, b1, b2, b3, b4, b5, b30, b7, PO, b9, b11, b13, b15, b17, b19, by omega⟩ ?_
  simp only [List.set_cons_zero, List.set_cons_succ]
  refine zo1 28 rfl ?_
  refine xCall 97 40 #[.pointer (some ⟨w1.heap.size, 0, none⟩), .agg (cellsOf .u8 (nn (dgE 1))), .agg (cellsOf .u8 (nn (dgE 2)))] (by kernel_rfl) ?_
  refine (mnode_any w1.heap.size tabL hTL w37 b1 (dgE 1) (dgE 2) (dgE_len _) (dgE_len _)).mono ?_
  rintro en w38 ⟨rfl, hb1⟩
  have e13 := belE0 hb1
  have ze13 := e13.size
  replace BL := BL.e0 e13
  replace b1 := b1.e0 e13
  replace b2 := b2.e0 e13
  replace b3 := b3.e0 e13
  replace b4 := b4.e0 e13
  replace b5 := b5.e0 e13
  replace b30 := b30.e0 e13
  replace b7 := b7.e0 e13
  replace PO := PO.e0 e13
  replace b9 := b9.e0 e13
  replace b11 := b11.e0 e13
  replace b13 := b13.e0 e13
  replace b15 := b15.e0 e13
  replace b17 := b17.e0 e13
  replace b19 := b19.e0 e13
  clear e13
  refine ⟨.agg (cellsOf .u8 (nn (mnode tabL (dgE 1) (dgE 2)))), rfl, ?_⟩
  refine ze 28 ⟨BL, b1, b2, b3, b4, b5, b30, b7, PO, b9, b11, b13, b15, b17, b19, by omega⟩ ?_
  simp only [List.set_cons_zero, List.set_cons_succ]
  refine zo1 29 rfl ?_
  refine xLitE 98 63 37 2 _ rfl .u8 32 (nnd [(dgE 4), (mnode tabL (dgE 1) (dgE 2))]) (by kernel_rfl) Try.underlying63 (by kernel_rfl) (by omega) rfl (by omega) (by omega) (lenC (by (try simp only [nn_len, List.length_cons, List.length_nil, List.length_set, List.length_replicate]); try omega) (lenC (by (try simp only [nn_len, List.length_cons, List.length_nil, List.length_set, List.length_replicate]); try omega) lenN)) ?_
  intro w39 n14 b98
  have zn14 := n14.z
  replace BL := BL.e0 n14.e
  replace b1 := b1.e0 n14.e
  replace b2 := b2.e0 n14.e
  replace b3 := b3.e0 n14.e
  replace b4 := b4.e0 n14.e
  replace b5 := b5.e0 n14.e
  replace b30 := b30.e0 n14.e
  replace b7 := b7.e0 n14.e
  replace PO := PO.e0 n14.e
  replace b9 := b9.e0 n14.e
  replace b11 := b11.e0 n14.e
  replace b13 := b13.e0 n14.e
  replace b15 := b15.e0 n14.e
  replace b17 := b17.e0 n14.e
  replace b19 := b19.e0 n14.e
  have lb98_1 := b98.ge
  refine ze 29 ⟨BL, b1, b2, b3, b4, b5, b30, b7, PO, b9, b11, b13, b15, b17, b19, by omega⟩ ?_
  simp only [List.set_cons_zero, List.set_cons_succ]
  refine zo1 30 rfl ?_
  refine xCall 99 49 #[.slice pA 2 pC, .slice (some ⟨w38.heap.size, 0, none⟩) 2 2] (by kernel_rfl) ?_
  refine (samedig_any _ _ [dgE 4, mnode tabL (dgE 1) (dgE 2)] [dgE 4, mnode tabL (dgE 1) (dgE 2)] w39 PO.se b98.se).mono ?_
  rintro en w40 ⟨he, hb1⟩
  rw [decide_eq_true rfl] at he
  subst he
  have e14 := belE0 hb1
  have ze14 := e14.size
  replace BL := BL.e0 e14
  replace b1 := b1.e0 e14
  replace b2 := b2.e0 e14
  replace b3 := b3.e0 e14
  replace b4 := b4.e0 e14
  replace b5 := b5.e0 e14
  replace b30 := b30.e0 e14
  replace b7 := b7.e0 e14
  replace PO := PO.e0 e14
  replace b9 := b9.e0 e14
  replace b11 := b11.e0 e14
  replace b13 := b13.e0 e14
  replace b15 := b15.e0 e14
  replace b17 := b17.e0 e14
  replace b19 := b19.e0 e14
  replace b98 := b98.e0 e14
  clear e14
  refine ⟨.bool true, rfl, ?_⟩
  refine ze 30 ⟨BL, b1, b2, b3, b4, b5, b30, b7, PO, b9, b11, b13, b15, b17, b19, by omega⟩ ?_
  simp only [List.set_cons_zero, List.set_cons_succ]
  refine zv 31 100 (.bool true) (fun _ _ => .of) ⟨BL, b1, b2, b3, b4, b5, b30, b7, PO, b9, b11, b13, b15, b17, b19, by omega⟩ ?_
  simp only [List.set_cons_zero, List.set_cons_succ]
  refine zv 32 101 (.bool true) (fun _ _ => .of) ⟨BL, b1, b2, b3, b4, b5, b30, b7, PO, b9, b11, b13, b15, b17, b19, by omega⟩ ?_
  simp only [List.set_cons_zero, List.set_cons_succ]
  refine zv 33 102 (.agg (cellsOf .u8 (nn (mnode tabL (mnode tabL (dgE 1) (dgE 2)) (mnode tabL (dgE 3) (dgE 4)))))) (fun _ ⟨BL, b1, b2, b3, b4, b5, b30, b7, PO, b9, b11, b13, b15, b17, b19, z1⟩ => Val.blk 37 _ rfl 0 32 (by kernel_rfl) b11 _ Try.underlying37 rfl (by kernel_rfl) (by (try simp only [nn_len, List.length_cons, List.length_nil, List.length_set, List.length_replicate]); try omega) _ (seg_all' _ (by (try simp only [nn_len, List.length_cons, List.length_nil, List.length_set, List.length_replicate]); try omega))) ⟨BL, b1, b2, b3, b4, b5, b30, b7, PO, b9, b11, b13, b15, b17, b19, by omega⟩ ?_
  simp only [List.set_cons_zero, List.set_cons_succ]
  refine zv 34 103 (.agg (cellsOf .u8 (nn (mnode tabL (mnode tabL (dgE 1) (dgE 2)) (mnode tabL (dgE 3) (dgE 4)))))) (fun _ ⟨BL, b1, b2, b3, b4, b5, b30, b7, PO, b9, b11, b13, b15, b17, b19, z1⟩ => Val.blk 37 _ rfl 0 32 (by kernel_rfl) b7 _ Try.underlying37 rfl (by kernel_rfl) (by (try simp only [nn_len, List.length_cons, List.length_nil, List.length_set, List.length_replicate]); try omega) _ (seg_all' _ (by (try simp only [nn_len, List.length_cons, List.length_nil, List.length_set, List.length_replicate]); try omega))) ⟨BL, b1, b2, b3, b4, b5, b30, b7, PO, b9, b11, b13, b15, b17, b19, by omega⟩ ?_
  simp only [List.set_cons_zero, List.set_cons_succ]
  refine zv 35 104 (.bool true) (fun _ ⟨BL, b1, b2, b3, b4, b5, b30, b7, PO, b9, b11, b13, b15, b17, b19, z1⟩ => Val.eqA .eql 37 _ (.tmp 102) (.tmp 103) rfl Try.underlying37 Try.underlying5 (by kernel_rfl) (by kernel_rfl) (nn (mnode tabL (mnode tabL (dgE 1) (dgE 2)) (mnode tabL (dgE 3) (dgE 4)))) (nn (mnode tabL (mnode tabL (dgE 1) (dgE 2)) (mnode tabL (dgE 3) (dgE 4)))) (by kernel_rfl) (by kernel_rfl) (by rw [nn_len]; exact (mnode_len _ _ _)) (by rw [nn_len]; exact (mnode_len _ _ _)) (.inl rfl) true (by simp)) ⟨BL, b1, b2, b3, b4, b5, b30, b7, PO, b9, b11, b13, b15, b17, b19, by omega⟩ ?_
  simp only [List.set_cons_zero, List.set_cons_succ]
  refine zv 36 105 (.bool true) (fun _ _ => .of) ⟨BL, b1, b2, b3, b4, b5, b30, b7, PO, b9, b11, b13, b15, b17, b19, by omega⟩ ?_
  simp only [List.set_cons_zero, List.set_cons_succ]
  refine zv 37 106 (.bool true) (fun _ _ => .of) ⟨BL, b1, b2, b3, b4, b5, b30, b7, PO, b9, b11, b13, b15, b17, b19, by omega⟩ ?_
  simp only [List.set_cons_zero, List.set_cons_succ]
  refine zv 38 107 (.int .i64 2) (fun _ _ => .of) ⟨BL, b1, b2, b3, b4, b5, b30, b7, PO, b9, b11, b13, b15, b17, b19, by omega⟩ ?_
  simp only [List.set_cons_zero, List.set_cons_succ]
  refine zv 39 108 (.bool true) (fun _ ⟨BL, b1, b2, b3, b4, b5, b30, b7, PO, b9, b11, b13, b15, b17, b19, z1⟩ => Val.cmp .eql 3 _ (.tmp 107) _ rfl .i64 2 2 (by kernel_rfl) (by kernel_rfl) (by simp) _ rfl) ⟨BL, b1, b2, b3, b4, b5, b30, b7, PO, b9, b11, b13, b15, b17, b19, by omega⟩ ?_
  simp only [List.set_cons_zero, List.set_cons_succ]
  refine zv 40 109 (.bool true) (fun _ _ => .of) ⟨BL, b1, b2, b3, b4, b5, b30, b7, PO, b9, b11, b13, b15, b17, b19, by omega⟩ ?_
  simp only [List.set_cons_zero, List.set_cons_succ]
  refine zv 41 110 (.bool true) (fun _ _ => .of) ⟨BL, b1, b2, b3, b4, b5, b30, b7, PO, b9, b11, b13, b15, b17, b19, by omega⟩ ?_
  simp only [List.set_cons_zero, List.set_cons_succ]
  refine zv 42 111 (.int .i64 2) (fun _ _ => .of) ⟨BL, b1, b2, b3, b4, b5, b30, b7, PO, b9, b11, b13, b15, b17, b19, by omega⟩ ?_
  simp only [List.set_cons_zero, List.set_cons_succ]
  refine zv 43 112 (.bool true) (fun _ ⟨BL, b1, b2, b3, b4, b5, b30, b7, PO, b9, b11, b13, b15, b17, b19, z1⟩ => Val.cmp .eql 3 _ (.tmp 111) _ rfl .i64 2 2 (by kernel_rfl) (by kernel_rfl) (by simp) _ rfl) ⟨BL, b1, b2, b3, b4, b5, b30, b7, PO, b9, b11, b13, b15, b17, b19, by omega⟩ ?_
  simp only [List.set_cons_zero, List.set_cons_succ]
  refine zv 44 113 (.bool true) (fun _ _ => .of) ⟨BL, b1, b2, b3, b4, b5, b30, b7, PO, b9, b11, b13, b15, b17, b19, by omega⟩ ?_
  simp only [List.set_cons_zero, List.set_cons_succ]
  refine zv 45 114 (.bool true) (fun _ _ => .of) ⟨BL, b1, b2, b3, b4, b5, b30, b7, PO, b9, b11, b13, b15, b17, b19, by omega⟩ ?_
  simp only [List.set_cons_zero, List.set_cons_succ]
  refine zv 46 115 (.int .i64 0) (fun _ _ => .of) ⟨BL, b1, b2, b3, b4, b5, b30, b7, PO, b9, b11, b13, b15, b17, b19, by omega⟩ ?_
  simp only [List.set_cons_zero, List.set_cons_succ]
  refine zv 47 116 (.bool true) (fun _ _ => .of) ⟨BL, b1, b2, b3, b4, b5, b30, b7, PO, b9, b11, b13, b15, b17, b19, by omega⟩ ?_
  simp only [List.set_cons_zero, List.set_cons_succ]
  refine zv 48 117 (.bool true) (fun _ _ => .of) ⟨BL, b1, b2, b3, b4, b5, b30, b7, PO, b9, b11, b13, b15, b17, b19, by omega⟩ ?_
  simp only [List.set_cons_zero, List.set_cons_succ]
  refine zv 49 118 (.bool true) (fun _ _ => .of) ⟨BL, b1, b2, b3, b4, b5, b30, b7, PO, b9, b11, b13, b15, b17, b19, by omega⟩ ?_
  simp only [List.set_cons_zero, List.set_cons_succ]
  refine zv 50 119 (.agg (cellsOf .u8 (nn (dgE 1)))) (fun _ ⟨BL, b1, b2, b3, b4, b5, b30, b7, PO, b9, b11, b13, b15, b17, b19, z1⟩ => Val.blk 37 _ rfl 0 32 (by kernel_rfl) b17 _ Try.underlying37 rfl (by kernel_rfl) (by (try simp only [nn_len, List.length_cons, List.length_nil, List.length_set, List.length_replicate]); try omega) _ (seg_all' _ (by (try simp only [nn_len, List.length_cons, List.length_nil, List.length_set, List.length_replicate]); try omega))) ⟨BL, b1, b2, b3, b4, b5, b30, b7, PO, b9, b11, b13, b15, b17, b19, by omega⟩ ?_
  simp only [List.set_cons_zero, List.set_cons_succ]
  refine zv 51 120 (.agg (cellsOf .u8 (nn (dgE 1)))) (fun _ ⟨BL, b1, b2, b3, b4, b5, b30, b7, PO, b9, b11, b13, b15, b17, b19, z1⟩ => Val.blk 37 _ rfl 0 32 (by kernel_rfl) b2 _ Try.underlying37 rfl (by kernel_rfl) (by (try simp only [nn_len, List.length_cons, List.length_nil, List.length_set, List.length_replicate]); try omega) _ (seg_all' _ (by (try simp only [nn_len, List.length_cons, List.length_nil, List.length_set, List.length_replicate]); try omega))) ⟨BL, b1, b2, b3, b4, b5, b30, b7, PO, b9, b11, b13, b15, b17, b19, by omega⟩ ?_
  simp only [List.set_cons_zero, List.set_cons_succ]
  refine zv 52 121 (.bool true) (fun _ ⟨BL, b1, b2, b3, b4, b5, b30, b7, PO, b9, b11, b13, b15, b17, b19, z1⟩ => Val.eqA .eql 37 _ (.tmp 119) (.tmp 120) rfl Try.underlying37 Try.underlying5 (by kernel_rfl) (by kernel_rfl) (nn (dgE 1)) (nn (dgE 1)) (by kernel_rfl) (by kernel_rfl) (by rw [nn_len]; exact (dgE_len _)) (by rw [nn_len]; exact (dgE_len _)) (.inl rfl) true (by simp)) ⟨BL, b1, b2, b3, b4, b5, b30, b7, PO, b9, b11, b13, b15, b17, b19, by omega⟩ ?_
  simp only [List.set_cons_zero, List.set_cons_succ]
  refine zv 53 122 (.bool true) (fun _ _ => .of) ⟨BL, b1, b2, b3, b4, b5, b30, b7, PO, b9, b11, b13, b15, b17, b19, by omega⟩ ?_
  simp only [List.set_cons_zero, List.set_cons_succ]
  refine zv 54 123 (.bool true) (fun _ _ => .of) ⟨BL, b1, b2, b3, b4, b5, b30, b7, PO, b9, b11, b13, b15, b17, b19, by omega⟩ ?_
  simp only [List.set_cons_zero, List.set_cons_succ]
  refine zv 55 124 (.int .i64 0) (fun _ _ => .of) ⟨BL, b1, b2, b3, b4, b5, b30, b7, PO, b9, b11, b13, b15, b17, b19, by omega⟩ ?_
  simp only [List.set_cons_zero, List.set_cons_succ]
  refine zv 56 125 (.bool true) (fun _ _ => .of) ⟨BL, b1, b2, b3, b4, b5, b30, b7, PO, b9, b11, b13, b15, b17, b19, by omega⟩ ?_
  simp only [List.set_cons_zero, List.set_cons_succ]
  refine zv 57 126 (.bool true) (fun _ _ => .of) ⟨BL, b1, b2, b3, b4, b5, b30, b7, PO, b9, b11, b13, b15, b17, b19, by omega⟩ ?_
  simp only [List.set_cons_zero, List.set_cons_succ]
  refine zv 58 127 (.bool true) (fun _ _ => .of) ⟨BL, b1, b2, b3, b4, b5, b30, b7, PO, b9, b11, b13, b15, b17, b19, by omega⟩ ?_
  simp only [List.set_cons_zero, List.set_cons_succ]
  refine zv 59 128 (.pointer (some ⟨w31.heap.size, 1, none⟩)) (fun _ _ => .of) ⟨BL, b1, b2, b3, b4, b5, b30, b7, PO, b9, b11, b13, b15, b17, b19, by omega⟩ ?_
  simp only [List.set_cons_zero, List.set_cons_succ]
  refine zv 60 129 (.slice qA 0 qC) (fun _ ⟨BL, b1, b2, b3, b4, b5, b30, b7, PO, b9, b11, b13, b15, b17, b19, z1⟩ => Val.cel1 63 _ rfl w31.heap.size 1 _ (by kernel_rfl) (fun _ => (by kernel_rfl)) b19 rfl) ⟨BL, b1, b2, b3, b4, b5, b30, b7, PO, b9, b11, b13, b15, b17, b19, by omega⟩ ?_
  simp only [List.set_cons_zero, List.set_cons_succ]
  refine zv 61 130 (.int .i64 (0 : Int)) (fun _ _ => .of) ⟨BL, b1, b2, b3, b4, b5, b30, b7, PO, b9, b11, b13, b15, b17, b19, by omega⟩ ?_
  simp only [List.set_cons_zero, List.set_cons_succ]
  refine zv 62 131 (.bool true) (fun _ _ => .of) ⟨BL, b1, b2, b3, b4, b5, b30, b7, PO, b9, b11, b13, b15, b17, b19, by omega⟩ ?_
  simp only [List.set_cons_zero, List.set_cons_succ]
  refine zv 63 132 (.bool true) (fun _ _ => .of) ⟨BL, b1, b2, b3, b4, b5, b30, b7, PO, b9, b11, b13, b15, b17, b19, by omega⟩ ?_
  simp only [List.set_cons_zero, List.set_cons_succ]
  refine zv 64 0 (.bool true) (fun _ _ => .of) ⟨BL, b1, b2, b3, b4, b5, b30, b7, PO, b9, b11, b13, b15, b17, b19, by omega⟩ ?_
  simp only [List.set_cons_zero, List.set_cons_succ]
  refine zd (by kernel_rfl) ?_ _
  refine hK12 _ _ ?_
  refine wp_ret ?_
  (try simp only [Exit.then, Exit.inBlock])
  refine bodyPost_ret (v := .bool true) rT rfl ?_
  exact ⟨rfl, BL.b⟩

end Go.Proofs.Yteaijjefbadnbaa
