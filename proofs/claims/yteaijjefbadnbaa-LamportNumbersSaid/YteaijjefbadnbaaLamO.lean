/-
  lamport.Open.
-/
import Derived.Test.YteaijjefbadnbaaRowsN
namespace Go.Proofs.Yteaijjefbadnbaa
open Go.RowKit
set_option linter.unusedVariables false
set_option linter.unusedSimpArgs false
set_option maxRecDepth 100000
attribute [local irreducible] wpList Code.wp wpAnyZ rowsN fillN secretN halfN

set_option maxHeartbeats 4000000 in
theorem open_any (T : Nat) (tab : List Nat) (ht : tab.length = 72) (w : World) (TB : Blk .u32 w T 26 (nn tab)) (dl S O : List Nat) (hdl : dl.length = 32) (hdb : Bytes (nn dl)) (hS : S.length = 8192) (hO : O.length = 8192) :
    Calls Try.prog 38 #[.pointer (some ⟨T, 0, none⟩), .agg (cellsOf .u8 (nn dl)), .agg (cellsOf .u8 (nn (S ++ O)))] w fun e w' => e = .returned (.agg (cellsOf .u8 (nn (openN tab dl S O)))) ∧ Below w.heap.size w w' := by
  have BL := Bl.refl w
  have hT := TB.lt
  have hkl := keytext_len dl (halvesN tab S) O (halvesN_len _ _) hO
  have hol := ofN_32 tab (keytextN dl (halvesN tab S) O)
  have hz : (List.replicate 8192 0 : List Nat) = fillN (halfF tab S) 0 := (fillN_0 _).symm
  have hso : (nn (S ++ O)).length = 16384 := by rw [nn_len, List.length_append]; omega
  unfold openN
  go_enter Try.func38, Try.ntmps38
  refine wp_seq_k fun K1 hK1 => ?_
  refine cPlain ?_
  refine xBox 4 37 _ ((nn (dl)).map (Value.int .u8)) rfl (cells_toList _ _) ?_
  intro w1 n1
  have zn1 := n1.z
  have b4 := n1.c
  replace b4 : Blk .u8 w1 w.heap.size 37 (nn (dl)) := b4
  replace BL := BL.e0 n1.e
  replace TB := TB.e0 n1.e
  simp only [List.set_cons_zero, List.set_cons_succ]
  refine xBox 5 58 _ ((nn (S ++ O)).map (Value.int .u8)) rfl (cells_toList _ _) ?_
  intro w2 n2
  have zn2 := n2.z
  have b5 := n2.c
  replace b5 : Blk .u8 w2 w1.heap.size 58 (nn (S ++ O)) := b5
  replace BL := BL.e0 n2.e
  replace TB := TB.e0 n2.e
  replace b4 := b4.e0 n2.e
  simp only [List.set_cons_zero, List.set_cons_succ]
  refine xAlloc 6 37 ((nn (List.replicate 32 0)).map (Value.int .u8)) rfl (by kernel_rfl) ?_
  intro w3 n3
  have zn3 := n3.z
  have b6 := n3.c
  replace b6 : Blk .u8 w3 w2.heap.size 37 (nn (List.replicate 32 0)) := b6
  replace BL := BL.e0 n3.e
  replace TB := TB.e0 n3.e
  replace b4 := b4.e0 n3.e
  replace b5 := b5.e0 n3.e
  simp only [List.set_cons_zero, List.set_cons_succ]
  refine wpList_nil ?_
  refine hK1 _ _ ?_
  refine wp_seq_k fun K2 hK2 => ?_
  refine cPlain ?_
  refine xAlloc 7 56 ((nn (List.replicate 8192 0)).map (Value.int .u8)) rfl (by kernel_rfl) ?_
  intro w4 n4
  have zn4 := n4.z
  have b7 := n4.c
  replace b7 : Blk .u8 w4 w3.heap.size 56 (nn (List.replicate 8192 0)) := b7
  replace BL := BL.e0 n4.e
  replace TB := TB.e0 n4.e
  replace b4 := b4.e0 n4.e
  replace b5 := b5.e0 n4.e
  replace b6 := b6.e0 n4.e
  simp only [List.set_cons_zero, List.set_cons_succ]
  refine wpList_nil ?_
  refine hK2 _ _ ?_
  refine wp_seq_k fun K3 hK3 => ?_
  refine wp_seq_k fun K4 hK4 => ?_
  refine cPlain ?_
  refine sv 10 (.pointer (some ⟨w1.heap.size, 0, none⟩)) .of ?_
  simp only [List.set_cons_zero, List.set_cons_succ]
  refine sv 11 (.agg (cellsOf .u8 (nn (S)))) (Val.blk 55 _ rfl 0 8192 (by kernel_rfl) b5 _ Try.underlying55 rfl (by kernel_rfl) (by omega) _ (seg_fst hS)) ?_
  simp only [List.set_cons_zero, List.set_cons_succ]
  refine sv 12 (.int .i64 0) .of ?_
  simp only [List.set_cons_zero, List.set_cons_succ]
  refine wpList_nil ?_
  refine hK4 _ _ ?_
  refine wp_block ?_
  refine cLoop (fun N_ A_ w_ => ∃ (i : Nat), (N_ = 256 - i ∧ (i ≤ 256) ∧ (∃ s1 : Nat → Value, A_ = ⟨[.pointer (some ⟨T, 0, none⟩), .agg (cellsOf .u8 (nn (dl))), .agg (cellsOf .u8 (nn (S ++ O))), undef, .pointer (some ⟨w.heap.size, 0, none⟩), .pointer (some ⟨w1.heap.size, 0, none⟩), .pointer (some ⟨w2.heap.size, 0, none⟩), .pointer (some ⟨w3.heap.size, 0, none⟩), (s1 8), (s1 9), .pointer (some ⟨w1.heap.size, 0, none⟩), .agg (cellsOf .u8 (nn (S))), .int .i64 ((i : Nat) : Int), (s1 13), (s1 14), (s1 15), (s1 16), (s1 17), (s1 18), (s1 19), (s1 20), (s1 21), undef, undef, undef, undef, undef, undef, undef].toArray, []⟩) ∧ Bl w.heap.size w w_ ∧ Blk .u32 w_ T 26 (nn tab) ∧ Blk .u8 w_ w.heap.size 37 (nn (dl)) ∧ Blk .u8 w_ w1.heap.size 58 (nn (S ++ O)) ∧ Blk .u8 w_ w2.heap.size 37 (nn (List.replicate 32 0)) ∧ Blk .u8 w_ w3.heap.size 56 (nn (fillN (halfF tab S) i)) ∧ w4.heap.size ≤ w_.heap.size)) _ ⟨0, rfl, (Nat.zero_le _), cutE, BL, TB, b4, b5, b6, (by rw [← hz]; exact b7), Nat.le_refl _⟩ ?_
  clear BL TB b4 b5 b6 b7
  rintro n_ a_ wl0 ⟨i, rfl, hc0_0, ⟨s1, rfl⟩, BL, TB, b4, b5, b6, b7, zl0⟩
  refine wp_seq_k fun K5 hK5 => ?_
  refine cPlain ?_
  refine sv 13 (.bool (decide (((i : Nat) : Int) < 256))) (Val.cmp .lss 3 _ (.tmp 12) _ rfl .i64 ((i : Nat) : Int) 256 (by kernel_rfl) (by kernel_rfl) (by simp) _ rfl) ?_
  simp only [List.set_cons_zero, List.set_cons_succ]
  refine wpList_nil ?_
  refine hK5 _ _ ?_
  refine wp_seq_k fun K6 hK6 => ?_
  refine cDec (((i : Nat) : Int) < 256) (by kernel_rfl) (fun c13 => ?_) (fun c13 => ?_)
  · skip
    refine wp_skip ?_
    refine hK6 _ _ ?_
    refine wp_seq_k fun K7 hK7 => ?_
    refine wp_block ?_
    refine wp_seq_k fun K8 hK8 => ?_
    have hrl0 := rowN_len (xs := S) (i := i) (by omega)
    have hhl0 := halfF_len tab S i
    have hfl0 := fillN_len (halfF_len tab S) hc0_0
    have hrl : (nn (rowN S i)).length = 32 := by rw [nn_len]; exact rowN_len (by omega)
    have hhl : (nn (halfF tab S i)).length = 32 := by rw [nn_len]; exact halfF_len _ _ _
    have hfl : (nn (fillN (halfF tab S) i)).length = 8192 := by rw [nn_len]; exact fillN_len (halfF_len _ _) (by omega)
    refine cPlain ?_
    refine sv 14 (.int .i64 ((i : Nat) : Int)) .of ?_
    simp only [List.set_cons_zero, List.set_cons_succ]
    refine sv 15 (.agg (cellsOf .u8 (nn (rowN S i)))) (Val.ixA 55 (.tmp 11) (.tmp 12) rfl .u8 (nn S) i 32 (by kernel_rfl) (by kernel_rfl) Try.underlying55 Try.underlying36 (by kernel_rfl) (by omega) _ (seg_rowN _ _ _ (by omega))) ?_
    simp only [List.set_cons_zero, List.set_cons_succ]
    refine xAlloc 9 36 ((nn (List.replicate 32 0)).map (Value.int .u8)) rfl (by kernel_rfl) ?_
    intro w5 n5
    have zn5 := n5.z
    have b9 := n5.c
    replace b9 : Blk .u8 w5 wl0.heap.size 36 (nn (List.replicate 32 0)) := b9
    replace BL := BL.e0 n5.e
    replace TB := TB.e0 n5.e
    replace b4 := b4.e0 n5.e
    replace b5 := b5.e0 n5.e
    replace b6 := b6.e0 n5.e
    replace b7 := b7.e0 n5.e
    simp only [List.set_cons_zero, List.set_cons_succ]
    refine sv 8 (.int .i64 ((i : Nat) : Int)) .of ?_
    simp only [List.set_cons_zero, List.set_cons_succ]
    refine xStoreA 36 (.tmp 9) (.tmp 15) rfl .u8 wl0.heap.size 36 (nn (List.replicate 32 0)) 0 (nn (rowN S i)) (by kernel_rfl) (by kernel_rfl) b9 (by rw [show (nn (rowN S i)).length = 32 by ((try simp only [nn_len, List.length_append, List.length_replicate]); try omega)]; kernel_rfl) (by (try simp only [nn_len, List.length_append, List.length_replicate]); try omega) (nn (rowN S i)) (over_whole _ _ (by (try simp only [nn_len, List.length_append, List.length_replicate]); try omega)) ?_
    intro w6 t1
    have zt1 := t1.z
    have BL_ := BL.ev t1.e (fun i h => show w.heap.size ≤ i by have h : i = wl0.heap.size := h; omega)
    have TB_ := TB.ev t1.e (show ¬ (T = wl0.heap.size) by omega)
    have b4_ := b4.ev t1.e (show ¬ (w.heap.size = wl0.heap.size) by omega)
    have b5_ := b5.ev t1.e (show ¬ (w1.heap.size = wl0.heap.size) by omega)
    have b6_ := b6.ev t1.e (show ¬ (w2.heap.size = wl0.heap.size) by omega)
    have b7_ := b7.ev t1.e (show ¬ (w3.heap.size = wl0.heap.size) by omega)
    replace BL := BL_; clear BL_
    replace TB := TB_; clear TB_
    replace b4 := b4_; clear b4_
    replace b5 := b5_; clear b5_
    replace b6 := b6_; clear b6_
    replace b7 := b7_; clear b7_
    replace b9 : Blk .u8 w6 wl0.heap.size 36 (nn (rowN S i)) := t1.c
    clear t1
    refine wpList_nil ?_
    refine hK8 _ _ ?_
    refine cPlain ?_
    refine sv 16 (.int .i64 ((i : Nat) : Int)) .of ?_
    simp only [List.set_cons_zero, List.set_cons_succ]
    refine sv 17 (.pointer (some ⟨T, 0, none⟩)) .of ?_
    simp only [List.set_cons_zero, List.set_cons_succ]
    refine sv 18 (.agg (cellsOf .u8 (nn (rowN S i)))) (Val.blk 36 _ rfl 0 32 (by kernel_rfl) b9 _ Try.underlying36 rfl (by kernel_rfl) (by (try simp only [nn_len, List.length_append, List.length_replicate]); try omega) _ (seg_all' _ (by (try simp only [nn_len, List.length_append, List.length_replicate]); try omega))) ?_
    simp only [List.set_cons_zero, List.set_cons_succ]
    refine xCall 19 36 #[.pointer (some ⟨T, 0, none⟩), .agg (cellsOf .u8 (nn (rowN S i)))] (by kernel_rfl) ?_
    refine (half_any T tab ht w6 TB (rowN S i) (rowN_len (by omega))).mono ?_
    rintro en w7 ⟨rfl, hb1⟩
    have e1 := belE0 hb1
    have ze1 := e1.size
    replace BL := BL.e0 e1
    replace TB := TB.e0 e1
    replace b4 := b4.e0 e1
    replace b5 := b5.e0 e1
    replace b6 := b6.e0 e1
    replace b7 := b7.e0 e1
    replace b9 := b9.e0 e1
    clear e1
    refine ⟨.agg (cellsOf .u8 (nn (halfF tab S i))), rfl, ?_⟩
    simp only [List.set_cons_zero, List.set_cons_succ]
    refine sv 20 (.pointer (some ⟨w3.heap.size, 0 + i * 32, none⟩)) (Val.idxA 56 (.tmp 7) (.tmp 16) rfl w3.heap.size 0 i (by kernel_rfl) (by kernel_rfl) 32 Try.underlying56 (by kernel_rfl) (by omega)) ?_
    simp only [List.set_cons_zero, List.set_cons_succ]
    refine xStoreA 37 (.tmp 20) (.tmp 19) rfl .u8 w3.heap.size 56 (nn (fillN (halfF tab S) i)) (0 + i * 32) (nn (halfF tab S i)) (by kernel_rfl) (by kernel_rfl) b7 (by rw [show (nn (halfF tab S i)).length = 32 by omega]; kernel_rfl) (by omega) _ rfl ?_
    intro w8 t2
    have zt2 := t2.z
    have BL_ := BL.ev t2.e (fun i h => show w.heap.size ≤ i by have h : i = w3.heap.size := h; omega)
    have TB_ := TB.ev t2.e (show ¬ (T = w3.heap.size) by omega)
    have b4_ := b4.ev t2.e (show ¬ (w.heap.size = w3.heap.size) by omega)
    have b5_ := b5.ev t2.e (show ¬ (w1.heap.size = w3.heap.size) by omega)
    have b6_ := b6.ev t2.e (show ¬ (w2.heap.size = w3.heap.size) by omega)
    have b9_ := b9.ev t2.e (show ¬ (wl0.heap.size = w3.heap.size) by omega)
    replace BL := BL_; clear BL_
    replace TB := TB_; clear TB_
    replace b4 := b4_; clear b4_
    replace b5 := b5_; clear b5_
    replace b6 := b6_; clear b6_
    replace b9 := b9_; clear b9_
    replace b7 : Blk .u8 w8 w3.heap.size 56 (over (nn (fillN (halfF tab S) i)) (0 + i * 32) (nn (halfF tab S i))) := t2.c
    clear t2
    refine wpList_nil ?_
    refine hK7 _ _ ?_
    refine cPlain ?_
    refine sv 21 (.int .i64 (((i : Nat) : Int) + 1)) (Val.add 3 _ (.tmp 12) _ rfl ((i : Nat) : Int) 1 (by kernel_rfl) (by kernel_rfl) (by omega)) ?_
    simp only [List.set_cons_zero, List.set_cons_succ]
    refine sv 12 (.int .i64 (((i : Nat) : Int) + 1)) .of ?_
    simp only [List.set_cons_zero, List.set_cons_succ]
    refine wpList_nil ?_
    refine ⟨_, ?_, i + 1, rfl, (by omega), cutE, BL, TB, b4, b5, b6, (by rw [over_one (halfF_len _ _) (by omega) _ (by omega)] at b7; exact b7), by omega⟩
    omega
  · skip
    have hfin : fillN (halfF tab S) i = halvesN tab S := by rw [show i = 256 by omega, fillN_256]; rfl
    have hfl : (nn (fillN (halfF tab S) i)).length = 8192 := by rw [nn_len]; exact fillN_len (halfF_len _ _) (by omega)
    refine wp_exit ?_
    simp only [Exit.then, Exit.inBlock, ↓reduceIte, Nat.reduceEqDiff]
    refine hK3 _ _ ?_
    refine wp_seq_k fun K9 hK9 => ?_
    refine cPlain ?_
    refine sv 22 (.pointer (some ⟨T, 0, none⟩)) .of ?_
    simp only [List.set_cons_zero, List.set_cons_succ]
    refine sv 23 (.agg (cellsOf .u8 (nn (dl)))) (Val.blk 37 _ rfl 0 32 (by kernel_rfl) b4 _ Try.underlying37 rfl (by kernel_rfl) (by (try simp only [nn_len, List.length_append, List.length_replicate]); try omega) _ (seg_all' _ (by (try simp only [nn_len, List.length_append, List.length_replicate]); try omega))) ?_
    simp only [List.set_cons_zero, List.set_cons_succ]
    refine sv 24 (.agg (cellsOf .u8 (nn (halvesN tab S)))) (Val.blk 56 _ rfl 0 8192 (by kernel_rfl) b7 _ Try.underlying56 rfl (by kernel_rfl) (by omega) _ (by rw [hfin]; exact seg_all' _ (by rw [nn_len]; exact halvesN_len _ _))) ?_
    simp only [List.set_cons_zero, List.set_cons_succ]
    refine sv 25 (.pointer (some ⟨w1.heap.size, 8192, none⟩)) .of ?_
    simp only [List.set_cons_zero, List.set_cons_succ]
    refine sv 26 (.agg (cellsOf .u8 (nn (O)))) (Val.blk 56 _ rfl 8192 8192 (by kernel_rfl) b5 _ Try.underlying56 rfl (by kernel_rfl) (by omega) _ (seg_snd hS hO)) ?_
    simp only [List.set_cons_zero, List.set_cons_succ]
    refine xCall 27 95 #[.agg (cellsOf .u8 (nn (dl))), .agg (cellsOf .u8 (nn (halvesN tab S))), .agg (cellsOf .u8 (nn (O)))] (by kernel_rfl) ?_
    refine (lamtext_any (nn dl) (nn (halvesN tab S)) (nn O) (by rw [nn_len]; exact hdl) hdb (by rw [nn_len]; exact halvesN_len _ _) (by rw [nn_len]; exact hO) wl0).mono ?_
    rintro en w9 ⟨u, rfl, hOw, hb1⟩
    rw [pairsN_nn] at hOw
    replace hOw := hOw.cast (textN_nn 3 (pairsN dl (halvesN tab S) O 256)).symm
    have e2 := belE0 hb1
    have ze2 := e2.size
    replace BL := BL.e0 e2
    replace TB := TB.e0 e2
    replace b4 := b4.e0 e2
    replace b5 := b5.e0 e2
    replace b6 := b6.e0 e2
    replace b7 := b7.e0 e2
    clear e2
    have U : Own 5 .u8 wl0.heap.size w9 u (nn (keytextN dl (halvesN tab S) O)) := hOw
    have lU_1 := U.ge
    refine ⟨u, rfl, ?_⟩
    simp only [List.set_cons_zero, List.set_cons_succ]
    refine xCall 28 20 #[.pointer (some ⟨T, 0, none⟩), u] (by kernel_rfl) ?_
    refine (of_any T tab (keytextN dl (halvesN tab S) O) u ht w9 TB U.sl (by omega)).mono ?_
    rintro en w10 ⟨rfl, hb1⟩
    have e3 := belE0 hb1
    have ze3 := e3.size
    replace BL := BL.e0 e3
    replace TB := TB.e0 e3
    replace b4 := b4.e0 e3
    replace b5 := b5.e0 e3
    replace b6 := b6.e0 e3
    replace b7 := b7.e0 e3
    replace U := U.e0 e3
    clear e3
    refine ⟨.agg (cellsOf .u8 (nn (ofN tab (keytextN dl (halvesN tab S) O)))), rfl, ?_⟩
    simp only [List.set_cons_zero, List.set_cons_succ]
    refine xStoreA 37 (.tmp 6) (.tmp 28) rfl .u8 w2.heap.size 37 (nn (List.replicate 32 0)) 0 (nn (ofN tab (keytextN dl (halvesN tab S) O))) (by kernel_rfl) (by kernel_rfl) b6 (by rw [show (nn (ofN tab (keytextN dl (halvesN tab S) O))).length = 32 by ((try simp only [nn_len, List.length_append, List.length_replicate]); try omega)]; kernel_rfl) (by (try simp only [nn_len, List.length_append, List.length_replicate]); try omega) (nn (ofN tab (keytextN dl (halvesN tab S) O))) (over_whole _ _ (by (try simp only [nn_len, List.length_append, List.length_replicate]); try omega)) ?_
    intro w11 t3
    have zt3 := t3.z
    have BL_ := BL.ev t3.e (fun i h => show w.heap.size ≤ i by have h : i = w2.heap.size := h; omega)
    have TB_ := TB.ev t3.e (show ¬ (T = w2.heap.size) by omega)
    have b4_ := b4.ev t3.e (show ¬ (w.heap.size = w2.heap.size) by omega)
    have b5_ := b5.ev t3.e (show ¬ (w1.heap.size = w2.heap.size) by omega)
    have b7_ := b7.ev t3.e (show ¬ (w3.heap.size = w2.heap.size) by omega)
    have U_ := U.ev t3.e (fun i hi => show ¬ (i = w2.heap.size) by have := lU_1 i hi; omega)
    replace BL := BL_; clear BL_
    replace TB := TB_; clear TB_
    replace b4 := b4_; clear b4_
    replace b5 := b5_; clear b5_
    replace b7 := b7_; clear b7_
    replace U := U_; clear U_
    replace b6 : Blk .u8 w11 w2.heap.size 37 (nn (ofN tab (keytextN dl (halvesN tab S) O))) := t3.c
    clear t3
    refine wpList_nil ?_
    refine hK9 _ _ ?_
    refine wp_ret ?_
    (try simp only [Exit.then, Exit.inBlock])
    refine bodyPost_ret (rC rfl _ w2.heap.size _ _ (by kernel_rfl) b6.cel _ Try.underlying37 rfl (by rw [List.length_map, show (nn (ofN tab (keytextN dl (halvesN tab S) O))).length = 32 by ((try simp only [nn_len, List.length_append, List.length_replicate]); try omega)]; kernel_rfl)) rfl ?_
    exact ⟨rfl, BL.b⟩

end Go.Proofs.Yteaijjefbadnbaa
