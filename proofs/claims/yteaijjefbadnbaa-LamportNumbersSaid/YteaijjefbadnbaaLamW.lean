/-
  lamport.Sign.
-/
import Derived.Test.YteaijjefbadnbaaLamO
namespace Go.Proofs.Yteaijjefbadnbaa
open Go.RowKit
set_option linter.unusedVariables false
set_option linter.unusedSimpArgs false
set_option maxRecDepth 100000
attribute [local irreducible] wpList Code.wp wpAnyZ rowsN fillN secretN halfN

set_option maxHeartbeats 4000000 in
theorem sign_any (T : Nat) (tab : List Nat) (ht : tab.length = 72) (w : World) (TB : Blk .u32 w T 26 (nn tab)) (seed : List Nat) (hs : seed.length = 32) (leaf : Int) (h1 : leaf ≤ 9223372036854775807) (dl : List Nat) (hdl : dl.length = 32) (hdb : Bytes (nn dl)) :
    Calls Try.prog 37 #[.pointer (some ⟨T, 0, none⟩), .agg (cellsOf .u8 (nn seed)), .int .i64 leaf, .agg (cellsOf .u8 (nn dl))] w fun e w' => e = .returned (.agg (cellsOf .u8 (nn (secsN tab seed leaf dl ++ othsN tab seed leaf dl)))) ∧ Below w.heap.size w w' := by
  have BL := Bl.refl w
  have hT := TB.lt
  have hz : (List.replicate 16384 0 : List Nat) = fillN (secF tab seed leaf dl) 0 ++ fillN (othF tab seed leaf dl) 0 := by rw [fillN_0, fillN_0, List.replicate_append_replicate]
  have hsn := secsN_len tab seed leaf dl
  have hon := othsN_len tab seed leaf dl
  go_enter Try.func37, Try.ntmps37
  refine wp_seq_k fun K1 hK1 => ?_
  refine cPlain ?_
  refine xBox 5 36 _ ((nn (seed)).map (Value.int .u8)) rfl (cells_toList _ _) ?_
  intro w1 n1
  have zn1 := n1.z
  have b5 := n1.c
  replace b5 : Blk .u8 w1 w.heap.size 36 (nn (seed)) := b5
  replace BL := BL.e0 n1.e
  replace TB := TB.e0 n1.e
  simp only [List.set_cons_zero, List.set_cons_succ]
  refine xBox 7 37 _ ((nn (dl)).map (Value.int .u8)) rfl (cells_toList _ _) ?_
  intro w2 n2
  have zn2 := n2.z
  have b7 := n2.c
  replace b7 : Blk .u8 w2 w1.heap.size 37 (nn (dl)) := b7
  replace BL := BL.e0 n2.e
  replace TB := TB.e0 n2.e
  replace b5 := b5.e0 n2.e
  simp only [List.set_cons_zero, List.set_cons_succ]
  refine xAlloc 8 58 ((nn (List.replicate 16384 0)).map (Value.int .u8)) rfl (by kernel_rfl) ?_
  intro w3 n3
  have zn3 := n3.z
  have b8 := n3.c
  replace b8 : Blk .u8 w3 w2.heap.size 58 (nn (List.replicate 16384 0)) := b8
  replace BL := BL.e0 n3.e
  replace TB := TB.e0 n3.e
  replace b5 := b5.e0 n3.e
  replace b7 := b7.e0 n3.e
  simp only [List.set_cons_zero, List.set_cons_succ]
  refine wpList_nil ?_
  refine hK1 _ _ ?_
  refine wp_seq_k fun K2 hK2 => ?_
  refine cPlain ?_
  refine xAlloc 9 58 ((nn (List.replicate 16384 0)).map (Value.int .u8)) rfl (by kernel_rfl) ?_
  intro w4 n4
  have zn4 := n4.z
  have b9 := n4.c
  replace b9 : Blk .u8 w4 w3.heap.size 58 (nn (List.replicate 16384 0)) := b9
  replace BL := BL.e0 n4.e
  replace TB := TB.e0 n4.e
  replace b5 := b5.e0 n4.e
  replace b7 := b7.e0 n4.e
  replace b8 := b8.e0 n4.e
  simp only [List.set_cons_zero, List.set_cons_succ]
  refine wpList_nil ?_
  refine hK2 _ _ ?_
  refine wp_seq_k fun K3 hK3 => ?_
  refine wp_seq_k fun K4 hK4 => ?_
  refine cPlain ?_
  refine sv 12 (.int .i64 0) .of ?_
  simp only [List.set_cons_zero, List.set_cons_succ]
  refine wpList_nil ?_
  refine hK4 _ _ ?_
  refine wp_block ?_
  refine cLoop (fun N_ A_ w_ => ∃ (i : Nat), (N_ = 256 - i ∧ (i ≤ 256) ∧ (∃ s1 : Nat → Value, A_ = ⟨[.pointer (some ⟨T, 0, none⟩), .agg (cellsOf .u8 (nn (seed))), .int .i64 leaf, .agg (cellsOf .u8 (nn (dl))), undef, .pointer (some ⟨w.heap.size, 0, none⟩), undef, .pointer (some ⟨w1.heap.size, 0, none⟩), .pointer (some ⟨w2.heap.size, 0, none⟩), .pointer (some ⟨w3.heap.size, 0, none⟩), (s1 10), (s1 11), .int .i64 ((i : Nat) : Int), (s1 13), (s1 14), (s1 15), (s1 16), (s1 17), (s1 18), (s1 19), (s1 20), (s1 21), (s1 22), (s1 23), (s1 24), (s1 25), (s1 26), (s1 27), (s1 28), (s1 29), (s1 30), (s1 31), (s1 32), (s1 33), (s1 34), (s1 35), (s1 36), (s1 37), (s1 38), (s1 39), undef].toArray, []⟩) ∧ Bl w.heap.size w w_ ∧ Blk .u32 w_ T 26 (nn tab) ∧ Blk .u8 w_ w.heap.size 36 (nn (seed)) ∧ Blk .u8 w_ w1.heap.size 37 (nn (dl)) ∧ Blk .u8 w_ w2.heap.size 58 (nn (List.replicate 16384 0)) ∧ Blk .u8 w_ w3.heap.size 58 (nn (fillN (secF tab seed leaf dl) i ++ fillN (othF tab seed leaf dl) i)) ∧ w4.heap.size ≤ w_.heap.size)) _ ⟨0, rfl, (Nat.zero_le _), cutE, BL, TB, b5, b7, b8, (by rw [← hz]; exact b9), Nat.le_refl _⟩ ?_
  clear BL TB b5 b7 b8 b9
  rintro n_ a_ wl0 ⟨i, rfl, hc0_0, ⟨s1, rfl⟩, BL, TB, b5, b7, b8, b9, zl0⟩
  have hff := fillN_len (secF_len tab seed leaf dl) hc0_0
  have hfo := fillN_len (othF_len tab seed leaf dl) hc0_0
  refine wp_seq_k fun K5 hK5 => ?_
  refine cPlain ?_
  refine sv 13 (.bool (decide (((i : Nat) : Int) < 256))) (Val.cmp .lss 3 _ (.tmp 12) _ rfl .i64 ((i : Nat) : Int) 256 (by kernel_rfl) (by kernel_rfl) (by simp) _ rfl) ?_
  simp only [List.set_cons_zero, List.set_cons_succ]
  refine wpList_nil ?_
  refine hK5 _ _ ?_
  refine wp_seq_k fun K6 hK6 => ?_
  refine cDec (((i : Nat) : Int) < 256) (by kernel_rfl) (fun c13 => ?_) (fun c13 => ?_)
  · skip
    refine wp_skip ?_
    refine hK6 _ _ ?_
    refine wp_seq_k fun K7 hK7 => ?_
    refine wp_block ?_
    refine wp_seq_k fun K8 hK8 => ?_
    refine cPlain ?_
    refine sv 14 (.int .i64 ((i : Nat) : Int)) .of ?_
    simp only [List.set_cons_zero, List.set_cons_succ]
    refine sv 10 (.int .i64 ((i : Nat) : Int)) .of ?_
    simp only [List.set_cons_zero, List.set_cons_succ]
    refine wpList_nil ?_
    refine hK8 _ _ ?_
    refine wp_seq_k fun K9 hK9 => ?_
    refine cPlain ?_
    refine sv 15 (.agg (cellsOf .u8 (nn (dl)))) (Val.blk 37 _ rfl 0 32 (by kernel_rfl) b7 _ Try.underlying37 rfl (by kernel_rfl) (by (try simp only [nn_len, List.length_append, List.length_replicate]); try omega) _ (seg_all' _ (by (try simp only [nn_len, List.length_append, List.length_replicate]); try omega))) ?_
    simp only [List.set_cons_zero, List.set_cons_succ]
    refine sv 16 (.int .i64 ((i : Nat) : Int)) .of ?_
    simp only [List.set_cons_zero, List.set_cons_succ]
    refine xCall 17 32 #[.agg (cellsOf .u8 (nn (dl))), .int .i64 ((i : Nat) : Int)] (by kernel_rfl) ?_
    refine (bit_any (nn dl) (by rw [nn_len]; exact hdl) hdb (i : Int) (by omega) (by omega) wl0).mono ?_
    rintro en w5 ⟨rfl, hw⟩
    have e1 : E0 wl0 w5 := (hw ▸ alloc_e0 _ _)
    have ze1 := e1.size
    replace BL := BL.e0 e1
    replace TB := TB.e0 e1
    replace b5 := b5.e0 e1
    replace b7 := b7.e0 e1
    replace b8 := b8.e0 e1
    replace b9 := b9.e0 e1
    clear e1
    refine ⟨.int .i64 (bitF (nn dl) (i : Int)), rfl, ?_⟩
    simp only [List.set_cons_zero, List.set_cons_succ]
    refine sv 11 (.int .i64 (bitF (nn dl) (i : Int))) .of ?_
    simp only [List.set_cons_zero, List.set_cons_succ]
    refine wpList_nil ?_
    refine hK9 _ _ ?_
    refine wp_seq_k fun K10 hK10 => ?_
    have hb01 := bitF_01 (nn dl) hdb (i : Int)
    have hl1 : (nn (secF tab seed leaf dl i)).length = 32 := by rw [nn_len]; exact secF_len _ _ _ _ _
    have hl2 : (nn (othF tab seed leaf dl i)).length = 32 := by rw [nn_len]; exact othF_len _ _ _ _ _
    have hfl : (nn (fillN (secF tab seed leaf dl) i ++ fillN (othF tab seed leaf dl) i)).length = 16384 := by rw [nn_len, List.length_append, fillN_len (secF_len _ _ _ _) (by omega), fillN_len (othF_len _ _ _ _) (by omega)]
    refine cPlain ?_
    refine sv 18 (.int .i64 ((i : Nat) : Int)) .of ?_
    simp only [List.set_cons_zero, List.set_cons_succ]
    refine sv 19 (.pointer (some ⟨T, 0, none⟩)) .of ?_
    simp only [List.set_cons_zero, List.set_cons_succ]
    refine sv 20 (.agg (cellsOf .u8 (nn (seed)))) (Val.blk 36 _ rfl 0 32 (by kernel_rfl) b5 _ Try.underlying36 rfl (by kernel_rfl) (by (try simp only [nn_len, List.length_append, List.length_replicate]); try omega) _ (seg_all' _ (by (try simp only [nn_len, List.length_append, List.length_replicate]); try omega))) ?_
    simp only [List.set_cons_zero, List.set_cons_succ]
    refine sv 21 (.int .i64 leaf) .of ?_
    simp only [List.set_cons_zero, List.set_cons_succ]
    refine sv 22 (.int .i64 ((i : Nat) : Int)) .of ?_
    simp only [List.set_cons_zero, List.set_cons_succ]
    refine sv 23 (.int .i64 (bitF (nn dl) (i : Int))) .of ?_
    simp only [List.set_cons_zero, List.set_cons_succ]
    refine xCall 24 34 #[.pointer (some ⟨T, 0, none⟩), .agg (cellsOf .u8 (nn (seed))), .int .i64 leaf, .int .i64 ((i : Nat) : Int), .int .i64 (bitF (nn dl) (i : Int))] (by kernel_rfl) ?_
    refine (secret_any T tab ht w5 TB seed hs leaf (i : Int) (bitF (nn dl) (i : Int)) h1 (by omega) (by omega)).mono ?_
    rintro en w6 ⟨rfl, hb1⟩
    have e2 := belE0 hb1
    have ze2 := e2.size
    replace BL := BL.e0 e2
    replace TB := TB.e0 e2
    replace b5 := b5.e0 e2
    replace b7 := b7.e0 e2
    replace b8 := b8.e0 e2
    replace b9 := b9.e0 e2
    clear e2
    refine ⟨.agg (cellsOf .u8 (nn (secF tab seed leaf dl i))), rfl, ?_⟩
    simp only [List.set_cons_zero, List.set_cons_succ]
    refine sv 25 (.pointer (some ⟨w3.heap.size, 0, none⟩)) .of ?_
    simp only [List.set_cons_zero, List.set_cons_succ]
    refine sv 26 (.pointer (some ⟨w3.heap.size, 0 + i * 32, none⟩)) (Val.idxA 55 (.tmp 25) (.tmp 18) rfl w3.heap.size 0 i (by kernel_rfl) (by kernel_rfl) 32 Try.underlying55 (by kernel_rfl) (by omega)) ?_
    simp only [List.set_cons_zero, List.set_cons_succ]
    refine xStoreA 36 (.tmp 26) (.tmp 24) rfl .u8 w3.heap.size 58 (nn (fillN (secF tab seed leaf dl) i ++ fillN (othF tab seed leaf dl) i)) (0 + i * 32) (nn (secF tab seed leaf dl i)) (by kernel_rfl) (by kernel_rfl) b9 (by rw [show (nn (secF tab seed leaf dl i)).length = 32 by omega]; kernel_rfl) (by omega) _ rfl ?_
    intro w7 t1
    have zt1 := t1.z
    have BL_ := BL.ev t1.e (fun i h => show w.heap.size ≤ i by have h : i = w3.heap.size := h; omega)
    have TB_ := TB.ev t1.e (show ¬ (T = w3.heap.size) by omega)
    have b5_ := b5.ev t1.e (show ¬ (w.heap.size = w3.heap.size) by omega)
    have b7_ := b7.ev t1.e (show ¬ (w1.heap.size = w3.heap.size) by omega)
    have b8_ := b8.ev t1.e (show ¬ (w2.heap.size = w3.heap.size) by omega)
    replace BL := BL_; clear BL_
    replace TB := TB_; clear TB_
    replace b5 := b5_; clear b5_
    replace b7 := b7_; clear b7_
    replace b8 := b8_; clear b8_
    replace b9 : Blk .u8 w7 w3.heap.size 58 (over (nn (fillN (secF tab seed leaf dl) i ++ fillN (othF tab seed leaf dl) i)) (0 + i * 32) (nn (secF tab seed leaf dl i))) := t1.c
    clear t1
    skip
    refine wpList_nil ?_
    refine hK10 _ _ ?_
    have hov : (over (nn (fillN (secF tab seed leaf dl) i ++ fillN (othF tab seed leaf dl) i)) (0 + i * 32) (nn (secF tab seed leaf dl i))).length = 16384 := by rw [over_length _ _ _ (by omega)]; exact hfl
    refine cPlain ?_
    refine sv 27 (.int .i64 ((i : Nat) : Int)) .of ?_
    simp only [List.set_cons_zero, List.set_cons_succ]
    refine sv 28 (.pointer (some ⟨T, 0, none⟩)) .of ?_
    simp only [List.set_cons_zero, List.set_cons_succ]
    refine sv 29 (.pointer (some ⟨T, 0, none⟩)) .of ?_
    simp only [List.set_cons_zero, List.set_cons_succ]
    refine sv 30 (.agg (cellsOf .u8 (nn (seed)))) (Val.blk 36 _ rfl 0 32 (by kernel_rfl) b5 _ Try.underlying36 rfl (by kernel_rfl) (by (try simp only [nn_len, List.length_append, List.length_replicate]); try omega) _ (seg_all' _ (by (try simp only [nn_len, List.length_append, List.length_replicate]); try omega))) ?_
    simp only [List.set_cons_zero, List.set_cons_succ]
    refine sv 31 (.int .i64 leaf) .of ?_
    simp only [List.set_cons_zero, List.set_cons_succ]
    refine sv 32 (.int .i64 ((i : Nat) : Int)) .of ?_
    simp only [List.set_cons_zero, List.set_cons_succ]
    refine sv 33 (.int .i64 (bitF (nn dl) (i : Int))) .of ?_
    simp only [List.set_cons_zero, List.set_cons_succ]
    refine sv 34 (.int .i64 (1 - (bitF (nn dl) (i : Int)))) (Val.sub 3 _ _ (.tmp 33) rfl 1 (bitF (nn dl) (i : Int)) (by kernel_rfl) (by kernel_rfl) (by omega)) ?_
    simp only [List.set_cons_zero, List.set_cons_succ]
    refine xCall 35 34 #[.pointer (some ⟨T, 0, none⟩), .agg (cellsOf .u8 (nn (seed))), .int .i64 leaf, .int .i64 ((i : Nat) : Int), .int .i64 (1 - (bitF (nn dl) (i : Int)))] (by kernel_rfl) ?_
    refine (secret_any T tab ht w7 TB seed hs leaf (i : Int) (1 - bitF (nn dl) (i : Int)) h1 (by omega) (by omega)).mono ?_
    rintro en w8 ⟨rfl, hb1⟩
    have e3 := belE0 hb1
    have ze3 := e3.size
    replace BL := BL.e0 e3
    replace TB := TB.e0 e3
    replace b5 := b5.e0 e3
    replace b7 := b7.e0 e3
    replace b8 := b8.e0 e3
    replace b9 := b9.e0 e3
    clear e3
    refine ⟨.agg (cellsOf .u8 (nn (secretN tab seed leaf (i : Int) (1 - bitF (nn dl) (i : Int))))), rfl, ?_⟩
    simp only [List.set_cons_zero, List.set_cons_succ]
    refine xCall 36 36 #[.pointer (some ⟨T, 0, none⟩), .agg (cellsOf .u8 (nn (secretN tab seed leaf (i : Int) (1 - bitF (nn dl) (i : Int)))))] (by kernel_rfl) ?_
    refine (half_any T tab ht w8 TB (secretN tab seed leaf (i : Int) (1 - bitF (nn dl) (i : Int))) (secretN_len _ _ _ _ _)).mono ?_
    rintro en w9 ⟨rfl, hb1⟩
    have e4 := belE0 hb1
    have ze4 := e4.size
    replace BL := BL.e0 e4
    replace TB := TB.e0 e4
    replace b5 := b5.e0 e4
    replace b7 := b7.e0 e4
    replace b8 := b8.e0 e4
    replace b9 := b9.e0 e4
    clear e4
    refine ⟨.agg (cellsOf .u8 (nn (othF tab seed leaf dl i))), rfl, ?_⟩
    simp only [List.set_cons_zero, List.set_cons_succ]
    refine sv 37 (.pointer (some ⟨w3.heap.size, 8192, none⟩)) .of ?_
    simp only [List.set_cons_zero, List.set_cons_succ]
    refine sv 38 (.pointer (some ⟨w3.heap.size, 8192 + i * 32, none⟩)) (Val.idxA 56 (.tmp 37) (.tmp 27) rfl w3.heap.size 8192 i (by kernel_rfl) (by kernel_rfl) 32 Try.underlying56 (by kernel_rfl) (by omega)) ?_
    simp only [List.set_cons_zero, List.set_cons_succ]
    refine xStoreA 37 (.tmp 38) (.tmp 36) rfl .u8 w3.heap.size 58 (over (nn (fillN (secF tab seed leaf dl) i ++ fillN (othF tab seed leaf dl) i)) (0 + i * 32) (nn (secF tab seed leaf dl i))) (8192 + i * 32) (nn (othF tab seed leaf dl i)) (by kernel_rfl) (by kernel_rfl) b9 (by rw [show (nn (othF tab seed leaf dl i)).length = 32 by omega]; kernel_rfl) (by omega) _ rfl ?_
    intro w10 t2
    have zt2 := t2.z
    have BL_ := BL.ev t2.e (fun i h => show w.heap.size ≤ i by have h : i = w3.heap.size := h; omega)
    have TB_ := TB.ev t2.e (show ¬ (T = w3.heap.size) by omega)
    have b5_ := b5.ev t2.e (show ¬ (w.heap.size = w3.heap.size) by omega)
    have b7_ := b7.ev t2.e (show ¬ (w1.heap.size = w3.heap.size) by omega)
    have b8_ := b8.ev t2.e (show ¬ (w2.heap.size = w3.heap.size) by omega)
    replace BL := BL_; clear BL_
    replace TB := TB_; clear TB_
    replace b5 := b5_; clear b5_
    replace b7 := b7_; clear b7_
    replace b8 := b8_; clear b8_
    replace b9 : Blk .u8 w10 w3.heap.size 58 (over (over (nn (fillN (secF tab seed leaf dl) i ++ fillN (othF tab seed leaf dl) i)) (0 + i * 32) (nn (secF tab seed leaf dl i))) (8192 + i * 32) (nn (othF tab seed leaf dl i))) := t2.c
    clear t2
    refine wpList_nil ?_
    refine hK7 _ _ ?_
    refine cPlain ?_
    refine sv 39 (.int .i64 (((i : Nat) : Int) + 1)) (Val.add 3 _ (.tmp 12) _ rfl ((i : Nat) : Int) 1 (by kernel_rfl) (by kernel_rfl) (by omega)) ?_
    simp only [List.set_cons_zero, List.set_cons_succ]
    refine sv 12 (.int .i64 (((i : Nat) : Int) + 1)) .of ?_
    simp only [List.set_cons_zero, List.set_cons_succ]
    refine wpList_nil ?_
    refine ⟨_, ?_, i + 1, rfl, (by omega), cutE, BL, TB, b5, b7, b8, (by rw [over_fst (secF_len _ _ _ _) _ (by omega) _ (by omega), over_snd (othF_len _ _ _ _) (fillN_len (secF_len _ _ _ _) (by omega)) (by omega) _ (by omega)] at b9; exact b9), by omega⟩
    omega
  · skip
    have hfin : fillN (secF tab seed leaf dl) i ++ fillN (othF tab seed leaf dl) i = secsN tab seed leaf dl ++ othsN tab seed leaf dl := by rw [show i = 256 by omega, fillN_256, fillN_256]; rfl
    refine wp_exit ?_
    simp only [Exit.then, Exit.inBlock, ↓reduceIte, Nat.reduceEqDiff]
    refine hK3 _ _ ?_
    refine wp_seq_k fun K11 hK11 => ?_
    refine cPlain ?_
    refine sv 40 (.agg (cellsOf .u8 (nn (fillN (secF tab seed leaf dl) i ++ fillN (othF tab seed leaf dl) i)))) (Val.blk 58 _ rfl 0 16384 (by kernel_rfl) b9 _ Try.underlying58 rfl (by kernel_rfl) (by (try simp only [nn_len, List.length_append, List.length_replicate]); try omega) _ (seg_all' _ (by (try simp only [nn_len, List.length_append, List.length_replicate]); try omega))) ?_
    simp only [List.set_cons_zero, List.set_cons_succ]
    refine xStoreA 58 (.tmp 8) (.tmp 40) rfl .u8 w2.heap.size 58 (nn (List.replicate 16384 0)) 0 (nn (fillN (secF tab seed leaf dl) i ++ fillN (othF tab seed leaf dl) i)) (by kernel_rfl) (by kernel_rfl) b8 (by rw [show (nn (fillN (secF tab seed leaf dl) i ++ fillN (othF tab seed leaf dl) i)).length = 16384 by ((try simp only [nn_len, List.length_append, List.length_replicate]); try omega)]; kernel_rfl) (by (try simp only [nn_len, List.length_append, List.length_replicate]); try omega) (nn (fillN (secF tab seed leaf dl) i ++ fillN (othF tab seed leaf dl) i)) (over_whole _ _ (by (try simp only [nn_len, List.length_append, List.length_replicate]); try omega)) ?_
    intro w11 t3
    have zt3 := t3.z
    have BL_ := BL.ev t3.e (fun i h => show w.heap.size ≤ i by have h : i = w2.heap.size := h; omega)
    have TB_ := TB.ev t3.e (show ¬ (T = w2.heap.size) by omega)
    have b5_ := b5.ev t3.e (show ¬ (w.heap.size = w2.heap.size) by omega)
    have b7_ := b7.ev t3.e (show ¬ (w1.heap.size = w2.heap.size) by omega)
    have b9_ := b9.ev t3.e (show ¬ (w3.heap.size = w2.heap.size) by omega)
    replace BL := BL_; clear BL_
    replace TB := TB_; clear TB_
    replace b5 := b5_; clear b5_
    replace b7 := b7_; clear b7_
    replace b9 := b9_; clear b9_
    replace b8 : Blk .u8 w11 w2.heap.size 58 (nn (fillN (secF tab seed leaf dl) i ++ fillN (othF tab seed leaf dl) i)) := t3.c
    clear t3
    refine wpList_nil ?_
    refine hK11 _ _ ?_
    refine wp_ret ?_
    (try simp only [Exit.then, Exit.inBlock])
    refine bodyPost_ret (rC rfl _ w2.heap.size _ _ (by kernel_rfl) b8.cel _ Try.underlying58 rfl (by rw [List.length_map, show (nn (fillN (secF tab seed leaf dl) i ++ fillN (othF tab seed leaf dl) i)).length = 16384 by ((try simp only [nn_len, List.length_append, List.length_replicate]); try omega)]; kernel_rfl)) rfl ?_
    rw [hfin]
    exact ⟨rfl, BL.b⟩

end Go.Proofs.Yteaijjefbadnbaa
