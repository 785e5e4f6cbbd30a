/-
  lamport.Key; LamportSigns, LamportTold: the walks.
-/
import Derived.Test.YtlmadkldiidkaaaLamW
import Derived.Test.YtlmadkldiidkaaaAwake09
namespace Go.Proofs.Ytlmadkldiidkaaa
open Go.RowKit
set_option linter.unusedVariables false
set_option linter.unusedSimpArgs false
set_option maxRecDepth 100000
attribute [local irreducible] wpList Code.wp wpAnyZ rowsN fillN secretN halfN
theorem bytes_zero : Bytes (nn (List.replicate 32 0)) := bytes_nn fun n hn => by rw [List.eq_of_mem_replicate hn]; omega
def keyL (tab seed : List Nat) (leaf : Int) : List Nat := openN tab (List.replicate 32 0) (secsN tab seed leaf (List.replicate 32 0)) (othsN tab seed leaf (List.replicate 32 0))
theorem keyL_len (tab seed : List Nat) (leaf : Int) : (keyL tab seed leaf).length = 32 := by unfold keyL openN; exact ofN_32 _ _
theorem open_key (tab seed : List Nat) (leaf : Int) (dl : List Nat) (hd : Bytes (nn dl)) : openN tab dl (secsN tab seed leaf dl) (othsN tab seed leaf dl) = keyL tab seed leaf := open_same tab seed leaf dl _ hd bytes_zero

set_option maxHeartbeats 4000000 in
theorem key_any (T : Nat) (tab : List Nat) (ht : tab.length = 72) (w : World) (TB : Blk .u32 w T 26 (nn tab)) (seed : List Nat) (hs : seed.length = 32) (leaf : Int) (h1 : leaf ≤ 9223372036854775807) :
    Calls Try.prog 20 #[.pointer (some ⟨T, 0, none⟩), .agg (cellsOf .u8 (nn seed)), .int .i64 leaf] w fun e w' => e = .returned (.agg (cellsOf .u8 (nn (keyL tab seed leaf)))) ∧ Below w.heap.size w w' := by
  have BL := Bl.refl w
  have hT := TB.lt
  have hkl := keyL_len tab seed leaf
  go_enter Try.func20, Try.ntmps20
  refine wp_seq_k fun K1 hK1 => ?_
  refine cPlain ?_
  refine xBox 4 27 _ ((nn (seed)).map (Value.int .u8)) rfl (cells_toList _ _) ?_
  intro w1 n1
  have zn1 := n1.z
  have b4 := n1.c
  replace b4 : Blk .u8 w1 w.heap.size 27 (nn (seed)) := b4
  replace BL := BL.e0 n1.e
  replace TB := TB.e0 n1.e
  simp only [List.set_cons_zero, List.set_cons_succ]
  refine xAlloc 6 28 ((nn (List.replicate 32 0)).map (Value.int .u8)) rfl (by kernel_rfl) ?_
  intro w2 n2
  have zn2 := n2.z
  have b6 := n2.c
  replace b6 : Blk .u8 w2 w1.heap.size 28 (nn (List.replicate 32 0)) := b6
  replace BL := BL.e0 n2.e
  replace TB := TB.e0 n2.e
  replace b4 := b4.e0 n2.e
  simp only [List.set_cons_zero, List.set_cons_succ]
  refine wpList_nil ?_
  refine hK1 _ _ ?_
  refine wp_seq_k fun K2 hK2 => ?_
  refine cPlain ?_
  refine xAlloc 7 28 ((nn (List.replicate 32 0)).map (Value.int .u8)) rfl (by kernel_rfl) ?_
  intro w3 n3
  have zn3 := n3.z
  have b7 := n3.c
  replace b7 : Blk .u8 w3 w2.heap.size 28 (nn (List.replicate 32 0)) := b7
  replace BL := BL.e0 n3.e
  replace TB := TB.e0 n3.e
  replace b4 := b4.e0 n3.e
  replace b6 := b6.e0 n3.e
  simp only [List.set_cons_zero, List.set_cons_succ]
  refine wpList_nil ?_
  refine hK2 _ _ ?_
  refine wp_seq_k fun K3 hK3 => ?_
  have e1 := drew_e0 w3
  refine zg (fun w_ => Bl w.heap.size w w_ ∧ Blk .u32 w_ T 26 (nn tab) ∧ Blk .u8 w_ w.heap.size 27 (nn (seed)) ∧ Blk .u8 w_ w1.heap.size 28 (nn (List.replicate 32 0)) ∧ Blk .u8 w_ w2.heap.size 28 (nn (List.replicate 32 0)) ∧ w3.heap.size ≤ w_.heap.size) (fun w_ => Bl w.heap.size w w_ ∧ Blk .u32 w_ T 26 (nn tab) ∧ Blk .u8 w_ w.heap.size 27 (nn (seed)) ∧ Blk .u8 w_ w1.heap.size 28 (nn (List.replicate 32 0)) ∧ Blk .u8 w_ w2.heap.size 28 (nn (List.replicate 32 0)) ∧ w3.heap.size ≤ w_.heap.size) 8 9 ⟨BL.e0 e1, TB.e0 e1, b4.e0 e1, b6.e0 e1, b7.e0 e1, Nat.le_refl _⟩ ?_
  clear BL TB b4 b6 b7
  clear e1
  intro w4
  rintro ⟨BL, TB, b4, b6, b7, z1⟩
  refine zv 0 8 (.pointer (some ⟨T, 0, none⟩)) (fun _ _ => .of) ⟨BL, TB, b4, b6, b7, by omega⟩ ?_
  simp only [List.set_cons_zero, List.set_cons_succ]
  refine zv 1 9 (.agg (cellsOf .u8 (nn (List.replicate 32 0)))) (fun _ ⟨BL, TB, b4, b6, b7, z1⟩ => Val.blk 28 _ rfl 0 32 (by kernel_rfl) b7 _ Try.underlying28 rfl (by kernel_rfl) (by (try simp only [nn_len, List.length_cons, List.length_nil, List.length_set, List.length_replicate]); try omega) _ (seg_all' _ (by (try simp only [nn_len, List.length_cons, List.length_nil, List.length_set, List.length_replicate]); try omega))) ⟨BL, TB, b4, b6, b7, by omega⟩ ?_
  simp only [List.set_cons_zero, List.set_cons_succ]
  refine zv 2 10 (.pointer (some ⟨T, 0, none⟩)) (fun _ _ => .of) ⟨BL, TB, b4, b6, b7, by omega⟩ ?_
  simp only [List.set_cons_zero, List.set_cons_succ]
  refine zv 3 11 (.agg (cellsOf .u8 (nn (seed)))) (fun _ ⟨BL, TB, b4, b6, b7, z1⟩ => Val.blk 27 _ rfl 0 32 (by kernel_rfl) b4 _ Try.underlying27 rfl (by kernel_rfl) (by (try simp only [nn_len, List.length_cons, List.length_nil, List.length_set, List.length_replicate]); try omega) _ (seg_all' _ (by (try simp only [nn_len, List.length_cons, List.length_nil, List.length_set, List.length_replicate]); try omega))) ⟨BL, TB, b4, b6, b7, by omega⟩ ?_
  simp only [List.set_cons_zero, List.set_cons_succ]
  refine zv 4 12 (.int .i64 leaf) (fun _ _ => .of) ⟨BL, TB, b4, b6, b7, by omega⟩ ?_
  simp only [List.set_cons_zero, List.set_cons_succ]
  refine zv 5 13 (.agg (cellsOf .u8 (nn (List.replicate 32 0)))) (fun _ ⟨BL, TB, b4, b6, b7, z1⟩ => Val.blk 28 _ rfl 0 32 (by kernel_rfl) b7 _ Try.underlying28 rfl (by kernel_rfl) (by (try simp only [nn_len, List.length_cons, List.length_nil, List.length_set, List.length_replicate]); try omega) _ (seg_all' _ (by (try simp only [nn_len, List.length_cons, List.length_nil, List.length_set, List.length_replicate]); try omega))) ⟨BL, TB, b4, b6, b7, by omega⟩ ?_
  simp only [List.set_cons_zero, List.set_cons_succ]
  refine zo1 6 rfl ?_
  refine xCall 14 15 #[.pointer (some ⟨T, 0, none⟩), .agg (cellsOf .u8 (nn (seed))), .int .i64 leaf, .agg (cellsOf .u8 (nn (List.replicate 32 0)))] (by kernel_rfl) ?_
  refine (sign_any T tab ht w4 TB seed hs leaf h1 (List.replicate 32 0) rfl bytes_zero).mono ?_
  rintro en w5 ⟨rfl, hb1⟩
  have e2 := belE0 hb1
  have ze2 := e2.size
  replace BL := BL.e0 e2
  replace TB := TB.e0 e2
  replace b4 := b4.e0 e2
  replace b6 := b6.e0 e2
  replace b7 := b7.e0 e2
  clear e2
  refine ⟨.agg (cellsOf .u8 (nn (secsN tab seed leaf (List.replicate 32 0) ++ othsN tab seed leaf (List.replicate 32 0)))), rfl, ?_⟩
  refine ze 6 ⟨BL, TB, b4, b6, b7, by omega⟩ ?_
  simp only [List.set_cons_zero, List.set_cons_succ]
  refine zo1 7 rfl ?_
  refine xCall 15 21 #[.pointer (some ⟨T, 0, none⟩), .agg (cellsOf .u8 (nn (List.replicate 32 0))), .agg (cellsOf .u8 (nn (secsN tab seed leaf (List.replicate 32 0) ++ othsN tab seed leaf (List.replicate 32 0))))] (by kernel_rfl) ?_
  refine (open_any T tab ht w5 TB (List.replicate 32 0) (secsN tab seed leaf (List.replicate 32 0)) (othsN tab seed leaf (List.replicate 32 0)) rfl bytes_zero (secsN_len _ _ _ _) (othsN_len _ _ _ _)).mono ?_
  rintro en w6 ⟨rfl, hb1⟩
  have e3 := belE0 hb1
  have ze3 := e3.size
  replace BL := BL.e0 e3
  replace TB := TB.e0 e3
  replace b4 := b4.e0 e3
  replace b6 := b6.e0 e3
  replace b7 := b7.e0 e3
  clear e3
  refine ⟨.agg (cellsOf .u8 (nn (keyL tab seed leaf))), rfl, ?_⟩
  refine ze 7 ⟨BL, TB, b4, b6, b7, by omega⟩ ?_
  simp only [List.set_cons_zero, List.set_cons_succ]
  refine zo1 8 rfl ?_
  refine xStoreA 28 (.tmp 6) (.tmp 15) rfl .u8 w1.heap.size 28 (nn (List.replicate 32 0)) 0 (nn (keyL tab seed leaf)) (by kernel_rfl) (by kernel_rfl) b6 (by rw [show (nn (keyL tab seed leaf)).length = 32 by ((try simp only [nn_len, List.length_cons, List.length_nil, List.length_set, List.length_replicate]); try omega)]; kernel_rfl) (by (try simp only [nn_len, List.length_cons, List.length_nil, List.length_set, List.length_replicate]); try omega) (nn (keyL tab seed leaf)) (over_whole _ _ (by (try simp only [nn_len, List.length_cons, List.length_nil, List.length_set, List.length_replicate]); try omega)) ?_
  intro w7 t1
  have zt1 := t1.z
  have BL_ := BL.ev t1.e (fun i h => show w.heap.size ≤ i by have h : i = w1.heap.size := h; omega)
  have TB_ := TB.ev t1.e (show ¬ (T = w1.heap.size) by omega)
  have b4_ := b4.ev t1.e (show ¬ (w.heap.size = w1.heap.size) by omega)
  have b7_ := b7.ev t1.e (show ¬ (w2.heap.size = w1.heap.size) by omega)
  replace BL := BL_; clear BL_
  replace TB := TB_; clear TB_
  replace b4 := b4_; clear b4_
  replace b7 := b7_; clear b7_
  replace b6 : Blk .u8 w7 w1.heap.size 28 (nn (keyL tab seed leaf)) := t1.c
  clear t1
  refine zz 8 ?_
  refine zd (by kernel_rfl) ?_ _
  refine hK3 _ _ ?_
  refine wp_ret ?_
  (try simp only [Exit.then, Exit.inBlock])
  refine bodyPost_ret (rC rfl _ w1.heap.size _ _ (by kernel_rfl) b6.cel _ Try.underlying28 rfl (by rw [List.length_map, show (nn (keyL tab seed leaf)).length = 32 by ((try simp only [nn_len, List.length_cons, List.length_nil, List.length_set, List.length_replicate]); try omega)]; kernel_rfl)) rfl ?_
  exact ⟨rfl, BL.b⟩

set_option maxHeartbeats 4000000 in
theorem lamportSigns_walk (tab : List Nat) (ht : tab.length = 72) (w : World) (seed : List Nat) (hs : seed.length = 32) (leaf : Int) (h1 : leaf ≤ 9223372036854775807) (dl el : List Nat) (hdl : dl.length = 32) (hel : el.length = 32) (hdb : Bytes (nn dl)) (heb : Bytes (nn el)) :
    Calls Try.prog 4 #[.agg (cellsOf .u32 (nn tab)), .agg (cellsOf .u8 (nn seed)), .int .i64 leaf, .agg (cellsOf .u8 (nn dl)), .agg (cellsOf .u8 (nn el))] w fun e w' => e = .returned (.bool true) ∧ Below w.heap.size w w' := by
  have BL := Bl.refl w
  have hkl := keyL_len tab seed leaf
  have hS := secsN_len tab seed leaf dl
  have hO := othsN_len tab seed leaf dl
  have hz : (List.replicate 8192 0 : List Nat) = fillN (halfF tab (secsN tab seed leaf dl)) 0 := (fillN_0 _).symm
  have hso : (nn (secsN tab seed leaf (dl) ++ othsN tab seed leaf (dl))).length = 16384 := by rw [nn_len, List.length_append]; omega
  have hkt := keytext_len dl (halvesN tab (secsN tab seed leaf dl)) (othsN tab seed leaf dl) (halvesN_len _ _) hO
  have hof : ofN tab (keytextN dl (halvesN tab (secsN tab seed leaf dl)) (othsN tab seed leaf dl)) = keyL tab seed leaf := open_key tab seed leaf dl hdb
  go_enter Try.func4, Try.ntmps4
  refine wp_seq_k fun K1 hK1 => ?_
  refine cPlain ?_
  refine xBox 5 26 _ ((nn tab).map (Value.int .u32)) rfl (cells_toList _ _) ?_
  intro w1 n1
  have zn1 := n1.z
  have b5 := n1.c
  replace b5 : Blk .u32 w1 w.heap.size 26 (nn tab) := b5
  replace BL := BL.e0 n1.e
  simp only [List.set_cons_zero, List.set_cons_succ]
  refine xBox 6 27 _ ((nn (seed)).map (Value.int .u8)) rfl (cells_toList _ _) ?_
  intro w2 n2
  have zn2 := n2.z
  have b6 := n2.c
  replace b6 : Blk .u8 w2 w1.heap.size 27 (nn (seed)) := b6
  replace BL := BL.e0 n2.e
  replace b5 := b5.e0 n2.e
  simp only [List.set_cons_zero, List.set_cons_succ]
  refine xBox 8 28 _ ((nn (dl)).map (Value.int .u8)) rfl (cells_toList _ _) ?_
  intro w3 n3
  have zn3 := n3.z
  have b8 := n3.c
  replace b8 : Blk .u8 w3 w2.heap.size 28 (nn (dl)) := b8
  replace BL := BL.e0 n3.e
  replace b5 := b5.e0 n3.e
  replace b6 := b6.e0 n3.e
  simp only [List.set_cons_zero, List.set_cons_succ]
  refine xBox 9 28 _ ((nn (el)).map (Value.int .u8)) rfl (cells_toList _ _) ?_
  intro w4 n4
  have zn4 := n4.z
  have b9 := n4.c
  replace b9 : Blk .u8 w4 w3.heap.size 28 (nn (el)) := b9
  replace BL := BL.e0 n4.e
  replace b5 := b5.e0 n4.e
  replace b6 := b6.e0 n4.e
  replace b8 := b8.e0 n4.e
  simp only [List.set_cons_zero, List.set_cons_succ]
  refine sv 10 (.bool false) .of ?_
  simp only [List.set_cons_zero, List.set_cons_succ]
  refine wpList_nil ?_
  refine hK1 _ _ ?_
  refine wp_seq_k fun K2 hK2 => ?_
  refine cPlain ?_
  refine sv 15 (.agg (cellsOf .u8 (nn (seed)))) (Val.blk 27 _ rfl 0 32 (by kernel_rfl) b6 _ Try.underlying27 rfl (by kernel_rfl) (by (try simp only [nn_len, List.length_append, List.length_replicate]); try omega) _ (seg_all' _ (by (try simp only [nn_len, List.length_append, List.length_replicate]); try omega))) ?_
  simp only [List.set_cons_zero, List.set_cons_succ]
  refine sv 16 (.int .i64 leaf) .of ?_
  simp only [List.set_cons_zero, List.set_cons_succ]
  refine xCall 17 20 #[.pointer (some ⟨w.heap.size, 0, none⟩), .agg (cellsOf .u8 (nn (seed))), .int .i64 leaf] (by kernel_rfl) ?_
  refine (key_any w.heap.size tab ht w4 b5 seed hs leaf h1).mono ?_
  rintro en w5 ⟨rfl, hb1⟩
  have e1 := belE0 hb1
  have ze1 := e1.size
  replace BL := BL.e0 e1
  replace b5 := b5.e0 e1
  replace b6 := b6.e0 e1
  replace b8 := b8.e0 e1
  replace b9 := b9.e0 e1
  clear e1
  refine ⟨.agg (cellsOf .u8 (nn (keyL tab seed leaf))), rfl, ?_⟩
  simp only [List.set_cons_zero, List.set_cons_succ]
  refine xAlloc 11 28 ((nn (List.replicate 32 0)).map (Value.int .u8)) rfl (by kernel_rfl) ?_
  intro w6 n5
  have zn5 := n5.z
  have b11 := n5.c
  replace b11 : Blk .u8 w6 w5.heap.size 28 (nn (List.replicate 32 0)) := b11
  replace BL := BL.e0 n5.e
  replace b5 := b5.e0 n5.e
  replace b6 := b6.e0 n5.e
  replace b8 := b8.e0 n5.e
  replace b9 := b9.e0 n5.e
  simp only [List.set_cons_zero, List.set_cons_succ]
  refine xStoreA 28 (.tmp 11) (.tmp 17) rfl .u8 w5.heap.size 28 (nn (List.replicate 32 0)) 0 (nn (keyL tab seed leaf)) (by kernel_rfl) (by kernel_rfl) b11 (by rw [show (nn (keyL tab seed leaf)).length = 32 by ((try simp only [nn_len, List.length_append, List.length_replicate]); try omega)]; kernel_rfl) (by (try simp only [nn_len, List.length_append, List.length_replicate]); try omega) (nn (keyL tab seed leaf)) (over_whole _ _ (by (try simp only [nn_len, List.length_append, List.length_replicate]); try omega)) ?_
  intro w7 t1
  have zt1 := t1.z
  have BL_ := BL.ev t1.e (fun i h => show w.heap.size ≤ i by have h : i = w5.heap.size := h; omega)
  have b5_ := b5.ev t1.e (show ¬ (w.heap.size = w5.heap.size) by omega)
  have b6_ := b6.ev t1.e (show ¬ (w1.heap.size = w5.heap.size) by omega)
  have b8_ := b8.ev t1.e (show ¬ (w2.heap.size = w5.heap.size) by omega)
  have b9_ := b9.ev t1.e (show ¬ (w3.heap.size = w5.heap.size) by omega)
  replace BL := BL_; clear BL_
  replace b5 := b5_; clear b5_
  replace b6 := b6_; clear b6_
  replace b8 := b8_; clear b8_
  replace b9 := b9_; clear b9_
  replace b11 : Blk .u8 w7 w5.heap.size 28 (nn (keyL tab seed leaf)) := t1.c
  clear t1
  refine wpList_nil ?_
  refine hK2 _ _ ?_
  refine wp_seq_k fun K3 hK3 => ?_
  refine cPlain ?_
  refine sv 18 (.agg (cellsOf .u8 (nn (seed)))) (Val.blk 27 _ rfl 0 32 (by kernel_rfl) b6 _ Try.underlying27 rfl (by kernel_rfl) (by (try simp only [nn_len, List.length_append, List.length_replicate]); try omega) _ (seg_all' _ (by (try simp only [nn_len, List.length_append, List.length_replicate]); try omega))) ?_
  simp only [List.set_cons_zero, List.set_cons_succ]
  refine sv 19 (.int .i64 leaf) .of ?_
  simp only [List.set_cons_zero, List.set_cons_succ]
  refine sv 20 (.agg (cellsOf .u8 (nn (dl)))) (Val.blk 28 _ rfl 0 32 (by kernel_rfl) b8 _ Try.underlying28 rfl (by kernel_rfl) (by (try simp only [nn_len, List.length_append, List.length_replicate]); try omega) _ (seg_all' _ (by (try simp only [nn_len, List.length_append, List.length_replicate]); try omega))) ?_
  simp only [List.set_cons_zero, List.set_cons_succ]
  refine xCall 21 15 #[.pointer (some ⟨w.heap.size, 0, none⟩), .agg (cellsOf .u8 (nn (seed))), .int .i64 leaf, .agg (cellsOf .u8 (nn (dl)))] (by kernel_rfl) ?_
  refine (sign_any w.heap.size tab ht w7 b5 seed hs leaf h1 (dl) hdl hdb).mono ?_
  rintro en w8 ⟨rfl, hb1⟩
  have e2 := belE0 hb1
  have ze2 := e2.size
  replace BL := BL.e0 e2
  replace b5 := b5.e0 e2
  replace b6 := b6.e0 e2
  replace b8 := b8.e0 e2
  replace b9 := b9.e0 e2
  replace b11 := b11.e0 e2
  clear e2
  refine ⟨.agg (cellsOf .u8 (nn (secsN tab seed leaf (dl) ++ othsN tab seed leaf (dl)))), rfl, ?_⟩
  simp only [List.set_cons_zero, List.set_cons_succ]
  refine xAlloc 12 32 ((nn (List.replicate 16384 0)).map (Value.int .u8)) rfl (by kernel_rfl) ?_
  intro w9 n6
  have zn6 := n6.z
  have b12 := n6.c
  replace b12 : Blk .u8 w9 w8.heap.size 32 (nn (List.replicate 16384 0)) := b12
  replace BL := BL.e0 n6.e
  replace b5 := b5.e0 n6.e
  replace b6 := b6.e0 n6.e
  replace b8 := b8.e0 n6.e
  replace b9 := b9.e0 n6.e
  replace b11 := b11.e0 n6.e
  simp only [List.set_cons_zero, List.set_cons_succ]
  refine xStoreA 32 (.tmp 12) (.tmp 21) rfl .u8 w8.heap.size 32 (nn (List.replicate 16384 0)) 0 (nn (secsN tab seed leaf (dl) ++ othsN tab seed leaf (dl))) (by kernel_rfl) (by kernel_rfl) b12 (by rw [show (nn (secsN tab seed leaf (dl) ++ othsN tab seed leaf (dl))).length = 16384 by ((try simp only [nn_len, List.length_append, List.length_replicate]); try omega)]; kernel_rfl) (by (try simp only [nn_len, List.length_append, List.length_replicate]); try omega) (nn (secsN tab seed leaf (dl) ++ othsN tab seed leaf (dl))) (over_whole _ _ (by (try simp only [nn_len, List.length_append, List.length_replicate]); try omega)) ?_
  intro w10 t2
  have zt2 := t2.z
  have BL_ := BL.ev t2.e (fun i h => show w.heap.size ≤ i by have h : i = w8.heap.size := h; omega)
  have b5_ := b5.ev t2.e (show ¬ (w.heap.size = w8.heap.size) by omega)
  have b6_ := b6.ev t2.e (show ¬ (w1.heap.size = w8.heap.size) by omega)
  have b8_ := b8.ev t2.e (show ¬ (w2.heap.size = w8.heap.size) by omega)
  have b9_ := b9.ev t2.e (show ¬ (w3.heap.size = w8.heap.size) by omega)
  have b11_ := b11.ev t2.e (show ¬ (w5.heap.size = w8.heap.size) by omega)
  replace BL := BL_; clear BL_
  replace b5 := b5_; clear b5_
  replace b6 := b6_; clear b6_
  replace b8 := b8_; clear b8_
  replace b9 := b9_; clear b9_
  replace b11 := b11_; clear b11_
  replace b12 : Blk .u8 w10 w8.heap.size 32 (nn (secsN tab seed leaf (dl) ++ othsN tab seed leaf (dl))) := t2.c
  clear t2
  refine wpList_nil ?_
  refine hK3 _ _ ?_
  refine wp_seq_k fun K4 hK4 => ?_
  refine cPlain ?_
  refine xAlloc 13 30 ((nn (List.replicate 8192 0)).map (Value.int .u8)) rfl (by kernel_rfl) ?_
  intro w11 n7
  have zn7 := n7.z
  have b13 := n7.c
  replace b13 : Blk .u8 w11 w10.heap.size 30 (nn (List.replicate 8192 0)) := b13
  replace BL := BL.e0 n7.e
  replace b5 := b5.e0 n7.e
  replace b6 := b6.e0 n7.e
  replace b8 := b8.e0 n7.e
  replace b9 := b9.e0 n7.e
  replace b11 := b11.e0 n7.e
  replace b12 := b12.e0 n7.e
  simp only [List.set_cons_zero, List.set_cons_succ]
  refine wpList_nil ?_
  refine hK4 _ _ ?_
  refine wp_seq_k fun K5 hK5 => ?_
  refine wp_seq_k fun K6 hK6 => ?_
  refine cPlain ?_
  refine sv 22 (.int .i64 0) .of ?_
  simp only [List.set_cons_zero, List.set_cons_succ]
  refine wpList_nil ?_
  refine hK6 _ _ ?_
  refine wp_block ?_
  refine cLoop (fun N_ A_ w_ => ∃ (i : Nat), (N_ = 256 - i ∧ (i ≤ 256) ∧ (∃ s1 : Nat → Value, A_ = ⟨[.agg (cellsOf .u32 (nn tab)), .agg (cellsOf .u8 (nn (seed))), .int .i64 leaf, .agg (cellsOf .u8 (nn (dl))), .agg (cellsOf .u8 (nn (el))), .pointer (some ⟨w.heap.size, 0, none⟩), .pointer (some ⟨w1.heap.size, 0, none⟩), undef, .pointer (some ⟨w2.heap.size, 0, none⟩), .pointer (some ⟨w3.heap.size, 0, none⟩), .bool false, .pointer (some ⟨w5.heap.size, 0, none⟩), .pointer (some ⟨w8.heap.size, 0, none⟩), .pointer (some ⟨w10.heap.size, 0, none⟩), (s1 14), .agg (cellsOf .u8 (nn (seed))), .int .i64 leaf, .agg (cellsOf .u8 (nn (keyL tab seed leaf))), .agg (cellsOf .u8 (nn (seed))), .int .i64 leaf, .agg (cellsOf .u8 (nn (dl))), .agg (cellsOf .u8 (nn (secsN tab seed leaf (dl) ++ othsN tab seed leaf (dl)))), .int .i64 ((i : Nat) : Int), (s1 23), (s1 24), (s1 25), (s1 26), (s1 27), (s1 28), (s1 29), (s1 30), (s1 31), (s1 32), undef, undef, undef, undef, undef, undef, undef, undef, undef, undef, undef, undef, undef, undef, undef, undef, undef, undef, undef, undef, undef, undef, undef, undef, undef, undef, undef, undef].toArray, []⟩) ∧ Bl w.heap.size w w_ ∧ Blk .u32 w_ w.heap.size 26 (nn tab) ∧ Blk .u8 w_ w1.heap.size 27 (nn (seed)) ∧ Blk .u8 w_ w2.heap.size 28 (nn (dl)) ∧ Blk .u8 w_ w3.heap.size 28 (nn (el)) ∧ Blk .u8 w_ w5.heap.size 28 (nn (keyL tab seed leaf)) ∧ Blk .u8 w_ w8.heap.size 32 (nn (secsN tab seed leaf (dl) ++ othsN tab seed leaf (dl))) ∧ Blk .u8 w_ w10.heap.size 30 (nn (fillN (halfF tab (secsN tab seed leaf dl)) i)) ∧ w11.heap.size ≤ w_.heap.size)) _ ⟨0, rfl, (Nat.zero_le _), cutE, BL, b5, b6, b8, b9, b11, b12, (by rw [← hz]; exact b13), Nat.le_refl _⟩ ?_
  clear BL b5 b6 b8 b9 b11 b12 b13
  rintro n_ a_ wl0 ⟨i, rfl, hc0_0, ⟨s1, rfl⟩, BL, b5, b6, b8, b9, b11, b12, b13, zl0⟩
  refine wp_seq_k fun K7 hK7 => ?_
  refine cPlain ?_
  refine sv 23 (.bool (decide (((i : Nat) : Int) < 256))) (Val.cmp .lss 3 _ (.tmp 22) _ rfl .i64 ((i : Nat) : Int) 256 (by kernel_rfl) (by kernel_rfl) (by simp) _ rfl) ?_
  simp only [List.set_cons_zero, List.set_cons_succ]
  refine wpList_nil ?_
  refine hK7 _ _ ?_
  refine wp_seq_k fun K8 hK8 => ?_
  refine cDec (((i : Nat) : Int) < 256) (by kernel_rfl) (fun c23 => ?_) (fun c23 => ?_)
  · skip
    refine wp_skip ?_
    refine hK8 _ _ ?_
    refine wp_seq_k fun K9 hK9 => ?_
    refine wp_block ?_
    refine wp_seq_k fun K10 hK10 => ?_
    refine cPlain ?_
    refine sv 24 (.int .i64 ((i : Nat) : Int)) .of ?_
    simp only [List.set_cons_zero, List.set_cons_succ]
    refine sv 14 (.int .i64 ((i : Nat) : Int)) .of ?_
    simp only [List.set_cons_zero, List.set_cons_succ]
    refine wpList_nil ?_
    refine hK10 _ _ ?_
    have hhl0 := halfF_len tab (secsN tab seed leaf dl) i
    have hhl : (nn (halfF tab (secsN tab seed leaf dl) i)).length = 32 := by rw [nn_len]; exact hhl0
    have hfl0 := fillN_len (halfF_len tab (secsN tab seed leaf dl)) hc0_0
    have hfl : (nn (fillN (halfF tab (secsN tab seed leaf dl)) i)).length = 8192 := by rw [nn_len]; exact hfl0
    refine cPlain ?_
    refine sv 25 (.int .i64 ((i : Nat) : Int)) .of ?_
    simp only [List.set_cons_zero, List.set_cons_succ]
    refine sv 26 (.int .i64 ((i : Nat) : Int)) .of ?_
    simp only [List.set_cons_zero, List.set_cons_succ]
    refine sv 27 (.pointer (some ⟨w8.heap.size, 0, none⟩)) .of ?_
    simp only [List.set_cons_zero, List.set_cons_succ]
    refine sv 28 (.pointer (some ⟨w8.heap.size, 0 + i * 32, none⟩)) (Val.idxA 29 (.tmp 27) (.tmp 26) rfl w8.heap.size 0 i (by kernel_rfl) (by kernel_rfl) 32 Try.underlying29 (by kernel_rfl) (by omega)) ?_
    simp only [List.set_cons_zero, List.set_cons_succ]
    refine sv 29 (.agg (cellsOf .u8 (nn (rowN (secsN tab seed leaf dl) i)))) (Val.blk 27 _ rfl (0 + i * 32) 32 (by kernel_rfl) b12 _ Try.underlying27 rfl (by kernel_rfl) (by omega) _ (by rw [seg_rowN _ i _ (by omega), rowN_fst hS (by omega)])) ?_
    simp only [List.set_cons_zero, List.set_cons_succ]
    refine xCall 30 18 #[.pointer (some ⟨w.heap.size, 0, none⟩), .agg (cellsOf .u8 (nn (rowN (secsN tab seed leaf dl) i)))] (by kernel_rfl) ?_
    refine (half_any w.heap.size tab ht wl0 b5 (rowN (secsN tab seed leaf dl) i) (rowN_len (by omega))).mono ?_
    rintro en w12 ⟨rfl, hb1⟩
    have e3 := belE0 hb1
    have ze3 := e3.size
    replace BL := BL.e0 e3
    replace b5 := b5.e0 e3
    replace b6 := b6.e0 e3
    replace b8 := b8.e0 e3
    replace b9 := b9.e0 e3
    replace b11 := b11.e0 e3
    replace b12 := b12.e0 e3
    replace b13 := b13.e0 e3
    clear e3
    refine ⟨.agg (cellsOf .u8 (nn (halfF tab (secsN tab seed leaf dl) i))), rfl, ?_⟩
    simp only [List.set_cons_zero, List.set_cons_succ]
    refine sv 31 (.pointer (some ⟨w10.heap.size, 0 + i * 32, none⟩)) (Val.idxA 30 (.tmp 13) (.tmp 25) rfl w10.heap.size 0 i (by kernel_rfl) (by kernel_rfl) 32 Try.underlying30 (by kernel_rfl) (by omega)) ?_
    simp only [List.set_cons_zero, List.set_cons_succ]
    refine xStoreA 28 (.tmp 31) (.tmp 30) rfl .u8 w10.heap.size 30 (nn (fillN (halfF tab (secsN tab seed leaf dl)) i)) (0 + i * 32) (nn (halfF tab (secsN tab seed leaf dl) i)) (by kernel_rfl) (by kernel_rfl) b13 (by rw [show (nn (halfF tab (secsN tab seed leaf dl) i)).length = 32 by omega]; kernel_rfl) (by omega) _ rfl ?_
    intro w13 t3
    have zt3 := t3.z
    have BL_ := BL.ev t3.e (fun i h => show w.heap.size ≤ i by have h : i = w10.heap.size := h; omega)
    have b5_ := b5.ev t3.e (show ¬ (w.heap.size = w10.heap.size) by omega)
    have b6_ := b6.ev t3.e (show ¬ (w1.heap.size = w10.heap.size) by omega)
    have b8_ := b8.ev t3.e (show ¬ (w2.heap.size = w10.heap.size) by omega)
    have b9_ := b9.ev t3.e (show ¬ (w3.heap.size = w10.heap.size) by omega)
    have b11_ := b11.ev t3.e (show ¬ (w5.heap.size = w10.heap.size) by omega)
    have b12_ := b12.ev t3.e (show ¬ (w8.heap.size = w10.heap.size) by omega)
    replace BL := BL_; clear BL_
    replace b5 := b5_; clear b5_
    replace b6 := b6_; clear b6_
    replace b8 := b8_; clear b8_
    replace b9 := b9_; clear b9_
    replace b11 := b11_; clear b11_
    replace b12 := b12_; clear b12_
    replace b13 : Blk .u8 w13 w10.heap.size 30 (over (nn (fillN (halfF tab (secsN tab seed leaf dl)) i)) (0 + i * 32) (nn (halfF tab (secsN tab seed leaf dl) i))) := t3.c
    clear t3
    refine wpList_nil ?_
    refine hK9 _ _ ?_
    refine cPlain ?_
    refine sv 32 (.int .i64 (((i : Nat) : Int) + 1)) (Val.add 3 _ (.tmp 22) _ rfl ((i : Nat) : Int) 1 (by kernel_rfl) (by kernel_rfl) (by omega)) ?_
    simp only [List.set_cons_zero, List.set_cons_succ]
    refine sv 22 (.int .i64 (((i : Nat) : Int) + 1)) .of ?_
    simp only [List.set_cons_zero, List.set_cons_succ]
    refine wpList_nil ?_
    refine ⟨_, ?_, i + 1, rfl, (by omega), cutE, BL, b5, b6, b8, b9, b11, b12, (by rw [over_one (halfF_len _ _) (by omega) _ (by omega)] at b13; exact b13), by omega⟩
    omega
  · skip
    have hfin : fillN (halfF tab (secsN tab seed leaf dl)) i = halvesN tab (secsN tab seed leaf dl) := by rw [show i = 256 by omega, fillN_256]; rfl
    have hfl : (nn (fillN (halfF tab (secsN tab seed leaf dl)) i)).length = 8192 := by rw [nn_len]; exact fillN_len (halfF_len _ _) (by omega)
    refine wp_exit ?_
    simp only [Exit.then, Exit.inBlock, ↓reduceIte, Nat.reduceEqDiff]
    refine hK5 _ _ ?_
    refine wp_seq_k fun K11 hK11 => ?_
    have e4 := drew_e0 wl0
    refine zg (fun w_ => Bl w.heap.size w w_ ∧ Blk .u32 w_ w.heap.size 26 (nn tab) ∧ Blk .u8 w_ w1.heap.size 27 (nn (seed)) ∧ Blk .u8 w_ w2.heap.size 28 (nn (dl)) ∧ Blk .u8 w_ w3.heap.size 28 (nn (el)) ∧ Blk .u8 w_ w5.heap.size 28 (nn (keyL tab seed leaf)) ∧ Blk .u8 w_ w8.heap.size 32 (nn (secsN tab seed leaf (dl) ++ othsN tab seed leaf (dl))) ∧ Blk .u8 w_ w10.heap.size 30 (nn (fillN (halfF tab (secsN tab seed leaf dl)) i)) ∧ wl0.heap.size ≤ w_.heap.size) (fun w_ => Bl w.heap.size w w_ ∧ Blk .u32 w_ w.heap.size 26 (nn tab) ∧ Blk .u8 w_ w1.heap.size 27 (nn (seed)) ∧ Blk .u8 w_ w2.heap.size 28 (nn (dl)) ∧ Blk .u8 w_ w3.heap.size 28 (nn (el)) ∧ Blk .u8 w_ w5.heap.size 28 (nn (keyL tab seed leaf)) ∧ Blk .u8 w_ w8.heap.size 32 (nn (secsN tab seed leaf (dl) ++ othsN tab seed leaf (dl))) ∧ Blk .u8 w_ w10.heap.size 30 (nn (fillN (halfF tab (secsN tab seed leaf dl)) i)) ∧ wl0.heap.size ≤ w_.heap.size) 100000 29 ⟨BL.e0 e4, b5.e0 e4, b6.e0 e4, b8.e0 e4, b9.e0 e4, b11.e0 e4, b12.e0 e4, b13.e0 e4, Nat.le_refl _⟩ ?_
    clear BL b5 b6 b8 b9 b11 b12 b13
    clear e4
    intro w14
    rintro ⟨BL, b5, b6, b8, b9, b11, b12, b13, z1⟩
    refine zv 0 33 (.agg (cellsOf .u8 (nn (dl)))) (fun _ ⟨BL, b5, b6, b8, b9, b11, b12, b13, z1⟩ => Val.blk 28 _ rfl 0 32 (by kernel_rfl) b8 _ Try.underlying28 rfl (by kernel_rfl) (by (try simp only [nn_len, List.length_append, List.length_replicate]); try omega) _ (seg_all' _ (by (try simp only [nn_len, List.length_append, List.length_replicate]); try omega))) ⟨BL, b5, b6, b8, b9, b11, b12, b13, by omega⟩ ?_
    simp only [List.set_cons_zero, List.set_cons_succ]
    refine zv 1 34 (.agg (cellsOf .u8 (nn (secsN tab seed leaf (dl) ++ othsN tab seed leaf (dl))))) (fun _ ⟨BL, b5, b6, b8, b9, b11, b12, b13, z1⟩ => Val.blk 32 _ rfl 0 16384 (by kernel_rfl) b12 _ Try.underlying32 rfl (by kernel_rfl) (by (try simp only [nn_len, List.length_append, List.length_replicate]); try omega) _ (seg_all' _ (by (try simp only [nn_len, List.length_append, List.length_replicate]); try omega))) ⟨BL, b5, b6, b8, b9, b11, b12, b13, by omega⟩ ?_
    simp only [List.set_cons_zero, List.set_cons_succ]
    refine zv 3 36 (.agg (cellsOf .u8 (nn (keyL tab seed leaf)))) (fun _ ⟨BL, b5, b6, b8, b9, b11, b12, b13, z1⟩ => Val.blk 28 _ rfl 0 32 (by kernel_rfl) b11 _ Try.underlying28 rfl (by kernel_rfl) (by (try simp only [nn_len, List.length_append, List.length_replicate]); try omega) _ (seg_all' _ (by (try simp only [nn_len, List.length_append, List.length_replicate]); try omega))) ⟨BL, b5, b6, b8, b9, b11, b12, b13, by omega⟩ ?_
    simp only [List.set_cons_zero, List.set_cons_succ]
    refine zo1 2 rfl ?_
    refine xCall 35 21 #[.pointer (some ⟨w.heap.size, 0, none⟩), .agg (cellsOf .u8 (nn (dl))), .agg (cellsOf .u8 (nn (secsN tab seed leaf (dl) ++ othsN tab seed leaf (dl))))] (by kernel_rfl) ?_
    refine (open_any w.heap.size tab ht w14 b5 (dl) (secsN tab seed leaf (dl)) (othsN tab seed leaf (dl)) hdl hdb (secsN_len _ _ _ _) (othsN_len _ _ _ _)).mono ?_
    rintro en w15 ⟨he, hb1⟩
    rw [open_key tab seed leaf dl hdb] at he
    subst he
    have e5 := belE0 hb1
    have ze5 := e5.size
    replace BL := BL.e0 e5
    replace b5 := b5.e0 e5
    replace b6 := b6.e0 e5
    replace b8 := b8.e0 e5
    replace b9 := b9.e0 e5
    replace b11 := b11.e0 e5
    replace b12 := b12.e0 e5
    replace b13 := b13.e0 e5
    clear e5
    refine ⟨.agg (cellsOf .u8 (nn (keyL tab seed leaf))), rfl, ?_⟩
    refine ze 2 ⟨BL, b5, b6, b8, b9, b11, b12, b13, by omega⟩ ?_
    simp only [List.set_cons_zero, List.set_cons_succ]
    refine zv 4 37 (.bool true) (fun _ ⟨BL, b5, b6, b8, b9, b11, b12, b13, z1⟩ => Val.eqA .eql 28 _ (.tmp 35) (.tmp 36) rfl Try.underlying28 Try.underlying5 (by kernel_rfl) (by kernel_rfl) (nn (keyL tab seed leaf)) (nn (keyL tab seed leaf)) (by kernel_rfl) (by kernel_rfl) (by rw [nn_len]; exact keyL_len _ _ _) (by rw [nn_len]; exact keyL_len _ _ _) (.inl rfl) true (by simp)) ⟨BL, b5, b6, b8, b9, b11, b12, b13, by omega⟩ ?_
    simp only [List.set_cons_zero, List.set_cons_succ]
    refine zv 5 38 (.bool true) (fun _ _ => .of) ⟨BL, b5, b6, b8, b9, b11, b12, b13, by omega⟩ ?_
    simp only [List.set_cons_zero, List.set_cons_succ]
    refine zv 6 39 (.agg (cellsOf .u8 (nn (el)))) (fun _ ⟨BL, b5, b6, b8, b9, b11, b12, b13, z1⟩ => Val.blk 28 _ rfl 0 32 (by kernel_rfl) b9 _ Try.underlying28 rfl (by kernel_rfl) (by (try simp only [nn_len, List.length_append, List.length_replicate]); try omega) _ (seg_all' _ (by (try simp only [nn_len, List.length_append, List.length_replicate]); try omega))) ⟨BL, b5, b6, b8, b9, b11, b12, b13, by omega⟩ ?_
    simp only [List.set_cons_zero, List.set_cons_succ]
    refine zv 7 40 (.agg (cellsOf .u8 (nn (seed)))) (fun _ ⟨BL, b5, b6, b8, b9, b11, b12, b13, z1⟩ => Val.blk 27 _ rfl 0 32 (by kernel_rfl) b6 _ Try.underlying27 rfl (by kernel_rfl) (by (try simp only [nn_len, List.length_append, List.length_replicate]); try omega) _ (seg_all' _ (by (try simp only [nn_len, List.length_append, List.length_replicate]); try omega))) ⟨BL, b5, b6, b8, b9, b11, b12, b13, by omega⟩ ?_
    simp only [List.set_cons_zero, List.set_cons_succ]
    refine zv 8 41 (.int .i64 leaf) (fun _ _ => .of) ⟨BL, b5, b6, b8, b9, b11, b12, b13, by omega⟩ ?_
    simp only [List.set_cons_zero, List.set_cons_succ]
    refine zv 9 42 (.agg (cellsOf .u8 (nn (el)))) (fun _ ⟨BL, b5, b6, b8, b9, b11, b12, b13, z1⟩ => Val.blk 28 _ rfl 0 32 (by kernel_rfl) b9 _ Try.underlying28 rfl (by kernel_rfl) (by (try simp only [nn_len, List.length_append, List.length_replicate]); try omega) _ (seg_all' _ (by (try simp only [nn_len, List.length_append, List.length_replicate]); try omega))) ⟨BL, b5, b6, b8, b9, b11, b12, b13, by omega⟩ ?_
    simp only [List.set_cons_zero, List.set_cons_succ]
    refine zv 12 45 (.agg (cellsOf .u8 (nn (keyL tab seed leaf)))) (fun _ ⟨BL, b5, b6, b8, b9, b11, b12, b13, z1⟩ => Val.blk 28 _ rfl 0 32 (by kernel_rfl) b11 _ Try.underlying28 rfl (by kernel_rfl) (by (try simp only [nn_len, List.length_append, List.length_replicate]); try omega) _ (seg_all' _ (by (try simp only [nn_len, List.length_append, List.length_replicate]); try omega))) ⟨BL, b5, b6, b8, b9, b11, b12, b13, by omega⟩ ?_
    simp only [List.set_cons_zero, List.set_cons_succ]
    refine zo1 10 rfl ?_
    refine xCall 43 15 #[.pointer (some ⟨w.heap.size, 0, none⟩), .agg (cellsOf .u8 (nn (seed))), .int .i64 leaf, .agg (cellsOf .u8 (nn (el)))] (by kernel_rfl) ?_
    refine (sign_any w.heap.size tab ht w15 b5 seed hs leaf h1 (el) hel heb).mono ?_
    rintro en w16 ⟨rfl, hb1⟩
    have e6 := belE0 hb1
    have ze6 := e6.size
    replace BL := BL.e0 e6
    replace b5 := b5.e0 e6
    replace b6 := b6.e0 e6
    replace b8 := b8.e0 e6
    replace b9 := b9.e0 e6
    replace b11 := b11.e0 e6
    replace b12 := b12.e0 e6
    replace b13 := b13.e0 e6
    clear e6
    refine ⟨.agg (cellsOf .u8 (nn (secsN tab seed leaf (el) ++ othsN tab seed leaf (el)))), rfl, ?_⟩
    refine ze 10 ⟨BL, b5, b6, b8, b9, b11, b12, b13, by omega⟩ ?_
    simp only [List.set_cons_zero, List.set_cons_succ]
    refine zo1 11 rfl ?_
    refine xCall 44 21 #[.pointer (some ⟨w.heap.size, 0, none⟩), .agg (cellsOf .u8 (nn (el))), .agg (cellsOf .u8 (nn (secsN tab seed leaf (el) ++ othsN tab seed leaf (el))))] (by kernel_rfl) ?_
    refine (open_any w.heap.size tab ht w16 b5 (el) (secsN tab seed leaf (el)) (othsN tab seed leaf (el)) hel heb (secsN_len _ _ _ _) (othsN_len _ _ _ _)).mono ?_
    rintro en w17 ⟨he, hb1⟩
    rw [open_key tab seed leaf el heb] at he
    subst he
    have e7 := belE0 hb1
    have ze7 := e7.size
    replace BL := BL.e0 e7
    replace b5 := b5.e0 e7
    replace b6 := b6.e0 e7
    replace b8 := b8.e0 e7
    replace b9 := b9.e0 e7
    replace b11 := b11.e0 e7
    replace b12 := b12.e0 e7
    replace b13 := b13.e0 e7
    clear e7
    refine ⟨.agg (cellsOf .u8 (nn (keyL tab seed leaf))), rfl, ?_⟩
    refine ze 11 ⟨BL, b5, b6, b8, b9, b11, b12, b13, by omega⟩ ?_
    simp only [List.set_cons_zero, List.set_cons_succ]
    refine zv 13 46 (.bool true) (fun _ ⟨BL, b5, b6, b8, b9, b11, b12, b13, z1⟩ => Val.eqA .eql 28 _ (.tmp 44) (.tmp 45) rfl Try.underlying28 Try.underlying5 (by kernel_rfl) (by kernel_rfl) (nn (keyL tab seed leaf)) (nn (keyL tab seed leaf)) (by kernel_rfl) (by kernel_rfl) (by rw [nn_len]; exact keyL_len _ _ _) (by rw [nn_len]; exact keyL_len _ _ _) (.inl rfl) true (by simp)) ⟨BL, b5, b6, b8, b9, b11, b12, b13, by omega⟩ ?_
    simp only [List.set_cons_zero, List.set_cons_succ]
    refine zv 14 47 (.bool true) (fun _ _ => .of) ⟨BL, b5, b6, b8, b9, b11, b12, b13, by omega⟩ ?_
    simp only [List.set_cons_zero, List.set_cons_succ]
    refine zv 15 48 (.bool true) (fun _ _ => .of) ⟨BL, b5, b6, b8, b9, b11, b12, b13, by omega⟩ ?_
    simp only [List.set_cons_zero, List.set_cons_succ]
    refine zv 16 49 (.agg (cellsOf .u8 (nn (dl)))) (fun _ ⟨BL, b5, b6, b8, b9, b11, b12, b13, z1⟩ => Val.blk 28 _ rfl 0 32 (by kernel_rfl) b8 _ Try.underlying28 rfl (by kernel_rfl) (by (try simp only [nn_len, List.length_append, List.length_replicate]); try omega) _ (seg_all' _ (by (try simp only [nn_len, List.length_append, List.length_replicate]); try omega))) ⟨BL, b5, b6, b8, b9, b11, b12, b13, by omega⟩ ?_
    simp only [List.set_cons_zero, List.set_cons_succ]
    refine zv 17 50 (.agg (cellsOf .u8 (nn (halvesN tab (secsN tab seed leaf dl))))) (fun _ ⟨BL, b5, b6, b8, b9, b11, b12, b13, z1⟩ => Val.blk 30 _ rfl 0 8192 (by kernel_rfl) b13 _ Try.underlying30 rfl (by kernel_rfl) (by omega) _ (by rw [hfin]; exact seg_all' _ (by rw [nn_len]; exact halvesN_len _ _))) ⟨BL, b5, b6, b8, b9, b11, b12, b13, by omega⟩ ?_
    simp only [List.set_cons_zero, List.set_cons_succ]
    refine zv 18 51 (.pointer (some ⟨w8.heap.size, 8192, none⟩)) (fun _ _ => .of) ⟨BL, b5, b6, b8, b9, b11, b12, b13, by omega⟩ ?_
    simp only [List.set_cons_zero, List.set_cons_succ]
    refine zv 19 52 (.agg (cellsOf .u8 (nn (othsN tab seed leaf dl)))) (fun _ ⟨BL, b5, b6, b8, b9, b11, b12, b13, z1⟩ => Val.blk 30 _ rfl 8192 8192 (by kernel_rfl) b12 _ Try.underlying30 rfl (by kernel_rfl) (by omega) _ (seg_snd hS hO)) ⟨BL, b5, b6, b8, b9, b11, b12, b13, by omega⟩ ?_
    simp only [List.set_cons_zero, List.set_cons_succ]
    refine zv 22 55 (.agg (cellsOf .u8 (nn (keyL tab seed leaf)))) (fun _ ⟨BL, b5, b6, b8, b9, b11, b12, b13, z1⟩ => Val.blk 28 _ rfl 0 32 (by kernel_rfl) b11 _ Try.underlying28 rfl (by kernel_rfl) (by (try simp only [nn_len, List.length_append, List.length_replicate]); try omega) _ (seg_all' _ (by (try simp only [nn_len, List.length_append, List.length_replicate]); try omega))) ⟨BL, b5, b6, b8, b9, b11, b12, b13, by omega⟩ ?_
    simp only [List.set_cons_zero, List.set_cons_succ]
    refine zo1 20 rfl ?_
    refine xCall 53 23 #[.agg (cellsOf .u8 (nn (dl))), .agg (cellsOf .u8 (nn (halvesN tab (secsN tab seed leaf dl)))), .agg (cellsOf .u8 (nn (othsN tab seed leaf dl)))] (by kernel_rfl) ?_
    refine (lamtext_any (nn dl) (nn (halvesN tab (secsN tab seed leaf dl))) (nn (othsN tab seed leaf dl)) (by rw [nn_len]; exact hdl) hdb (by rw [nn_len]; exact halvesN_len _ _) (by rw [nn_len]; exact hO) w17).mono ?_
    rintro en w18 ⟨u, rfl, hOw, hb1⟩
    rw [pairsN_nn] at hOw
    replace hOw := hOw.cast (textN_nn 3 (pairsN dl (halvesN tab (secsN tab seed leaf dl)) (othsN tab seed leaf dl) 256)).symm
    have e8 := belE0 hb1
    have ze8 := e8.size
    replace BL := BL.e0 e8
    replace b5 := b5.e0 e8
    replace b6 := b6.e0 e8
    replace b8 := b8.e0 e8
    replace b9 := b9.e0 e8
    replace b11 := b11.e0 e8
    replace b12 := b12.e0 e8
    replace b13 := b13.e0 e8
    clear e8
    have U : Own 5 .u8 w17.heap.size w18 u (nn (keytextN dl (halvesN tab (secsN tab seed leaf dl)) (othsN tab seed leaf dl))) := hOw
    have lU_1 := U.ge
    refine ⟨u, rfl, ?_⟩
    refine ze 20 ⟨BL, b5, b6, b8, b9, b11, b12, b13, by omega⟩ ?_
    simp only [List.set_cons_zero, List.set_cons_succ]
    refine zo1 21 rfl ?_
    refine xCall 54 22 #[.pointer (some ⟨w.heap.size, 0, none⟩), u] (by kernel_rfl) ?_
    refine (of_any w.heap.size tab (keytextN dl (halvesN tab (secsN tab seed leaf dl)) (othsN tab seed leaf dl)) u ht w18 b5 U.sl (by omega)).mono ?_
    rintro en w19 ⟨he, hb1⟩
    rw [hof] at he
    subst he
    have e9 := belE0 hb1
    have ze9 := e9.size
    replace BL := BL.e0 e9
    replace b5 := b5.e0 e9
    replace b6 := b6.e0 e9
    replace b8 := b8.e0 e9
    replace b9 := b9.e0 e9
    replace b11 := b11.e0 e9
    replace b12 := b12.e0 e9
    replace b13 := b13.e0 e9
    replace U := U.e0 e9
    clear e9
    refine ⟨.agg (cellsOf .u8 (nn (keyL tab seed leaf))), rfl, ?_⟩
    refine ze 21 ⟨BL, b5, b6, b8, b9, b11, b12, b13, by omega⟩ ?_
    simp only [List.set_cons_zero, List.set_cons_succ]
    refine zv 23 56 (.bool true) (fun _ ⟨BL, b5, b6, b8, b9, b11, b12, b13, z1⟩ => Val.eqA .eql 28 _ (.tmp 54) (.tmp 55) rfl Try.underlying28 Try.underlying5 (by kernel_rfl) (by kernel_rfl) (nn (keyL tab seed leaf)) (nn (keyL tab seed leaf)) (by kernel_rfl) (by kernel_rfl) (by rw [nn_len]; exact keyL_len _ _ _) (by rw [nn_len]; exact keyL_len _ _ _) (.inl rfl) true (by simp)) ⟨BL, b5, b6, b8, b9, b11, b12, b13, by omega⟩ ?_
    simp only [List.set_cons_zero, List.set_cons_succ]
    refine zv 24 57 (.bool true) (fun _ _ => .of) ⟨BL, b5, b6, b8, b9, b11, b12, b13, by omega⟩ ?_
    simp only [List.set_cons_zero, List.set_cons_succ]
    refine zv 25 58 (.bool true) (fun _ _ => .of) ⟨BL, b5, b6, b8, b9, b11, b12, b13, by omega⟩ ?_
    simp only [List.set_cons_zero, List.set_cons_succ]
    refine zo1 26 rfl ?_
    refine xCall 59 19 #[] (by kernel_rfl) ?_
    refine (awake09 w19).mono ?_
    rintro en w20 ⟨rfl, hb1⟩
    have e10 := belE0 hb1
    have ze10 := e10.size
    replace BL := BL.e0 e10
    replace b5 := b5.e0 e10
    replace b6 := b6.e0 e10
    replace b8 := b8.e0 e10
    replace b9 := b9.e0 e10
    replace b11 := b11.e0 e10
    replace b12 := b12.e0 e10
    replace b13 := b13.e0 e10
    replace U := U.e0 e10
    clear e10
    refine ⟨.bool true, rfl, ?_⟩
    refine ze 26 ⟨BL, b5, b6, b8, b9, b11, b12, b13, by omega⟩ ?_
    simp only [List.set_cons_zero, List.set_cons_succ]
    refine zv 27 60 (.bool true) (fun _ _ => .of) ⟨BL, b5, b6, b8, b9, b11, b12, b13, by omega⟩ ?_
    simp only [List.set_cons_zero, List.set_cons_succ]
    refine zv 28 10 (.bool true) (fun _ _ => .of) ⟨BL, b5, b6, b8, b9, b11, b12, b13, by omega⟩ ?_
    simp only [List.set_cons_zero, List.set_cons_succ]
    refine zd (by kernel_rfl) ?_ _
    refine hK11 _ _ ?_
    refine wp_ret ?_
    (try simp only [Exit.then, Exit.inBlock])
    refine bodyPost_ret (v := .bool true) rT rfl ?_
    exact ⟨rfl, BL.b⟩

set_option maxHeartbeats 4000000 in
theorem lamportTold_walk (tab : List Nat) (ht : tab.length = 72) (w : World) (seed : List Nat) (hs : seed.length = 32) (leaf : Int) (h1 : leaf ≤ 9223372036854775807) (dl el : List Nat) (hdl : dl.length = 32) (hel : el.length = 32) (hdb : Bytes (nn dl)) (heb : Bytes (nn el)) :
    Calls Try.prog 3 #[.agg (cellsOf .u32 (nn tab)), .agg (cellsOf .u8 (nn seed)), .int .i64 leaf, .agg (cellsOf .u8 (nn dl)), .agg (cellsOf .u8 (nn el))] w fun e w' => e = .returned (.bool true) ∧ Below w.heap.size w w' := by
  have BL := Bl.refl w
  have hSd := secsN_len tab seed leaf dl
  have hOd := othsN_len tab seed leaf dl
  have hSe := secsN_len tab seed leaf el
  have hOe := othsN_len tab seed leaf el
  have hsod : (nn (secsN tab seed leaf (dl) ++ othsN tab seed leaf (dl))).length = 16384 := by rw [nn_len, List.length_append]; omega
  have hsoe : (nn (secsN tab seed leaf (el) ++ othsN tab seed leaf (el))).length = 16384 := by rw [nn_len, List.length_append]; omega
  go_enter Try.func3, Try.ntmps3
  refine wp_seq_k fun K1 hK1 => ?_
  refine cPlain ?_
  refine xBox 5 26 _ ((nn tab).map (Value.int .u32)) rfl (cells_toList _ _) ?_
  intro w1 n1
  have zn1 := n1.z
  have b5 := n1.c
  replace b5 : Blk .u32 w1 w.heap.size 26 (nn tab) := b5
  replace BL := BL.e0 n1.e
  simp only [List.set_cons_zero, List.set_cons_succ]
  refine xBox 6 27 _ ((nn (seed)).map (Value.int .u8)) rfl (cells_toList _ _) ?_
  intro w2 n2
  have zn2 := n2.z
  have b6 := n2.c
  replace b6 : Blk .u8 w2 w1.heap.size 27 (nn (seed)) := b6
  replace BL := BL.e0 n2.e
  replace b5 := b5.e0 n2.e
  simp only [List.set_cons_zero, List.set_cons_succ]
  refine xBox 8 28 _ ((nn (dl)).map (Value.int .u8)) rfl (cells_toList _ _) ?_
  intro w3 n3
  have zn3 := n3.z
  have b8 := n3.c
  replace b8 : Blk .u8 w3 w2.heap.size 28 (nn (dl)) := b8
  replace BL := BL.e0 n3.e
  replace b5 := b5.e0 n3.e
  replace b6 := b6.e0 n3.e
  simp only [List.set_cons_zero, List.set_cons_succ]
  refine xBox 9 28 _ ((nn (el)).map (Value.int .u8)) rfl (cells_toList _ _) ?_
  intro w4 n4
  have zn4 := n4.z
  have b9 := n4.c
  replace b9 : Blk .u8 w4 w3.heap.size 28 (nn (el)) := b9
  replace BL := BL.e0 n4.e
  replace b5 := b5.e0 n4.e
  replace b6 := b6.e0 n4.e
  replace b8 := b8.e0 n4.e
  simp only [List.set_cons_zero, List.set_cons_succ]
  refine sv 10 (.bool false) .of ?_
  simp only [List.set_cons_zero, List.set_cons_succ]
  refine wpList_nil ?_
  refine hK1 _ _ ?_
  refine cCut (fun A_ w_ => ∃ (g11 g12 : Nat), ((∃ s1 : Nat → Value, A_ = ⟨[.agg (cellsOf .u32 (nn tab)), .agg (cellsOf .u8 (nn (seed))), .int .i64 leaf, .agg (cellsOf .u8 (nn (dl))), .agg (cellsOf .u8 (nn (el))), .pointer (some ⟨w.heap.size, 0, none⟩), .pointer (some ⟨w1.heap.size, 0, none⟩), undef, .pointer (some ⟨w2.heap.size, 0, none⟩), .pointer (some ⟨w3.heap.size, 0, none⟩), .bool false, .pointer (some ⟨g11, 0, none⟩), .pointer (some ⟨g12, 0, none⟩), undef, undef, undef, (s1 16), (s1 17), (s1 18), (s1 19), (s1 20), (s1 21), (s1 22), (s1 23), undef, undef, undef, undef, undef, undef, undef, undef, undef, undef, undef, undef, undef, undef, undef, undef, undef, undef, undef, undef, undef, undef, undef, undef, undef, undef, undef, undef, undef, undef, undef, undef, undef, undef, undef, undef, undef, undef, undef, undef, undef, undef, undef, undef, undef, undef, undef, undef, undef, undef, undef, undef, undef, undef, undef, undef, undef, undef, undef, undef, undef, undef, undef, undef, undef, undef, undef, undef, undef, undef, undef, undef, undef, undef, undef, undef, undef, undef, undef, undef, undef, undef, undef, undef, undef, undef, undef, undef].toArray, []⟩) ∧ Bl w.heap.size w w_ ∧ Blk .u32 w_ w.heap.size 26 (nn tab) ∧ Blk .u8 w_ w1.heap.size 27 (nn (seed)) ∧ Blk .u8 w_ w2.heap.size 28 (nn (dl)) ∧ Blk .u8 w_ w3.heap.size 28 (nn (el)) ∧ Blk .u8 w_ g11 32 (nn (secsN tab seed leaf (dl) ++ othsN tab seed leaf (dl))) ∧ Blk .u8 w_ g12 32 (nn (secsN tab seed leaf (el) ++ othsN tab seed leaf (el))) ∧ w4.heap.size ≤ w_.heap.size)) ?_ ?_
  · skip
    have e1 := drew_e0 w4
    refine zg (fun w_ => Bl w.heap.size w w_ ∧ Blk .u32 w_ w.heap.size 26 (nn tab) ∧ Blk .u8 w_ w1.heap.size 27 (nn (seed)) ∧ Blk .u8 w_ w2.heap.size 28 (nn (dl)) ∧ Blk .u8 w_ w3.heap.size 28 (nn (el)) ∧ w4.heap.size ≤ w_.heap.size) (fun w_ => Bl w.heap.size w w_ ∧ Blk .u32 w_ w.heap.size 26 (nn tab) ∧ Blk .u8 w_ w1.heap.size 27 (nn (seed)) ∧ Blk .u8 w_ w2.heap.size 28 (nn (dl)) ∧ Blk .u8 w_ w3.heap.size 28 (nn (el)) ∧ w4.heap.size ≤ w_.heap.size) 11 12 ⟨BL.e0 e1, b5.e0 e1, b6.e0 e1, b8.e0 e1, b9.e0 e1, Nat.le_refl _⟩ ?_
    clear BL b5 b6 b8 b9
    clear e1
    intro w5
    rintro ⟨BL, b5, b6, b8, b9, z1⟩
    refine zv 0 16 (.agg (cellsOf .u8 (nn (seed)))) (fun _ ⟨BL, b5, b6, b8, b9, z1⟩ => Val.blk 27 _ rfl 0 32 (by kernel_rfl) b6 _ Try.underlying27 rfl (by kernel_rfl) (by (try simp only [nn_len, List.length_append, List.length_replicate]); try omega) _ (seg_all' _ (by (try simp only [nn_len, List.length_append, List.length_replicate]); try omega))) ⟨BL, b5, b6, b8, b9, by omega⟩ ?_
    simp only [List.set_cons_zero, List.set_cons_succ]
    refine zv 1 17 (.int .i64 leaf) (fun _ _ => .of) ⟨BL, b5, b6, b8, b9, by omega⟩ ?_
    simp only [List.set_cons_zero, List.set_cons_succ]
    refine zv 2 18 (.agg (cellsOf .u8 (nn (dl)))) (fun _ ⟨BL, b5, b6, b8, b9, z1⟩ => Val.blk 28 _ rfl 0 32 (by kernel_rfl) b8 _ Try.underlying28 rfl (by kernel_rfl) (by (try simp only [nn_len, List.length_append, List.length_replicate]); try omega) _ (seg_all' _ (by (try simp only [nn_len, List.length_append, List.length_replicate]); try omega))) ⟨BL, b5, b6, b8, b9, by omega⟩ ?_
    simp only [List.set_cons_zero, List.set_cons_succ]
    refine zv 4 20 (.agg (cellsOf .u8 (nn (seed)))) (fun _ ⟨BL, b5, b6, b8, b9, z1⟩ => Val.blk 27 _ rfl 0 32 (by kernel_rfl) b6 _ Try.underlying27 rfl (by kernel_rfl) (by (try simp only [nn_len, List.length_append, List.length_replicate]); try omega) _ (seg_all' _ (by (try simp only [nn_len, List.length_append, List.length_replicate]); try omega))) ⟨BL, b5, b6, b8, b9, by omega⟩ ?_
    simp only [List.set_cons_zero, List.set_cons_succ]
    refine zv 5 21 (.int .i64 leaf) (fun _ _ => .of) ⟨BL, b5, b6, b8, b9, by omega⟩ ?_
    simp only [List.set_cons_zero, List.set_cons_succ]
    refine zv 6 22 (.agg (cellsOf .u8 (nn (el)))) (fun _ ⟨BL, b5, b6, b8, b9, z1⟩ => Val.blk 28 _ rfl 0 32 (by kernel_rfl) b9 _ Try.underlying28 rfl (by kernel_rfl) (by (try simp only [nn_len, List.length_append, List.length_replicate]); try omega) _ (seg_all' _ (by (try simp only [nn_len, List.length_append, List.length_replicate]); try omega))) ⟨BL, b5, b6, b8, b9, by omega⟩ ?_
    simp only [List.set_cons_zero, List.set_cons_succ]
    refine zo3 3 8 9 rfl rfl rfl ?_ ?_ ?_
    · skip
      refine xCall 19 15 #[.pointer (some ⟨w.heap.size, 0, none⟩), .agg (cellsOf .u8 (nn (seed))), .int .i64 leaf, .agg (cellsOf .u8 (nn (dl)))] (by kernel_rfl) ?_
      refine (sign_any w.heap.size tab ht w5 b5 seed hs leaf h1 (dl) hdl hdb).mono ?_
      rintro en w6 ⟨rfl, hb1⟩
      have e2 := belE0 hb1
      have ze2 := e2.size
      replace BL := BL.e0 e2
      replace b5 := b5.e0 e2
      replace b6 := b6.e0 e2
      replace b8 := b8.e0 e2
      replace b9 := b9.e0 e2
      clear e2
      refine ⟨.agg (cellsOf .u8 (nn (secsN tab seed leaf (dl) ++ othsN tab seed leaf (dl)))), rfl, ?_⟩
      refine ze 3 ⟨BL, b5, b6, b8, b9, by omega⟩ ?_
      simp only [List.set_cons_zero, List.set_cons_succ]
      refine zo3 7 8 9 rfl rfl rfl ?_ ?_ ?_
      · skip
        refine xCall 23 15 #[.pointer (some ⟨w.heap.size, 0, none⟩), .agg (cellsOf .u8 (nn (seed))), .int .i64 leaf, .agg (cellsOf .u8 (nn (el)))] (by kernel_rfl) ?_
        refine (sign_any w.heap.size tab ht w6 b5 seed hs leaf h1 (el) hel heb).mono ?_
        rintro en w7 ⟨rfl, hb1⟩
        have e3 := belE0 hb1
        have ze3 := e3.size
        replace BL := BL.e0 e3
        replace b5 := b5.e0 e3
        replace b6 := b6.e0 e3
        replace b8 := b8.e0 e3
        replace b9 := b9.e0 e3
        clear e3
        refine ⟨.agg (cellsOf .u8 (nn (secsN tab seed leaf (el) ++ othsN tab seed leaf (el)))), rfl, ?_⟩
        refine ze 7 ⟨BL, b5, b6, b8, b9, by omega⟩ ?_
        simp only [List.set_cons_zero, List.set_cons_succ]
        refine zo2 8 9 rfl rfl ?_ ?_
        · skip
          refine xAlloc 11 32 ((nn (List.replicate 16384 0)).map (Value.int .u8)) rfl (by kernel_rfl) ?_
          intro w8 n5
          have zn5 := n5.z
          have b11 := n5.c
          replace b11 : Blk .u8 w8 w7.heap.size 32 (nn (List.replicate 16384 0)) := b11
          replace BL := BL.e0 n5.e
          replace b5 := b5.e0 n5.e
          replace b6 := b6.e0 n5.e
          replace b8 := b8.e0 n5.e
          replace b9 := b9.e0 n5.e
          refine ze 8 ⟨BL, b5, b6, b8, b9, by omega⟩ ?_
          simp only [List.set_cons_zero, List.set_cons_succ]
          refine zo1 9 rfl ?_
          refine xAlloc 12 32 ((nn (List.replicate 16384 0)).map (Value.int .u8)) rfl (by kernel_rfl) ?_
          intro w9 n6
          have zn6 := n6.z
          have b12 := n6.c
          replace b12 : Blk .u8 w9 w8.heap.size 32 (nn (List.replicate 16384 0)) := b12
          replace BL := BL.e0 n6.e
          replace b5 := b5.e0 n6.e
          replace b6 := b6.e0 n6.e
          replace b8 := b8.e0 n6.e
          replace b9 := b9.e0 n6.e
          replace b11 := b11.e0 n6.e
          refine ze 9 ⟨BL, b5, b6, b8, b9, by omega⟩ ?_
          simp only [List.set_cons_zero, List.set_cons_succ]
          refine zo1 10 rfl ?_
          refine xStoreA 32 (.tmp 11) (.tmp 19) rfl .u8 w7.heap.size 32 (nn (List.replicate 16384 0)) 0 (nn (secsN tab seed leaf (dl) ++ othsN tab seed leaf (dl))) (by kernel_rfl) (by kernel_rfl) b11 (by rw [show (nn (secsN tab seed leaf (dl) ++ othsN tab seed leaf (dl))).length = 16384 by ((try simp only [nn_len, List.length_append, List.length_replicate]); try omega)]; kernel_rfl) (by (try simp only [nn_len, List.length_append, List.length_replicate]); try omega) (nn (secsN tab seed leaf (dl) ++ othsN tab seed leaf (dl))) (over_whole _ _ (by (try simp only [nn_len, List.length_append, List.length_replicate]); try omega)) ?_
          intro w10 t1
          have zt1 := t1.z
          have BL_ := BL.ev t1.e (fun i h => show w.heap.size ≤ i by have h : i = w7.heap.size := h; omega)
          have b5_ := b5.ev t1.e (show ¬ (w.heap.size = w7.heap.size) by omega)
          have b6_ := b6.ev t1.e (show ¬ (w1.heap.size = w7.heap.size) by omega)
          have b8_ := b8.ev t1.e (show ¬ (w2.heap.size = w7.heap.size) by omega)
          have b9_ := b9.ev t1.e (show ¬ (w3.heap.size = w7.heap.size) by omega)
          have b12_ := b12.ev t1.e (show ¬ (w8.heap.size = w7.heap.size) by omega)
          replace BL := BL_; clear BL_
          replace b5 := b5_; clear b5_
          replace b6 := b6_; clear b6_
          replace b8 := b8_; clear b8_
          replace b9 := b9_; clear b9_
          replace b12 := b12_; clear b12_
          replace b11 : Blk .u8 w10 w7.heap.size 32 (nn (secsN tab seed leaf (dl) ++ othsN tab seed leaf (dl))) := t1.c
          clear t1
          refine ze 10 ⟨BL, b5, b6, b8, b9, by omega⟩ ?_
          refine zo1 11 rfl ?_
          refine xStoreA 32 (.tmp 12) (.tmp 23) rfl .u8 w8.heap.size 32 (nn (List.replicate 16384 0)) 0 (nn (secsN tab seed leaf (el) ++ othsN tab seed leaf (el))) (by kernel_rfl) (by kernel_rfl) b12 (by rw [show (nn (secsN tab seed leaf (el) ++ othsN tab seed leaf (el))).length = 16384 by ((try simp only [nn_len, List.length_append, List.length_replicate]); try omega)]; kernel_rfl) (by (try simp only [nn_len, List.length_append, List.length_replicate]); try omega) (nn (secsN tab seed leaf (el) ++ othsN tab seed leaf (el))) (over_whole _ _ (by (try simp only [nn_len, List.length_append, List.length_replicate]); try omega)) ?_
          intro w11 t2
          have zt2 := t2.z
          have BL_ := BL.ev t2.e (fun i h => show w.heap.size ≤ i by have h : i = w8.heap.size := h; omega)
          have b5_ := b5.ev t2.e (show ¬ (w.heap.size = w8.heap.size) by omega)
          have b6_ := b6.ev t2.e (show ¬ (w1.heap.size = w8.heap.size) by omega)
          have b8_ := b8.ev t2.e (show ¬ (w2.heap.size = w8.heap.size) by omega)
          have b9_ := b9.ev t2.e (show ¬ (w3.heap.size = w8.heap.size) by omega)
          have b11_ := b11.ev t2.e (show ¬ (w7.heap.size = w8.heap.size) by omega)
          replace BL := BL_; clear BL_
          replace b5 := b5_; clear b5_
          replace b6 := b6_; clear b6_
          replace b8 := b8_; clear b8_
          replace b9 := b9_; clear b9_
          replace b11 := b11_; clear b11_
          replace b12 : Blk .u8 w11 w8.heap.size 32 (nn (secsN tab seed leaf (el) ++ othsN tab seed leaf (el))) := t2.c
          clear t2
          refine zz 11 ?_
          refine zd (by kernel_rfl) ?_ _
          exact ⟨w7.heap.size, w8.heap.size, cutE, BL, b5, b6, b8, b9, b11, b12, by omega⟩
        · skip
          refine xAlloc 12 32 ((nn (List.replicate 16384 0)).map (Value.int .u8)) rfl (by kernel_rfl) ?_
          intro w12 n7
          have zn7 := n7.z
          have b12 := n7.c
          replace b12 : Blk .u8 w12 w7.heap.size 32 (nn (List.replicate 16384 0)) := b12
          replace BL := BL.e0 n7.e
          replace b5 := b5.e0 n7.e
          replace b6 := b6.e0 n7.e
          replace b8 := b8.e0 n7.e
          replace b9 := b9.e0 n7.e
          refine ze 9 ⟨BL, b5, b6, b8, b9, by omega⟩ ?_
          simp only [List.set_cons_zero, List.set_cons_succ]
          refine zo1 8 rfl ?_
          refine xAlloc 11 32 ((nn (List.replicate 16384 0)).map (Value.int .u8)) rfl (by kernel_rfl) ?_
          intro w13 n8
          have zn8 := n8.z
          have b11 := n8.c
          replace b11 : Blk .u8 w13 w12.heap.size 32 (nn (List.replicate 16384 0)) := b11
          replace BL := BL.e0 n8.e
          replace b5 := b5.e0 n8.e
          replace b6 := b6.e0 n8.e
          replace b8 := b8.e0 n8.e
          replace b9 := b9.e0 n8.e
          replace b12 := b12.e0 n8.e
          refine ze 8 ⟨BL, b5, b6, b8, b9, by omega⟩ ?_
          simp only [List.set_cons_zero, List.set_cons_succ]
          refine zo1 10 rfl ?_
          refine xStoreA 32 (.tmp 11) (.tmp 19) rfl .u8 w12.heap.size 32 (nn (List.replicate 16384 0)) 0 (nn (secsN tab seed leaf (dl) ++ othsN tab seed leaf (dl))) (by kernel_rfl) (by kernel_rfl) b11 (by rw [show (nn (secsN tab seed leaf (dl) ++ othsN tab seed leaf (dl))).length = 16384 by ((try simp only [nn_len, List.length_append, List.length_replicate]); try omega)]; kernel_rfl) (by (try simp only [nn_len, List.length_append, List.length_replicate]); try omega) (nn (secsN tab seed leaf (dl) ++ othsN tab seed leaf (dl))) (over_whole _ _ (by (try simp only [nn_len, List.length_append, List.length_replicate]); try omega)) ?_
          intro w14 t3
          have zt3 := t3.z
          have BL_ := BL.ev t3.e (fun i h => show w.heap.size ≤ i by have h : i = w12.heap.size := h; omega)
          have b5_ := b5.ev t3.e (show ¬ (w.heap.size = w12.heap.size) by omega)
          have b6_ := b6.ev t3.e (show ¬ (w1.heap.size = w12.heap.size) by omega)
          have b8_ := b8.ev t3.e (show ¬ (w2.heap.size = w12.heap.size) by omega)
          have b9_ := b9.ev t3.e (show ¬ (w3.heap.size = w12.heap.size) by omega)
          have b12_ := b12.ev t3.e (show ¬ (w7.heap.size = w12.heap.size) by omega)
          replace BL := BL_; clear BL_
          replace b5 := b5_; clear b5_
          replace b6 := b6_; clear b6_
          replace b8 := b8_; clear b8_
          replace b9 := b9_; clear b9_
          replace b12 := b12_; clear b12_
          replace b11 : Blk .u8 w14 w12.heap.size 32 (nn (secsN tab seed leaf (dl) ++ othsN tab seed leaf (dl))) := t3.c
          clear t3
          refine ze 10 ⟨BL, b5, b6, b8, b9, by omega⟩ ?_
          refine zo1 11 rfl ?_
          refine xStoreA 32 (.tmp 12) (.tmp 23) rfl .u8 w7.heap.size 32 (nn (List.replicate 16384 0)) 0 (nn (secsN tab seed leaf (el) ++ othsN tab seed leaf (el))) (by kernel_rfl) (by kernel_rfl) b12 (by rw [show (nn (secsN tab seed leaf (el) ++ othsN tab seed leaf (el))).length = 16384 by ((try simp only [nn_len, List.length_append, List.length_replicate]); try omega)]; kernel_rfl) (by (try simp only [nn_len, List.length_append, List.length_replicate]); try omega) (nn (secsN tab seed leaf (el) ++ othsN tab seed leaf (el))) (over_whole _ _ (by (try simp only [nn_len, List.length_append, List.length_replicate]); try omega)) ?_
          intro w15 t4
          have zt4 := t4.z
          have BL_ := BL.ev t4.e (fun i h => show w.heap.size ≤ i by have h : i = w7.heap.size := h; omega)
          have b5_ := b5.ev t4.e (show ¬ (w.heap.size = w7.heap.size) by omega)
          have b6_ := b6.ev t4.e (show ¬ (w1.heap.size = w7.heap.size) by omega)
          have b8_ := b8.ev t4.e (show ¬ (w2.heap.size = w7.heap.size) by omega)
          have b9_ := b9.ev t4.e (show ¬ (w3.heap.size = w7.heap.size) by omega)
          have b11_ := b11.ev t4.e (show ¬ (w12.heap.size = w7.heap.size) by omega)
          replace BL := BL_; clear BL_
          replace b5 := b5_; clear b5_
          replace b6 := b6_; clear b6_
          replace b8 := b8_; clear b8_
          replace b9 := b9_; clear b9_
          replace b11 := b11_; clear b11_
          replace b12 : Blk .u8 w15 w7.heap.size 32 (nn (secsN tab seed leaf (el) ++ othsN tab seed leaf (el))) := t4.c
          clear t4
          refine zz 11 ?_
          refine zd (by kernel_rfl) ?_ _
          exact ⟨w12.heap.size, w7.heap.size, cutE, BL, b5, b6, b8, b9, b11, b12, by omega⟩
      · skip
        refine xAlloc 11 32 ((nn (List.replicate 16384 0)).map (Value.int .u8)) rfl (by kernel_rfl) ?_
        intro w16 n9
        have zn9 := n9.z
        have b11 := n9.c
        replace b11 : Blk .u8 w16 w6.heap.size 32 (nn (List.replicate 16384 0)) := b11
        replace BL := BL.e0 n9.e
        replace b5 := b5.e0 n9.e
        replace b6 := b6.e0 n9.e
        replace b8 := b8.e0 n9.e
        replace b9 := b9.e0 n9.e
        refine ze 8 ⟨BL, b5, b6, b8, b9, by omega⟩ ?_
        simp only [List.set_cons_zero, List.set_cons_succ]
        refine zo2 7 9 rfl rfl ?_ ?_
        · skip
          refine xCall 23 15 #[.pointer (some ⟨w.heap.size, 0, none⟩), .agg (cellsOf .u8 (nn (seed))), .int .i64 leaf, .agg (cellsOf .u8 (nn (el)))] (by kernel_rfl) ?_
          refine (sign_any w.heap.size tab ht w16 b5 seed hs leaf h1 (el) hel heb).mono ?_
          rintro en w17 ⟨rfl, hb1⟩
          have e4 := belE0 hb1
          have ze4 := e4.size
          replace BL := BL.e0 e4
          replace b5 := b5.e0 e4
          replace b6 := b6.e0 e4
          replace b8 := b8.e0 e4
          replace b9 := b9.e0 e4
          replace b11 := b11.e0 e4
          clear e4
          refine ⟨.agg (cellsOf .u8 (nn (secsN tab seed leaf (el) ++ othsN tab seed leaf (el)))), rfl, ?_⟩
          refine ze 7 ⟨BL, b5, b6, b8, b9, by omega⟩ ?_
          simp only [List.set_cons_zero, List.set_cons_succ]
          refine zo1 9 rfl ?_
          refine xAlloc 12 32 ((nn (List.replicate 16384 0)).map (Value.int .u8)) rfl (by kernel_rfl) ?_
          intro w18 n10
          have zn10 := n10.z
          have b12 := n10.c
          replace b12 : Blk .u8 w18 w17.heap.size 32 (nn (List.replicate 16384 0)) := b12
          replace BL := BL.e0 n10.e
          replace b5 := b5.e0 n10.e
          replace b6 := b6.e0 n10.e
          replace b8 := b8.e0 n10.e
          replace b9 := b9.e0 n10.e
          replace b11 := b11.e0 n10.e
          refine ze 9 ⟨BL, b5, b6, b8, b9, by omega⟩ ?_
          simp only [List.set_cons_zero, List.set_cons_succ]
          refine zo1 10 rfl ?_
          refine xStoreA 32 (.tmp 11) (.tmp 19) rfl .u8 w6.heap.size 32 (nn (List.replicate 16384 0)) 0 (nn (secsN tab seed leaf (dl) ++ othsN tab seed leaf (dl))) (by kernel_rfl) (by kernel_rfl) b11 (by rw [show (nn (secsN tab seed leaf (dl) ++ othsN tab seed leaf (dl))).length = 16384 by ((try simp only [nn_len, List.length_append, List.length_replicate]); try omega)]; kernel_rfl) (by (try simp only [nn_len, List.length_append, List.length_replicate]); try omega) (nn (secsN tab seed leaf (dl) ++ othsN tab seed leaf (dl))) (over_whole _ _ (by (try simp only [nn_len, List.length_append, List.length_replicate]); try omega)) ?_
          intro w19 t5
          have zt5 := t5.z
          have BL_ := BL.ev t5.e (fun i h => show w.heap.size ≤ i by have h : i = w6.heap.size := h; omega)
          have b5_ := b5.ev t5.e (show ¬ (w.heap.size = w6.heap.size) by omega)
          have b6_ := b6.ev t5.e (show ¬ (w1.heap.size = w6.heap.size) by omega)
          have b8_ := b8.ev t5.e (show ¬ (w2.heap.size = w6.heap.size) by omega)
          have b9_ := b9.ev t5.e (show ¬ (w3.heap.size = w6.heap.size) by omega)
          have b12_ := b12.ev t5.e (show ¬ (w17.heap.size = w6.heap.size) by omega)
          replace BL := BL_; clear BL_
          replace b5 := b5_; clear b5_
          replace b6 := b6_; clear b6_
          replace b8 := b8_; clear b8_
          replace b9 := b9_; clear b9_
          replace b12 := b12_; clear b12_
          replace b11 : Blk .u8 w19 w6.heap.size 32 (nn (secsN tab seed leaf (dl) ++ othsN tab seed leaf (dl))) := t5.c
          clear t5
          refine ze 10 ⟨BL, b5, b6, b8, b9, by omega⟩ ?_
          refine zo1 11 rfl ?_
          refine xStoreA 32 (.tmp 12) (.tmp 23) rfl .u8 w17.heap.size 32 (nn (List.replicate 16384 0)) 0 (nn (secsN tab seed leaf (el) ++ othsN tab seed leaf (el))) (by kernel_rfl) (by kernel_rfl) b12 (by rw [show (nn (secsN tab seed leaf (el) ++ othsN tab seed leaf (el))).length = 16384 by ((try simp only [nn_len, List.length_append, List.length_replicate]); try omega)]; kernel_rfl) (by (try simp only [nn_len, List.length_append, List.length_replicate]); try omega) (nn (secsN tab seed leaf (el) ++ othsN tab seed leaf (el))) (over_whole _ _ (by (try simp only [nn_len, List.length_append, List.length_replicate]); try omega)) ?_
          intro w20 t6
          have zt6 := t6.z
          have BL_ := BL.ev t6.e (fun i h => show w.heap.size ≤ i by have h : i = w17.heap.size := h; omega)
          have b5_ := b5.ev t6.e (show ¬ (w.heap.size = w17.heap.size) by omega)
          have b6_ := b6.ev t6.e (show ¬ (w1.heap.size = w17.heap.size) by omega)
          have b8_ := b8.ev t6.e (show ¬ (w2.heap.size = w17.heap.size) by omega)
          have b9_ := b9.ev t6.e (show ¬ (w3.heap.size = w17.heap.size) by omega)
          have b11_ := b11.ev t6.e (show ¬ (w6.heap.size = w17.heap.size) by omega)
          replace BL := BL_; clear BL_
          replace b5 := b5_; clear b5_
          replace b6 := b6_; clear b6_
          replace b8 := b8_; clear b8_
          replace b9 := b9_; clear b9_
          replace b11 := b11_; clear b11_
          replace b12 : Blk .u8 w20 w17.heap.size 32 (nn (secsN tab seed leaf (el) ++ othsN tab seed leaf (el))) := t6.c
          clear t6
          refine zz 11 ?_
          refine zd (by kernel_rfl) ?_ _
          exact ⟨w6.heap.size, w17.heap.size, cutE, BL, b5, b6, b8, b9, b11, b12, by omega⟩
        · skip
          refine xAlloc 12 32 ((nn (List.replicate 16384 0)).map (Value.int .u8)) rfl (by kernel_rfl) ?_
          intro w21 n11
          have zn11 := n11.z
          have b12 := n11.c
          replace b12 : Blk .u8 w21 w16.heap.size 32 (nn (List.replicate 16384 0)) := b12
          replace BL := BL.e0 n11.e
          replace b5 := b5.e0 n11.e
          replace b6 := b6.e0 n11.e
          replace b8 := b8.e0 n11.e
          replace b9 := b9.e0 n11.e
          replace b11 := b11.e0 n11.e
          refine ze 9 ⟨BL, b5, b6, b8, b9, by omega⟩ ?_
          simp only [List.set_cons_zero, List.set_cons_succ]
          refine zo1 7 rfl ?_
          refine xCall 23 15 #[.pointer (some ⟨w.heap.size, 0, none⟩), .agg (cellsOf .u8 (nn (seed))), .int .i64 leaf, .agg (cellsOf .u8 (nn (el)))] (by kernel_rfl) ?_
          refine (sign_any w.heap.size tab ht w21 b5 seed hs leaf h1 (el) hel heb).mono ?_
          rintro en w22 ⟨rfl, hb1⟩
          have e5 := belE0 hb1
          have ze5 := e5.size
          replace BL := BL.e0 e5
          replace b5 := b5.e0 e5
          replace b6 := b6.e0 e5
          replace b8 := b8.e0 e5
          replace b9 := b9.e0 e5
          replace b11 := b11.e0 e5
          replace b12 := b12.e0 e5
          clear e5
          refine ⟨.agg (cellsOf .u8 (nn (secsN tab seed leaf (el) ++ othsN tab seed leaf (el)))), rfl, ?_⟩
          refine ze 7 ⟨BL, b5, b6, b8, b9, by omega⟩ ?_
          simp only [List.set_cons_zero, List.set_cons_succ]
          refine zo1 10 rfl ?_
          refine xStoreA 32 (.tmp 11) (.tmp 19) rfl .u8 w6.heap.size 32 (nn (List.replicate 16384 0)) 0 (nn (secsN tab seed leaf (dl) ++ othsN tab seed leaf (dl))) (by kernel_rfl) (by kernel_rfl) b11 (by rw [show (nn (secsN tab seed leaf (dl) ++ othsN tab seed leaf (dl))).length = 16384 by ((try simp only [nn_len, List.length_append, List.length_replicate]); try omega)]; kernel_rfl) (by (try simp only [nn_len, List.length_append, List.length_replicate]); try omega) (nn (secsN tab seed leaf (dl) ++ othsN tab seed leaf (dl))) (over_whole _ _ (by (try simp only [nn_len, List.length_append, List.length_replicate]); try omega)) ?_
          intro w23 t7
          have zt7 := t7.z
          have BL_ := BL.ev t7.e (fun i h => show w.heap.size ≤ i by have h : i = w6.heap.size := h; omega)
          have b5_ := b5.ev t7.e (show ¬ (w.heap.size = w6.heap.size) by omega)
          have b6_ := b6.ev t7.e (show ¬ (w1.heap.size = w6.heap.size) by omega)
          have b8_ := b8.ev t7.e (show ¬ (w2.heap.size = w6.heap.size) by omega)
          have b9_ := b9.ev t7.e (show ¬ (w3.heap.size = w6.heap.size) by omega)
          have b12_ := b12.ev t7.e (show ¬ (w16.heap.size = w6.heap.size) by omega)
          replace BL := BL_; clear BL_
          replace b5 := b5_; clear b5_
          replace b6 := b6_; clear b6_
          replace b8 := b8_; clear b8_
          replace b9 := b9_; clear b9_
          replace b12 := b12_; clear b12_
          replace b11 : Blk .u8 w23 w6.heap.size 32 (nn (secsN tab seed leaf (dl) ++ othsN tab seed leaf (dl))) := t7.c
          clear t7
          refine ze 10 ⟨BL, b5, b6, b8, b9, by omega⟩ ?_
          refine zo1 11 rfl ?_
          refine xStoreA 32 (.tmp 12) (.tmp 23) rfl .u8 w16.heap.size 32 (nn (List.replicate 16384 0)) 0 (nn (secsN tab seed leaf (el) ++ othsN tab seed leaf (el))) (by kernel_rfl) (by kernel_rfl) b12 (by rw [show (nn (secsN tab seed leaf (el) ++ othsN tab seed leaf (el))).length = 16384 by ((try simp only [nn_len, List.length_append, List.length_replicate]); try omega)]; kernel_rfl) (by (try simp only [nn_len, List.length_append, List.length_replicate]); try omega) (nn (secsN tab seed leaf (el) ++ othsN tab seed leaf (el))) (over_whole _ _ (by (try simp only [nn_len, List.length_append, List.length_replicate]); try omega)) ?_
          intro w24 t8
          have zt8 := t8.z
          have BL_ := BL.ev t8.e (fun i h => show w.heap.size ≤ i by have h : i = w16.heap.size := h; omega)
          have b5_ := b5.ev t8.e (show ¬ (w.heap.size = w16.heap.size) by omega)
          have b6_ := b6.ev t8.e (show ¬ (w1.heap.size = w16.heap.size) by omega)
          have b8_ := b8.ev t8.e (show ¬ (w2.heap.size = w16.heap.size) by omega)
          have b9_ := b9.ev t8.e (show ¬ (w3.heap.size = w16.heap.size) by omega)
          have b11_ := b11.ev t8.e (show ¬ (w6.heap.size = w16.heap.size) by omega)
          replace BL := BL_; clear BL_
          replace b5 := b5_; clear b5_
          replace b6 := b6_; clear b6_
          replace b8 := b8_; clear b8_
          replace b9 := b9_; clear b9_
          replace b11 := b11_; clear b11_
          replace b12 : Blk .u8 w24 w16.heap.size 32 (nn (secsN tab seed leaf (el) ++ othsN tab seed leaf (el))) := t8.c
          clear t8
          refine zz 11 ?_
          refine zd (by kernel_rfl) ?_ _
          exact ⟨w6.heap.size, w16.heap.size, cutE, BL, b5, b6, b8, b9, b11, b12, by omega⟩
      · skip
        refine xAlloc 12 32 ((nn (List.replicate 16384 0)).map (Value.int .u8)) rfl (by kernel_rfl) ?_
        intro w25 n12
        have zn12 := n12.z
        have b12 := n12.c
        replace b12 : Blk .u8 w25 w6.heap.size 32 (nn (List.replicate 16384 0)) := b12
        replace BL := BL.e0 n12.e
        replace b5 := b5.e0 n12.e
        replace b6 := b6.e0 n12.e
        replace b8 := b8.e0 n12.e
        replace b9 := b9.e0 n12.e
        refine ze 9 ⟨BL, b5, b6, b8, b9, by omega⟩ ?_
        simp only [List.set_cons_zero, List.set_cons_succ]
        refine zo2 7 8 rfl rfl ?_ ?_
        · skip
          refine xCall 23 15 #[.pointer (some ⟨w.heap.size, 0, none⟩), .agg (cellsOf .u8 (nn (seed))), .int .i64 leaf, .agg (cellsOf .u8 (nn (el)))] (by kernel_rfl) ?_
          refine (sign_any w.heap.size tab ht w25 b5 seed hs leaf h1 (el) hel heb).mono ?_
          rintro en w26 ⟨rfl, hb1⟩
          have e6 := belE0 hb1
          have ze6 := e6.size
          replace BL := BL.e0 e6
          replace b5 := b5.e0 e6
          replace b6 := b6.e0 e6
          replace b8 := b8.e0 e6
          replace b9 := b9.e0 e6
          replace b12 := b12.e0 e6
          clear e6
          refine ⟨.agg (cellsOf .u8 (nn (secsN tab seed leaf (el) ++ othsN tab seed leaf (el)))), rfl, ?_⟩
          refine ze 7 ⟨BL, b5, b6, b8, b9, by omega⟩ ?_
          simp only [List.set_cons_zero, List.set_cons_succ]
          refine zo1 8 rfl ?_
          refine xAlloc 11 32 ((nn (List.replicate 16384 0)).map (Value.int .u8)) rfl (by kernel_rfl) ?_
          intro w27 n13
          have zn13 := n13.z
          have b11 := n13.c
          replace b11 : Blk .u8 w27 w26.heap.size 32 (nn (List.replicate 16384 0)) := b11
          replace BL := BL.e0 n13.e
          replace b5 := b5.e0 n13.e
          replace b6 := b6.e0 n13.e
          replace b8 := b8.e0 n13.e
          replace b9 := b9.e0 n13.e
          replace b12 := b12.e0 n13.e
          refine ze 8 ⟨BL, b5, b6, b8, b9, by omega⟩ ?_
          simp only [List.set_cons_zero, List.set_cons_succ]
          refine zo1 10 rfl ?_
          refine xStoreA 32 (.tmp 11) (.tmp 19) rfl .u8 w26.heap.size 32 (nn (List.replicate 16384 0)) 0 (nn (secsN tab seed leaf (dl) ++ othsN tab seed leaf (dl))) (by kernel_rfl) (by kernel_rfl) b11 (by rw [show (nn (secsN tab seed leaf (dl) ++ othsN tab seed leaf (dl))).length = 16384 by ((try simp only [nn_len, List.length_append, List.length_replicate]); try omega)]; kernel_rfl) (by (try simp only [nn_len, List.length_append, List.length_replicate]); try omega) (nn (secsN tab seed leaf (dl) ++ othsN tab seed leaf (dl))) (over_whole _ _ (by (try simp only [nn_len, List.length_append, List.length_replicate]); try omega)) ?_
          intro w28 t9
          have zt9 := t9.z
          have BL_ := BL.ev t9.e (fun i h => show w.heap.size ≤ i by have h : i = w26.heap.size := h; omega)
          have b5_ := b5.ev t9.e (show ¬ (w.heap.size = w26.heap.size) by omega)
          have b6_ := b6.ev t9.e (show ¬ (w1.heap.size = w26.heap.size) by omega)
          have b8_ := b8.ev t9.e (show ¬ (w2.heap.size = w26.heap.size) by omega)
          have b9_ := b9.ev t9.e (show ¬ (w3.heap.size = w26.heap.size) by omega)
          have b12_ := b12.ev t9.e (show ¬ (w6.heap.size = w26.heap.size) by omega)
          replace BL := BL_; clear BL_
          replace b5 := b5_; clear b5_
          replace b6 := b6_; clear b6_
          replace b8 := b8_; clear b8_
          replace b9 := b9_; clear b9_
          replace b12 := b12_; clear b12_
          replace b11 : Blk .u8 w28 w26.heap.size 32 (nn (secsN tab seed leaf (dl) ++ othsN tab seed leaf (dl))) := t9.c
          clear t9
          refine ze 10 ⟨BL, b5, b6, b8, b9, by omega⟩ ?_
          refine zo1 11 rfl ?_
          refine xStoreA 32 (.tmp 12) (.tmp 23) rfl .u8 w6.heap.size 32 (nn (List.replicate 16384 0)) 0 (nn (secsN tab seed leaf (el) ++ othsN tab seed leaf (el))) (by kernel_rfl) (by kernel_rfl) b12 (by rw [show (nn (secsN tab seed leaf (el) ++ othsN tab seed leaf (el))).length = 16384 by ((try simp only [nn_len, List.length_append, List.length_replicate]); try omega)]; kernel_rfl) (by (try simp only [nn_len, List.length_append, List.length_replicate]); try omega) (nn (secsN tab seed leaf (el) ++ othsN tab seed leaf (el))) (over_whole _ _ (by (try simp only [nn_len, List.length_append, List.length_replicate]); try omega)) ?_
          intro w29 t10
          have zt10 := t10.z
          have BL_ := BL.ev t10.e (fun i h => show w.heap.size ≤ i by have h : i = w6.heap.size := h; omega)
          have b5_ := b5.ev t10.e (show ¬ (w.heap.size = w6.heap.size) by omega)
          have b6_ := b6.ev t10.e (show ¬ (w1.heap.size = w6.heap.size) by omega)
          have b8_ := b8.ev t10.e (show ¬ (w2.heap.size = w6.heap.size) by omega)
          have b9_ := b9.ev t10.e (show ¬ (w3.heap.size = w6.heap.size) by omega)
          have b11_ := b11.ev t10.e (show ¬ (w26.heap.size = w6.heap.size) by omega)
          replace BL := BL_; clear BL_
          replace b5 := b5_; clear b5_
          replace b6 := b6_; clear b6_
          replace b8 := b8_; clear b8_
          replace b9 := b9_; clear b9_
          replace b11 := b11_; clear b11_
          replace b12 : Blk .u8 w29 w6.heap.size 32 (nn (secsN tab seed leaf (el) ++ othsN tab seed leaf (el))) := t10.c
          clear t10
          refine zz 11 ?_
          refine zd (by kernel_rfl) ?_ _
          exact ⟨w26.heap.size, w6.heap.size, cutE, BL, b5, b6, b8, b9, b11, b12, by omega⟩
        · skip
          refine xAlloc 11 32 ((nn (List.replicate 16384 0)).map (Value.int .u8)) rfl (by kernel_rfl) ?_
          intro w30 n14
          have zn14 := n14.z
          have b11 := n14.c
          replace b11 : Blk .u8 w30 w25.heap.size 32 (nn (List.replicate 16384 0)) := b11
          replace BL := BL.e0 n14.e
          replace b5 := b5.e0 n14.e
          replace b6 := b6.e0 n14.e
          replace b8 := b8.e0 n14.e
          replace b9 := b9.e0 n14.e
          replace b12 := b12.e0 n14.e
          refine ze 8 ⟨BL, b5, b6, b8, b9, by omega⟩ ?_
          simp only [List.set_cons_zero, List.set_cons_succ]
          refine zo1 7 rfl ?_
          refine xCall 23 15 #[.pointer (some ⟨w.heap.size, 0, none⟩), .agg (cellsOf .u8 (nn (seed))), .int .i64 leaf, .agg (cellsOf .u8 (nn (el)))] (by kernel_rfl) ?_
          refine (sign_any w.heap.size tab ht w30 b5 seed hs leaf h1 (el) hel heb).mono ?_
          rintro en w31 ⟨rfl, hb1⟩
          have e7 := belE0 hb1
          have ze7 := e7.size
          replace BL := BL.e0 e7
          replace b5 := b5.e0 e7
          replace b6 := b6.e0 e7
          replace b8 := b8.e0 e7
          replace b9 := b9.e0 e7
          replace b12 := b12.e0 e7
          replace b11 := b11.e0 e7
          clear e7
          refine ⟨.agg (cellsOf .u8 (nn (secsN tab seed leaf (el) ++ othsN tab seed leaf (el)))), rfl, ?_⟩
          refine ze 7 ⟨BL, b5, b6, b8, b9, by omega⟩ ?_
          simp only [List.set_cons_zero, List.set_cons_succ]
          refine zo1 10 rfl ?_
          refine xStoreA 32 (.tmp 11) (.tmp 19) rfl .u8 w25.heap.size 32 (nn (List.replicate 16384 0)) 0 (nn (secsN tab seed leaf (dl) ++ othsN tab seed leaf (dl))) (by kernel_rfl) (by kernel_rfl) b11 (by rw [show (nn (secsN tab seed leaf (dl) ++ othsN tab seed leaf (dl))).length = 16384 by ((try simp only [nn_len, List.length_append, List.length_replicate]); try omega)]; kernel_rfl) (by (try simp only [nn_len, List.length_append, List.length_replicate]); try omega) (nn (secsN tab seed leaf (dl) ++ othsN tab seed leaf (dl))) (over_whole _ _ (by (try simp only [nn_len, List.length_append, List.length_replicate]); try omega)) ?_
          intro w32 t11
          have zt11 := t11.z
          have BL_ := BL.ev t11.e (fun i h => show w.heap.size ≤ i by have h : i = w25.heap.size := h; omega)
          have b5_ := b5.ev t11.e (show ¬ (w.heap.size = w25.heap.size) by omega)
          have b6_ := b6.ev t11.e (show ¬ (w1.heap.size = w25.heap.size) by omega)
          have b8_ := b8.ev t11.e (show ¬ (w2.heap.size = w25.heap.size) by omega)
          have b9_ := b9.ev t11.e (show ¬ (w3.heap.size = w25.heap.size) by omega)
          have b12_ := b12.ev t11.e (show ¬ (w6.heap.size = w25.heap.size) by omega)
          replace BL := BL_; clear BL_
          replace b5 := b5_; clear b5_
          replace b6 := b6_; clear b6_
          replace b8 := b8_; clear b8_
          replace b9 := b9_; clear b9_
          replace b12 := b12_; clear b12_
          replace b11 : Blk .u8 w32 w25.heap.size 32 (nn (secsN tab seed leaf (dl) ++ othsN tab seed leaf (dl))) := t11.c
          clear t11
          refine ze 10 ⟨BL, b5, b6, b8, b9, by omega⟩ ?_
          refine zo1 11 rfl ?_
          refine xStoreA 32 (.tmp 12) (.tmp 23) rfl .u8 w6.heap.size 32 (nn (List.replicate 16384 0)) 0 (nn (secsN tab seed leaf (el) ++ othsN tab seed leaf (el))) (by kernel_rfl) (by kernel_rfl) b12 (by rw [show (nn (secsN tab seed leaf (el) ++ othsN tab seed leaf (el))).length = 16384 by ((try simp only [nn_len, List.length_append, List.length_replicate]); try omega)]; kernel_rfl) (by (try simp only [nn_len, List.length_append, List.length_replicate]); try omega) (nn (secsN tab seed leaf (el) ++ othsN tab seed leaf (el))) (over_whole _ _ (by (try simp only [nn_len, List.length_append, List.length_replicate]); try omega)) ?_
          intro w33 t12
          have zt12 := t12.z
          have BL_ := BL.ev t12.e (fun i h => show w.heap.size ≤ i by have h : i = w6.heap.size := h; omega)
          have b5_ := b5.ev t12.e (show ¬ (w.heap.size = w6.heap.size) by omega)
          have b6_ := b6.ev t12.e (show ¬ (w1.heap.size = w6.heap.size) by omega)
          have b8_ := b8.ev t12.e (show ¬ (w2.heap.size = w6.heap.size) by omega)
          have b9_ := b9.ev t12.e (show ¬ (w3.heap.size = w6.heap.size) by omega)
          have b11_ := b11.ev t12.e (show ¬ (w25.heap.size = w6.heap.size) by omega)
          replace BL := BL_; clear BL_
          replace b5 := b5_; clear b5_
          replace b6 := b6_; clear b6_
          replace b8 := b8_; clear b8_
          replace b9 := b9_; clear b9_
          replace b11 := b11_; clear b11_
          replace b12 : Blk .u8 w33 w6.heap.size 32 (nn (secsN tab seed leaf (el) ++ othsN tab seed leaf (el))) := t12.c
          clear t12
          refine zz 11 ?_
          refine zd (by kernel_rfl) ?_ _
          exact ⟨w25.heap.size, w6.heap.size, cutE, BL, b5, b6, b8, b9, b11, b12, by omega⟩
    · skip
      refine xAlloc 11 32 ((nn (List.replicate 16384 0)).map (Value.int .u8)) rfl (by kernel_rfl) ?_
      intro w34 n15
      have zn15 := n15.z
      have b11 := n15.c
      replace b11 : Blk .u8 w34 w5.heap.size 32 (nn (List.replicate 16384 0)) := b11
      replace BL := BL.e0 n15.e
      replace b5 := b5.e0 n15.e
      replace b6 := b6.e0 n15.e
      replace b8 := b8.e0 n15.e
      replace b9 := b9.e0 n15.e
      refine ze 8 ⟨BL, b5, b6, b8, b9, by omega⟩ ?_
      simp only [List.set_cons_zero, List.set_cons_succ]
      refine zo2 3 9 rfl rfl ?_ ?_
      · skip
        refine xCall 19 15 #[.pointer (some ⟨w.heap.size, 0, none⟩), .agg (cellsOf .u8 (nn (seed))), .int .i64 leaf, .agg (cellsOf .u8 (nn (dl)))] (by kernel_rfl) ?_
        refine (sign_any w.heap.size tab ht w34 b5 seed hs leaf h1 (dl) hdl hdb).mono ?_
        rintro en w35 ⟨rfl, hb1⟩
        have e8 := belE0 hb1
        have ze8 := e8.size
        replace BL := BL.e0 e8
        replace b5 := b5.e0 e8
        replace b6 := b6.e0 e8
        replace b8 := b8.e0 e8
        replace b9 := b9.e0 e8
        replace b11 := b11.e0 e8
        clear e8
        refine ⟨.agg (cellsOf .u8 (nn (secsN tab seed leaf (dl) ++ othsN tab seed leaf (dl)))), rfl, ?_⟩
        refine ze 3 ⟨BL, b5, b6, b8, b9, by omega⟩ ?_
        simp only [List.set_cons_zero, List.set_cons_succ]
        refine zo2 7 9 rfl rfl ?_ ?_
        · skip
          refine xCall 23 15 #[.pointer (some ⟨w.heap.size, 0, none⟩), .agg (cellsOf .u8 (nn (seed))), .int .i64 leaf, .agg (cellsOf .u8 (nn (el)))] (by kernel_rfl) ?_
          refine (sign_any w.heap.size tab ht w35 b5 seed hs leaf h1 (el) hel heb).mono ?_
          rintro en w36 ⟨rfl, hb1⟩
          have e9 := belE0 hb1
          have ze9 := e9.size
          replace BL := BL.e0 e9
          replace b5 := b5.e0 e9
          replace b6 := b6.e0 e9
          replace b8 := b8.e0 e9
          replace b9 := b9.e0 e9
          replace b11 := b11.e0 e9
          clear e9
          refine ⟨.agg (cellsOf .u8 (nn (secsN tab seed leaf (el) ++ othsN tab seed leaf (el)))), rfl, ?_⟩
          refine ze 7 ⟨BL, b5, b6, b8, b9, by omega⟩ ?_
          simp only [List.set_cons_zero, List.set_cons_succ]
          refine zo1 9 rfl ?_
          refine xAlloc 12 32 ((nn (List.replicate 16384 0)).map (Value.int .u8)) rfl (by kernel_rfl) ?_
          intro w37 n16
          have zn16 := n16.z
          have b12 := n16.c
          replace b12 : Blk .u8 w37 w36.heap.size 32 (nn (List.replicate 16384 0)) := b12
          replace BL := BL.e0 n16.e
          replace b5 := b5.e0 n16.e
          replace b6 := b6.e0 n16.e
          replace b8 := b8.e0 n16.e
          replace b9 := b9.e0 n16.e
          replace b11 := b11.e0 n16.e
          refine ze 9 ⟨BL, b5, b6, b8, b9, by omega⟩ ?_
          simp only [List.set_cons_zero, List.set_cons_succ]
          refine zo1 10 rfl ?_
          refine xStoreA 32 (.tmp 11) (.tmp 19) rfl .u8 w5.heap.size 32 (nn (List.replicate 16384 0)) 0 (nn (secsN tab seed leaf (dl) ++ othsN tab seed leaf (dl))) (by kernel_rfl) (by kernel_rfl) b11 (by rw [show (nn (secsN tab seed leaf (dl) ++ othsN tab seed leaf (dl))).length = 16384 by ((try simp only [nn_len, List.length_append, List.length_replicate]); try omega)]; kernel_rfl) (by (try simp only [nn_len, List.length_append, List.length_replicate]); try omega) (nn (secsN tab seed leaf (dl) ++ othsN tab seed leaf (dl))) (over_whole _ _ (by (try simp only [nn_len, List.length_append, List.length_replicate]); try omega)) ?_
          intro w38 t13
          have zt13 := t13.z
          have BL_ := BL.ev t13.e (fun i h => show w.heap.size ≤ i by have h : i = w5.heap.size := h; omega)
          have b5_ := b5.ev t13.e (show ¬ (w.heap.size = w5.heap.size) by omega)
          have b6_ := b6.ev t13.e (show ¬ (w1.heap.size = w5.heap.size) by omega)
          have b8_ := b8.ev t13.e (show ¬ (w2.heap.size = w5.heap.size) by omega)
          have b9_ := b9.ev t13.e (show ¬ (w3.heap.size = w5.heap.size) by omega)
          have b12_ := b12.ev t13.e (show ¬ (w36.heap.size = w5.heap.size) by omega)
          replace BL := BL_; clear BL_
          replace b5 := b5_; clear b5_
          replace b6 := b6_; clear b6_
          replace b8 := b8_; clear b8_
          replace b9 := b9_; clear b9_
          replace b12 := b12_; clear b12_
          replace b11 : Blk .u8 w38 w5.heap.size 32 (nn (secsN tab seed leaf (dl) ++ othsN tab seed leaf (dl))) := t13.c
          clear t13
          refine ze 10 ⟨BL, b5, b6, b8, b9, by omega⟩ ?_
          refine zo1 11 rfl ?_
          refine xStoreA 32 (.tmp 12) (.tmp 23) rfl .u8 w36.heap.size 32 (nn (List.replicate 16384 0)) 0 (nn (secsN tab seed leaf (el) ++ othsN tab seed leaf (el))) (by kernel_rfl) (by kernel_rfl) b12 (by rw [show (nn (secsN tab seed leaf (el) ++ othsN tab seed leaf (el))).length = 16384 by ((try simp only [nn_len, List.length_append, List.length_replicate]); try omega)]; kernel_rfl) (by (try simp only [nn_len, List.length_append, List.length_replicate]); try omega) (nn (secsN tab seed leaf (el) ++ othsN tab seed leaf (el))) (over_whole _ _ (by (try simp only [nn_len, List.length_append, List.length_replicate]); try omega)) ?_
          intro w39 t14
          have zt14 := t14.z
          have BL_ := BL.ev t14.e (fun i h => show w.heap.size ≤ i by have h : i = w36.heap.size := h; omega)
          have b5_ := b5.ev t14.e (show ¬ (w.heap.size = w36.heap.size) by omega)
          have b6_ := b6.ev t14.e (show ¬ (w1.heap.size = w36.heap.size) by omega)
          have b8_ := b8.ev t14.e (show ¬ (w2.heap.size = w36.heap.size) by omega)
          have b9_ := b9.ev t14.e (show ¬ (w3.heap.size = w36.heap.size) by omega)
          have b11_ := b11.ev t14.e (show ¬ (w5.heap.size = w36.heap.size) by omega)
          replace BL := BL_; clear BL_
          replace b5 := b5_; clear b5_
          replace b6 := b6_; clear b6_
          replace b8 := b8_; clear b8_
          replace b9 := b9_; clear b9_
          replace b11 := b11_; clear b11_
          replace b12 : Blk .u8 w39 w36.heap.size 32 (nn (secsN tab seed leaf (el) ++ othsN tab seed leaf (el))) := t14.c
          clear t14
          refine zz 11 ?_
          refine zd (by kernel_rfl) ?_ _
          exact ⟨w5.heap.size, w36.heap.size, cutE, BL, b5, b6, b8, b9, b11, b12, by omega⟩
        · skip
          refine xAlloc 12 32 ((nn (List.replicate 16384 0)).map (Value.int .u8)) rfl (by kernel_rfl) ?_
          intro w40 n17
          have zn17 := n17.z
          have b12 := n17.c
          replace b12 : Blk .u8 w40 w35.heap.size 32 (nn (List.replicate 16384 0)) := b12
          replace BL := BL.e0 n17.e
          replace b5 := b5.e0 n17.e
          replace b6 := b6.e0 n17.e
          replace b8 := b8.e0 n17.e
          replace b9 := b9.e0 n17.e
          replace b11 := b11.e0 n17.e
          refine ze 9 ⟨BL, b5, b6, b8, b9, by omega⟩ ?_
          simp only [List.set_cons_zero, List.set_cons_succ]
          refine zo1 7 rfl ?_
          refine xCall 23 15 #[.pointer (some ⟨w.heap.size, 0, none⟩), .agg (cellsOf .u8 (nn (seed))), .int .i64 leaf, .agg (cellsOf .u8 (nn (el)))] (by kernel_rfl) ?_
          refine (sign_any w.heap.size tab ht w40 b5 seed hs leaf h1 (el) hel heb).mono ?_
          rintro en w41 ⟨rfl, hb1⟩
          have e10 := belE0 hb1
          have ze10 := e10.size
          replace BL := BL.e0 e10
          replace b5 := b5.e0 e10
          replace b6 := b6.e0 e10
          replace b8 := b8.e0 e10
          replace b9 := b9.e0 e10
          replace b11 := b11.e0 e10
          replace b12 := b12.e0 e10
          clear e10
          refine ⟨.agg (cellsOf .u8 (nn (secsN tab seed leaf (el) ++ othsN tab seed leaf (el)))), rfl, ?_⟩
          refine ze 7 ⟨BL, b5, b6, b8, b9, by omega⟩ ?_
          simp only [List.set_cons_zero, List.set_cons_succ]
          refine zo1 10 rfl ?_
          refine xStoreA 32 (.tmp 11) (.tmp 19) rfl .u8 w5.heap.size 32 (nn (List.replicate 16384 0)) 0 (nn (secsN tab seed leaf (dl) ++ othsN tab seed leaf (dl))) (by kernel_rfl) (by kernel_rfl) b11 (by rw [show (nn (secsN tab seed leaf (dl) ++ othsN tab seed leaf (dl))).length = 16384 by ((try simp only [nn_len, List.length_append, List.length_replicate]); try omega)]; kernel_rfl) (by (try simp only [nn_len, List.length_append, List.length_replicate]); try omega) (nn (secsN tab seed leaf (dl) ++ othsN tab seed leaf (dl))) (over_whole _ _ (by (try simp only [nn_len, List.length_append, List.length_replicate]); try omega)) ?_
          intro w42 t15
          have zt15 := t15.z
          have BL_ := BL.ev t15.e (fun i h => show w.heap.size ≤ i by have h : i = w5.heap.size := h; omega)
          have b5_ := b5.ev t15.e (show ¬ (w.heap.size = w5.heap.size) by omega)
          have b6_ := b6.ev t15.e (show ¬ (w1.heap.size = w5.heap.size) by omega)
          have b8_ := b8.ev t15.e (show ¬ (w2.heap.size = w5.heap.size) by omega)
          have b9_ := b9.ev t15.e (show ¬ (w3.heap.size = w5.heap.size) by omega)
          have b12_ := b12.ev t15.e (show ¬ (w35.heap.size = w5.heap.size) by omega)
          replace BL := BL_; clear BL_
          replace b5 := b5_; clear b5_
          replace b6 := b6_; clear b6_
          replace b8 := b8_; clear b8_
          replace b9 := b9_; clear b9_
          replace b12 := b12_; clear b12_
          replace b11 : Blk .u8 w42 w5.heap.size 32 (nn (secsN tab seed leaf (dl) ++ othsN tab seed leaf (dl))) := t15.c
          clear t15
          refine ze 10 ⟨BL, b5, b6, b8, b9, by omega⟩ ?_
          refine zo1 11 rfl ?_
          refine xStoreA 32 (.tmp 12) (.tmp 23) rfl .u8 w35.heap.size 32 (nn (List.replicate 16384 0)) 0 (nn (secsN tab seed leaf (el) ++ othsN tab seed leaf (el))) (by kernel_rfl) (by kernel_rfl) b12 (by rw [show (nn (secsN tab seed leaf (el) ++ othsN tab seed leaf (el))).length = 16384 by ((try simp only [nn_len, List.length_append, List.length_replicate]); try omega)]; kernel_rfl) (by (try simp only [nn_len, List.length_append, List.length_replicate]); try omega) (nn (secsN tab seed leaf (el) ++ othsN tab seed leaf (el))) (over_whole _ _ (by (try simp only [nn_len, List.length_append, List.length_replicate]); try omega)) ?_
          intro w43 t16
          have zt16 := t16.z
          have BL_ := BL.ev t16.e (fun i h => show w.heap.size ≤ i by have h : i = w35.heap.size := h; omega)
          have b5_ := b5.ev t16.e (show ¬ (w.heap.size = w35.heap.size) by omega)
          have b6_ := b6.ev t16.e (show ¬ (w1.heap.size = w35.heap.size) by omega)
          have b8_ := b8.ev t16.e (show ¬ (w2.heap.size = w35.heap.size) by omega)
          have b9_ := b9.ev t16.e (show ¬ (w3.heap.size = w35.heap.size) by omega)
          have b11_ := b11.ev t16.e (show ¬ (w5.heap.size = w35.heap.size) by omega)
          replace BL := BL_; clear BL_
          replace b5 := b5_; clear b5_
          replace b6 := b6_; clear b6_
          replace b8 := b8_; clear b8_
          replace b9 := b9_; clear b9_
          replace b11 := b11_; clear b11_
          replace b12 : Blk .u8 w43 w35.heap.size 32 (nn (secsN tab seed leaf (el) ++ othsN tab seed leaf (el))) := t16.c
          clear t16
          refine zz 11 ?_
          refine zd (by kernel_rfl) ?_ _
          exact ⟨w5.heap.size, w35.heap.size, cutE, BL, b5, b6, b8, b9, b11, b12, by omega⟩
      · skip
        refine xAlloc 12 32 ((nn (List.replicate 16384 0)).map (Value.int .u8)) rfl (by kernel_rfl) ?_
        intro w44 n18
        have zn18 := n18.z
        have b12 := n18.c
        replace b12 : Blk .u8 w44 w34.heap.size 32 (nn (List.replicate 16384 0)) := b12
        replace BL := BL.e0 n18.e
        replace b5 := b5.e0 n18.e
        replace b6 := b6.e0 n18.e
        replace b8 := b8.e0 n18.e
        replace b9 := b9.e0 n18.e
        replace b11 := b11.e0 n18.e
        refine ze 9 ⟨BL, b5, b6, b8, b9, by omega⟩ ?_
        simp only [List.set_cons_zero, List.set_cons_succ]
        refine zo1 3 rfl ?_
        refine xCall 19 15 #[.pointer (some ⟨w.heap.size, 0, none⟩), .agg (cellsOf .u8 (nn (seed))), .int .i64 leaf, .agg (cellsOf .u8 (nn (dl)))] (by kernel_rfl) ?_
        refine (sign_any w.heap.size tab ht w44 b5 seed hs leaf h1 (dl) hdl hdb).mono ?_
        rintro en w45 ⟨rfl, hb1⟩
        have e11 := belE0 hb1
        have ze11 := e11.size
        replace BL := BL.e0 e11
        replace b5 := b5.e0 e11
        replace b6 := b6.e0 e11
        replace b8 := b8.e0 e11
        replace b9 := b9.e0 e11
        replace b11 := b11.e0 e11
        replace b12 := b12.e0 e11
        clear e11
        refine ⟨.agg (cellsOf .u8 (nn (secsN tab seed leaf (dl) ++ othsN tab seed leaf (dl)))), rfl, ?_⟩
        refine ze 3 ⟨BL, b5, b6, b8, b9, by omega⟩ ?_
        simp only [List.set_cons_zero, List.set_cons_succ]
        refine zo1 7 rfl ?_
        refine xCall 23 15 #[.pointer (some ⟨w.heap.size, 0, none⟩), .agg (cellsOf .u8 (nn (seed))), .int .i64 leaf, .agg (cellsOf .u8 (nn (el)))] (by kernel_rfl) ?_
        refine (sign_any w.heap.size tab ht w45 b5 seed hs leaf h1 (el) hel heb).mono ?_
        rintro en w46 ⟨rfl, hb1⟩
        have e12 := belE0 hb1
        have ze12 := e12.size
        replace BL := BL.e0 e12
        replace b5 := b5.e0 e12
        replace b6 := b6.e0 e12
        replace b8 := b8.e0 e12
        replace b9 := b9.e0 e12
        replace b11 := b11.e0 e12
        replace b12 := b12.e0 e12
        clear e12
        refine ⟨.agg (cellsOf .u8 (nn (secsN tab seed leaf (el) ++ othsN tab seed leaf (el)))), rfl, ?_⟩
        refine ze 7 ⟨BL, b5, b6, b8, b9, by omega⟩ ?_
        simp only [List.set_cons_zero, List.set_cons_succ]
        refine zo1 10 rfl ?_
        refine xStoreA 32 (.tmp 11) (.tmp 19) rfl .u8 w5.heap.size 32 (nn (List.replicate 16384 0)) 0 (nn (secsN tab seed leaf (dl) ++ othsN tab seed leaf (dl))) (by kernel_rfl) (by kernel_rfl) b11 (by rw [show (nn (secsN tab seed leaf (dl) ++ othsN tab seed leaf (dl))).length = 16384 by ((try simp only [nn_len, List.length_append, List.length_replicate]); try omega)]; kernel_rfl) (by (try simp only [nn_len, List.length_append, List.length_replicate]); try omega) (nn (secsN tab seed leaf (dl) ++ othsN tab seed leaf (dl))) (over_whole _ _ (by (try simp only [nn_len, List.length_append, List.length_replicate]); try omega)) ?_
        intro w47 t17
        have zt17 := t17.z
        have BL_ := BL.ev t17.e (fun i h => show w.heap.size ≤ i by have h : i = w5.heap.size := h; omega)
        have b5_ := b5.ev t17.e (show ¬ (w.heap.size = w5.heap.size) by omega)
        have b6_ := b6.ev t17.e (show ¬ (w1.heap.size = w5.heap.size) by omega)
        have b8_ := b8.ev t17.e (show ¬ (w2.heap.size = w5.heap.size) by omega)
        have b9_ := b9.ev t17.e (show ¬ (w3.heap.size = w5.heap.size) by omega)
        have b12_ := b12.ev t17.e (show ¬ (w34.heap.size = w5.heap.size) by omega)
        replace BL := BL_; clear BL_
        replace b5 := b5_; clear b5_
        replace b6 := b6_; clear b6_
        replace b8 := b8_; clear b8_
        replace b9 := b9_; clear b9_
        replace b12 := b12_; clear b12_
        replace b11 : Blk .u8 w47 w5.heap.size 32 (nn (secsN tab seed leaf (dl) ++ othsN tab seed leaf (dl))) := t17.c
        clear t17
        refine ze 10 ⟨BL, b5, b6, b8, b9, by omega⟩ ?_
        refine zo1 11 rfl ?_
        refine xStoreA 32 (.tmp 12) (.tmp 23) rfl .u8 w34.heap.size 32 (nn (List.replicate 16384 0)) 0 (nn (secsN tab seed leaf (el) ++ othsN tab seed leaf (el))) (by kernel_rfl) (by kernel_rfl) b12 (by rw [show (nn (secsN tab seed leaf (el) ++ othsN tab seed leaf (el))).length = 16384 by ((try simp only [nn_len, List.length_append, List.length_replicate]); try omega)]; kernel_rfl) (by (try simp only [nn_len, List.length_append, List.length_replicate]); try omega) (nn (secsN tab seed leaf (el) ++ othsN tab seed leaf (el))) (over_whole _ _ (by (try simp only [nn_len, List.length_append, List.length_replicate]); try omega)) ?_
        intro w48 t18
        have zt18 := t18.z
        have BL_ := BL.ev t18.e (fun i h => show w.heap.size ≤ i by have h : i = w34.heap.size := h; omega)
        have b5_ := b5.ev t18.e (show ¬ (w.heap.size = w34.heap.size) by omega)
        have b6_ := b6.ev t18.e (show ¬ (w1.heap.size = w34.heap.size) by omega)
        have b8_ := b8.ev t18.e (show ¬ (w2.heap.size = w34.heap.size) by omega)
        have b9_ := b9.ev t18.e (show ¬ (w3.heap.size = w34.heap.size) by omega)
        have b11_ := b11.ev t18.e (show ¬ (w5.heap.size = w34.heap.size) by omega)
        replace BL := BL_; clear BL_
        replace b5 := b5_; clear b5_
        replace b6 := b6_; clear b6_
        replace b8 := b8_; clear b8_
        replace b9 := b9_; clear b9_
        replace b11 := b11_; clear b11_
        replace b12 : Blk .u8 w48 w34.heap.size 32 (nn (secsN tab seed leaf (el) ++ othsN tab seed leaf (el))) := t18.c
        clear t18
        refine zz 11 ?_
        refine zd (by kernel_rfl) ?_ _
        exact ⟨w5.heap.size, w34.heap.size, cutE, BL, b5, b6, b8, b9, b11, b12, by omega⟩
    · skip
      refine xAlloc 12 32 ((nn (List.replicate 16384 0)).map (Value.int .u8)) rfl (by kernel_rfl) ?_
      intro w49 n19
      have zn19 := n19.z
      have b12 := n19.c
      replace b12 : Blk .u8 w49 w5.heap.size 32 (nn (List.replicate 16384 0)) := b12
      replace BL := BL.e0 n19.e
      replace b5 := b5.e0 n19.e
      replace b6 := b6.e0 n19.e
      replace b8 := b8.e0 n19.e
      replace b9 := b9.e0 n19.e
      refine ze 9 ⟨BL, b5, b6, b8, b9, by omega⟩ ?_
      simp only [List.set_cons_zero, List.set_cons_succ]
      refine zo2 3 8 rfl rfl ?_ ?_
      · skip
        refine xCall 19 15 #[.pointer (some ⟨w.heap.size, 0, none⟩), .agg (cellsOf .u8 (nn (seed))), .int .i64 leaf, .agg (cellsOf .u8 (nn (dl)))] (by kernel_rfl) ?_
        refine (sign_any w.heap.size tab ht w49 b5 seed hs leaf h1 (dl) hdl hdb).mono ?_
        rintro en w50 ⟨rfl, hb1⟩
        have e13 := belE0 hb1
        have ze13 := e13.size
        replace BL := BL.e0 e13
        replace b5 := b5.e0 e13
        replace b6 := b6.e0 e13
        replace b8 := b8.e0 e13
        replace b9 := b9.e0 e13
        replace b12 := b12.e0 e13
        clear e13
        refine ⟨.agg (cellsOf .u8 (nn (secsN tab seed leaf (dl) ++ othsN tab seed leaf (dl)))), rfl, ?_⟩
        refine ze 3 ⟨BL, b5, b6, b8, b9, by omega⟩ ?_
        simp only [List.set_cons_zero, List.set_cons_succ]
        refine zo2 7 8 rfl rfl ?_ ?_
        · skip
          refine xCall 23 15 #[.pointer (some ⟨w.heap.size, 0, none⟩), .agg (cellsOf .u8 (nn (seed))), .int .i64 leaf, .agg (cellsOf .u8 (nn (el)))] (by kernel_rfl) ?_
          refine (sign_any w.heap.size tab ht w50 b5 seed hs leaf h1 (el) hel heb).mono ?_
          rintro en w51 ⟨rfl, hb1⟩
          have e14 := belE0 hb1
          have ze14 := e14.size
          replace BL := BL.e0 e14
          replace b5 := b5.e0 e14
          replace b6 := b6.e0 e14
          replace b8 := b8.e0 e14
          replace b9 := b9.e0 e14
          replace b12 := b12.e0 e14
          clear e14
          refine ⟨.agg (cellsOf .u8 (nn (secsN tab seed leaf (el) ++ othsN tab seed leaf (el)))), rfl, ?_⟩
          refine ze 7 ⟨BL, b5, b6, b8, b9, by omega⟩ ?_
          simp only [List.set_cons_zero, List.set_cons_succ]
          refine zo1 8 rfl ?_
          refine xAlloc 11 32 ((nn (List.replicate 16384 0)).map (Value.int .u8)) rfl (by kernel_rfl) ?_
          intro w52 n20
          have zn20 := n20.z
          have b11 := n20.c
          replace b11 : Blk .u8 w52 w51.heap.size 32 (nn (List.replicate 16384 0)) := b11
          replace BL := BL.e0 n20.e
          replace b5 := b5.e0 n20.e
          replace b6 := b6.e0 n20.e
          replace b8 := b8.e0 n20.e
          replace b9 := b9.e0 n20.e
          replace b12 := b12.e0 n20.e
          refine ze 8 ⟨BL, b5, b6, b8, b9, by omega⟩ ?_
          simp only [List.set_cons_zero, List.set_cons_succ]
          refine zo1 10 rfl ?_
          refine xStoreA 32 (.tmp 11) (.tmp 19) rfl .u8 w51.heap.size 32 (nn (List.replicate 16384 0)) 0 (nn (secsN tab seed leaf (dl) ++ othsN tab seed leaf (dl))) (by kernel_rfl) (by kernel_rfl) b11 (by rw [show (nn (secsN tab seed leaf (dl) ++ othsN tab seed leaf (dl))).length = 16384 by ((try simp only [nn_len, List.length_append, List.length_replicate]); try omega)]; kernel_rfl) (by (try simp only [nn_len, List.length_append, List.length_replicate]); try omega) (nn (secsN tab seed leaf (dl) ++ othsN tab seed leaf (dl))) (over_whole _ _ (by (try simp only [nn_len, List.length_append, List.length_replicate]); try omega)) ?_
          intro w53 t19
          have zt19 := t19.z
          have BL_ := BL.ev t19.e (fun i h => show w.heap.size ≤ i by have h : i = w51.heap.size := h; omega)
          have b5_ := b5.ev t19.e (show ¬ (w.heap.size = w51.heap.size) by omega)
          have b6_ := b6.ev t19.e (show ¬ (w1.heap.size = w51.heap.size) by omega)
          have b8_ := b8.ev t19.e (show ¬ (w2.heap.size = w51.heap.size) by omega)
          have b9_ := b9.ev t19.e (show ¬ (w3.heap.size = w51.heap.size) by omega)
          have b12_ := b12.ev t19.e (show ¬ (w5.heap.size = w51.heap.size) by omega)
          replace BL := BL_; clear BL_
          replace b5 := b5_; clear b5_
          replace b6 := b6_; clear b6_
          replace b8 := b8_; clear b8_
          replace b9 := b9_; clear b9_
          replace b12 := b12_; clear b12_
          replace b11 : Blk .u8 w53 w51.heap.size 32 (nn (secsN tab seed leaf (dl) ++ othsN tab seed leaf (dl))) := t19.c
          clear t19
          refine ze 10 ⟨BL, b5, b6, b8, b9, by omega⟩ ?_
          refine zo1 11 rfl ?_
          refine xStoreA 32 (.tmp 12) (.tmp 23) rfl .u8 w5.heap.size 32 (nn (List.replicate 16384 0)) 0 (nn (secsN tab seed leaf (el) ++ othsN tab seed leaf (el))) (by kernel_rfl) (by kernel_rfl) b12 (by rw [show (nn (secsN tab seed leaf (el) ++ othsN tab seed leaf (el))).length = 16384 by ((try simp only [nn_len, List.length_append, List.length_replicate]); try omega)]; kernel_rfl) (by (try simp only [nn_len, List.length_append, List.length_replicate]); try omega) (nn (secsN tab seed leaf (el) ++ othsN tab seed leaf (el))) (over_whole _ _ (by (try simp only [nn_len, List.length_append, List.length_replicate]); try omega)) ?_
          intro w54 t20
          have zt20 := t20.z
          have BL_ := BL.ev t20.e (fun i h => show w.heap.size ≤ i by have h : i = w5.heap.size := h; omega)
          have b5_ := b5.ev t20.e (show ¬ (w.heap.size = w5.heap.size) by omega)
          have b6_ := b6.ev t20.e (show ¬ (w1.heap.size = w5.heap.size) by omega)
          have b8_ := b8.ev t20.e (show ¬ (w2.heap.size = w5.heap.size) by omega)
          have b9_ := b9.ev t20.e (show ¬ (w3.heap.size = w5.heap.size) by omega)
          have b11_ := b11.ev t20.e (show ¬ (w51.heap.size = w5.heap.size) by omega)
          replace BL := BL_; clear BL_
          replace b5 := b5_; clear b5_
          replace b6 := b6_; clear b6_
          replace b8 := b8_; clear b8_
          replace b9 := b9_; clear b9_
          replace b11 := b11_; clear b11_
          replace b12 : Blk .u8 w54 w5.heap.size 32 (nn (secsN tab seed leaf (el) ++ othsN tab seed leaf (el))) := t20.c
          clear t20
          refine zz 11 ?_
          refine zd (by kernel_rfl) ?_ _
          exact ⟨w51.heap.size, w5.heap.size, cutE, BL, b5, b6, b8, b9, b11, b12, by omega⟩
        · skip
          refine xAlloc 11 32 ((nn (List.replicate 16384 0)).map (Value.int .u8)) rfl (by kernel_rfl) ?_
          intro w55 n21
          have zn21 := n21.z
          have b11 := n21.c
          replace b11 : Blk .u8 w55 w50.heap.size 32 (nn (List.replicate 16384 0)) := b11
          replace BL := BL.e0 n21.e
          replace b5 := b5.e0 n21.e
          replace b6 := b6.e0 n21.e
          replace b8 := b8.e0 n21.e
          replace b9 := b9.e0 n21.e
          replace b12 := b12.e0 n21.e
          refine ze 8 ⟨BL, b5, b6, b8, b9, by omega⟩ ?_
          simp only [List.set_cons_zero, List.set_cons_succ]
          refine zo1 7 rfl ?_
          refine xCall 23 15 #[.pointer (some ⟨w.heap.size, 0, none⟩), .agg (cellsOf .u8 (nn (seed))), .int .i64 leaf, .agg (cellsOf .u8 (nn (el)))] (by kernel_rfl) ?_
          refine (sign_any w.heap.size tab ht w55 b5 seed hs leaf h1 (el) hel heb).mono ?_
          rintro en w56 ⟨rfl, hb1⟩
          have e15 := belE0 hb1
          have ze15 := e15.size
          replace BL := BL.e0 e15
          replace b5 := b5.e0 e15
          replace b6 := b6.e0 e15
          replace b8 := b8.e0 e15
          replace b9 := b9.e0 e15
          replace b12 := b12.e0 e15
          replace b11 := b11.e0 e15
          clear e15
          refine ⟨.agg (cellsOf .u8 (nn (secsN tab seed leaf (el) ++ othsN tab seed leaf (el)))), rfl, ?_⟩
          refine ze 7 ⟨BL, b5, b6, b8, b9, by omega⟩ ?_
          simp only [List.set_cons_zero, List.set_cons_succ]
          refine zo1 10 rfl ?_
          refine xStoreA 32 (.tmp 11) (.tmp 19) rfl .u8 w50.heap.size 32 (nn (List.replicate 16384 0)) 0 (nn (secsN tab seed leaf (dl) ++ othsN tab seed leaf (dl))) (by kernel_rfl) (by kernel_rfl) b11 (by rw [show (nn (secsN tab seed leaf (dl) ++ othsN tab seed leaf (dl))).length = 16384 by ((try simp only [nn_len, List.length_append, List.length_replicate]); try omega)]; kernel_rfl) (by (try simp only [nn_len, List.length_append, List.length_replicate]); try omega) (nn (secsN tab seed leaf (dl) ++ othsN tab seed leaf (dl))) (over_whole _ _ (by (try simp only [nn_len, List.length_append, List.length_replicate]); try omega)) ?_
          intro w57 t21
          have zt21 := t21.z
          have BL_ := BL.ev t21.e (fun i h => show w.heap.size ≤ i by have h : i = w50.heap.size := h; omega)
          have b5_ := b5.ev t21.e (show ¬ (w.heap.size = w50.heap.size) by omega)
          have b6_ := b6.ev t21.e (show ¬ (w1.heap.size = w50.heap.size) by omega)
          have b8_ := b8.ev t21.e (show ¬ (w2.heap.size = w50.heap.size) by omega)
          have b9_ := b9.ev t21.e (show ¬ (w3.heap.size = w50.heap.size) by omega)
          have b12_ := b12.ev t21.e (show ¬ (w5.heap.size = w50.heap.size) by omega)
          replace BL := BL_; clear BL_
          replace b5 := b5_; clear b5_
          replace b6 := b6_; clear b6_
          replace b8 := b8_; clear b8_
          replace b9 := b9_; clear b9_
          replace b12 := b12_; clear b12_
          replace b11 : Blk .u8 w57 w50.heap.size 32 (nn (secsN tab seed leaf (dl) ++ othsN tab seed leaf (dl))) := t21.c
          clear t21
          refine ze 10 ⟨BL, b5, b6, b8, b9, by omega⟩ ?_
          refine zo1 11 rfl ?_
          refine xStoreA 32 (.tmp 12) (.tmp 23) rfl .u8 w5.heap.size 32 (nn (List.replicate 16384 0)) 0 (nn (secsN tab seed leaf (el) ++ othsN tab seed leaf (el))) (by kernel_rfl) (by kernel_rfl) b12 (by rw [show (nn (secsN tab seed leaf (el) ++ othsN tab seed leaf (el))).length = 16384 by ((try simp only [nn_len, List.length_append, List.length_replicate]); try omega)]; kernel_rfl) (by (try simp only [nn_len, List.length_append, List.length_replicate]); try omega) (nn (secsN tab seed leaf (el) ++ othsN tab seed leaf (el))) (over_whole _ _ (by (try simp only [nn_len, List.length_append, List.length_replicate]); try omega)) ?_
          intro w58 t22
          have zt22 := t22.z
          have BL_ := BL.ev t22.e (fun i h => show w.heap.size ≤ i by have h : i = w5.heap.size := h; omega)
          have b5_ := b5.ev t22.e (show ¬ (w.heap.size = w5.heap.size) by omega)
          have b6_ := b6.ev t22.e (show ¬ (w1.heap.size = w5.heap.size) by omega)
          have b8_ := b8.ev t22.e (show ¬ (w2.heap.size = w5.heap.size) by omega)
          have b9_ := b9.ev t22.e (show ¬ (w3.heap.size = w5.heap.size) by omega)
          have b11_ := b11.ev t22.e (show ¬ (w50.heap.size = w5.heap.size) by omega)
          replace BL := BL_; clear BL_
          replace b5 := b5_; clear b5_
          replace b6 := b6_; clear b6_
          replace b8 := b8_; clear b8_
          replace b9 := b9_; clear b9_
          replace b11 := b11_; clear b11_
          replace b12 : Blk .u8 w58 w5.heap.size 32 (nn (secsN tab seed leaf (el) ++ othsN tab seed leaf (el))) := t22.c
          clear t22
          refine zz 11 ?_
          refine zd (by kernel_rfl) ?_ _
          exact ⟨w50.heap.size, w5.heap.size, cutE, BL, b5, b6, b8, b9, b11, b12, by omega⟩
      · skip
        refine xAlloc 11 32 ((nn (List.replicate 16384 0)).map (Value.int .u8)) rfl (by kernel_rfl) ?_
        intro w59 n22
        have zn22 := n22.z
        have b11 := n22.c
        replace b11 : Blk .u8 w59 w49.heap.size 32 (nn (List.replicate 16384 0)) := b11
        replace BL := BL.e0 n22.e
        replace b5 := b5.e0 n22.e
        replace b6 := b6.e0 n22.e
        replace b8 := b8.e0 n22.e
        replace b9 := b9.e0 n22.e
        replace b12 := b12.e0 n22.e
        refine ze 8 ⟨BL, b5, b6, b8, b9, by omega⟩ ?_
        simp only [List.set_cons_zero, List.set_cons_succ]
        refine zo1 3 rfl ?_
        refine xCall 19 15 #[.pointer (some ⟨w.heap.size, 0, none⟩), .agg (cellsOf .u8 (nn (seed))), .int .i64 leaf, .agg (cellsOf .u8 (nn (dl)))] (by kernel_rfl) ?_
        refine (sign_any w.heap.size tab ht w59 b5 seed hs leaf h1 (dl) hdl hdb).mono ?_
        rintro en w60 ⟨rfl, hb1⟩
        have e16 := belE0 hb1
        have ze16 := e16.size
        replace BL := BL.e0 e16
        replace b5 := b5.e0 e16
        replace b6 := b6.e0 e16
        replace b8 := b8.e0 e16
        replace b9 := b9.e0 e16
        replace b12 := b12.e0 e16
        replace b11 := b11.e0 e16
        clear e16
        refine ⟨.agg (cellsOf .u8 (nn (secsN tab seed leaf (dl) ++ othsN tab seed leaf (dl)))), rfl, ?_⟩
        refine ze 3 ⟨BL, b5, b6, b8, b9, by omega⟩ ?_
        simp only [List.set_cons_zero, List.set_cons_succ]
        refine zo1 7 rfl ?_
        refine xCall 23 15 #[.pointer (some ⟨w.heap.size, 0, none⟩), .agg (cellsOf .u8 (nn (seed))), .int .i64 leaf, .agg (cellsOf .u8 (nn (el)))] (by kernel_rfl) ?_
        refine (sign_any w.heap.size tab ht w60 b5 seed hs leaf h1 (el) hel heb).mono ?_
        rintro en w61 ⟨rfl, hb1⟩
        have e17 := belE0 hb1
        have ze17 := e17.size
        replace BL := BL.e0 e17
        replace b5 := b5.e0 e17
        replace b6 := b6.e0 e17
        replace b8 := b8.e0 e17
        replace b9 := b9.e0 e17
        replace b12 := b12.e0 e17
        replace b11 := b11.e0 e17
        clear e17
        refine ⟨.agg (cellsOf .u8 (nn (secsN tab seed leaf (el) ++ othsN tab seed leaf (el)))), rfl, ?_⟩
        refine ze 7 ⟨BL, b5, b6, b8, b9, by omega⟩ ?_
        simp only [List.set_cons_zero, List.set_cons_succ]
        refine zo1 10 rfl ?_
        refine xStoreA 32 (.tmp 11) (.tmp 19) rfl .u8 w49.heap.size 32 (nn (List.replicate 16384 0)) 0 (nn (secsN tab seed leaf (dl) ++ othsN tab seed leaf (dl))) (by kernel_rfl) (by kernel_rfl) b11 (by rw [show (nn (secsN tab seed leaf (dl) ++ othsN tab seed leaf (dl))).length = 16384 by ((try simp only [nn_len, List.length_append, List.length_replicate]); try omega)]; kernel_rfl) (by (try simp only [nn_len, List.length_append, List.length_replicate]); try omega) (nn (secsN tab seed leaf (dl) ++ othsN tab seed leaf (dl))) (over_whole _ _ (by (try simp only [nn_len, List.length_append, List.length_replicate]); try omega)) ?_
        intro w62 t23
        have zt23 := t23.z
        have BL_ := BL.ev t23.e (fun i h => show w.heap.size ≤ i by have h : i = w49.heap.size := h; omega)
        have b5_ := b5.ev t23.e (show ¬ (w.heap.size = w49.heap.size) by omega)
        have b6_ := b6.ev t23.e (show ¬ (w1.heap.size = w49.heap.size) by omega)
        have b8_ := b8.ev t23.e (show ¬ (w2.heap.size = w49.heap.size) by omega)
        have b9_ := b9.ev t23.e (show ¬ (w3.heap.size = w49.heap.size) by omega)
        have b12_ := b12.ev t23.e (show ¬ (w5.heap.size = w49.heap.size) by omega)
        replace BL := BL_; clear BL_
        replace b5 := b5_; clear b5_
        replace b6 := b6_; clear b6_
        replace b8 := b8_; clear b8_
        replace b9 := b9_; clear b9_
        replace b12 := b12_; clear b12_
        replace b11 : Blk .u8 w62 w49.heap.size 32 (nn (secsN tab seed leaf (dl) ++ othsN tab seed leaf (dl))) := t23.c
        clear t23
        refine ze 10 ⟨BL, b5, b6, b8, b9, by omega⟩ ?_
        refine zo1 11 rfl ?_
        refine xStoreA 32 (.tmp 12) (.tmp 23) rfl .u8 w5.heap.size 32 (nn (List.replicate 16384 0)) 0 (nn (secsN tab seed leaf (el) ++ othsN tab seed leaf (el))) (by kernel_rfl) (by kernel_rfl) b12 (by rw [show (nn (secsN tab seed leaf (el) ++ othsN tab seed leaf (el))).length = 16384 by ((try simp only [nn_len, List.length_append, List.length_replicate]); try omega)]; kernel_rfl) (by (try simp only [nn_len, List.length_append, List.length_replicate]); try omega) (nn (secsN tab seed leaf (el) ++ othsN tab seed leaf (el))) (over_whole _ _ (by (try simp only [nn_len, List.length_append, List.length_replicate]); try omega)) ?_
        intro w63 t24
        have zt24 := t24.z
        have BL_ := BL.ev t24.e (fun i h => show w.heap.size ≤ i by have h : i = w5.heap.size := h; omega)
        have b5_ := b5.ev t24.e (show ¬ (w.heap.size = w5.heap.size) by omega)
        have b6_ := b6.ev t24.e (show ¬ (w1.heap.size = w5.heap.size) by omega)
        have b8_ := b8.ev t24.e (show ¬ (w2.heap.size = w5.heap.size) by omega)
        have b9_ := b9.ev t24.e (show ¬ (w3.heap.size = w5.heap.size) by omega)
        have b11_ := b11.ev t24.e (show ¬ (w49.heap.size = w5.heap.size) by omega)
        replace BL := BL_; clear BL_
        replace b5 := b5_; clear b5_
        replace b6 := b6_; clear b6_
        replace b8 := b8_; clear b8_
        replace b9 := b9_; clear b9_
        replace b11 := b11_; clear b11_
        replace b12 : Blk .u8 w63 w5.heap.size 32 (nn (secsN tab seed leaf (el) ++ othsN tab seed leaf (el))) := t24.c
        clear t24
        refine zz 11 ?_
        refine zd (by kernel_rfl) ?_ _
        exact ⟨w49.heap.size, w5.heap.size, cutE, BL, b5, b6, b8, b9, b11, b12, by omega⟩
  · skip
    clear BL b5 b6 b8 b9
    rintro a_ wJ1 ⟨g11, g12, ⟨s1, rfl⟩, BL, b5, b6, b8, b9, b11, b12, zJ1⟩
    refine wp_seq_k fun K2 hK2 => ?_
    refine wp_seq_k fun K3 hK3 => ?_
    refine cPlain ?_
    refine sv 13 (.int .i64 0) .of ?_
    simp only [List.set_cons_zero, List.set_cons_succ]
    refine wpList_nil ?_
    refine hK3 _ _ ?_
    refine wp_block ?_
    refine cLoop (fun N_ A_ w_ => ∃ (i : Nat), (N_ = 256 - i ∧ (i ≤ 256) ∧ (∃ s2 : Nat → Value, A_ = ⟨[.agg (cellsOf .u32 (nn tab)), .agg (cellsOf .u8 (nn (seed))), .int .i64 leaf, .agg (cellsOf .u8 (nn (dl))), .agg (cellsOf .u8 (nn (el))), .pointer (some ⟨w.heap.size, 0, none⟩), .pointer (some ⟨w1.heap.size, 0, none⟩), undef, .pointer (some ⟨w2.heap.size, 0, none⟩), .pointer (some ⟨w3.heap.size, 0, none⟩), (s2 10), .pointer (some ⟨g11, 0, none⟩), .pointer (some ⟨g12, 0, none⟩), .int .i64 ((i : Nat) : Int), (s2 14), (s2 15), (s1 16), (s1 17), (s1 18), (s1 19), (s1 20), (s1 21), (s1 22), (s1 23), (s2 24), (s2 25), (s2 26), (s2 27), (s2 28), (s2 29), (s2 30), (s2 31), (s2 32), (s2 33), (s2 34), (s2 35), (s2 36), (s2 37), (s2 38), (s2 39), (s2 40), (s2 41), (s2 42), (s2 43), (s2 44), (s2 45), (s2 46), (s2 47), (s2 48), (s2 49), (s2 50), (s2 51), (s2 52), (s2 53), (s2 54), (s2 55), (s2 56), (s2 57), (s2 58), (s2 59), (s2 60), (s2 61), (s2 62), (s2 63), (s2 64), (s2 65), (s2 66), (s2 67), (s2 68), (s2 69), (s2 70), (s2 71), (s2 72), (s2 73), (s2 74), (s2 75), (s2 76), (s2 77), (s2 78), (s2 79), (s2 80), (s2 81), (s2 82), (s2 83), (s2 84), (s2 85), (s2 86), (s2 87), (s2 88), (s2 89), (s2 90), (s2 91), (s2 92), (s2 93), (s2 94), (s2 95), (s2 96), (s2 97), (s2 98), (s2 99), (s2 100), (s2 101), (s2 102), (s2 103), (s2 104), (s2 105), (s2 106), (s2 107), (s2 108), (s2 109), (s2 110), undef].toArray, []⟩) ∧ Bl w.heap.size w w_ ∧ Blk .u32 w_ w.heap.size 26 (nn tab) ∧ Blk .u8 w_ w1.heap.size 27 (nn (seed)) ∧ Blk .u8 w_ w2.heap.size 28 (nn (dl)) ∧ Blk .u8 w_ w3.heap.size 28 (nn (el)) ∧ Blk .u8 w_ g11 32 (nn (secsN tab seed leaf (dl) ++ othsN tab seed leaf (dl))) ∧ Blk .u8 w_ g12 32 (nn (secsN tab seed leaf (el) ++ othsN tab seed leaf (el))) ∧ wJ1.heap.size ≤ w_.heap.size)) _ ⟨0, rfl, (Nat.zero_le _), cutE, BL, b5, b6, b8, b9, b11, b12, Nat.le_refl _⟩ ?_
    clear BL b5 b6 b8 b9 b11 b12
    rintro n_ a_ wl0 ⟨i, rfl, hc0_0, ⟨s2, rfl⟩, BL, b5, b6, b8, b9, b11, b12, zl0⟩
    refine wp_seq_k fun K4 hK4 => ?_
    refine wp_seq_k fun K5 hK5 => ?_
    refine cPlain ?_
    refine sv 24 (.int .i64 ((i : Nat) : Int)) .of ?_
    simp only [List.set_cons_zero, List.set_cons_succ]
    refine sv 25 (.bool (decide (((i : Nat) : Int) < 256))) (Val.cmp .lss 3 _ (.tmp 24) _ rfl .i64 ((i : Nat) : Int) 256 (by kernel_rfl) (by kernel_rfl) (by simp) _ rfl) ?_
    simp only [List.set_cons_zero, List.set_cons_succ]
    refine wpList_nil ?_
    refine hK5 _ _ ?_
    refine cDec (((i : Nat) : Int) < 256) (by kernel_rfl) (fun c25 => ?_) (fun c25 => ?_)
    · skip
      refine wp_skip ?_
      refine hK4 _ _ ?_
      refine wp_seq_k fun K6 hK6 => ?_
      refine wp_block ?_
      refine wp_seq_k fun K7 hK7 => ?_
      refine cPlain ?_
      refine sv 28 (.agg (cellsOf .u8 (nn (dl)))) (Val.blk 28 _ rfl 0 32 (by kernel_rfl) b8 _ Try.underlying28 rfl (by kernel_rfl) (by (try simp only [nn_len, List.length_append, List.length_replicate]); try omega) _ (seg_all' _ (by (try simp only [nn_len, List.length_append, List.length_replicate]); try omega))) ?_
      simp only [List.set_cons_zero, List.set_cons_succ]
      refine sv 29 (.int .i64 ((i : Nat) : Int)) .of ?_
      simp only [List.set_cons_zero, List.set_cons_succ]
      refine xCall 30 16 #[.agg (cellsOf .u8 (nn (dl))), .int .i64 ((i : Nat) : Int)] (by kernel_rfl) ?_
      refine (bit_any (nn dl) (by rw [nn_len]; exact hdl) hdb (i : Int) (by omega) (by omega) wl0).mono ?_
      rintro en w64 ⟨rfl, hw⟩
      have e18 : E0 wl0 w64 := (hw ▸ alloc_e0 _ _)
      have ze18 := e18.size
      replace BL := BL.e0 e18
      replace b5 := b5.e0 e18
      replace b6 := b6.e0 e18
      replace b8 := b8.e0 e18
      replace b9 := b9.e0 e18
      replace b11 := b11.e0 e18
      replace b12 := b12.e0 e18
      clear e18
      refine ⟨.int .i64 (bitF (nn dl) (i : Int)), rfl, ?_⟩
      simp only [List.set_cons_zero, List.set_cons_succ]
      refine sv 14 (.int .i64 (bitF (nn dl) (i : Int))) .of ?_
      simp only [List.set_cons_zero, List.set_cons_succ]
      refine wpList_nil ?_
      refine hK7 _ _ ?_
      refine wp_seq_k fun K8 hK8 => ?_
      refine wp_seq_k fun K9 hK9 => ?_
      have hbd := bitF_01 (nn dl) hdb (i : Int)
      have e19 := drew_e0 w64
      refine zg (fun w_ => Bl w.heap.size w w_ ∧ Blk .u32 w_ w.heap.size 26 (nn tab) ∧ Blk .u8 w_ w1.heap.size 27 (nn (seed)) ∧ Blk .u8 w_ w2.heap.size 28 (nn (dl)) ∧ Blk .u8 w_ w3.heap.size 28 (nn (el)) ∧ Blk .u8 w_ g11 32 (nn (secsN tab seed leaf (dl) ++ othsN tab seed leaf (dl))) ∧ Blk .u8 w_ g12 32 (nn (secsN tab seed leaf (el) ++ othsN tab seed leaf (el))) ∧ w64.heap.size ≤ w_.heap.size) (fun w_ => Bl w.heap.size w w_ ∧ Blk .u32 w_ w.heap.size 26 (nn tab) ∧ Blk .u8 w_ w1.heap.size 27 (nn (seed)) ∧ Blk .u8 w_ w2.heap.size 28 (nn (dl)) ∧ Blk .u8 w_ w3.heap.size 28 (nn (el)) ∧ Blk .u8 w_ g11 32 (nn (secsN tab seed leaf (dl) ++ othsN tab seed leaf (dl))) ∧ Blk .u8 w_ g12 32 (nn (secsN tab seed leaf (el) ++ othsN tab seed leaf (el))) ∧ w64.heap.size ≤ w_.heap.size) 100000 24 ⟨BL.e0 e19, b5.e0 e19, b6.e0 e19, b8.e0 e19, b9.e0 e19, b11.e0 e19, b12.e0 e19, Nat.le_refl _⟩ ?_
      clear BL b5 b6 b8 b9 b11 b12
      clear e19
      intro w65
      rintro ⟨BL, b5, b6, b8, b9, b11, b12, z2⟩
      refine zv 0 31 (.int .i64 ((i : Nat) : Int)) (fun _ _ => .of) ⟨BL, b5, b6, b8, b9, b11, b12, by omega⟩ ?_
      simp only [List.set_cons_zero, List.set_cons_succ]
      refine zv 1 32 (.pointer (some ⟨g11, 0, none⟩)) (fun _ _ => .of) ⟨BL, b5, b6, b8, b9, b11, b12, by omega⟩ ?_
      simp only [List.set_cons_zero, List.set_cons_succ]
      refine zv 2 33 (.pointer (some ⟨g11, 0 + i * 32, none⟩)) (fun _ ⟨BL, b5, b6, b8, b9, b11, b12, z2⟩ => Val.idxA 29 (.tmp 32) (.tmp 31) rfl g11 0 i (by kernel_rfl) (by kernel_rfl) 32 Try.underlying29 (by kernel_rfl) (by omega)) ⟨BL, b5, b6, b8, b9, b11, b12, by omega⟩ ?_
      simp only [List.set_cons_zero, List.set_cons_succ]
      refine zv 3 34 (.agg (cellsOf .u8 (nn (secF tab seed leaf dl i)))) (fun _ ⟨BL, b5, b6, b8, b9, b11, b12, z2⟩ => Val.blk 27 _ rfl (0 + i * 32) 32 (by kernel_rfl) b11 _ Try.underlying27 rfl (by kernel_rfl) (by omega) _ (by rw [seg_rowN _ i _ (by omega), secsN, rowN_rowsN (secF_len _ _ _ _) (by omega)])) ⟨BL, b5, b6, b8, b9, b11, b12, by omega⟩ ?_
      simp only [List.set_cons_zero, List.set_cons_succ]
      refine zv 4 35 (.agg (cellsOf .u8 (nn (seed)))) (fun _ ⟨BL, b5, b6, b8, b9, b11, b12, z2⟩ => Val.blk 27 _ rfl 0 32 (by kernel_rfl) b6 _ Try.underlying27 rfl (by kernel_rfl) (by (try simp only [nn_len, List.length_append, List.length_replicate]); try omega) _ (seg_all' _ (by (try simp only [nn_len, List.length_append, List.length_replicate]); try omega))) ⟨BL, b5, b6, b8, b9, b11, b12, by omega⟩ ?_
      simp only [List.set_cons_zero, List.set_cons_succ]
      refine zv 5 36 (.int .i64 leaf) (fun _ _ => .of) ⟨BL, b5, b6, b8, b9, b11, b12, by omega⟩ ?_
      simp only [List.set_cons_zero, List.set_cons_succ]
      refine zv 6 37 (.int .i64 ((i : Nat) : Int)) (fun _ _ => .of) ⟨BL, b5, b6, b8, b9, b11, b12, by omega⟩ ?_
      simp only [List.set_cons_zero, List.set_cons_succ]
      refine zv 7 38 (.int .i64 (bitF (nn dl) (i : Int))) (fun _ _ => .of) ⟨BL, b5, b6, b8, b9, b11, b12, by omega⟩ ?_
      simp only [List.set_cons_zero, List.set_cons_succ]
      refine zo1 8 rfl ?_
      refine xCall 39 17 #[.pointer (some ⟨w.heap.size, 0, none⟩), .agg (cellsOf .u8 (nn (seed))), .int .i64 leaf, .int .i64 ((i : Nat) : Int), .int .i64 (bitF (nn dl) (i : Int))] (by kernel_rfl) ?_
      refine (secret_any w.heap.size tab ht w65 b5 seed hs leaf (i : Int) (bitF (nn dl) (i : Int)) h1 (by omega) (by omega)).mono ?_
      rintro en w66 ⟨rfl, hb1⟩
      have e20 := belE0 hb1
      have ze20 := e20.size
      replace BL := BL.e0 e20
      replace b5 := b5.e0 e20
      replace b6 := b6.e0 e20
      replace b8 := b8.e0 e20
      replace b9 := b9.e0 e20
      replace b11 := b11.e0 e20
      replace b12 := b12.e0 e20
      clear e20
      refine ⟨.agg (cellsOf .u8 (nn (secF tab seed leaf dl i))), rfl, ?_⟩
      refine ze 8 ⟨BL, b5, b6, b8, b9, b11, b12, by omega⟩ ?_
      simp only [List.set_cons_zero, List.set_cons_succ]
      refine zv 9 40 (.bool false) (fun _ ⟨BL, b5, b6, b8, b9, b11, b12, z2⟩ => Val.eqA .neq 27 _ (.tmp 34) (.tmp 39) rfl Try.underlying27 Try.underlying5 (by kernel_rfl) (by kernel_rfl) (nn (secF tab seed leaf dl i)) (nn (secF tab seed leaf dl i)) (by kernel_rfl) (by kernel_rfl) (by rw [nn_len]; exact secF_len _ _ _ _ _) (by rw [nn_len]; exact secF_len _ _ _ _ _) (.inr rfl) false (by simp)) ⟨BL, b5, b6, b8, b9, b11, b12, by omega⟩ ?_
      simp only [List.set_cons_zero, List.set_cons_succ]
      refine zv 10 41 (.bool false) (fun _ _ => .of) ⟨BL, b5, b6, b8, b9, b11, b12, by omega⟩ ?_
      simp only [List.set_cons_zero, List.set_cons_succ]
      refine zv 11 42 (.int .i64 ((i : Nat) : Int)) (fun _ _ => .of) ⟨BL, b5, b6, b8, b9, b11, b12, by omega⟩ ?_
      simp only [List.set_cons_zero, List.set_cons_succ]
      refine zv 12 43 (.pointer (some ⟨g11, 8192, none⟩)) (fun _ _ => .of) ⟨BL, b5, b6, b8, b9, b11, b12, by omega⟩ ?_
      simp only [List.set_cons_zero, List.set_cons_succ]
      refine zv 13 44 (.pointer (some ⟨g11, 8192 + i * 32, none⟩)) (fun _ ⟨BL, b5, b6, b8, b9, b11, b12, z2⟩ => Val.idxA 30 (.tmp 43) (.tmp 42) rfl g11 8192 i (by kernel_rfl) (by kernel_rfl) 32 Try.underlying30 (by kernel_rfl) (by omega)) ⟨BL, b5, b6, b8, b9, b11, b12, by omega⟩ ?_
      simp only [List.set_cons_zero, List.set_cons_succ]
      refine zv 14 45 (.agg (cellsOf .u8 (nn (othF tab seed leaf dl i)))) (fun _ ⟨BL, b5, b6, b8, b9, b11, b12, z2⟩ => Val.blk 28 _ rfl (8192 + i * 32) 32 (by kernel_rfl) b11 _ Try.underlying28 rfl (by kernel_rfl) (by omega) _ (by rw [seg_rowN _ (256 + i) _ (by omega), rowN_snd (secsN_len _ _ _ _), othsN, rowN_of (othF_len _ _ _ _) (by omega)])) ⟨BL, b5, b6, b8, b9, b11, b12, by omega⟩ ?_
      simp only [List.set_cons_zero, List.set_cons_succ]
      refine zv 15 46 (.agg (cellsOf .u8 (nn (seed)))) (fun _ ⟨BL, b5, b6, b8, b9, b11, b12, z2⟩ => Val.blk 27 _ rfl 0 32 (by kernel_rfl) b6 _ Try.underlying27 rfl (by kernel_rfl) (by (try simp only [nn_len, List.length_append, List.length_replicate]); try omega) _ (seg_all' _ (by (try simp only [nn_len, List.length_append, List.length_replicate]); try omega))) ⟨BL, b5, b6, b8, b9, b11, b12, by omega⟩ ?_
      simp only [List.set_cons_zero, List.set_cons_succ]
      refine zv 16 47 (.int .i64 leaf) (fun _ _ => .of) ⟨BL, b5, b6, b8, b9, b11, b12, by omega⟩ ?_
      simp only [List.set_cons_zero, List.set_cons_succ]
      refine zv 17 48 (.int .i64 ((i : Nat) : Int)) (fun _ _ => .of) ⟨BL, b5, b6, b8, b9, b11, b12, by omega⟩ ?_
      simp only [List.set_cons_zero, List.set_cons_succ]
      refine zv 18 49 (.int .i64 (bitF (nn dl) (i : Int))) (fun _ _ => .of) ⟨BL, b5, b6, b8, b9, b11, b12, by omega⟩ ?_
      simp only [List.set_cons_zero, List.set_cons_succ]
      refine zv 19 50 (.int .i64 (1 - (bitF (nn dl) (i : Int)))) (fun _ ⟨BL, b5, b6, b8, b9, b11, b12, z2⟩ => Val.sub 3 _ _ (.tmp 49) rfl 1 (bitF (nn dl) (i : Int)) (by kernel_rfl) (by kernel_rfl) (by omega)) ⟨BL, b5, b6, b8, b9, b11, b12, by omega⟩ ?_
      simp only [List.set_cons_zero, List.set_cons_succ]
      refine zo1 20 rfl ?_
      refine xCall 51 17 #[.pointer (some ⟨w.heap.size, 0, none⟩), .agg (cellsOf .u8 (nn (seed))), .int .i64 leaf, .int .i64 ((i : Nat) : Int), .int .i64 (1 - (bitF (nn dl) (i : Int)))] (by kernel_rfl) ?_
      refine (secret_any w.heap.size tab ht w66 b5 seed hs leaf (i : Int) (1 - bitF (nn dl) (i : Int)) h1 (by omega) (by omega)).mono ?_
      rintro en w67 ⟨rfl, hb1⟩
      have e21 := belE0 hb1
      have ze21 := e21.size
      replace BL := BL.e0 e21
      replace b5 := b5.e0 e21
      replace b6 := b6.e0 e21
      replace b8 := b8.e0 e21
      replace b9 := b9.e0 e21
      replace b11 := b11.e0 e21
      replace b12 := b12.e0 e21
      clear e21
      refine ⟨.agg (cellsOf .u8 (nn (secretN tab seed leaf (i : Int) (1 - bitF (nn dl) (i : Int))))), rfl, ?_⟩
      refine ze 20 ⟨BL, b5, b6, b8, b9, b11, b12, by omega⟩ ?_
      simp only [List.set_cons_zero, List.set_cons_succ]
      refine zo1 21 rfl ?_
      refine xCall 52 18 #[.pointer (some ⟨w.heap.size, 0, none⟩), .agg (cellsOf .u8 (nn (secretN tab seed leaf (i : Int) (1 - bitF (nn dl) (i : Int)))))] (by kernel_rfl) ?_
      refine (half_any w.heap.size tab ht w67 b5 (secretN tab seed leaf (i : Int) (1 - bitF (nn dl) (i : Int))) (secretN_len _ _ _ _ _)).mono ?_
      rintro en w68 ⟨rfl, hb1⟩
      have e22 := belE0 hb1
      have ze22 := e22.size
      replace BL := BL.e0 e22
      replace b5 := b5.e0 e22
      replace b6 := b6.e0 e22
      replace b8 := b8.e0 e22
      replace b9 := b9.e0 e22
      replace b11 := b11.e0 e22
      replace b12 := b12.e0 e22
      clear e22
      refine ⟨.agg (cellsOf .u8 (nn (othF tab seed leaf dl i))), rfl, ?_⟩
      refine ze 21 ⟨BL, b5, b6, b8, b9, b11, b12, by omega⟩ ?_
      simp only [List.set_cons_zero, List.set_cons_succ]
      refine zv 22 53 (.bool false) (fun _ ⟨BL, b5, b6, b8, b9, b11, b12, z2⟩ => Val.eqA .neq 28 _ (.tmp 45) (.tmp 52) rfl Try.underlying28 Try.underlying5 (by kernel_rfl) (by kernel_rfl) (nn (othF tab seed leaf dl i)) (nn (othF tab seed leaf dl i)) (by kernel_rfl) (by kernel_rfl) (by rw [nn_len]; exact othF_len _ _ _ _ _) (by rw [nn_len]; exact othF_len _ _ _ _ _) (.inr rfl) false (by simp)) ⟨BL, b5, b6, b8, b9, b11, b12, by omega⟩ ?_
      simp only [List.set_cons_zero, List.set_cons_succ]
      refine zv 23 54 (.bool false) (fun _ _ => .of) ⟨BL, b5, b6, b8, b9, b11, b12, by omega⟩ ?_
      simp only [List.set_cons_zero, List.set_cons_succ]
      refine zd (by kernel_rfl) ?_ _
      refine hK9 _ _ ?_
      refine cF ?_
      refine wp_skip ?_
      refine hK8 _ _ ?_
      refine wp_seq_k fun K10 hK10 => ?_
      have hbe := bitF_01 (nn el) heb (i : Int)
      refine cPlain ?_
      refine sv 55 (.int .i64 (bitF (nn dl) (i : Int))) .of ?_
      simp only [List.set_cons_zero, List.set_cons_succ]
      refine sv 56 (.agg (cellsOf .u8 (nn (el)))) (Val.blk 28 _ rfl 0 32 (by kernel_rfl) b9 _ Try.underlying28 rfl (by kernel_rfl) (by (try simp only [nn_len, List.length_append, List.length_replicate]); try omega) _ (seg_all' _ (by (try simp only [nn_len, List.length_append, List.length_replicate]); try omega))) ?_
      simp only [List.set_cons_zero, List.set_cons_succ]
      refine sv 57 (.int .i64 ((i : Nat) : Int)) .of ?_
      simp only [List.set_cons_zero, List.set_cons_succ]
      refine xCall 58 16 #[.agg (cellsOf .u8 (nn (el))), .int .i64 ((i : Nat) : Int)] (by kernel_rfl) ?_
      refine (bit_any (nn el) (by rw [nn_len]; exact hel) heb (i : Int) (by omega) (by omega) w68).mono ?_
      rintro en w69 ⟨rfl, hw⟩
      have e23 : E0 w68 w69 := (hw ▸ alloc_e0 _ _)
      have ze23 := e23.size
      replace BL := BL.e0 e23
      replace b5 := b5.e0 e23
      replace b6 := b6.e0 e23
      replace b8 := b8.e0 e23
      replace b9 := b9.e0 e23
      replace b11 := b11.e0 e23
      replace b12 := b12.e0 e23
      clear e23
      refine ⟨.int .i64 (bitF (nn el) (i : Int)), rfl, ?_⟩
      simp only [List.set_cons_zero, List.set_cons_succ]
      refine sv 59 (.bool (decide ((bitF (nn dl) (i : Int)) = (bitF (nn el) (i : Int))))) (Val.cmp .eql 3 _ (.tmp 55) (.tmp 58) rfl .i64 (bitF (nn dl) (i : Int)) (bitF (nn el) (i : Int)) (by kernel_rfl) (by kernel_rfl) (by simp) _ rfl) ?_
      simp only [List.set_cons_zero, List.set_cons_succ]
      refine sv 15 (.bool (decide ((bitF (nn dl) (i : Int)) = (bitF (nn el) (i : Int))))) .of ?_
      simp only [List.set_cons_zero, List.set_cons_succ]
      refine wpList_nil ?_
      refine hK10 _ _ ?_
      refine wp_seq_k fun K11 hK11 => ?_
      have e24 := drew_e0 w69
      refine zg (fun w_ => Bl w.heap.size w w_ ∧ Blk .u32 w_ w.heap.size 26 (nn tab) ∧ Blk .u8 w_ w1.heap.size 27 (nn (seed)) ∧ Blk .u8 w_ w2.heap.size 28 (nn (dl)) ∧ Blk .u8 w_ w3.heap.size 28 (nn (el)) ∧ Blk .u8 w_ g11 32 (nn (secsN tab seed leaf (dl) ++ othsN tab seed leaf (dl))) ∧ Blk .u8 w_ g12 32 (nn (secsN tab seed leaf (el) ++ othsN tab seed leaf (el))) ∧ w69.heap.size ≤ w_.heap.size) (fun w_ => Bl w.heap.size w w_ ∧ Blk .u32 w_ w.heap.size 26 (nn tab) ∧ Blk .u8 w_ w1.heap.size 27 (nn (seed)) ∧ Blk .u8 w_ w2.heap.size 28 (nn (dl)) ∧ Blk .u8 w_ w3.heap.size 28 (nn (el)) ∧ Blk .u8 w_ g11 32 (nn (secsN tab seed leaf (dl) ++ othsN tab seed leaf (dl))) ∧ Blk .u8 w_ g12 32 (nn (secsN tab seed leaf (el) ++ othsN tab seed leaf (el))) ∧ w69.heap.size ≤ w_.heap.size) 100000 51 ⟨BL.e0 e24, b5.e0 e24, b6.e0 e24, b8.e0 e24, b9.e0 e24, b11.e0 e24, b12.e0 e24, Nat.le_refl _⟩ ?_
      clear BL b5 b6 b8 b9 b11 b12
      clear e24
      intro w70
      rintro ⟨BL, b5, b6, b8, b9, b11, b12, z3⟩
      refine zv 0 60 (.bool (decide ((bitF (nn dl) (i : Int)) = (bitF (nn el) (i : Int))))) (fun _ _ => .of) ⟨BL, b5, b6, b8, b9, b11, b12, by omega⟩ ?_
      simp only [List.set_cons_zero, List.set_cons_succ]
      refine zv 1 61 (.bool (decide ((bitF (nn dl) (i : Int)) = (bitF (nn el) (i : Int))))) (fun _ _ => .of) ⟨BL, b5, b6, b8, b9, b11, b12, by omega⟩ ?_
      simp only [List.set_cons_zero, List.set_cons_succ]
      by_cases g62 : (bitF (nn dl) (i : Int)) = (bitF (nn el) (i : Int))
      · skip
        have hs1 : secF tab seed leaf dl i = secF tab seed leaf el i := by unfold secF; rw [g62]
        have hs2 : othF tab seed leaf dl i = othF tab seed leaf el i := by unfold othF; rw [g62]
        have dg62 : decide ((bitF (nn dl) (i : Int)) = (bitF (nn el) (i : Int))) = true := decide_eq_true g62
        simp only [dg62]
        clear dg62
        refine zv 2 62 (.int .i64 ((i : Nat) : Int)) (fun _ _ => .of) ⟨BL, b5, b6, b8, b9, b11, b12, by omega⟩ ?_
        simp only [List.set_cons_zero, List.set_cons_succ]
        refine zv 3 63 (.pointer (some ⟨g11, 0, none⟩)) (fun _ _ => .of) ⟨BL, b5, b6, b8, b9, b11, b12, by omega⟩ ?_
        simp only [List.set_cons_zero, List.set_cons_succ]
        refine zv 4 64 (.pointer (some ⟨g11, 0 + i * 32, none⟩)) (fun _ ⟨BL, b5, b6, b8, b9, b11, b12, z3⟩ => Val.idxA 29 (.tmp 63) (.tmp 62) rfl g11 0 i (by kernel_rfl) (by kernel_rfl) 32 Try.underlying29 (by kernel_rfl) (by omega)) ⟨BL, b5, b6, b8, b9, b11, b12, by omega⟩ ?_
        simp only [List.set_cons_zero, List.set_cons_succ]
        refine zv 5 65 (.agg (cellsOf .u8 (nn (secF tab seed leaf dl i)))) (fun _ ⟨BL, b5, b6, b8, b9, b11, b12, z3⟩ => Val.blk 27 _ rfl (0 + i * 32) 32 (by kernel_rfl) b11 _ Try.underlying27 rfl (by kernel_rfl) (by omega) _ (by rw [seg_rowN _ i _ (by omega), secsN, rowN_rowsN (secF_len _ _ _ _) (by omega)])) ⟨BL, b5, b6, b8, b9, b11, b12, by omega⟩ ?_
        simp only [List.set_cons_zero, List.set_cons_succ]
        refine zv 6 66 (.int .i64 ((i : Nat) : Int)) (fun _ _ => .of) ⟨BL, b5, b6, b8, b9, b11, b12, by omega⟩ ?_
        simp only [List.set_cons_zero, List.set_cons_succ]
        refine zv 7 67 (.pointer (some ⟨g12, 0, none⟩)) (fun _ _ => .of) ⟨BL, b5, b6, b8, b9, b11, b12, by omega⟩ ?_
        simp only [List.set_cons_zero, List.set_cons_succ]
        refine zv 8 68 (.pointer (some ⟨g12, 0 + i * 32, none⟩)) (fun _ ⟨BL, b5, b6, b8, b9, b11, b12, z3⟩ => Val.idxA 29 (.tmp 67) (.tmp 66) rfl g12 0 i (by kernel_rfl) (by kernel_rfl) 32 Try.underlying29 (by kernel_rfl) (by omega)) ⟨BL, b5, b6, b8, b9, b11, b12, by omega⟩ ?_
        simp only [List.set_cons_zero, List.set_cons_succ]
        refine zv 9 69 (.agg (cellsOf .u8 (nn (secF tab seed leaf el i)))) (fun _ ⟨BL, b5, b6, b8, b9, b11, b12, z3⟩ => Val.blk 27 _ rfl (0 + i * 32) 32 (by kernel_rfl) b12 _ Try.underlying27 rfl (by kernel_rfl) (by omega) _ (by rw [seg_rowN _ i _ (by omega), secsN, rowN_rowsN (secF_len _ _ _ _) (by omega)])) ⟨BL, b5, b6, b8, b9, b11, b12, by omega⟩ ?_
        simp only [List.set_cons_zero, List.set_cons_succ]
        refine zv 10 70 (.bool false) (fun _ ⟨BL, b5, b6, b8, b9, b11, b12, z3⟩ => Val.eqA .neq 27 _ (.tmp 65) (.tmp 69) rfl Try.underlying27 Try.underlying5 (by kernel_rfl) (by kernel_rfl) (nn (secF tab seed leaf dl i)) (nn (secF tab seed leaf el i)) (by kernel_rfl) (by kernel_rfl) (by rw [nn_len]; exact secF_len _ _ _ _ _) (by rw [nn_len]; exact secF_len _ _ _ _ _) (.inr rfl) false (by simp [hs1])) ⟨BL, b5, b6, b8, b9, b11, b12, by omega⟩ ?_
        simp only [List.set_cons_zero, List.set_cons_succ]
        refine zv 11 71 (.bool false) (fun _ _ => .of) ⟨BL, b5, b6, b8, b9, b11, b12, by omega⟩ ?_
        simp only [List.set_cons_zero, List.set_cons_succ]
        refine zv 12 72 (.int .i64 ((i : Nat) : Int)) (fun _ _ => .of) ⟨BL, b5, b6, b8, b9, b11, b12, by omega⟩ ?_
        simp only [List.set_cons_zero, List.set_cons_succ]
        refine zv 13 73 (.pointer (some ⟨g11, 8192, none⟩)) (fun _ _ => .of) ⟨BL, b5, b6, b8, b9, b11, b12, by omega⟩ ?_
        simp only [List.set_cons_zero, List.set_cons_succ]
        refine zv 14 74 (.pointer (some ⟨g11, 8192 + i * 32, none⟩)) (fun _ ⟨BL, b5, b6, b8, b9, b11, b12, z3⟩ => Val.idxA 30 (.tmp 73) (.tmp 72) rfl g11 8192 i (by kernel_rfl) (by kernel_rfl) 32 Try.underlying30 (by kernel_rfl) (by omega)) ⟨BL, b5, b6, b8, b9, b11, b12, by omega⟩ ?_
        simp only [List.set_cons_zero, List.set_cons_succ]
        refine zv 15 75 (.agg (cellsOf .u8 (nn (othF tab seed leaf dl i)))) (fun _ ⟨BL, b5, b6, b8, b9, b11, b12, z3⟩ => Val.blk 28 _ rfl (8192 + i * 32) 32 (by kernel_rfl) b11 _ Try.underlying28 rfl (by kernel_rfl) (by omega) _ (by rw [seg_rowN _ (256 + i) _ (by omega), rowN_snd (secsN_len _ _ _ _), othsN, rowN_of (othF_len _ _ _ _) (by omega)])) ⟨BL, b5, b6, b8, b9, b11, b12, by omega⟩ ?_
        simp only [List.set_cons_zero, List.set_cons_succ]
        refine zv 16 76 (.int .i64 ((i : Nat) : Int)) (fun _ _ => .of) ⟨BL, b5, b6, b8, b9, b11, b12, by omega⟩ ?_
        simp only [List.set_cons_zero, List.set_cons_succ]
        refine zv 17 77 (.pointer (some ⟨g12, 8192, none⟩)) (fun _ _ => .of) ⟨BL, b5, b6, b8, b9, b11, b12, by omega⟩ ?_
        simp only [List.set_cons_zero, List.set_cons_succ]
        refine zv 18 78 (.pointer (some ⟨g12, 8192 + i * 32, none⟩)) (fun _ ⟨BL, b5, b6, b8, b9, b11, b12, z3⟩ => Val.idxA 30 (.tmp 77) (.tmp 76) rfl g12 8192 i (by kernel_rfl) (by kernel_rfl) 32 Try.underlying30 (by kernel_rfl) (by omega)) ⟨BL, b5, b6, b8, b9, b11, b12, by omega⟩ ?_
        simp only [List.set_cons_zero, List.set_cons_succ]
        refine zv 19 79 (.agg (cellsOf .u8 (nn (othF tab seed leaf el i)))) (fun _ ⟨BL, b5, b6, b8, b9, b11, b12, z3⟩ => Val.blk 28 _ rfl (8192 + i * 32) 32 (by kernel_rfl) b12 _ Try.underlying28 rfl (by kernel_rfl) (by omega) _ (by rw [seg_rowN _ (256 + i) _ (by omega), rowN_snd (secsN_len _ _ _ _), othsN, rowN_of (othF_len _ _ _ _) (by omega)])) ⟨BL, b5, b6, b8, b9, b11, b12, by omega⟩ ?_
        simp only [List.set_cons_zero, List.set_cons_succ]
        refine zv 20 80 (.bool false) (fun _ ⟨BL, b5, b6, b8, b9, b11, b12, z3⟩ => Val.eqA .neq 28 _ (.tmp 75) (.tmp 79) rfl Try.underlying28 Try.underlying5 (by kernel_rfl) (by kernel_rfl) (nn (othF tab seed leaf dl i)) (nn (othF tab seed leaf el i)) (by kernel_rfl) (by kernel_rfl) (by rw [nn_len]; exact othF_len _ _ _ _ _) (by rw [nn_len]; exact othF_len _ _ _ _ _) (.inr rfl) false (by simp [hs2])) ⟨BL, b5, b6, b8, b9, b11, b12, by omega⟩ ?_
        simp only [List.set_cons_zero, List.set_cons_succ]
        refine zv 21 81 (.bool false) (fun _ _ => .of) ⟨BL, b5, b6, b8, b9, b11, b12, by omega⟩ ?_
        simp only [List.set_cons_zero, List.set_cons_succ]
        refine zv 22 82 (.bool false) (fun _ _ => .of) ⟨BL, b5, b6, b8, b9, b11, b12, by omega⟩ ?_
        simp only [List.set_cons_zero, List.set_cons_succ]
        refine zv 23 83 (.bool false) (fun _ _ => .of) ⟨BL, b5, b6, b8, b9, b11, b12, by omega⟩ ?_
        simp only [List.set_cons_zero, List.set_cons_succ]
        refine zv 24 84 (.bool true) (fun _ _ => .of) ⟨BL, b5, b6, b8, b9, b11, b12, by omega⟩ ?_
        simp only [List.set_cons_zero, List.set_cons_succ]
        refine zv 25 85 (.bool false) (fun _ _ => .of) ⟨BL, b5, b6, b8, b9, b11, b12, by omega⟩ ?_
        simp only [List.set_cons_zero, List.set_cons_succ]
        refine zv 26 86 (.bool false) (fun _ _ => .of) ⟨BL, b5, b6, b8, b9, b11, b12, by omega⟩ ?_
        simp only [List.set_cons_zero, List.set_cons_succ]
        refine zs 27 87 ⟨BL, b5, b6, b8, b9, b11, b12, by omega⟩ ?_
        simp only [List.set_cons_zero, List.set_cons_succ]
        refine zs 28 88 ⟨BL, b5, b6, b8, b9, b11, b12, by omega⟩ ?_
        simp only [List.set_cons_zero, List.set_cons_succ]
        refine zs 29 89 ⟨BL, b5, b6, b8, b9, b11, b12, by omega⟩ ?_
        simp only [List.set_cons_zero, List.set_cons_succ]
        refine zs 30 90 ⟨BL, b5, b6, b8, b9, b11, b12, by omega⟩ ?_
        simp only [List.set_cons_zero, List.set_cons_succ]
        refine zs 31 91 ⟨BL, b5, b6, b8, b9, b11, b12, by omega⟩ ?_
        simp only [List.set_cons_zero, List.set_cons_succ]
        refine zs 32 92 ⟨BL, b5, b6, b8, b9, b11, b12, by omega⟩ ?_
        simp only [List.set_cons_zero, List.set_cons_succ]
        refine zs 33 93 ⟨BL, b5, b6, b8, b9, b11, b12, by omega⟩ ?_
        simp only [List.set_cons_zero, List.set_cons_succ]
        refine zs 34 94 ⟨BL, b5, b6, b8, b9, b11, b12, by omega⟩ ?_
        simp only [List.set_cons_zero, List.set_cons_succ]
        refine zs 35 95 ⟨BL, b5, b6, b8, b9, b11, b12, by omega⟩ ?_
        simp only [List.set_cons_zero, List.set_cons_succ]
        refine zs 36 96 ⟨BL, b5, b6, b8, b9, b11, b12, by omega⟩ ?_
        simp only [List.set_cons_zero, List.set_cons_succ]
        refine zs 37 97 ⟨BL, b5, b6, b8, b9, b11, b12, by omega⟩ ?_
        simp only [List.set_cons_zero, List.set_cons_succ]
        refine zs 38 98 ⟨BL, b5, b6, b8, b9, b11, b12, by omega⟩ ?_
        simp only [List.set_cons_zero, List.set_cons_succ]
        refine zs 39 99 ⟨BL, b5, b6, b8, b9, b11, b12, by omega⟩ ?_
        simp only [List.set_cons_zero, List.set_cons_succ]
        refine zs 40 100 ⟨BL, b5, b6, b8, b9, b11, b12, by omega⟩ ?_
        simp only [List.set_cons_zero, List.set_cons_succ]
        refine zs 41 101 ⟨BL, b5, b6, b8, b9, b11, b12, by omega⟩ ?_
        simp only [List.set_cons_zero, List.set_cons_succ]
        refine zs 42 102 ⟨BL, b5, b6, b8, b9, b11, b12, by omega⟩ ?_
        simp only [List.set_cons_zero, List.set_cons_succ]
        refine zs 43 103 ⟨BL, b5, b6, b8, b9, b11, b12, by omega⟩ ?_
        simp only [List.set_cons_zero, List.set_cons_succ]
        refine zs 44 104 ⟨BL, b5, b6, b8, b9, b11, b12, by omega⟩ ?_
        simp only [List.set_cons_zero, List.set_cons_succ]
        refine zs 45 105 ⟨BL, b5, b6, b8, b9, b11, b12, by omega⟩ ?_
        simp only [List.set_cons_zero, List.set_cons_succ]
        refine zs 46 106 ⟨BL, b5, b6, b8, b9, b11, b12, by omega⟩ ?_
        simp only [List.set_cons_zero, List.set_cons_succ]
        refine zs 47 107 ⟨BL, b5, b6, b8, b9, b11, b12, by omega⟩ ?_
        simp only [List.set_cons_zero, List.set_cons_succ]
        refine zs 48 108 ⟨BL, b5, b6, b8, b9, b11, b12, by omega⟩ ?_
        simp only [List.set_cons_zero, List.set_cons_succ]
        refine zv 49 109 (.bool false) (fun _ _ => .of) ⟨BL, b5, b6, b8, b9, b11, b12, by omega⟩ ?_
        simp only [List.set_cons_zero, List.set_cons_succ]
        refine zv 50 110 (.bool false) (fun _ _ => .of) ⟨BL, b5, b6, b8, b9, b11, b12, by omega⟩ ?_
        simp only [List.set_cons_zero, List.set_cons_succ]
        refine zd (by kernel_rfl) ?_ _
        refine hK11 _ _ ?_
        refine cF ?_
        refine wp_skip ?_
        refine hK6 _ _ ?_
        refine cPlain ?_
        refine sv 26 (.int .i64 ((i : Nat) : Int)) .of ?_
        simp only [List.set_cons_zero, List.set_cons_succ]
        refine sv 27 (.int .i64 (((i : Nat) : Int) + 1)) (Val.add 3 _ (.tmp 26) _ rfl ((i : Nat) : Int) 1 (by kernel_rfl) (by kernel_rfl) (by omega)) ?_
        simp only [List.set_cons_zero, List.set_cons_succ]
        refine sv 13 (.int .i64 (((i : Nat) : Int) + 1)) .of ?_
        simp only [List.set_cons_zero, List.set_cons_succ]
        refine wpList_nil ?_
        refine ⟨_, ?_, i + 1, rfl, (by omega), cutE, BL, b5, b6, b8, b9, b11, b12, by omega⟩
        omega
      · skip
        have hx1 : halfN tab (secF tab seed leaf el i) = othF tab seed leaf dl i := by unfold secF othF; rw [show bitF (nn el) (i : Int) = 1 - bitF (nn dl) (i : Int) by omega]
        have hx2 : halfN tab (secF tab seed leaf dl i) = othF tab seed leaf el i := by unfold secF othF; rw [show bitF (nn dl) (i : Int) = 1 - bitF (nn el) (i : Int) by omega]
        have dg62 : decide ((bitF (nn dl) (i : Int)) = (bitF (nn el) (i : Int))) = false := decide_eq_false g62
        simp only [dg62]
        clear dg62
        refine zs 2 62 ⟨BL, b5, b6, b8, b9, b11, b12, by omega⟩ ?_
        simp only [List.set_cons_zero, List.set_cons_succ]
        refine zs 3 63 ⟨BL, b5, b6, b8, b9, b11, b12, by omega⟩ ?_
        simp only [List.set_cons_zero, List.set_cons_succ]
        refine zs 4 64 ⟨BL, b5, b6, b8, b9, b11, b12, by omega⟩ ?_
        simp only [List.set_cons_zero, List.set_cons_succ]
        refine zs 5 65 ⟨BL, b5, b6, b8, b9, b11, b12, by omega⟩ ?_
        simp only [List.set_cons_zero, List.set_cons_succ]
        refine zs 6 66 ⟨BL, b5, b6, b8, b9, b11, b12, by omega⟩ ?_
        simp only [List.set_cons_zero, List.set_cons_succ]
        refine zs 7 67 ⟨BL, b5, b6, b8, b9, b11, b12, by omega⟩ ?_
        simp only [List.set_cons_zero, List.set_cons_succ]
        refine zs 8 68 ⟨BL, b5, b6, b8, b9, b11, b12, by omega⟩ ?_
        simp only [List.set_cons_zero, List.set_cons_succ]
        refine zs 9 69 ⟨BL, b5, b6, b8, b9, b11, b12, by omega⟩ ?_
        simp only [List.set_cons_zero, List.set_cons_succ]
        refine zs 10 70 ⟨BL, b5, b6, b8, b9, b11, b12, by omega⟩ ?_
        simp only [List.set_cons_zero, List.set_cons_succ]
        refine zs 11 71 ⟨BL, b5, b6, b8, b9, b11, b12, by omega⟩ ?_
        simp only [List.set_cons_zero, List.set_cons_succ]
        refine zs 12 72 ⟨BL, b5, b6, b8, b9, b11, b12, by omega⟩ ?_
        simp only [List.set_cons_zero, List.set_cons_succ]
        refine zs 13 73 ⟨BL, b5, b6, b8, b9, b11, b12, by omega⟩ ?_
        simp only [List.set_cons_zero, List.set_cons_succ]
        refine zs 14 74 ⟨BL, b5, b6, b8, b9, b11, b12, by omega⟩ ?_
        simp only [List.set_cons_zero, List.set_cons_succ]
        refine zs 15 75 ⟨BL, b5, b6, b8, b9, b11, b12, by omega⟩ ?_
        simp only [List.set_cons_zero, List.set_cons_succ]
        refine zs 16 76 ⟨BL, b5, b6, b8, b9, b11, b12, by omega⟩ ?_
        simp only [List.set_cons_zero, List.set_cons_succ]
        refine zs 17 77 ⟨BL, b5, b6, b8, b9, b11, b12, by omega⟩ ?_
        simp only [List.set_cons_zero, List.set_cons_succ]
        refine zs 18 78 ⟨BL, b5, b6, b8, b9, b11, b12, by omega⟩ ?_
        simp only [List.set_cons_zero, List.set_cons_succ]
        refine zs 19 79 ⟨BL, b5, b6, b8, b9, b11, b12, by omega⟩ ?_
        simp only [List.set_cons_zero, List.set_cons_succ]
        refine zs 20 80 ⟨BL, b5, b6, b8, b9, b11, b12, by omega⟩ ?_
        simp only [List.set_cons_zero, List.set_cons_succ]
        refine zs 21 81 ⟨BL, b5, b6, b8, b9, b11, b12, by omega⟩ ?_
        simp only [List.set_cons_zero, List.set_cons_succ]
        refine zv 22 82 (.bool false) (fun _ _ => .of) ⟨BL, b5, b6, b8, b9, b11, b12, by omega⟩ ?_
        simp only [List.set_cons_zero, List.set_cons_succ]
        refine zv 23 83 (.bool false) (fun _ _ => .of) ⟨BL, b5, b6, b8, b9, b11, b12, by omega⟩ ?_
        simp only [List.set_cons_zero, List.set_cons_succ]
        refine zv 24 84 (.bool false) (fun _ _ => .of) ⟨BL, b5, b6, b8, b9, b11, b12, by omega⟩ ?_
        simp only [List.set_cons_zero, List.set_cons_succ]
        refine zv 25 85 (.bool true) (fun _ _ => .of) ⟨BL, b5, b6, b8, b9, b11, b12, by omega⟩ ?_
        simp only [List.set_cons_zero, List.set_cons_succ]
        refine zv 26 86 (.bool true) (fun _ _ => .of) ⟨BL, b5, b6, b8, b9, b11, b12, by omega⟩ ?_
        simp only [List.set_cons_zero, List.set_cons_succ]
        refine zv 27 87 (.int .i64 ((i : Nat) : Int)) (fun _ _ => .of) ⟨BL, b5, b6, b8, b9, b11, b12, by omega⟩ ?_
        simp only [List.set_cons_zero, List.set_cons_succ]
        refine zv 28 88 (.pointer (some ⟨g11, 8192, none⟩)) (fun _ _ => .of) ⟨BL, b5, b6, b8, b9, b11, b12, by omega⟩ ?_
        simp only [List.set_cons_zero, List.set_cons_succ]
        refine zv 29 89 (.pointer (some ⟨g11, 8192 + i * 32, none⟩)) (fun _ ⟨BL, b5, b6, b8, b9, b11, b12, z3⟩ => Val.idxA 30 (.tmp 88) (.tmp 87) rfl g11 8192 i (by kernel_rfl) (by kernel_rfl) 32 Try.underlying30 (by kernel_rfl) (by omega)) ⟨BL, b5, b6, b8, b9, b11, b12, by omega⟩ ?_
        simp only [List.set_cons_zero, List.set_cons_succ]
        refine zv 30 90 (.agg (cellsOf .u8 (nn (othF tab seed leaf dl i)))) (fun _ ⟨BL, b5, b6, b8, b9, b11, b12, z3⟩ => Val.blk 28 _ rfl (8192 + i * 32) 32 (by kernel_rfl) b11 _ Try.underlying28 rfl (by kernel_rfl) (by omega) _ (by rw [seg_rowN _ (256 + i) _ (by omega), rowN_snd (secsN_len _ _ _ _), othsN, rowN_of (othF_len _ _ _ _) (by omega)])) ⟨BL, b5, b6, b8, b9, b11, b12, by omega⟩ ?_
        simp only [List.set_cons_zero, List.set_cons_succ]
        refine zv 31 91 (.int .i64 ((i : Nat) : Int)) (fun _ _ => .of) ⟨BL, b5, b6, b8, b9, b11, b12, by omega⟩ ?_
        simp only [List.set_cons_zero, List.set_cons_succ]
        refine zv 32 92 (.pointer (some ⟨g12, 0, none⟩)) (fun _ _ => .of) ⟨BL, b5, b6, b8, b9, b11, b12, by omega⟩ ?_
        simp only [List.set_cons_zero, List.set_cons_succ]
        refine zv 33 93 (.pointer (some ⟨g12, 0 + i * 32, none⟩)) (fun _ ⟨BL, b5, b6, b8, b9, b11, b12, z3⟩ => Val.idxA 29 (.tmp 92) (.tmp 91) rfl g12 0 i (by kernel_rfl) (by kernel_rfl) 32 Try.underlying29 (by kernel_rfl) (by omega)) ⟨BL, b5, b6, b8, b9, b11, b12, by omega⟩ ?_
        simp only [List.set_cons_zero, List.set_cons_succ]
        refine zv 34 94 (.agg (cellsOf .u8 (nn (secF tab seed leaf el i)))) (fun _ ⟨BL, b5, b6, b8, b9, b11, b12, z3⟩ => Val.blk 27 _ rfl (0 + i * 32) 32 (by kernel_rfl) b12 _ Try.underlying27 rfl (by kernel_rfl) (by omega) _ (by rw [seg_rowN _ i _ (by omega), secsN, rowN_rowsN (secF_len _ _ _ _) (by omega)])) ⟨BL, b5, b6, b8, b9, b11, b12, by omega⟩ ?_
        simp only [List.set_cons_zero, List.set_cons_succ]
        refine zo1 35 rfl ?_
        refine xCall 95 18 #[.pointer (some ⟨w.heap.size, 0, none⟩), .agg (cellsOf .u8 (nn (secF tab seed leaf el i)))] (by kernel_rfl) ?_
        refine (half_any w.heap.size tab ht w70 b5 (secF tab seed leaf el i) (secF_len _ _ _ _ _)).mono ?_
        rintro en w71 ⟨he, hb1⟩
        rw [hx1] at he
        subst he
        have e25 := belE0 hb1
        have ze25 := e25.size
        replace BL := BL.e0 e25
        replace b5 := b5.e0 e25
        replace b6 := b6.e0 e25
        replace b8 := b8.e0 e25
        replace b9 := b9.e0 e25
        replace b11 := b11.e0 e25
        replace b12 := b12.e0 e25
        clear e25
        refine ⟨.agg (cellsOf .u8 (nn (othF tab seed leaf dl i))), rfl, ?_⟩
        refine ze 35 ⟨BL, b5, b6, b8, b9, b11, b12, by omega⟩ ?_
        simp only [List.set_cons_zero, List.set_cons_succ]
        refine zv 36 96 (.bool false) (fun _ ⟨BL, b5, b6, b8, b9, b11, b12, z3⟩ => Val.eqA .neq 28 _ (.tmp 90) (.tmp 95) rfl Try.underlying28 Try.underlying5 (by kernel_rfl) (by kernel_rfl) (nn (othF tab seed leaf dl i)) (nn (othF tab seed leaf dl i)) (by kernel_rfl) (by kernel_rfl) (by rw [nn_len]; exact othF_len _ _ _ _ _) (by rw [nn_len]; exact othF_len _ _ _ _ _) (.inr rfl) false (by simp)) ⟨BL, b5, b6, b8, b9, b11, b12, by omega⟩ ?_
        simp only [List.set_cons_zero, List.set_cons_succ]
        refine zv 37 97 (.bool false) (fun _ _ => .of) ⟨BL, b5, b6, b8, b9, b11, b12, by omega⟩ ?_
        simp only [List.set_cons_zero, List.set_cons_succ]
        refine zv 38 98 (.int .i64 ((i : Nat) : Int)) (fun _ _ => .of) ⟨BL, b5, b6, b8, b9, b11, b12, by omega⟩ ?_
        simp only [List.set_cons_zero, List.set_cons_succ]
        refine zv 39 99 (.pointer (some ⟨g12, 8192, none⟩)) (fun _ _ => .of) ⟨BL, b5, b6, b8, b9, b11, b12, by omega⟩ ?_
        simp only [List.set_cons_zero, List.set_cons_succ]
        refine zv 40 100 (.pointer (some ⟨g12, 8192 + i * 32, none⟩)) (fun _ ⟨BL, b5, b6, b8, b9, b11, b12, z3⟩ => Val.idxA 30 (.tmp 99) (.tmp 98) rfl g12 8192 i (by kernel_rfl) (by kernel_rfl) 32 Try.underlying30 (by kernel_rfl) (by omega)) ⟨BL, b5, b6, b8, b9, b11, b12, by omega⟩ ?_
        simp only [List.set_cons_zero, List.set_cons_succ]
        refine zv 41 101 (.agg (cellsOf .u8 (nn (othF tab seed leaf el i)))) (fun _ ⟨BL, b5, b6, b8, b9, b11, b12, z3⟩ => Val.blk 28 _ rfl (8192 + i * 32) 32 (by kernel_rfl) b12 _ Try.underlying28 rfl (by kernel_rfl) (by omega) _ (by rw [seg_rowN _ (256 + i) _ (by omega), rowN_snd (secsN_len _ _ _ _), othsN, rowN_of (othF_len _ _ _ _) (by omega)])) ⟨BL, b5, b6, b8, b9, b11, b12, by omega⟩ ?_
        simp only [List.set_cons_zero, List.set_cons_succ]
        refine zv 42 102 (.int .i64 ((i : Nat) : Int)) (fun _ _ => .of) ⟨BL, b5, b6, b8, b9, b11, b12, by omega⟩ ?_
        simp only [List.set_cons_zero, List.set_cons_succ]
        refine zv 43 103 (.pointer (some ⟨g11, 0, none⟩)) (fun _ _ => .of) ⟨BL, b5, b6, b8, b9, b11, b12, by omega⟩ ?_
        simp only [List.set_cons_zero, List.set_cons_succ]
        refine zv 44 104 (.pointer (some ⟨g11, 0 + i * 32, none⟩)) (fun _ ⟨BL, b5, b6, b8, b9, b11, b12, z3⟩ => Val.idxA 29 (.tmp 103) (.tmp 102) rfl g11 0 i (by kernel_rfl) (by kernel_rfl) 32 Try.underlying29 (by kernel_rfl) (by omega)) ⟨BL, b5, b6, b8, b9, b11, b12, by omega⟩ ?_
        simp only [List.set_cons_zero, List.set_cons_succ]
        refine zv 45 105 (.agg (cellsOf .u8 (nn (secF tab seed leaf dl i)))) (fun _ ⟨BL, b5, b6, b8, b9, b11, b12, z3⟩ => Val.blk 27 _ rfl (0 + i * 32) 32 (by kernel_rfl) b11 _ Try.underlying27 rfl (by kernel_rfl) (by omega) _ (by rw [seg_rowN _ i _ (by omega), secsN, rowN_rowsN (secF_len _ _ _ _) (by omega)])) ⟨BL, b5, b6, b8, b9, b11, b12, by omega⟩ ?_
        simp only [List.set_cons_zero, List.set_cons_succ]
        refine zo1 46 rfl ?_
        refine xCall 106 18 #[.pointer (some ⟨w.heap.size, 0, none⟩), .agg (cellsOf .u8 (nn (secF tab seed leaf dl i)))] (by kernel_rfl) ?_
        refine (half_any w.heap.size tab ht w71 b5 (secF tab seed leaf dl i) (secF_len _ _ _ _ _)).mono ?_
        rintro en w72 ⟨he, hb1⟩
        rw [hx2] at he
        subst he
        have e26 := belE0 hb1
        have ze26 := e26.size
        replace BL := BL.e0 e26
        replace b5 := b5.e0 e26
        replace b6 := b6.e0 e26
        replace b8 := b8.e0 e26
        replace b9 := b9.e0 e26
        replace b11 := b11.e0 e26
        replace b12 := b12.e0 e26
        clear e26
        refine ⟨.agg (cellsOf .u8 (nn (othF tab seed leaf el i))), rfl, ?_⟩
        refine ze 46 ⟨BL, b5, b6, b8, b9, b11, b12, by omega⟩ ?_
        simp only [List.set_cons_zero, List.set_cons_succ]
        refine zv 47 107 (.bool false) (fun _ ⟨BL, b5, b6, b8, b9, b11, b12, z3⟩ => Val.eqA .neq 28 _ (.tmp 101) (.tmp 106) rfl Try.underlying28 Try.underlying5 (by kernel_rfl) (by kernel_rfl) (nn (othF tab seed leaf el i)) (nn (othF tab seed leaf el i)) (by kernel_rfl) (by kernel_rfl) (by rw [nn_len]; exact othF_len _ _ _ _ _) (by rw [nn_len]; exact othF_len _ _ _ _ _) (.inr rfl) false (by simp)) ⟨BL, b5, b6, b8, b9, b11, b12, by omega⟩ ?_
        simp only [List.set_cons_zero, List.set_cons_succ]
        refine zv 48 108 (.bool false) (fun _ _ => .of) ⟨BL, b5, b6, b8, b9, b11, b12, by omega⟩ ?_
        simp only [List.set_cons_zero, List.set_cons_succ]
        refine zv 49 109 (.bool false) (fun _ _ => .of) ⟨BL, b5, b6, b8, b9, b11, b12, by omega⟩ ?_
        simp only [List.set_cons_zero, List.set_cons_succ]
        refine zv 50 110 (.bool false) (fun _ _ => .of) ⟨BL, b5, b6, b8, b9, b11, b12, by omega⟩ ?_
        simp only [List.set_cons_zero, List.set_cons_succ]
        refine zd (by kernel_rfl) ?_ _
        refine hK11 _ _ ?_
        refine cF ?_
        refine wp_skip ?_
        refine hK6 _ _ ?_
        refine cPlain ?_
        refine sv 26 (.int .i64 ((i : Nat) : Int)) .of ?_
        simp only [List.set_cons_zero, List.set_cons_succ]
        refine sv 27 (.int .i64 (((i : Nat) : Int) + 1)) (Val.add 3 _ (.tmp 26) _ rfl ((i : Nat) : Int) 1 (by kernel_rfl) (by kernel_rfl) (by omega)) ?_
        simp only [List.set_cons_zero, List.set_cons_succ]
        refine sv 13 (.int .i64 (((i : Nat) : Int) + 1)) .of ?_
        simp only [List.set_cons_zero, List.set_cons_succ]
        refine wpList_nil ?_
        refine ⟨_, ?_, i + 1, rfl, (by omega), cutE, BL, b5, b6, b8, b9, b11, b12, by omega⟩
        omega
    · skip
      refine wp_exit ?_
      simp only [Exit.then, Exit.inBlock, ↓reduceIte, Nat.reduceEqDiff]
      refine hK2 _ _ ?_
      refine wp_seq_k fun K12 hK12 => ?_
      refine cPlain ?_
      refine xCall 111 19 #[] (by kernel_rfl) ?_
      refine (awake09 wl0).mono ?_
      rintro en w73 ⟨rfl, hb1⟩
      have e27 := belE0 hb1
      have ze27 := e27.size
      replace BL := BL.e0 e27
      replace b5 := b5.e0 e27
      replace b6 := b6.e0 e27
      replace b8 := b8.e0 e27
      replace b9 := b9.e0 e27
      replace b11 := b11.e0 e27
      replace b12 := b12.e0 e27
      clear e27
      refine ⟨.bool true, rfl, ?_⟩
      simp only [List.set_cons_zero, List.set_cons_succ]
      refine sv 10 (.bool true) .of ?_
      simp only [List.set_cons_zero, List.set_cons_succ]
      refine wpList_nil ?_
      refine hK12 _ _ ?_
      refine wp_ret ?_
      (try simp only [Exit.then, Exit.inBlock])
      refine bodyPost_ret (v := .bool true) rT rfl ?_
      exact ⟨rfl, BL.b⟩

end Go.Proofs.Ytlmadkldiidkaaa
