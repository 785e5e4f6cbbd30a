/-
  lamport.Key.
-/
import Derived.Test.YteaijjefbadnbaaLamW
namespace Go.Proofs.Yteaijjefbadnbaa
open Go.RowKit
set_option linter.unusedVariables false
set_option linter.unusedSimpArgs false
set_option maxRecDepth 100000
attribute [local irreducible] wpList Code.wp wpAnyZ rowsN fillN secretN halfN
theorem bytes_zero : Bytes (nn (List.replicate 32 0)) := bytes_nn fun n hn => by rw [List.eq_of_mem_replicate hn]; omega
def keyL (tab seed : List Nat) (leaf : Int) : List Nat := openN tab (List.replicate 32 0) (secsN tab seed leaf (List.replicate 32 0)) (othsN tab seed leaf (List.replicate 32 0))
theorem keyL_len (tab seed : List Nat) (leaf : Int) : (keyL tab seed leaf).length = 32 := by unfold keyL openN; exact ofN_32 _ _
theorem open_key (tab seed : List Nat) (leaf : Int) (dl : List Nat) (hd : Bytes (nn dl)) : openN tab dl (secsN tab seed leaf dl) (othsN tab seed leaf dl) = keyL tab seed leaf := open_same tab seed leaf dl _ hd bytes_zero

set_option maxHeartbeats 4000000 in
theorem key_any (T : Nat) (tab : List Nat) (ht : tab.length = 72) (w : World) (TB : Blk .u32 w T 26 (nn tab)) (seed : List Nat) (hs : seed.length = 32) (leaf : Int) (h1 : leaf ≤ 9223372036854775807) :
    Calls Try.prog 35 #[.pointer (some ⟨T, 0, none⟩), .agg (cellsOf .u8 (nn seed)), .int .i64 leaf] w fun e w' => e = .returned (.agg (cellsOf .u8 (nn (keyL tab seed leaf)))) ∧ Below w.heap.size w w' := by
  have BL := Bl.refl w
  have hT := TB.lt
  have hkl := keyL_len tab seed leaf
  go_enter Try.func35, Try.ntmps35
  refine wp_seq_k fun K1 hK1 => ?_
  refine cPlain ?_
  refine xBox 4 36 _ ((nn (seed)).map (Value.int .u8)) rfl (cells_toList _ _) ?_
  intro w1 n1
  have zn1 := n1.z
  have b4 := n1.c
  replace b4 : Blk .u8 w1 w.heap.size 36 (nn (seed)) := b4
  replace BL := BL.e0 n1.e
  replace TB := TB.e0 n1.e
  simp only [List.set_cons_zero, List.set_cons_succ]
  refine xAlloc 6 37 ((nn (List.replicate 32 0)).map (Value.int .u8)) rfl (by kernel_rfl) ?_
  intro w2 n2
  have zn2 := n2.z
  have b6 := n2.c
  replace b6 : Blk .u8 w2 w1.heap.size 37 (nn (List.replicate 32 0)) := b6
  replace BL := BL.e0 n2.e
  replace TB := TB.e0 n2.e
  replace b4 := b4.e0 n2.e
  simp only [List.set_cons_zero, List.set_cons_succ]
  refine wpList_nil ?_
  refine hK1 _ _ ?_
  refine wp_seq_k fun K2 hK2 => ?_
  refine cPlain ?_
  refine xAlloc 7 37 ((nn (List.replicate 32 0)).map (Value.int .u8)) rfl (by kernel_rfl) ?_
  intro w3 n3
  have zn3 := n3.z
  have b7 := n3.c
  replace b7 : Blk .u8 w3 w2.heap.size 37 (nn (List.replicate 32 0)) := b7
  replace BL := BL.e0 n3.e
  replace TB := TB.e0 n3.e
  replace b4 := b4.e0 n3.e
  replace b6 := b6.e0 n3.e
  simp only [List.set_cons_zero, List.set_cons_succ]
  refine wpList_nil ?_
  refine hK2 _ _ ?_
  refine wp_seq_k fun K3 hK3 => ?_
  have e1 := drew_e0 w3
  refine zg (fun w_ => Bl w.heap.size w w_ ∧ Blk .u32 w_ T 26 (nn tab) ∧ Blk .u8 w_ w.heap.size 36 (nn (seed)) ∧ Blk .u8 w_ w1.heap.size 37 (nn (List.replicate 32 0)) ∧ Blk .u8 w_ w2.heap.size 37 (nn (List.replicate 32 0)) ∧ w3.heap.size ≤ w_.heap.size) (fun w_ => Bl w.heap.size w w_ ∧ Blk .u32 w_ T 26 (nn tab) ∧ Blk .u8 w_ w.heap.size 36 (nn (seed)) ∧ Blk .u8 w_ w1.heap.size 37 (nn (List.replicate 32 0)) ∧ Blk .u8 w_ w2.heap.size 37 (nn (List.replicate 32 0)) ∧ w3.heap.size ≤ w_.heap.size) 8 9 ⟨BL.e0 e1, TB.e0 e1, b4.e0 e1, b6.e0 e1, b7.e0 e1, Nat.le_refl _⟩ ?_
  clear BL TB b4 b6 b7
  clear e1
  intro w4
  rintro ⟨BL, TB, b4, b6, b7, z1⟩
  refine zv 0 8 (.pointer (some ⟨T, 0, none⟩)) (fun _ _ => .of) ⟨BL, TB, b4, b6, b7, by omega⟩ ?_
  simp only [List.set_cons_zero, List.set_cons_succ]
  refine zv 1 9 (.agg (cellsOf .u8 (nn (List.replicate 32 0)))) (fun _ ⟨BL, TB, b4, b6, b7, z1⟩ => Val.blk 37 _ rfl 0 32 (by kernel_rfl) b7 _ Try.underlying37 rfl (by kernel_rfl) (by (try simp only [nn_len, List.length_cons, List.length_nil, List.length_set, List.length_replicate]); try omega) _ (seg_all' _ (by (try simp only [nn_len, List.length_cons, List.length_nil, List.length_set, List.length_replicate]); try omega))) ⟨BL, TB, b4, b6, b7, by omega⟩ ?_
  simp only [List.set_cons_zero, List.set_cons_succ]
  refine zv 2 10 (.pointer (some ⟨T, 0, none⟩)) (fun _ _ => .of) ⟨BL, TB, b4, b6, b7, by omega⟩ ?_
  simp only [List.set_cons_zero, List.set_cons_succ]
  refine zv 3 11 (.agg (cellsOf .u8 (nn (seed)))) (fun _ ⟨BL, TB, b4, b6, b7, z1⟩ => Val.blk 36 _ rfl 0 32 (by kernel_rfl) b4 _ Try.underlying36 rfl (by kernel_rfl) (by (try simp only [nn_len, List.length_cons, List.length_nil, List.length_set, List.length_replicate]); try omega) _ (seg_all' _ (by (try simp only [nn_len, List.length_cons, List.length_nil, List.length_set, List.length_replicate]); try omega))) ⟨BL, TB, b4, b6, b7, by omega⟩ ?_
  simp only [List.set_cons_zero, List.set_cons_succ]
  refine zv 4 12 (.int .i64 leaf) (fun _ _ => .of) ⟨BL, TB, b4, b6, b7, by omega⟩ ?_
  simp only [List.set_cons_zero, List.set_cons_succ]
  refine zv 5 13 (.agg (cellsOf .u8 (nn (List.replicate 32 0)))) (fun _ ⟨BL, TB, b4, b6, b7, z1⟩ => Val.blk 37 _ rfl 0 32 (by kernel_rfl) b7 _ Try.underlying37 rfl (by kernel_rfl) (by (try simp only [nn_len, List.length_cons, List.length_nil, List.length_set, List.length_replicate]); try omega) _ (seg_all' _ (by (try simp only [nn_len, List.length_cons, List.length_nil, List.length_set, List.length_replicate]); try omega))) ⟨BL, TB, b4, b6, b7, by omega⟩ ?_
  simp only [List.set_cons_zero, List.set_cons_succ]
  refine zo1 6 rfl ?_
  refine xCall 14 37 #[.pointer (some ⟨T, 0, none⟩), .agg (cellsOf .u8 (nn (seed))), .int .i64 leaf, .agg (cellsOf .u8 (nn (List.replicate 32 0)))] (by kernel_rfl) ?_
  refine (sign_any T tab ht w4 TB seed hs leaf h1 (List.replicate 32 0) rfl bytes_zero).mono ?_
  rintro en w5 ⟨rfl, hb1⟩
  have e2 := belE0 hb1
  have ze2 := e2.size
  replace BL := BL.e0 e2
  replace TB := TB.e0 e2
  replace b4 := b4.e0 e2
  replace b6 := b6.e0 e2
  replace b7 := b7.e0 e2
  clear e2
  refine ⟨.agg (cellsOf .u8 (nn (secsN tab seed leaf (List.replicate 32 0) ++ othsN tab seed leaf (List.replicate 32 0)))), rfl, ?_⟩
  refine ze 6 ⟨BL, TB, b4, b6, b7, by omega⟩ ?_
  simp only [List.set_cons_zero, List.set_cons_succ]
  refine zo1 7 rfl ?_
  refine xCall 15 38 #[.pointer (some ⟨T, 0, none⟩), .agg (cellsOf .u8 (nn (List.replicate 32 0))), .agg (cellsOf .u8 (nn (secsN tab seed leaf (List.replicate 32 0) ++ othsN tab seed leaf (List.replicate 32 0))))] (by kernel_rfl) ?_
  refine (open_any T tab ht w5 TB (List.replicate 32 0) (secsN tab seed leaf (List.replicate 32 0)) (othsN tab seed leaf (List.replicate 32 0)) rfl bytes_zero (secsN_len _ _ _ _) (othsN_len _ _ _ _)).mono ?_
  rintro en w6 ⟨rfl, hb1⟩
  have e3 := belE0 hb1
  have ze3 := e3.size
  replace BL := BL.e0 e3
  replace TB := TB.e0 e3
  replace b4 := b4.e0 e3
  replace b6 := b6.e0 e3
  replace b7 := b7.e0 e3
  clear e3
  refine ⟨.agg (cellsOf .u8 (nn (keyL tab seed leaf))), rfl, ?_⟩
  refine ze 7 ⟨BL, TB, b4, b6, b7, by omega⟩ ?_
  simp only [List.set_cons_zero, List.set_cons_succ]
  refine zo1 8 rfl ?_
  refine xStoreA 37 (.tmp 6) (.tmp 15) rfl .u8 w1.heap.size 37 (nn (List.replicate 32 0)) 0 (nn (keyL tab seed leaf)) (by kernel_rfl) (by kernel_rfl) b6 (by rw [show (nn (keyL tab seed leaf)).length = 32 by ((try simp only [nn_len, List.length_cons, List.length_nil, List.length_set, List.length_replicate]); try omega)]; kernel_rfl) (by (try simp only [nn_len, List.length_cons, List.length_nil, List.length_set, List.length_replicate]); try omega) (nn (keyL tab seed leaf)) (over_whole _ _ (by (try simp only [nn_len, List.length_cons, List.length_nil, List.length_set, List.length_replicate]); try omega)) ?_
  intro w7 t1
  have zt1 := t1.z
  have BL_ := BL.ev t1.e (fun i h => show w.heap.size ≤ i by have h : i = w1.heap.size := h; omega)
  have TB_ := TB.ev t1.e (show ¬ (T = w1.heap.size) by omega)
  have b4_ := b4.ev t1.e (show ¬ (w.heap.size = w1.heap.size) by omega)
  have b7_ := b7.ev t1.e (show ¬ (w2.heap.size = w1.heap.size) by omega)
  replace BL := BL_; clear BL_
  replace TB := TB_; clear TB_
  replace b4 := b4_; clear b4_
  replace b7 := b7_; clear b7_
  replace b6 : Blk .u8 w7 w1.heap.size 37 (nn (keyL tab seed leaf)) := t1.c
  clear t1
  refine zz 8 ?_
  refine zd (by kernel_rfl) ?_ _
  refine hK3 _ _ ?_
  refine wp_ret ?_
  (try simp only [Exit.then, Exit.inBlock])
  refine bodyPost_ret (rC rfl _ w1.heap.size _ _ (by kernel_rfl) b6.cel _ Try.underlying37 rfl (by rw [List.length_map, show (nn (keyL tab seed leaf)).length = 32 by ((try simp only [nn_len, List.length_cons, List.length_nil, List.length_set, List.length_replicate]); try omega)]; kernel_rfl)) rfl ?_
  exact ⟨rfl, BL.b⟩

end Go.Proofs.Yteaijjefbadnbaa
