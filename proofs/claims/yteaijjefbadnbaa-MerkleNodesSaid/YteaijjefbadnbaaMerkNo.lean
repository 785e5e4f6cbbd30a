/-
  MerkleNodes: the walk.
-/
import Derived.Test.YteaijjefbadnbaaMerkA
import Derived.Test.YteaijjefbadnbaaTextI
import Derived.Test.YteaijjefbadnbaaNnB
import Derived.Test.YteaijjefbadnbaaTextP
import Derived.Test.YteaijjefbadnbaaEqk
namespace Go.Proofs.Yteaijjefbadnbaa
open Go.RowKit
set_option linter.unusedVariables false
set_option linter.unusedSimpArgs false
set_option maxRecDepth 100000
attribute [local irreducible] wpList Code.wp wpAnyZ taggedN mnode ofN textN
theorem two_le (da db : List Nat) (ha : da.length = 32) (hb : db.length = 32) : ∀ p ∈ [da, db], p.length ≤ 32 := fun p hp => by
  rcases List.mem_cons.1 hp with rfl | hp
  · omega
  · rw [List.mem_singleton.1 hp]; omega
theorem two_bb {da db : List Nat} (ha : ∀ x ∈ da, x < 256) (hb : ∀ x ∈ db, x < 256) : ∀ y ∈ [da, db].map nn, Bytes y := fun y hy => by
  obtain ⟨p, hp, rfl⟩ := List.mem_map.1 hy
  rcases List.mem_cons.1 hp with rfl | hp
  · exact bytes_nn ha
  · rw [List.mem_singleton.1 hp]; exact bytes_nn hb
theorem same_s {da db dc dd : List Nat} (ha : da.length = 32) (hb : db.length = 32) (hc : dc.length = 32) (hd : dd.length = 32) : decide (nn (textN 4 [da, db]) = nn (textN 4 [dc, dd])) = decide (da = dc ∧ db = dd) := by
  have h1 := fun p hp => Nat.lt_of_le_of_lt (two_le da db ha hb p hp) (show 32 < 2 ^ 64 by decide)
  have h2 := fun p hp => Nat.lt_of_le_of_lt (two_le dc dd hc hd p hp) (show 32 < 2 ^ 64 by decide)
  have h := textN_iff (t := 4) (t' := 4) (X := [da, db]) (Y := [dc, dd]) h1 h2 (by simp) (by simp)
  refine decide_eq_decide.2 ⟨fun e => ?_, fun e => ?_⟩
  · have := (h.1 (nn_inj e)).2
    simp only [List.cons.injEq, and_true] at this
    exact this
  · rw [h.2 ⟨rfl, by rw [e.1, e.2]⟩]

set_option maxHeartbeats 8000000 in
theorem merkleNodes_walk (tab : List Nat) (ht : tab.length = 72) (w : World) (da db dc dd : List Nat) (ha : da.length = 32) (hb : db.length = 32) (hc : dc.length = 32) (hd : dd.length = 32) (ha8 : ∀ x ∈ da, x < 256) (hb8 : ∀ x ∈ db, x < 256) (hc8 : ∀ x ∈ dc, x < 256) (hd8 : ∀ x ∈ dd, x < 256) :
    Calls Try.prog 6 #[.agg (cellsOf .u32 (nn tab)), .agg (cellsOf .u8 (nn da)), .agg (cellsOf .u8 (nn db)), .agg (cellsOf .u8 (nn dc)), .agg (cellsOf .u8 (nn dd))] w fun e w' => e = .returned (.bool true) ∧ Below w.heap.size w w' := by
  have BL := Bl.refl w
  have hbs1 := blobsB_small [da, db] 32 (two_le da db ha hb) (by omega)
  have hbs2 := blobsB_small [dc, dd] 32 (two_le dc dd hc hd) (by omega)
  have ht1 : Bytes (nn (textN 4 [da, db])) := by rw [textN_nn]; exact textB_bytes _ (by omega) _ (two_bb ha8 hb8)
  have ht2 : Bytes (nn (textN 4 [dc, dd])) := by rw [textN_nn]; exact textB_bytes _ (by omega) _ (two_bb hc8 hd8)
  have hol := mnode_len tab da db
  obtain ⟨s, hs⟩ : ∃ s, s = decide (da = dc ∧ db = dd) := ⟨_, rfl⟩
  go_enter Try.func6, Try.ntmps6
  refine wp_seq_k fun K1 hK1 => ?_
  refine cPlain ?_
  refine xBox 5 26 _ ((nn tab).map (Value.int .u32)) rfl (cells_toList _ _) ?_
  intro w1 n1
  have zn1 := n1.z
  have b5 := n1.c
  replace b5 : Blk .u32 w1 w.heap.size 26 (nn tab) := b5
  replace BL := BL.e0 n1.e
  simp only [List.set_cons_zero, List.set_cons_succ]
  refine xBox 6 37 _ ((nn (da)).map (Value.int .u8)) rfl (cells_toList _ _) ?_
  intro w2 n2
  have zn2 := n2.z
  have b6 := n2.c
  replace b6 : Blk .u8 w2 w1.heap.size 37 (nn (da)) := b6
  replace BL := BL.e0 n2.e
  replace b5 := b5.e0 n2.e
  simp only [List.set_cons_zero, List.set_cons_succ]
  refine xBox 7 37 _ ((nn (db)).map (Value.int .u8)) rfl (cells_toList _ _) ?_
  intro w3 n3
  have zn3 := n3.z
  have b7 := n3.c
  replace b7 : Blk .u8 w3 w2.heap.size 37 (nn (db)) := b7
  replace BL := BL.e0 n3.e
  replace b5 := b5.e0 n3.e
  replace b6 := b6.e0 n3.e
  simp only [List.set_cons_zero, List.set_cons_succ]
  refine xBox 8 37 _ ((nn (dc)).map (Value.int .u8)) rfl (cells_toList _ _) ?_
  intro w4 n4
  have zn4 := n4.z
  have b8 := n4.c
  replace b8 : Blk .u8 w4 w3.heap.size 37 (nn (dc)) := b8
  replace BL := BL.e0 n4.e
  replace b5 := b5.e0 n4.e
  replace b6 := b6.e0 n4.e
  replace b7 := b7.e0 n4.e
  simp only [List.set_cons_zero, List.set_cons_succ]
  refine xBox 9 37 _ ((nn (dd)).map (Value.int .u8)) rfl (cells_toList _ _) ?_
  intro w5 n5
  have zn5 := n5.z
  have b9 := n5.c
  replace b9 : Blk .u8 w5 w4.heap.size 37 (nn (dd)) := b9
  replace BL := BL.e0 n5.e
  replace b5 := b5.e0 n5.e
  replace b6 := b6.e0 n5.e
  replace b7 := b7.e0 n5.e
  replace b8 := b8.e0 n5.e
  simp only [List.set_cons_zero, List.set_cons_succ]
  refine sv 10 (.bool false) .of ?_
  simp only [List.set_cons_zero, List.set_cons_succ]
  refine wpList_nil ?_
  refine hK1 _ _ ?_
  refine wp_seq_k fun K2 hK2 => ?_
  have e1 := drew_e0 w5
  refine zg (fun w_ => Bl w.heap.size w w_ ∧ Blk .u32 w_ w.heap.size 26 (nn tab) ∧ Blk .u8 w_ w1.heap.size 37 (nn (da)) ∧ Blk .u8 w_ w2.heap.size 37 (nn (db)) ∧ Blk .u8 w_ w3.heap.size 37 (nn (dc)) ∧ Blk .u8 w_ w4.heap.size 37 (nn (dd)) ∧ w5.heap.size ≤ w_.heap.size) (fun w_ => Bl w.heap.size w w_ ∧ Blk .u32 w_ w.heap.size 26 (nn tab) ∧ Blk .u8 w_ w1.heap.size 37 (nn (da)) ∧ Blk .u8 w_ w2.heap.size 37 (nn (db)) ∧ Blk .u8 w_ w3.heap.size 37 (nn (dc)) ∧ Blk .u8 w_ w4.heap.size 37 (nn (dd)) ∧ w5.heap.size ≤ w_.heap.size) 100000 10 ⟨BL.e0 e1, b5.e0 e1, b6.e0 e1, b7.e0 e1, b8.e0 e1, b9.e0 e1, Nat.le_refl _⟩ ?_
  clear BL b5 b6 b7 b8 b9
  clear e1
  intro w6
  rintro ⟨BL, b5, b6, b7, b8, b9, z1⟩
  refine zv 0 13 (.slice (some ⟨w1.heap.size, 0, none⟩) 32 32) (fun _ _ => .of) ⟨BL, b5, b6, b7, b8, b9, by omega⟩ ?_
  simp only [List.set_cons_zero, List.set_cons_succ]
  refine zv 1 14 (.slice (some ⟨w2.heap.size, 0, none⟩) 32 32) (fun _ _ => .of) ⟨BL, b5, b6, b7, b8, b9, by omega⟩ ?_
  simp only [List.set_cons_zero, List.set_cons_succ]
  refine zv 4 17 (.slice (some ⟨w3.heap.size, 0, none⟩) 32 32) (fun _ _ => .of) ⟨BL, b5, b6, b7, b8, b9, by omega⟩ ?_
  simp only [List.set_cons_zero, List.set_cons_succ]
  refine zv 5 18 (.slice (some ⟨w4.heap.size, 0, none⟩) 32 32) (fun _ _ => .of) ⟨BL, b5, b6, b7, b8, b9, by omega⟩ ?_
  simp only [List.set_cons_zero, List.set_cons_succ]
  refine zo2 2 6 rfl rfl ?_ ?_
  · skip
    refine xLit 15 124 30 2 _ #[(0, .slice (some ⟨w1.heap.size, 0, none⟩) 32 32), (1, .slice (some ⟨w2.heap.size, 0, none⟩) 32 32)] [.slice (some ⟨w1.heap.size, 0, none⟩) 32 32, .slice (some ⟨w2.heap.size, 0, none⟩) 32 32] rfl (by kernel_rfl) (by kernel_rfl) ?_
    intro w7 n6
    have zn6 := n6.z
    have b15 := n6.c
    replace BL := BL.e0 n6.e
    replace b5 := b5.e0 n6.e
    replace b6 := b6.e0 n6.e
    replace b7 := b7.e0 n6.e
    replace b8 := b8.e0 n6.e
    replace b9 := b9.e0 n6.e
    refine ze 2 ⟨BL, b5, b6, b7, b8, b9, by omega⟩ ?_
    simp only [List.set_cons_zero, List.set_cons_succ]
    refine zo2 3 6 rfl rfl ?_ ?_
    · skip
      refine xCall 16 29 #[.int .u8 4, .slice (some ⟨w6.heap.size, 0, none⟩) 2 2] (by kernel_rfl) ?_
      refine (mactext_any ((4 : Nat) : Int) _ [.slice (some ⟨w1.heap.size, 0, none⟩) 32 32, .slice (some ⟨w2.heap.size, 0, none⟩) 32 32] ([da, db].map nn) w7 (SV.ofCelM (n := 2) b15 rfl (by unfold maxLen; omega)) w7.heap.size (by omega) (SLs.two (SL.ofBlk b6 (by rw [nn_len]; exact ha) (by unfold maxLen; omega)) (fun g hg => by have := ownB_lit (lo := 0) (hi := w7.heap.size) (by omega) g hg; omega) (SL.ofBlk b7 (by rw [nn_len]; exact hb) (by unfold maxLen; omega)) (fun g hg => by have := ownB_lit (lo := 0) (hi := w7.heap.size) (by omega) g hg; omega)) (by simp only [List.length_cons, List.length_nil] at hbs1; omega)).mono ?_
      rintro en w8 ⟨u1, rfl, hO, hb1⟩
      rw [← textN_nn] at hO
      have e2 := belE0 hb1
      have ze2 := e2.size
      replace BL := BL.e0 e2
      replace b5 := b5.e0 e2
      replace b6 := b6.e0 e2
      replace b7 := b7.e0 e2
      replace b8 := b8.e0 e2
      replace b9 := b9.e0 e2
      replace b15 := b15.e0 e2
      clear e2
      have U1 : Own 5 .u8 w7.heap.size w8 u1 (nn (textN 4 [da, db])) := hO
      have lU1_1 := U1.ge
      refine ⟨u1, rfl, ?_⟩
      refine ze 3 ⟨BL, b5, b6, b7, b8, b9, by omega⟩ ?_
      simp only [List.set_cons_zero, List.set_cons_succ]
      refine zo1 6 rfl ?_
      refine xLit 19 124 30 2 _ #[(0, .slice (some ⟨w3.heap.size, 0, none⟩) 32 32), (1, .slice (some ⟨w4.heap.size, 0, none⟩) 32 32)] [.slice (some ⟨w3.heap.size, 0, none⟩) 32 32, .slice (some ⟨w4.heap.size, 0, none⟩) 32 32] rfl (by kernel_rfl) (by kernel_rfl) ?_
      intro w9 n7
      have zn7 := n7.z
      have b19 := n7.c
      replace BL := BL.e0 n7.e
      replace b5 := b5.e0 n7.e
      replace b6 := b6.e0 n7.e
      replace b7 := b7.e0 n7.e
      replace b8 := b8.e0 n7.e
      replace b9 := b9.e0 n7.e
      replace b15 := b15.e0 n7.e
      replace U1 := U1.e0 n7.e
      refine ze 6 ⟨BL, b5, b6, b7, b8, b9, by omega⟩ ?_
      simp only [List.set_cons_zero, List.set_cons_succ]
      refine zo1 7 rfl ?_
      refine xCall 20 29 #[.int .u8 4, .slice (some ⟨w8.heap.size, 0, none⟩) 2 2] (by kernel_rfl) ?_
      refine (mactext_any ((4 : Nat) : Int) _ [.slice (some ⟨w3.heap.size, 0, none⟩) 32 32, .slice (some ⟨w4.heap.size, 0, none⟩) 32 32] ([dc, dd].map nn) w9 (SV.ofCelM (n := 2) b19 rfl (by unfold maxLen; omega)) w9.heap.size (by omega) (SLs.two (SL.ofBlk b8 (by rw [nn_len]; exact hc) (by unfold maxLen; omega)) (fun g hg => by have := ownB_lit (lo := 0) (hi := w9.heap.size) (by omega) g hg; omega) (SL.ofBlk b9 (by rw [nn_len]; exact hd) (by unfold maxLen; omega)) (fun g hg => by have := ownB_lit (lo := 0) (hi := w9.heap.size) (by omega) g hg; omega)) (by simp only [List.length_cons, List.length_nil] at hbs2; omega)).mono ?_
      rintro en w10 ⟨u2, rfl, hO, hb1⟩
      rw [← textN_nn] at hO
      have e3 := belE0 hb1
      have ze3 := e3.size
      replace BL := BL.e0 e3
      replace b5 := b5.e0 e3
      replace b6 := b6.e0 e3
      replace b7 := b7.e0 e3
      replace b8 := b8.e0 e3
      replace b9 := b9.e0 e3
      replace b15 := b15.e0 e3
      replace U1 := U1.e0 e3
      replace b19 := b19.e0 e3
      clear e3
      have U2 : Own 5 .u8 w9.heap.size w10 u2 (nn (textN 4 [dc, dd])) := hO
      have lU2_1 := U2.ge
      refine ⟨u2, rfl, ?_⟩
      refine ze 7 ⟨BL, b5, b6, b7, b8, b9, by omega⟩ ?_
      simp only [List.set_cons_zero, List.set_cons_succ]
      refine zv 8 11 (u1) (fun _ _ => .of) ⟨BL, b5, b6, b7, b8, b9, by omega⟩ ?_
      simp only [List.set_cons_zero, List.set_cons_succ]
      refine zv 9 12 (u2) (fun _ _ => .of) ⟨BL, b5, b6, b7, b8, b9, by omega⟩ ?_
      simp only [List.set_cons_zero, List.set_cons_succ]
      refine zd (by kernel_rfl) ?_ _
      refine hK2 _ _ ?_
      refine wp_seq_k fun K3 hK3 => ?_
      have e4 := drew_e0 w10
      refine zg (fun w_ => Bl w.heap.size w w_ ∧ Blk .u32 w_ w.heap.size 26 (nn tab) ∧ Blk .u8 w_ w1.heap.size 37 (nn (da)) ∧ Blk .u8 w_ w2.heap.size 37 (nn (db)) ∧ Blk .u8 w_ w3.heap.size 37 (nn (dc)) ∧ Blk .u8 w_ w4.heap.size 37 (nn (dd)) ∧ Cel w_ w6.heap.size 30 [.slice (some ⟨w1.heap.size, 0, none⟩) 32 32, .slice (some ⟨w2.heap.size, 0, none⟩) 32 32] ∧ Own 5 .u8 w7.heap.size w_ u1 (nn (textN 4 [da, db])) ∧ Cel w_ w8.heap.size 30 [.slice (some ⟨w3.heap.size, 0, none⟩) 32 32, .slice (some ⟨w4.heap.size, 0, none⟩) 32 32] ∧ Own 5 .u8 w9.heap.size w_ u2 (nn (textN 4 [dc, dd])) ∧ w10.heap.size ≤ w_.heap.size) (fun w_ => Bl w.heap.size w w_ ∧ Blk .u32 w_ w.heap.size 26 (nn tab) ∧ Blk .u8 w_ w1.heap.size 37 (nn (da)) ∧ Blk .u8 w_ w2.heap.size 37 (nn (db)) ∧ Blk .u8 w_ w3.heap.size 37 (nn (dc)) ∧ Blk .u8 w_ w4.heap.size 37 (nn (dd)) ∧ Cel w_ w6.heap.size 30 [.slice (some ⟨w1.heap.size, 0, none⟩) 32 32, .slice (some ⟨w2.heap.size, 0, none⟩) 32 32] ∧ Own 5 .u8 w7.heap.size w_ u1 (nn (textN 4 [da, db])) ∧ Cel w_ w8.heap.size 30 [.slice (some ⟨w3.heap.size, 0, none⟩) 32 32, .slice (some ⟨w4.heap.size, 0, none⟩) 32 32] ∧ Own 5 .u8 w9.heap.size w_ u2 (nn (textN 4 [dc, dd])) ∧ w10.heap.size ≤ w_.heap.size) 100000 45 ⟨BL.e0 e4, b5.e0 e4, b6.e0 e4, b7.e0 e4, b8.e0 e4, b9.e0 e4, b15.e0 e4, U1.e0 e4, b19.e0 e4, U2.e0 e4, Nat.le_refl _⟩ ?_
      clear BL b5 b6 b7 b8 b9 b15 U1 b19 U2
      clear e4
      intro w11
      rintro ⟨BL, b5, b6, b7, b8, b9, b15, U1, b19, U2, z2⟩
      refine zv 0 21 (.agg (cellsOf .u8 (nn (da)))) (fun _ ⟨BL, b5, b6, b7, b8, b9, b15, U1, b19, U2, z2⟩ => Val.blk 37 _ rfl 0 32 (by kernel_rfl) b6 _ Try.underlying37 rfl (by kernel_rfl) (by (try simp only [nn_len, List.length_cons, List.length_nil, List.length_set, List.length_replicate]); try omega) _ (seg_all' _ (by (try simp only [nn_len, List.length_cons, List.length_nil, List.length_set, List.length_replicate]); try omega))) ⟨BL, b5, b6, b7, b8, b9, b15, U1, b19, U2, by omega⟩ ?_
      simp only [List.set_cons_zero, List.set_cons_succ]
      refine zv 1 22 (.agg (cellsOf .u8 (nn (db)))) (fun _ ⟨BL, b5, b6, b7, b8, b9, b15, U1, b19, U2, z2⟩ => Val.blk 37 _ rfl 0 32 (by kernel_rfl) b7 _ Try.underlying37 rfl (by kernel_rfl) (by (try simp only [nn_len, List.length_cons, List.length_nil, List.length_set, List.length_replicate]); try omega) _ (seg_all' _ (by (try simp only [nn_len, List.length_cons, List.length_nil, List.length_set, List.length_replicate]); try omega))) ⟨BL, b5, b6, b7, b8, b9, b15, U1, b19, U2, by omega⟩ ?_
      simp only [List.set_cons_zero, List.set_cons_succ]
      refine zv 3 24 (.slice (some ⟨w1.heap.size, 0, none⟩) 32 32) (fun _ _ => .of) ⟨BL, b5, b6, b7, b8, b9, b15, U1, b19, U2, by omega⟩ ?_
      simp only [List.set_cons_zero, List.set_cons_succ]
      refine zv 4 25 (.slice (some ⟨w2.heap.size, 0, none⟩) 32 32) (fun _ _ => .of) ⟨BL, b5, b6, b7, b8, b9, b15, U1, b19, U2, by omega⟩ ?_
      simp only [List.set_cons_zero, List.set_cons_succ]
      refine zo2 2 5 rfl rfl ?_ ?_
      · skip
        refine xCall 23 40 #[.pointer (some ⟨w.heap.size, 0, none⟩), .agg (cellsOf .u8 (nn (da))), .agg (cellsOf .u8 (nn (db)))] (by kernel_rfl) ?_
        refine (mnode_any w.heap.size tab ht w11 b5 da db ha hb).mono ?_
        rintro en w12 ⟨rfl, hb1⟩
        have e5 := belE0 hb1
        have ze5 := e5.size
        replace BL := BL.e0 e5
        replace b5 := b5.e0 e5
        replace b6 := b6.e0 e5
        replace b7 := b7.e0 e5
        replace b8 := b8.e0 e5
        replace b9 := b9.e0 e5
        replace b15 := b15.e0 e5
        replace U1 := U1.e0 e5
        replace b19 := b19.e0 e5
        replace U2 := U2.e0 e5
        clear e5
        refine ⟨.agg (cellsOf .u8 (nn (mnode tab da db))), rfl, ?_⟩
        refine ze 2 ⟨BL, b5, b6, b7, b8, b9, b15, U1, b19, U2, by omega⟩ ?_
        simp only [List.set_cons_zero, List.set_cons_succ]
        refine zo1 5 rfl ?_
        refine xLit 26 124 30 2 _ #[(0, .slice (some ⟨w1.heap.size, 0, none⟩) 32 32), (1, .slice (some ⟨w2.heap.size, 0, none⟩) 32 32)] [.slice (some ⟨w1.heap.size, 0, none⟩) 32 32, .slice (some ⟨w2.heap.size, 0, none⟩) 32 32] rfl (by kernel_rfl) (by kernel_rfl) ?_
        intro w13 n8
        have zn8 := n8.z
        have b26 := n8.c
        replace BL := BL.e0 n8.e
        replace b5 := b5.e0 n8.e
        replace b6 := b6.e0 n8.e
        replace b7 := b7.e0 n8.e
        replace b8 := b8.e0 n8.e
        replace b9 := b9.e0 n8.e
        replace b15 := b15.e0 n8.e
        replace U1 := U1.e0 n8.e
        replace b19 := b19.e0 n8.e
        replace U2 := U2.e0 n8.e
        refine ze 5 ⟨BL, b5, b6, b7, b8, b9, b15, U1, b19, U2, by omega⟩ ?_
        simp only [List.set_cons_zero, List.set_cons_succ]
        refine zo1 6 rfl ?_
        refine xCall 27 27 #[.pointer (some ⟨w.heap.size, 0, none⟩), .int .u8 4, .slice (some ⟨w12.heap.size, 0, none⟩) 2 2] (by kernel_rfl) ?_
        refine (tagged_any w.heap.size tab ht w13 b5 4 _ [.slice (some ⟨w1.heap.size, 0, none⟩) 32 32, .slice (some ⟨w2.heap.size, 0, none⟩) 32 32] [da, db] (SV.ofCelM (n := 2) b26 rfl (by unfold maxLen; omega)) (SLs.two (SL.ofBlk b6 (by rw [nn_len]; exact ha) (by unfold maxLen; omega)) (fun g hg => by have := ownB_lit (lo := 0) (hi := w13.heap.size) (by omega) g hg; omega) (SL.ofBlk b7 (by rw [nn_len]; exact hb) (by unfold maxLen; omega)) (fun g hg => by have := ownB_lit (lo := 0) (hi := w13.heap.size) (by omega) g hg; omega)) (by simp only [List.length_cons, List.length_nil] at hbs1; omega) (by simp)).mono ?_
        rintro en w14 ⟨he, hb1⟩
        rw [show taggedN tab 4 [da, db] = mnode tab da db by unfold mnode; rfl] at he
        subst he
        have e6 := belE0 hb1
        have ze6 := e6.size
        replace BL := BL.e0 e6
        replace b5 := b5.e0 e6
        replace b6 := b6.e0 e6
        replace b7 := b7.e0 e6
        replace b8 := b8.e0 e6
        replace b9 := b9.e0 e6
        replace b15 := b15.e0 e6
        replace U1 := U1.e0 e6
        replace b19 := b19.e0 e6
        replace U2 := U2.e0 e6
        replace b26 := b26.e0 e6
        clear e6
        refine ⟨.agg (cellsOf .u8 (nn (mnode tab da db))), rfl, ?_⟩
        refine ze 6 ⟨BL, b5, b6, b7, b8, b9, b15, U1, b19, U2, by omega⟩ ?_
        simp only [List.set_cons_zero, List.set_cons_succ]
        refine zv 7 28 (.bool true) (fun _ ⟨BL, b5, b6, b7, b8, b9, b15, U1, b19, U2, z2⟩ => Val.eqA .eql 37 _ (.tmp 23) (.tmp 27) rfl Try.underlying37 Try.underlying5 (by kernel_rfl) (by kernel_rfl) (nn (mnode tab da db)) (nn (mnode tab da db)) (by kernel_rfl) (by kernel_rfl) (by rw [nn_len]; exact (mnode_len _ _ _)) (by rw [nn_len]; exact (mnode_len _ _ _)) (.inl rfl) _ (by simp)) ⟨BL, b5, b6, b7, b8, b9, b15, U1, b19, U2, by omega⟩ ?_
        simp only [List.set_cons_zero, List.set_cons_succ]
        refine zv 8 29 (.bool true) (fun _ _ => .of) ⟨BL, b5, b6, b7, b8, b9, b15, U1, b19, U2, by omega⟩ ?_
        simp only [List.set_cons_zero, List.set_cons_succ]
        refine zv 9 30 (u1) (fun _ _ => .of) ⟨BL, b5, b6, b7, b8, b9, b15, U1, b19, U2, by omega⟩ ?_
        simp only [List.set_cons_zero, List.set_cons_succ]
        refine zv 10 31 (u2) (fun _ _ => .of) ⟨BL, b5, b6, b7, b8, b9, b15, U1, b19, U2, by omega⟩ ?_
        simp only [List.set_cons_zero, List.set_cons_succ]
        refine zv 12 33 (.agg (cellsOf .u8 (nn (da)))) (fun _ ⟨BL, b5, b6, b7, b8, b9, b15, U1, b19, U2, z2⟩ => Val.blk 37 _ rfl 0 32 (by kernel_rfl) b6 _ Try.underlying37 rfl (by kernel_rfl) (by (try simp only [nn_len, List.length_cons, List.length_nil, List.length_set, List.length_replicate]); try omega) _ (seg_all' _ (by (try simp only [nn_len, List.length_cons, List.length_nil, List.length_set, List.length_replicate]); try omega))) ⟨BL, b5, b6, b7, b8, b9, b15, U1, b19, U2, by omega⟩ ?_
        simp only [List.set_cons_zero, List.set_cons_succ]
        refine zv 13 34 (.agg (cellsOf .u8 (nn (dc)))) (fun _ ⟨BL, b5, b6, b7, b8, b9, b15, U1, b19, U2, z2⟩ => Val.blk 37 _ rfl 0 32 (by kernel_rfl) b8 _ Try.underlying37 rfl (by kernel_rfl) (by (try simp only [nn_len, List.length_cons, List.length_nil, List.length_set, List.length_replicate]); try omega) _ (seg_all' _ (by (try simp only [nn_len, List.length_cons, List.length_nil, List.length_set, List.length_replicate]); try omega))) ⟨BL, b5, b6, b7, b8, b9, b15, U1, b19, U2, by omega⟩ ?_
        simp only [List.set_cons_zero, List.set_cons_succ]
        refine zv 14 35 (.bool (decide (da = dc))) (fun _ ⟨BL, b5, b6, b7, b8, b9, b15, U1, b19, U2, z2⟩ => Val.eqA .eql 37 _ (.tmp 33) (.tmp 34) rfl Try.underlying37 Try.underlying5 (by kernel_rfl) (by kernel_rfl) (nn (da)) (nn (dc)) (by kernel_rfl) (by kernel_rfl) (by rw [nn_len]; exact ha) (by rw [nn_len]; exact hc) (.inl rfl) _ (eql_nn _ _)) ⟨BL, b5, b6, b7, b8, b9, b15, U1, b19, U2, by omega⟩ ?_
        simp only [List.set_cons_zero, List.set_cons_succ]
        refine zo1 11 rfl ?_
        refine xCall 32 28 #[u1, u2] (by kernel_rfl) ?_
        refine (samex_any _ _ (nn (textN 4 [da, db])) (nn (textN 4 [dc, dd])) w14 (.inl U1.sl) (.inl U2.sl) ht1 ht2).mono ?_
        rintro en w15 ⟨he, hw⟩
        rw [same_s ha hb hc hd, ← hs] at he
        subst he
        obtain rfl := (hw.symm).symm
        refine ⟨.bool s, rfl, ?_⟩
        refine ze 11 ⟨BL, b5, b6, b7, b8, b9, b15, U1, b19, U2, by omega⟩ ?_
        simp only [List.set_cons_zero, List.set_cons_succ]
        refine zv 15 36 (.bool (decide (da = dc))) (fun _ _ => .of) ⟨BL, b5, b6, b7, b8, b9, b15, U1, b19, U2, by omega⟩ ?_
        simp only [List.set_cons_zero, List.set_cons_succ]
        by_cases g37 : da = dc
        · skip
          have dg37 : decide (da = dc) = true := decide_eq_true g37
          simp only [dg37]
          clear dg37
          refine zv 16 37 (.agg (cellsOf .u8 (nn (db)))) (fun _ ⟨BL, b5, b6, b7, b8, b9, b15, U1, b19, U2, z2⟩ => Val.blk 37 _ rfl 0 32 (by kernel_rfl) b7 _ Try.underlying37 rfl (by kernel_rfl) (by (try simp only [nn_len, List.length_cons, List.length_nil, List.length_set, List.length_replicate]); try omega) _ (seg_all' _ (by (try simp only [nn_len, List.length_cons, List.length_nil, List.length_set, List.length_replicate]); try omega))) ⟨BL, b5, b6, b7, b8, b9, b15, U1, b19, U2, by omega⟩ ?_
          simp only [List.set_cons_zero, List.set_cons_succ]
          refine zv 17 38 (.agg (cellsOf .u8 (nn (dd)))) (fun _ ⟨BL, b5, b6, b7, b8, b9, b15, U1, b19, U2, z2⟩ => Val.blk 37 _ rfl 0 32 (by kernel_rfl) b9 _ Try.underlying37 rfl (by kernel_rfl) (by (try simp only [nn_len, List.length_cons, List.length_nil, List.length_set, List.length_replicate]); try omega) _ (seg_all' _ (by (try simp only [nn_len, List.length_cons, List.length_nil, List.length_set, List.length_replicate]); try omega))) ⟨BL, b5, b6, b7, b8, b9, b15, U1, b19, U2, by omega⟩ ?_
          simp only [List.set_cons_zero, List.set_cons_succ]
          refine zv 18 39 (.bool (decide (db = dd))) (fun _ ⟨BL, b5, b6, b7, b8, b9, b15, U1, b19, U2, z2⟩ => Val.eqA .eql 37 _ (.tmp 37) (.tmp 38) rfl Try.underlying37 Try.underlying5 (by kernel_rfl) (by kernel_rfl) (nn (db)) (nn (dd)) (by kernel_rfl) (by kernel_rfl) (by rw [nn_len]; exact hb) (by rw [nn_len]; exact hd) (.inl rfl) _ (eql_nn _ _)) ⟨BL, b5, b6, b7, b8, b9, b15, U1, b19, U2, by omega⟩ ?_
          simp only [List.set_cons_zero, List.set_cons_succ]
          refine zv 19 40 (.bool (decide (db = dd))) (fun _ _ => .of) ⟨BL, b5, b6, b7, b8, b9, b15, U1, b19, U2, by omega⟩ ?_
          simp only [List.set_cons_zero, List.set_cons_succ]
          refine zv 20 41 (.bool true) (fun _ ⟨BL, b5, b6, b7, b8, b9, b15, U1, b19, U2, z2⟩ => Val.bools .eql 4 _ (.tmp 32) (.tmp 40) rfl Try.underlying4 s (decide (db = dd)) (by kernel_rfl) (by kernel_rfl) (.inl rfl) true (by rw [hs]; simp [g37])) ⟨BL, b5, b6, b7, b8, b9, b15, U1, b19, U2, by omega⟩ ?_
          simp only [List.set_cons_zero, List.set_cons_succ]
          refine zv 21 42 (.bool true) (fun _ _ => .of) ⟨BL, b5, b6, b7, b8, b9, b15, U1, b19, U2, by omega⟩ ?_
          simp only [List.set_cons_zero, List.set_cons_succ]
          refine zv 22 43 (.bool true) (fun _ _ => .of) ⟨BL, b5, b6, b7, b8, b9, b15, U1, b19, U2, by omega⟩ ?_
          simp only [List.set_cons_zero, List.set_cons_succ]
          refine zv 23 44 (.agg (cellsOf .u8 (nn (da)))) (fun _ ⟨BL, b5, b6, b7, b8, b9, b15, U1, b19, U2, z2⟩ => Val.blk 37 _ rfl 0 32 (by kernel_rfl) b6 _ Try.underlying37 rfl (by kernel_rfl) (by (try simp only [nn_len, List.length_cons, List.length_nil, List.length_set, List.length_replicate]); try omega) _ (seg_all' _ (by (try simp only [nn_len, List.length_cons, List.length_nil, List.length_set, List.length_replicate]); try omega))) ⟨BL, b5, b6, b7, b8, b9, b15, U1, b19, U2, by omega⟩ ?_
          simp only [List.set_cons_zero, List.set_cons_succ]
          refine zv 24 45 (.agg (cellsOf .u8 (nn (dc)))) (fun _ ⟨BL, b5, b6, b7, b8, b9, b15, U1, b19, U2, z2⟩ => Val.blk 37 _ rfl 0 32 (by kernel_rfl) b8 _ Try.underlying37 rfl (by kernel_rfl) (by (try simp only [nn_len, List.length_cons, List.length_nil, List.length_set, List.length_replicate]); try omega) _ (seg_all' _ (by (try simp only [nn_len, List.length_cons, List.length_nil, List.length_set, List.length_replicate]); try omega))) ⟨BL, b5, b6, b7, b8, b9, b15, U1, b19, U2, by omega⟩ ?_
          simp only [List.set_cons_zero, List.set_cons_succ]
          refine zv 25 46 (.bool false) (fun _ ⟨BL, b5, b6, b7, b8, b9, b15, U1, b19, U2, z2⟩ => Val.eqA .neq 37 _ (.tmp 44) (.tmp 45) rfl Try.underlying37 Try.underlying5 (by kernel_rfl) (by kernel_rfl) (nn (da)) (nn (dc)) (by kernel_rfl) (by kernel_rfl) (by rw [nn_len]; exact ha) (by rw [nn_len]; exact hc) (.inr rfl) _ (by rw [neq_nn]; simp [g37])) ⟨BL, b5, b6, b7, b8, b9, b15, U1, b19, U2, by omega⟩ ?_
          simp only [List.set_cons_zero, List.set_cons_succ]
          refine zv 26 47 (.bool false) (fun _ _ => .of) ⟨BL, b5, b6, b7, b8, b9, b15, U1, b19, U2, by omega⟩ ?_
          simp only [List.set_cons_zero, List.set_cons_succ]
          refine zv 27 48 (.agg (cellsOf .u8 (nn (db)))) (fun _ ⟨BL, b5, b6, b7, b8, b9, b15, U1, b19, U2, z2⟩ => Val.blk 37 _ rfl 0 32 (by kernel_rfl) b7 _ Try.underlying37 rfl (by kernel_rfl) (by (try simp only [nn_len, List.length_cons, List.length_nil, List.length_set, List.length_replicate]); try omega) _ (seg_all' _ (by (try simp only [nn_len, List.length_cons, List.length_nil, List.length_set, List.length_replicate]); try omega))) ⟨BL, b5, b6, b7, b8, b9, b15, U1, b19, U2, by omega⟩ ?_
          simp only [List.set_cons_zero, List.set_cons_succ]
          refine zv 28 49 (.agg (cellsOf .u8 (nn (dd)))) (fun _ ⟨BL, b5, b6, b7, b8, b9, b15, U1, b19, U2, z2⟩ => Val.blk 37 _ rfl 0 32 (by kernel_rfl) b9 _ Try.underlying37 rfl (by kernel_rfl) (by (try simp only [nn_len, List.length_cons, List.length_nil, List.length_set, List.length_replicate]); try omega) _ (seg_all' _ (by (try simp only [nn_len, List.length_cons, List.length_nil, List.length_set, List.length_replicate]); try omega))) ⟨BL, b5, b6, b7, b8, b9, b15, U1, b19, U2, by omega⟩ ?_
          simp only [List.set_cons_zero, List.set_cons_succ]
          refine zv 29 50 (.bool (decide (¬ db = dd))) (fun _ ⟨BL, b5, b6, b7, b8, b9, b15, U1, b19, U2, z2⟩ => Val.eqA .neq 37 _ (.tmp 48) (.tmp 49) rfl Try.underlying37 Try.underlying5 (by kernel_rfl) (by kernel_rfl) (nn (db)) (nn (dd)) (by kernel_rfl) (by kernel_rfl) (by rw [nn_len]; exact hb) (by rw [nn_len]; exact hd) (.inr rfl) _ (neq_nn _ _)) ⟨BL, b5, b6, b7, b8, b9, b15, U1, b19, U2, by omega⟩ ?_
          simp only [List.set_cons_zero, List.set_cons_succ]
          refine zv 30 51 (.bool (decide (¬ db = dd))) (fun _ _ => .of) ⟨BL, b5, b6, b7, b8, b9, b15, U1, b19, U2, by omega⟩ ?_
          simp only [List.set_cons_zero, List.set_cons_succ]
          refine zv 31 52 (.bool (decide (¬ db = dd))) (fun _ _ => .of) ⟨BL, b5, b6, b7, b8, b9, b15, U1, b19, U2, by omega⟩ ?_
          simp only [List.set_cons_zero, List.set_cons_succ]
          by_cases g53 : ¬ db = dd
          · skip
            have dg53 : decide (¬ db = dd) = true := decide_eq_true g53
            simp only [dg53]
            clear dg53
            refine zs 32 53 ⟨BL, b5, b6, b7, b8, b9, b15, U1, b19, U2, by omega⟩ ?_
            simp only [List.set_cons_zero, List.set_cons_succ]
            refine zs 33 54 ⟨BL, b5, b6, b7, b8, b9, b15, U1, b19, U2, by omega⟩ ?_
            simp only [List.set_cons_zero, List.set_cons_succ]
            refine zs 34 55 ⟨BL, b5, b6, b7, b8, b9, b15, U1, b19, U2, by omega⟩ ?_
            simp only [List.set_cons_zero, List.set_cons_succ]
            refine zs 35 56 ⟨BL, b5, b6, b7, b8, b9, b15, U1, b19, U2, by omega⟩ ?_
            simp only [List.set_cons_zero, List.set_cons_succ]
            refine zs 36 57 ⟨BL, b5, b6, b7, b8, b9, b15, U1, b19, U2, by omega⟩ ?_
            simp only [List.set_cons_zero, List.set_cons_succ]
            refine zs 37 58 ⟨BL, b5, b6, b7, b8, b9, b15, U1, b19, U2, by omega⟩ ?_
            simp only [List.set_cons_zero, List.set_cons_succ]
            refine zs 38 59 ⟨BL, b5, b6, b7, b8, b9, b15, U1, b19, U2, by omega⟩ ?_
            simp only [List.set_cons_zero, List.set_cons_succ]
            refine zv 39 60 (.bool true) (fun _ _ => .of) ⟨BL, b5, b6, b7, b8, b9, b15, U1, b19, U2, by omega⟩ ?_
            simp only [List.set_cons_zero, List.set_cons_succ]
            refine zv 40 61 (.bool true) (fun _ _ => .of) ⟨BL, b5, b6, b7, b8, b9, b15, U1, b19, U2, by omega⟩ ?_
            simp only [List.set_cons_zero, List.set_cons_succ]
            refine zv 41 62 (.bool true) (fun _ _ => .of) ⟨BL, b5, b6, b7, b8, b9, b15, U1, b19, U2, by omega⟩ ?_
            simp only [List.set_cons_zero, List.set_cons_succ]
            refine zo1 42 rfl ?_
            refine xCall 63 41 #[] (by kernel_rfl) ?_
            refine (awake10 w14).mono ?_
            rintro en w16 ⟨rfl, hb1⟩
            have e7 := belE0 hb1
            have ze7 := e7.size
            replace BL := BL.e0 e7
            replace b5 := b5.e0 e7
            replace b6 := b6.e0 e7
            replace b7 := b7.e0 e7
            replace b8 := b8.e0 e7
            replace b9 := b9.e0 e7
            replace b15 := b15.e0 e7
            replace U1 := U1.e0 e7
            replace b19 := b19.e0 e7
            replace U2 := U2.e0 e7
            replace b26 := b26.e0 e7
            clear e7
            refine ⟨.bool true, rfl, ?_⟩
            refine ze 42 ⟨BL, b5, b6, b7, b8, b9, b15, U1, b19, U2, by omega⟩ ?_
            simp only [List.set_cons_zero, List.set_cons_succ]
            refine zv 43 64 (.bool true) (fun _ _ => .of) ⟨BL, b5, b6, b7, b8, b9, b15, U1, b19, U2, by omega⟩ ?_
            simp only [List.set_cons_zero, List.set_cons_succ]
            refine zv 44 10 (.bool true) (fun _ _ => .of) ⟨BL, b5, b6, b7, b8, b9, b15, U1, b19, U2, by omega⟩ ?_
            simp only [List.set_cons_zero, List.set_cons_succ]
            refine zd (by kernel_rfl) ?_ _
            refine hK3 _ _ ?_
            refine wp_ret ?_
            (try simp only [Exit.then, Exit.inBlock])
            refine bodyPost_ret (v := .bool true) rT rfl ?_
            exact ⟨rfl, BL.b⟩
          · skip
            have dg53 : decide (¬ db = dd) = false := decide_eq_false g53
            simp only [dg53]
            clear dg53
            refine zv 32 53 (.agg (cellsOf .u8 (nn (da)))) (fun _ ⟨BL, b5, b6, b7, b8, b9, b15, U1, b19, U2, z2⟩ => Val.blk 37 _ rfl 0 32 (by kernel_rfl) b6 _ Try.underlying37 rfl (by kernel_rfl) (by (try simp only [nn_len, List.length_cons, List.length_nil, List.length_set, List.length_replicate]); try omega) _ (seg_all' _ (by (try simp only [nn_len, List.length_cons, List.length_nil, List.length_set, List.length_replicate]); try omega))) ⟨BL, b5, b6, b7, b8, b9, b15, U1, b19, U2, by omega⟩ ?_
            simp only [List.set_cons_zero, List.set_cons_succ]
            refine zv 33 54 (.agg (cellsOf .u8 (nn (db)))) (fun _ ⟨BL, b5, b6, b7, b8, b9, b15, U1, b19, U2, z2⟩ => Val.blk 37 _ rfl 0 32 (by kernel_rfl) b7 _ Try.underlying37 rfl (by kernel_rfl) (by (try simp only [nn_len, List.length_cons, List.length_nil, List.length_set, List.length_replicate]); try omega) _ (seg_all' _ (by (try simp only [nn_len, List.length_cons, List.length_nil, List.length_set, List.length_replicate]); try omega))) ⟨BL, b5, b6, b7, b8, b9, b15, U1, b19, U2, by omega⟩ ?_
            simp only [List.set_cons_zero, List.set_cons_succ]
            refine zv 35 56 (.agg (cellsOf .u8 (nn (dc)))) (fun _ ⟨BL, b5, b6, b7, b8, b9, b15, U1, b19, U2, z2⟩ => Val.blk 37 _ rfl 0 32 (by kernel_rfl) b8 _ Try.underlying37 rfl (by kernel_rfl) (by (try simp only [nn_len, List.length_cons, List.length_nil, List.length_set, List.length_replicate]); try omega) _ (seg_all' _ (by (try simp only [nn_len, List.length_cons, List.length_nil, List.length_set, List.length_replicate]); try omega))) ⟨BL, b5, b6, b7, b8, b9, b15, U1, b19, U2, by omega⟩ ?_
            simp only [List.set_cons_zero, List.set_cons_succ]
            refine zv 36 57 (.agg (cellsOf .u8 (nn (dd)))) (fun _ ⟨BL, b5, b6, b7, b8, b9, b15, U1, b19, U2, z2⟩ => Val.blk 37 _ rfl 0 32 (by kernel_rfl) b9 _ Try.underlying37 rfl (by kernel_rfl) (by (try simp only [nn_len, List.length_cons, List.length_nil, List.length_set, List.length_replicate]); try omega) _ (seg_all' _ (by (try simp only [nn_len, List.length_cons, List.length_nil, List.length_set, List.length_replicate]); try omega))) ⟨BL, b5, b6, b7, b8, b9, b15, U1, b19, U2, by omega⟩ ?_
            simp only [List.set_cons_zero, List.set_cons_succ]
            refine zo1 34 rfl ?_
            refine xCall 55 40 #[.pointer (some ⟨w.heap.size, 0, none⟩), .agg (cellsOf .u8 (nn (da))), .agg (cellsOf .u8 (nn (db)))] (by kernel_rfl) ?_
            refine (mnode_any w.heap.size tab ht w14 b5 da db ha hb).mono ?_
            rintro en w17 ⟨rfl, hb1⟩
            have e8 := belE0 hb1
            have ze8 := e8.size
            replace BL := BL.e0 e8
            replace b5 := b5.e0 e8
            replace b6 := b6.e0 e8
            replace b7 := b7.e0 e8
            replace b8 := b8.e0 e8
            replace b9 := b9.e0 e8
            replace b15 := b15.e0 e8
            replace U1 := U1.e0 e8
            replace b19 := b19.e0 e8
            replace U2 := U2.e0 e8
            replace b26 := b26.e0 e8
            clear e8
            refine ⟨.agg (cellsOf .u8 (nn (mnode tab da db))), rfl, ?_⟩
            refine ze 34 ⟨BL, b5, b6, b7, b8, b9, b15, U1, b19, U2, by omega⟩ ?_
            simp only [List.set_cons_zero, List.set_cons_succ]
            refine zo1 37 rfl ?_
            refine xCall 58 40 #[.pointer (some ⟨w.heap.size, 0, none⟩), .agg (cellsOf .u8 (nn (dc))), .agg (cellsOf .u8 (nn (dd)))] (by kernel_rfl) ?_
            refine (mnode_any w.heap.size tab ht w17 b5 dc dd hc hd).mono ?_
            rintro en w18 ⟨rfl, hb1⟩
            have e9 := belE0 hb1
            have ze9 := e9.size
            replace BL := BL.e0 e9
            replace b5 := b5.e0 e9
            replace b6 := b6.e0 e9
            replace b7 := b7.e0 e9
            replace b8 := b8.e0 e9
            replace b9 := b9.e0 e9
            replace b15 := b15.e0 e9
            replace U1 := U1.e0 e9
            replace b19 := b19.e0 e9
            replace U2 := U2.e0 e9
            replace b26 := b26.e0 e9
            clear e9
            refine ⟨.agg (cellsOf .u8 (nn (mnode tab dc dd))), rfl, ?_⟩
            refine ze 37 ⟨BL, b5, b6, b7, b8, b9, b15, U1, b19, U2, by omega⟩ ?_
            simp only [List.set_cons_zero, List.set_cons_succ]
            refine zv 38 59 (.bool true) (fun _ ⟨BL, b5, b6, b7, b8, b9, b15, U1, b19, U2, z2⟩ => Val.eqA .eql 37 _ (.tmp 55) (.tmp 58) rfl Try.underlying37 Try.underlying5 (by kernel_rfl) (by kernel_rfl) (nn (mnode tab da db)) (nn (mnode tab dc dd)) (by kernel_rfl) (by kernel_rfl) (by rw [nn_len]; exact (mnode_len _ _ _)) (by rw [nn_len]; exact (mnode_len _ _ _)) (.inl rfl) _ (by rw [eql_nn]; exact decide_eq_true (by rw [g37, Classical.not_not.1 g53]))) ⟨BL, b5, b6, b7, b8, b9, b15, U1, b19, U2, by omega⟩ ?_
            simp only [List.set_cons_zero, List.set_cons_succ]
            refine zv 39 60 (.bool true) (fun _ _ => .of) ⟨BL, b5, b6, b7, b8, b9, b15, U1, b19, U2, by omega⟩ ?_
            simp only [List.set_cons_zero, List.set_cons_succ]
            refine zv 40 61 (.bool true) (fun _ _ => .of) ⟨BL, b5, b6, b7, b8, b9, b15, U1, b19, U2, by omega⟩ ?_
            simp only [List.set_cons_zero, List.set_cons_succ]
            refine zv 41 62 (.bool true) (fun _ _ => .of) ⟨BL, b5, b6, b7, b8, b9, b15, U1, b19, U2, by omega⟩ ?_
            simp only [List.set_cons_zero, List.set_cons_succ]
            refine zo1 42 rfl ?_
            refine xCall 63 41 #[] (by kernel_rfl) ?_
            refine (awake10 w18).mono ?_
            rintro en w19 ⟨rfl, hb1⟩
            have e10 := belE0 hb1
            have ze10 := e10.size
            replace BL := BL.e0 e10
            replace b5 := b5.e0 e10
            replace b6 := b6.e0 e10
            replace b7 := b7.e0 e10
            replace b8 := b8.e0 e10
            replace b9 := b9.e0 e10
            replace b15 := b15.e0 e10
            replace U1 := U1.e0 e10
            replace b19 := b19.e0 e10
            replace U2 := U2.e0 e10
            replace b26 := b26.e0 e10
            clear e10
            refine ⟨.bool true, rfl, ?_⟩
            refine ze 42 ⟨BL, b5, b6, b7, b8, b9, b15, U1, b19, U2, by omega⟩ ?_
            simp only [List.set_cons_zero, List.set_cons_succ]
            refine zv 43 64 (.bool true) (fun _ _ => .of) ⟨BL, b5, b6, b7, b8, b9, b15, U1, b19, U2, by omega⟩ ?_
            simp only [List.set_cons_zero, List.set_cons_succ]
            refine zv 44 10 (.bool true) (fun _ _ => .of) ⟨BL, b5, b6, b7, b8, b9, b15, U1, b19, U2, by omega⟩ ?_
            simp only [List.set_cons_zero, List.set_cons_succ]
            refine zd (by kernel_rfl) ?_ _
            refine hK3 _ _ ?_
            refine wp_ret ?_
            (try simp only [Exit.then, Exit.inBlock])
            refine bodyPost_ret (v := .bool true) rT rfl ?_
            exact ⟨rfl, BL.b⟩
        · skip
          have dg37 : decide (da = dc) = false := decide_eq_false g37
          simp only [dg37]
          clear dg37
          refine zs 16 37 ⟨BL, b5, b6, b7, b8, b9, b15, U1, b19, U2, by omega⟩ ?_
          simp only [List.set_cons_zero, List.set_cons_succ]
          refine zs 17 38 ⟨BL, b5, b6, b7, b8, b9, b15, U1, b19, U2, by omega⟩ ?_
          simp only [List.set_cons_zero, List.set_cons_succ]
          refine zs 18 39 ⟨BL, b5, b6, b7, b8, b9, b15, U1, b19, U2, by omega⟩ ?_
          simp only [List.set_cons_zero, List.set_cons_succ]
          refine zv 19 40 (.bool false) (fun _ _ => .of) ⟨BL, b5, b6, b7, b8, b9, b15, U1, b19, U2, by omega⟩ ?_
          simp only [List.set_cons_zero, List.set_cons_succ]
          refine zv 20 41 (.bool true) (fun _ ⟨BL, b5, b6, b7, b8, b9, b15, U1, b19, U2, z2⟩ => Val.bools .eql 4 _ (.tmp 32) (.tmp 40) rfl Try.underlying4 s false (by kernel_rfl) (by kernel_rfl) (.inl rfl) true (by rw [hs]; simp [g37])) ⟨BL, b5, b6, b7, b8, b9, b15, U1, b19, U2, by omega⟩ ?_
          simp only [List.set_cons_zero, List.set_cons_succ]
          refine zv 21 42 (.bool true) (fun _ _ => .of) ⟨BL, b5, b6, b7, b8, b9, b15, U1, b19, U2, by omega⟩ ?_
          simp only [List.set_cons_zero, List.set_cons_succ]
          refine zv 22 43 (.bool true) (fun _ _ => .of) ⟨BL, b5, b6, b7, b8, b9, b15, U1, b19, U2, by omega⟩ ?_
          simp only [List.set_cons_zero, List.set_cons_succ]
          refine zv 23 44 (.agg (cellsOf .u8 (nn (da)))) (fun _ ⟨BL, b5, b6, b7, b8, b9, b15, U1, b19, U2, z2⟩ => Val.blk 37 _ rfl 0 32 (by kernel_rfl) b6 _ Try.underlying37 rfl (by kernel_rfl) (by (try simp only [nn_len, List.length_cons, List.length_nil, List.length_set, List.length_replicate]); try omega) _ (seg_all' _ (by (try simp only [nn_len, List.length_cons, List.length_nil, List.length_set, List.length_replicate]); try omega))) ⟨BL, b5, b6, b7, b8, b9, b15, U1, b19, U2, by omega⟩ ?_
          simp only [List.set_cons_zero, List.set_cons_succ]
          refine zv 24 45 (.agg (cellsOf .u8 (nn (dc)))) (fun _ ⟨BL, b5, b6, b7, b8, b9, b15, U1, b19, U2, z2⟩ => Val.blk 37 _ rfl 0 32 (by kernel_rfl) b8 _ Try.underlying37 rfl (by kernel_rfl) (by (try simp only [nn_len, List.length_cons, List.length_nil, List.length_set, List.length_replicate]); try omega) _ (seg_all' _ (by (try simp only [nn_len, List.length_cons, List.length_nil, List.length_set, List.length_replicate]); try omega))) ⟨BL, b5, b6, b7, b8, b9, b15, U1, b19, U2, by omega⟩ ?_
          simp only [List.set_cons_zero, List.set_cons_succ]
          refine zv 25 46 (.bool true) (fun _ ⟨BL, b5, b6, b7, b8, b9, b15, U1, b19, U2, z2⟩ => Val.eqA .neq 37 _ (.tmp 44) (.tmp 45) rfl Try.underlying37 Try.underlying5 (by kernel_rfl) (by kernel_rfl) (nn (da)) (nn (dc)) (by kernel_rfl) (by kernel_rfl) (by rw [nn_len]; exact ha) (by rw [nn_len]; exact hc) (.inr rfl) _ (by rw [neq_nn]; simp [g37])) ⟨BL, b5, b6, b7, b8, b9, b15, U1, b19, U2, by omega⟩ ?_
          simp only [List.set_cons_zero, List.set_cons_succ]
          refine zv 26 47 (.bool true) (fun _ _ => .of) ⟨BL, b5, b6, b7, b8, b9, b15, U1, b19, U2, by omega⟩ ?_
          simp only [List.set_cons_zero, List.set_cons_succ]
          refine zs 27 48 ⟨BL, b5, b6, b7, b8, b9, b15, U1, b19, U2, by omega⟩ ?_
          simp only [List.set_cons_zero, List.set_cons_succ]
          refine zs 28 49 ⟨BL, b5, b6, b7, b8, b9, b15, U1, b19, U2, by omega⟩ ?_
          simp only [List.set_cons_zero, List.set_cons_succ]
          refine zs 29 50 ⟨BL, b5, b6, b7, b8, b9, b15, U1, b19, U2, by omega⟩ ?_
          simp only [List.set_cons_zero, List.set_cons_succ]
          refine zv 30 51 (.bool true) (fun _ _ => .of) ⟨BL, b5, b6, b7, b8, b9, b15, U1, b19, U2, by omega⟩ ?_
          simp only [List.set_cons_zero, List.set_cons_succ]
          refine zv 31 52 (.bool true) (fun _ _ => .of) ⟨BL, b5, b6, b7, b8, b9, b15, U1, b19, U2, by omega⟩ ?_
          simp only [List.set_cons_zero, List.set_cons_succ]
          refine zs 32 53 ⟨BL, b5, b6, b7, b8, b9, b15, U1, b19, U2, by omega⟩ ?_
          simp only [List.set_cons_zero, List.set_cons_succ]
          refine zs 33 54 ⟨BL, b5, b6, b7, b8, b9, b15, U1, b19, U2, by omega⟩ ?_
          simp only [List.set_cons_zero, List.set_cons_succ]
          refine zs 34 55 ⟨BL, b5, b6, b7, b8, b9, b15, U1, b19, U2, by omega⟩ ?_
          simp only [List.set_cons_zero, List.set_cons_succ]
          refine zs 35 56 ⟨BL, b5, b6, b7, b8, b9, b15, U1, b19, U2, by omega⟩ ?_
          simp only [List.set_cons_zero, List.set_cons_succ]
          refine zs 36 57 ⟨BL, b5, b6, b7, b8, b9, b15, U1, b19, U2, by omega⟩ ?_
          simp only [List.set_cons_zero, List.set_cons_succ]
          refine zs 37 58 ⟨BL, b5, b6, b7, b8, b9, b15, U1, b19, U2, by omega⟩ ?_
          simp only [List.set_cons_zero, List.set_cons_succ]
          refine zs 38 59 ⟨BL, b5, b6, b7, b8, b9, b15, U1, b19, U2, by omega⟩ ?_
          simp only [List.set_cons_zero, List.set_cons_succ]
          refine zv 39 60 (.bool true) (fun _ _ => .of) ⟨BL, b5, b6, b7, b8, b9, b15, U1, b19, U2, by omega⟩ ?_
          simp only [List.set_cons_zero, List.set_cons_succ]
          refine zv 40 61 (.bool true) (fun _ _ => .of) ⟨BL, b5, b6, b7, b8, b9, b15, U1, b19, U2, by omega⟩ ?_
          simp only [List.set_cons_zero, List.set_cons_succ]
          refine zv 41 62 (.bool true) (fun _ _ => .of) ⟨BL, b5, b6, b7, b8, b9, b15, U1, b19, U2, by omega⟩ ?_
          simp only [List.set_cons_zero, List.set_cons_succ]
          refine zo1 42 rfl ?_
          refine xCall 63 41 #[] (by kernel_rfl) ?_
          refine (awake10 w14).mono ?_
          rintro en w20 ⟨rfl, hb1⟩
          have e11 := belE0 hb1
          have ze11 := e11.size
          replace BL := BL.e0 e11
          replace b5 := b5.e0 e11
          replace b6 := b6.e0 e11
          replace b7 := b7.e0 e11
          replace b8 := b8.e0 e11
          replace b9 := b9.e0 e11
          replace b15 := b15.e0 e11
          replace U1 := U1.e0 e11
          replace b19 := b19.e0 e11
          replace U2 := U2.e0 e11
          replace b26 := b26.e0 e11
          clear e11
          refine ⟨.bool true, rfl, ?_⟩
          refine ze 42 ⟨BL, b5, b6, b7, b8, b9, b15, U1, b19, U2, by omega⟩ ?_
          simp only [List.set_cons_zero, List.set_cons_succ]
          refine zv 43 64 (.bool true) (fun _ _ => .of) ⟨BL, b5, b6, b7, b8, b9, b15, U1, b19, U2, by omega⟩ ?_
          simp only [List.set_cons_zero, List.set_cons_succ]
          refine zv 44 10 (.bool true) (fun _ _ => .of) ⟨BL, b5, b6, b7, b8, b9, b15, U1, b19, U2, by omega⟩ ?_
          simp only [List.set_cons_zero, List.set_cons_succ]
          refine zd (by kernel_rfl) ?_ _
          refine hK3 _ _ ?_
          refine wp_ret ?_
          (try simp only [Exit.then, Exit.inBlock])
          refine bodyPost_ret (v := .bool true) rT rfl ?_
          exact ⟨rfl, BL.b⟩
      · skip
        refine xLit 26 124 30 2 _ #[(0, .slice (some ⟨w1.heap.size, 0, none⟩) 32 32), (1, .slice (some ⟨w2.heap.size, 0, none⟩) 32 32)] [.slice (some ⟨w1.heap.size, 0, none⟩) 32 32, .slice (some ⟨w2.heap.size, 0, none⟩) 32 32] rfl (by kernel_rfl) (by kernel_rfl) ?_
        intro w21 n9
        have zn9 := n9.z
        have b26 := n9.c
        replace BL := BL.e0 n9.e
        replace b5 := b5.e0 n9.e
        replace b6 := b6.e0 n9.e
        replace b7 := b7.e0 n9.e
        replace b8 := b8.e0 n9.e
        replace b9 := b9.e0 n9.e
        replace b15 := b15.e0 n9.e
        replace U1 := U1.e0 n9.e
        replace b19 := b19.e0 n9.e
        replace U2 := U2.e0 n9.e
        refine ze 5 ⟨BL, b5, b6, b7, b8, b9, b15, U1, b19, U2, by omega⟩ ?_
        simp only [List.set_cons_zero, List.set_cons_succ]
        refine zo1 2 rfl ?_
        refine xCall 23 40 #[.pointer (some ⟨w.heap.size, 0, none⟩), .agg (cellsOf .u8 (nn (da))), .agg (cellsOf .u8 (nn (db)))] (by kernel_rfl) ?_
        refine (mnode_any w.heap.size tab ht w21 b5 da db ha hb).mono ?_
        rintro en w22 ⟨rfl, hb1⟩
        have e12 := belE0 hb1
        have ze12 := e12.size
        replace BL := BL.e0 e12
        replace b5 := b5.e0 e12
        replace b6 := b6.e0 e12
        replace b7 := b7.e0 e12
        replace b8 := b8.e0 e12
        replace b9 := b9.e0 e12
        replace b15 := b15.e0 e12
        replace U1 := U1.e0 e12
        replace b19 := b19.e0 e12
        replace U2 := U2.e0 e12
        replace b26 := b26.e0 e12
        clear e12
        refine ⟨.agg (cellsOf .u8 (nn (mnode tab da db))), rfl, ?_⟩
        refine ze 2 ⟨BL, b5, b6, b7, b8, b9, b15, U1, b19, U2, by omega⟩ ?_
        simp only [List.set_cons_zero, List.set_cons_succ]
        refine zo1 6 rfl ?_
        refine xCall 27 27 #[.pointer (some ⟨w.heap.size, 0, none⟩), .int .u8 4, .slice (some ⟨w11.heap.size, 0, none⟩) 2 2] (by kernel_rfl) ?_
        refine (tagged_any w.heap.size tab ht w22 b5 4 _ [.slice (some ⟨w1.heap.size, 0, none⟩) 32 32, .slice (some ⟨w2.heap.size, 0, none⟩) 32 32] [da, db] (SV.ofCelM (n := 2) b26 rfl (by unfold maxLen; omega)) (SLs.two (SL.ofBlk b6 (by rw [nn_len]; exact ha) (by unfold maxLen; omega)) (fun g hg => by have := ownB_lit (lo := 0) (hi := w22.heap.size) (by omega) g hg; omega) (SL.ofBlk b7 (by rw [nn_len]; exact hb) (by unfold maxLen; omega)) (fun g hg => by have := ownB_lit (lo := 0) (hi := w22.heap.size) (by omega) g hg; omega)) (by simp only [List.length_cons, List.length_nil] at hbs1; omega) (by simp)).mono ?_
        rintro en w23 ⟨he, hb1⟩
        rw [show taggedN tab 4 [da, db] = mnode tab da db by unfold mnode; rfl] at he
        subst he
        have e13 := belE0 hb1
        have ze13 := e13.size
        replace BL := BL.e0 e13
        replace b5 := b5.e0 e13
        replace b6 := b6.e0 e13
        replace b7 := b7.e0 e13
        replace b8 := b8.e0 e13
        replace b9 := b9.e0 e13
        replace b15 := b15.e0 e13
        replace U1 := U1.e0 e13
        replace b19 := b19.e0 e13
        replace U2 := U2.e0 e13
        replace b26 := b26.e0 e13
        clear e13
        refine ⟨.agg (cellsOf .u8 (nn (mnode tab da db))), rfl, ?_⟩
        refine ze 6 ⟨BL, b5, b6, b7, b8, b9, b15, U1, b19, U2, by omega⟩ ?_
        simp only [List.set_cons_zero, List.set_cons_succ]
        refine zv 7 28 (.bool true) (fun _ ⟨BL, b5, b6, b7, b8, b9, b15, U1, b19, U2, z2⟩ => Val.eqA .eql 37 _ (.tmp 23) (.tmp 27) rfl Try.underlying37 Try.underlying5 (by kernel_rfl) (by kernel_rfl) (nn (mnode tab da db)) (nn (mnode tab da db)) (by kernel_rfl) (by kernel_rfl) (by rw [nn_len]; exact (mnode_len _ _ _)) (by rw [nn_len]; exact (mnode_len _ _ _)) (.inl rfl) _ (by simp)) ⟨BL, b5, b6, b7, b8, b9, b15, U1, b19, U2, by omega⟩ ?_
        simp only [List.set_cons_zero, List.set_cons_succ]
        refine zv 8 29 (.bool true) (fun _ _ => .of) ⟨BL, b5, b6, b7, b8, b9, b15, U1, b19, U2, by omega⟩ ?_
        simp only [List.set_cons_zero, List.set_cons_succ]
        refine zv 9 30 (u1) (fun _ _ => .of) ⟨BL, b5, b6, b7, b8, b9, b15, U1, b19, U2, by omega⟩ ?_
        simp only [List.set_cons_zero, List.set_cons_succ]
        refine zv 10 31 (u2) (fun _ _ => .of) ⟨BL, b5, b6, b7, b8, b9, b15, U1, b19, U2, by omega⟩ ?_
        simp only [List.set_cons_zero, List.set_cons_succ]
        refine zv 12 33 (.agg (cellsOf .u8 (nn (da)))) (fun _ ⟨BL, b5, b6, b7, b8, b9, b15, U1, b19, U2, z2⟩ => Val.blk 37 _ rfl 0 32 (by kernel_rfl) b6 _ Try.underlying37 rfl (by kernel_rfl) (by (try simp only [nn_len, List.length_cons, List.length_nil, List.length_set, List.length_replicate]); try omega) _ (seg_all' _ (by (try simp only [nn_len, List.length_cons, List.length_nil, List.length_set, List.length_replicate]); try omega))) ⟨BL, b5, b6, b7, b8, b9, b15, U1, b19, U2, by omega⟩ ?_
        simp only [List.set_cons_zero, List.set_cons_succ]
        refine zv 13 34 (.agg (cellsOf .u8 (nn (dc)))) (fun _ ⟨BL, b5, b6, b7, b8, b9, b15, U1, b19, U2, z2⟩ => Val.blk 37 _ rfl 0 32 (by kernel_rfl) b8 _ Try.underlying37 rfl (by kernel_rfl) (by (try simp only [nn_len, List.length_cons, List.length_nil, List.length_set, List.length_replicate]); try omega) _ (seg_all' _ (by (try simp only [nn_len, List.length_cons, List.length_nil, List.length_set, List.length_replicate]); try omega))) ⟨BL, b5, b6, b7, b8, b9, b15, U1, b19, U2, by omega⟩ ?_
        simp only [List.set_cons_zero, List.set_cons_succ]
        refine zv 14 35 (.bool (decide (da = dc))) (fun _ ⟨BL, b5, b6, b7, b8, b9, b15, U1, b19, U2, z2⟩ => Val.eqA .eql 37 _ (.tmp 33) (.tmp 34) rfl Try.underlying37 Try.underlying5 (by kernel_rfl) (by kernel_rfl) (nn (da)) (nn (dc)) (by kernel_rfl) (by kernel_rfl) (by rw [nn_len]; exact ha) (by rw [nn_len]; exact hc) (.inl rfl) _ (eql_nn _ _)) ⟨BL, b5, b6, b7, b8, b9, b15, U1, b19, U2, by omega⟩ ?_
        simp only [List.set_cons_zero, List.set_cons_succ]
        refine zo1 11 rfl ?_
        refine xCall 32 28 #[u1, u2] (by kernel_rfl) ?_
        refine (samex_any _ _ (nn (textN 4 [da, db])) (nn (textN 4 [dc, dd])) w23 (.inl U1.sl) (.inl U2.sl) ht1 ht2).mono ?_
        rintro en w24 ⟨he, hw⟩
        rw [same_s ha hb hc hd, ← hs] at he
        subst he
        obtain rfl := (hw.symm).symm
        refine ⟨.bool s, rfl, ?_⟩
        refine ze 11 ⟨BL, b5, b6, b7, b8, b9, b15, U1, b19, U2, by omega⟩ ?_
        simp only [List.set_cons_zero, List.set_cons_succ]
        refine zv 15 36 (.bool (decide (da = dc))) (fun _ _ => .of) ⟨BL, b5, b6, b7, b8, b9, b15, U1, b19, U2, by omega⟩ ?_
        simp only [List.set_cons_zero, List.set_cons_succ]
        by_cases g37 : da = dc
        · skip
          have dg37 : decide (da = dc) = true := decide_eq_true g37
          simp only [dg37]
          clear dg37
          refine zv 16 37 (.agg (cellsOf .u8 (nn (db)))) (fun _ ⟨BL, b5, b6, b7, b8, b9, b15, U1, b19, U2, z2⟩ => Val.blk 37 _ rfl 0 32 (by kernel_rfl) b7 _ Try.underlying37 rfl (by kernel_rfl) (by (try simp only [nn_len, List.length_cons, List.length_nil, List.length_set, List.length_replicate]); try omega) _ (seg_all' _ (by (try simp only [nn_len, List.length_cons, List.length_nil, List.length_set, List.length_replicate]); try omega))) ⟨BL, b5, b6, b7, b8, b9, b15, U1, b19, U2, by omega⟩ ?_
          simp only [List.set_cons_zero, List.set_cons_succ]
          refine zv 17 38 (.agg (cellsOf .u8 (nn (dd)))) (fun _ ⟨BL, b5, b6, b7, b8, b9, b15, U1, b19, U2, z2⟩ => Val.blk 37 _ rfl 0 32 (by kernel_rfl) b9 _ Try.underlying37 rfl (by kernel_rfl) (by (try simp only [nn_len, List.length_cons, List.length_nil, List.length_set, List.length_replicate]); try omega) _ (seg_all' _ (by (try simp only [nn_len, List.length_cons, List.length_nil, List.length_set, List.length_replicate]); try omega))) ⟨BL, b5, b6, b7, b8, b9, b15, U1, b19, U2, by omega⟩ ?_
          simp only [List.set_cons_zero, List.set_cons_succ]
          refine zv 18 39 (.bool (decide (db = dd))) (fun _ ⟨BL, b5, b6, b7, b8, b9, b15, U1, b19, U2, z2⟩ => Val.eqA .eql 37 _ (.tmp 37) (.tmp 38) rfl Try.underlying37 Try.underlying5 (by kernel_rfl) (by kernel_rfl) (nn (db)) (nn (dd)) (by kernel_rfl) (by kernel_rfl) (by rw [nn_len]; exact hb) (by rw [nn_len]; exact hd) (.inl rfl) _ (eql_nn _ _)) ⟨BL, b5, b6, b7, b8, b9, b15, U1, b19, U2, by omega⟩ ?_
          simp only [List.set_cons_zero, List.set_cons_succ]
          refine zv 19 40 (.bool (decide (db = dd))) (fun _ _ => .of) ⟨BL, b5, b6, b7, b8, b9, b15, U1, b19, U2, by omega⟩ ?_
          simp only [List.set_cons_zero, List.set_cons_succ]
          refine zv 20 41 (.bool true) (fun _ ⟨BL, b5, b6, b7, b8, b9, b15, U1, b19, U2, z2⟩ => Val.bools .eql 4 _ (.tmp 32) (.tmp 40) rfl Try.underlying4 s (decide (db = dd)) (by kernel_rfl) (by kernel_rfl) (.inl rfl) true (by rw [hs]; simp [g37])) ⟨BL, b5, b6, b7, b8, b9, b15, U1, b19, U2, by omega⟩ ?_
          simp only [List.set_cons_zero, List.set_cons_succ]
          refine zv 21 42 (.bool true) (fun _ _ => .of) ⟨BL, b5, b6, b7, b8, b9, b15, U1, b19, U2, by omega⟩ ?_
          simp only [List.set_cons_zero, List.set_cons_succ]
          refine zv 22 43 (.bool true) (fun _ _ => .of) ⟨BL, b5, b6, b7, b8, b9, b15, U1, b19, U2, by omega⟩ ?_
          simp only [List.set_cons_zero, List.set_cons_succ]
          refine zv 23 44 (.agg (cellsOf .u8 (nn (da)))) (fun _ ⟨BL, b5, b6, b7, b8, b9, b15, U1, b19, U2, z2⟩ => Val.blk 37 _ rfl 0 32 (by kernel_rfl) b6 _ Try.underlying37 rfl (by kernel_rfl) (by (try simp only [nn_len, List.length_cons, List.length_nil, List.length_set, List.length_replicate]); try omega) _ (seg_all' _ (by (try simp only [nn_len, List.length_cons, List.length_nil, List.length_set, List.length_replicate]); try omega))) ⟨BL, b5, b6, b7, b8, b9, b15, U1, b19, U2, by omega⟩ ?_
          simp only [List.set_cons_zero, List.set_cons_succ]
          refine zv 24 45 (.agg (cellsOf .u8 (nn (dc)))) (fun _ ⟨BL, b5, b6, b7, b8, b9, b15, U1, b19, U2, z2⟩ => Val.blk 37 _ rfl 0 32 (by kernel_rfl) b8 _ Try.underlying37 rfl (by kernel_rfl) (by (try simp only [nn_len, List.length_cons, List.length_nil, List.length_set, List.length_replicate]); try omega) _ (seg_all' _ (by (try simp only [nn_len, List.length_cons, List.length_nil, List.length_set, List.length_replicate]); try omega))) ⟨BL, b5, b6, b7, b8, b9, b15, U1, b19, U2, by omega⟩ ?_
          simp only [List.set_cons_zero, List.set_cons_succ]
          refine zv 25 46 (.bool false) (fun _ ⟨BL, b5, b6, b7, b8, b9, b15, U1, b19, U2, z2⟩ => Val.eqA .neq 37 _ (.tmp 44) (.tmp 45) rfl Try.underlying37 Try.underlying5 (by kernel_rfl) (by kernel_rfl) (nn (da)) (nn (dc)) (by kernel_rfl) (by kernel_rfl) (by rw [nn_len]; exact ha) (by rw [nn_len]; exact hc) (.inr rfl) _ (by rw [neq_nn]; simp [g37])) ⟨BL, b5, b6, b7, b8, b9, b15, U1, b19, U2, by omega⟩ ?_
          simp only [List.set_cons_zero, List.set_cons_succ]
          refine zv 26 47 (.bool false) (fun _ _ => .of) ⟨BL, b5, b6, b7, b8, b9, b15, U1, b19, U2, by omega⟩ ?_
          simp only [List.set_cons_zero, List.set_cons_succ]
          refine zv 27 48 (.agg (cellsOf .u8 (nn (db)))) (fun _ ⟨BL, b5, b6, b7, b8, b9, b15, U1, b19, U2, z2⟩ => Val.blk 37 _ rfl 0 32 (by kernel_rfl) b7 _ Try.underlying37 rfl (by kernel_rfl) (by (try simp only [nn_len, List.length_cons, List.length_nil, List.length_set, List.length_replicate]); try omega) _ (seg_all' _ (by (try simp only [nn_len, List.length_cons, List.length_nil, List.length_set, List.length_replicate]); try omega))) ⟨BL, b5, b6, b7, b8, b9, b15, U1, b19, U2, by omega⟩ ?_
          simp only [List.set_cons_zero, List.set_cons_succ]
          refine zv 28 49 (.agg (cellsOf .u8 (nn (dd)))) (fun _ ⟨BL, b5, b6, b7, b8, b9, b15, U1, b19, U2, z2⟩ => Val.blk 37 _ rfl 0 32 (by kernel_rfl) b9 _ Try.underlying37 rfl (by kernel_rfl) (by (try simp only [nn_len, List.length_cons, List.length_nil, List.length_set, List.length_replicate]); try omega) _ (seg_all' _ (by (try simp only [nn_len, List.length_cons, List.length_nil, List.length_set, List.length_replicate]); try omega))) ⟨BL, b5, b6, b7, b8, b9, b15, U1, b19, U2, by omega⟩ ?_
          simp only [List.set_cons_zero, List.set_cons_succ]
          refine zv 29 50 (.bool (decide (¬ db = dd))) (fun _ ⟨BL, b5, b6, b7, b8, b9, b15, U1, b19, U2, z2⟩ => Val.eqA .neq 37 _ (.tmp 48) (.tmp 49) rfl Try.underlying37 Try.underlying5 (by kernel_rfl) (by kernel_rfl) (nn (db)) (nn (dd)) (by kernel_rfl) (by kernel_rfl) (by rw [nn_len]; exact hb) (by rw [nn_len]; exact hd) (.inr rfl) _ (neq_nn _ _)) ⟨BL, b5, b6, b7, b8, b9, b15, U1, b19, U2, by omega⟩ ?_
          simp only [List.set_cons_zero, List.set_cons_succ]
          refine zv 30 51 (.bool (decide (¬ db = dd))) (fun _ _ => .of) ⟨BL, b5, b6, b7, b8, b9, b15, U1, b19, U2, by omega⟩ ?_
          simp only [List.set_cons_zero, List.set_cons_succ]
          refine zv 31 52 (.bool (decide (¬ db = dd))) (fun _ _ => .of) ⟨BL, b5, b6, b7, b8, b9, b15, U1, b19, U2, by omega⟩ ?_
          simp only [List.set_cons_zero, List.set_cons_succ]
          by_cases g53 : ¬ db = dd
          · skip
            have dg53 : decide (¬ db = dd) = true := decide_eq_true g53
            simp only [dg53]
            clear dg53
            refine zs 32 53 ⟨BL, b5, b6, b7, b8, b9, b15, U1, b19, U2, by omega⟩ ?_
            simp only [List.set_cons_zero, List.set_cons_succ]
            refine zs 33 54 ⟨BL, b5, b6, b7, b8, b9, b15, U1, b19, U2, by omega⟩ ?_
            simp only [List.set_cons_zero, List.set_cons_succ]
            refine zs 34 55 ⟨BL, b5, b6, b7, b8, b9, b15, U1, b19, U2, by omega⟩ ?_
            simp only [List.set_cons_zero, List.set_cons_succ]
            refine zs 35 56 ⟨BL, b5, b6, b7, b8, b9, b15, U1, b19, U2, by omega⟩ ?_
            simp only [List.set_cons_zero, List.set_cons_succ]
            refine zs 36 57 ⟨BL, b5, b6, b7, b8, b9, b15, U1, b19, U2, by omega⟩ ?_
            simp only [List.set_cons_zero, List.set_cons_succ]
            refine zs 37 58 ⟨BL, b5, b6, b7, b8, b9, b15, U1, b19, U2, by omega⟩ ?_
            simp only [List.set_cons_zero, List.set_cons_succ]
            refine zs 38 59 ⟨BL, b5, b6, b7, b8, b9, b15, U1, b19, U2, by omega⟩ ?_
            simp only [List.set_cons_zero, List.set_cons_succ]
            refine zv 39 60 (.bool true) (fun _ _ => .of) ⟨BL, b5, b6, b7, b8, b9, b15, U1, b19, U2, by omega⟩ ?_
            simp only [List.set_cons_zero, List.set_cons_succ]
            refine zv 40 61 (.bool true) (fun _ _ => .of) ⟨BL, b5, b6, b7, b8, b9, b15, U1, b19, U2, by omega⟩ ?_
            simp only [List.set_cons_zero, List.set_cons_succ]
            refine zv 41 62 (.bool true) (fun _ _ => .of) ⟨BL, b5, b6, b7, b8, b9, b15, U1, b19, U2, by omega⟩ ?_
            simp only [List.set_cons_zero, List.set_cons_succ]
            refine zo1 42 rfl ?_
            refine xCall 63 41 #[] (by kernel_rfl) ?_
            refine (awake10 w23).mono ?_
            rintro en w25 ⟨rfl, hb1⟩
            have e14 := belE0 hb1
            have ze14 := e14.size
            replace BL := BL.e0 e14
            replace b5 := b5.e0 e14
            replace b6 := b6.e0 e14
            replace b7 := b7.e0 e14
            replace b8 := b8.e0 e14
            replace b9 := b9.e0 e14
            replace b15 := b15.e0 e14
            replace U1 := U1.e0 e14
            replace b19 := b19.e0 e14
            replace U2 := U2.e0 e14
            replace b26 := b26.e0 e14
            clear e14
            refine ⟨.bool true, rfl, ?_⟩
            refine ze 42 ⟨BL, b5, b6, b7, b8, b9, b15, U1, b19, U2, by omega⟩ ?_
            simp only [List.set_cons_zero, List.set_cons_succ]
            refine zv 43 64 (.bool true) (fun _ _ => .of) ⟨BL, b5, b6, b7, b8, b9, b15, U1, b19, U2, by omega⟩ ?_
            simp only [List.set_cons_zero, List.set_cons_succ]
            refine zv 44 10 (.bool true) (fun _ _ => .of) ⟨BL, b5, b6, b7, b8, b9, b15, U1, b19, U2, by omega⟩ ?_
            simp only [List.set_cons_zero, List.set_cons_succ]
            refine zd (by kernel_rfl) ?_ _
            refine hK3 _ _ ?_
            refine wp_ret ?_
            (try simp only [Exit.then, Exit.inBlock])
            refine bodyPost_ret (v := .bool true) rT rfl ?_
            exact ⟨rfl, BL.b⟩
          · skip
            have dg53 : decide (¬ db = dd) = false := decide_eq_false g53
            simp only [dg53]
            clear dg53
            refine zv 32 53 (.agg (cellsOf .u8 (nn (da)))) (fun _ ⟨BL, b5, b6, b7, b8, b9, b15, U1, b19, U2, z2⟩ => Val.blk 37 _ rfl 0 32 (by kernel_rfl) b6 _ Try.underlying37 rfl (by kernel_rfl) (by (try simp only [nn_len, List.length_cons, List.length_nil, List.length_set, List.length_replicate]); try omega) _ (seg_all' _ (by (try simp only [nn_len, List.length_cons, List.length_nil, List.length_set, List.length_replicate]); try omega))) ⟨BL, b5, b6, b7, b8, b9, b15, U1, b19, U2, by omega⟩ ?_
            simp only [List.set_cons_zero, List.set_cons_succ]
            refine zv 33 54 (.agg (cellsOf .u8 (nn (db)))) (fun _ ⟨BL, b5, b6, b7, b8, b9, b15, U1, b19, U2, z2⟩ => Val.blk 37 _ rfl 0 32 (by kernel_rfl) b7 _ Try.underlying37 rfl (by kernel_rfl) (by (try simp only [nn_len, List.length_cons, List.length_nil, List.length_set, List.length_replicate]); try omega) _ (seg_all' _ (by (try simp only [nn_len, List.length_cons, List.length_nil, List.length_set, List.length_replicate]); try omega))) ⟨BL, b5, b6, b7, b8, b9, b15, U1, b19, U2, by omega⟩ ?_
            simp only [List.set_cons_zero, List.set_cons_succ]
            refine zv 35 56 (.agg (cellsOf .u8 (nn (dc)))) (fun _ ⟨BL, b5, b6, b7, b8, b9, b15, U1, b19, U2, z2⟩ => Val.blk 37 _ rfl 0 32 (by kernel_rfl) b8 _ Try.underlying37 rfl (by kernel_rfl) (by (try simp only [nn_len, List.length_cons, List.length_nil, List.length_set, List.length_replicate]); try omega) _ (seg_all' _ (by (try simp only [nn_len, List.length_cons, List.length_nil, List.length_set, List.length_replicate]); try omega))) ⟨BL, b5, b6, b7, b8, b9, b15, U1, b19, U2, by omega⟩ ?_
            simp only [List.set_cons_zero, List.set_cons_succ]
            refine zv 36 57 (.agg (cellsOf .u8 (nn (dd)))) (fun _ ⟨BL, b5, b6, b7, b8, b9, b15, U1, b19, U2, z2⟩ => Val.blk 37 _ rfl 0 32 (by kernel_rfl) b9 _ Try.underlying37 rfl (by kernel_rfl) (by (try simp only [nn_len, List.length_cons, List.length_nil, List.length_set, List.length_replicate]); try omega) _ (seg_all' _ (by (try simp only [nn_len, List.length_cons, List.length_nil, List.length_set, List.length_replicate]); try omega))) ⟨BL, b5, b6, b7, b8, b9, b15, U1, b19, U2, by omega⟩ ?_
            simp only [List.set_cons_zero, List.set_cons_succ]
            refine zo1 34 rfl ?_
            refine xCall 55 40 #[.pointer (some ⟨w.heap.size, 0, none⟩), .agg (cellsOf .u8 (nn (da))), .agg (cellsOf .u8 (nn (db)))] (by kernel_rfl) ?_
            refine (mnode_any w.heap.size tab ht w23 b5 da db ha hb).mono ?_
            rintro en w26 ⟨rfl, hb1⟩
            have e15 := belE0 hb1
            have ze15 := e15.size
            replace BL := BL.e0 e15
            replace b5 := b5.e0 e15
            replace b6 := b6.e0 e15
            replace b7 := b7.e0 e15
            replace b8 := b8.e0 e15
            replace b9 := b9.e0 e15
            replace b15 := b15.e0 e15
            replace U1 := U1.e0 e15
            replace b19 := b19.e0 e15
            replace U2 := U2.e0 e15
            replace b26 := b26.e0 e15
            clear e15
            refine ⟨.agg (cellsOf .u8 (nn (mnode tab da db))), rfl, ?_⟩
            refine ze 34 ⟨BL, b5, b6, b7, b8, b9, b15, U1, b19, U2, by omega⟩ ?_
            simp only [List.set_cons_zero, List.set_cons_succ]
            refine zo1 37 rfl ?_
            refine xCall 58 40 #[.pointer (some ⟨w.heap.size, 0, none⟩), .agg (cellsOf .u8 (nn (dc))), .agg (cellsOf .u8 (nn (dd)))] (by kernel_rfl) ?_
            refine (mnode_any w.heap.size tab ht w26 b5 dc dd hc hd).mono ?_
            rintro en w27 ⟨rfl, hb1⟩
            have e16 := belE0 hb1
            have ze16 := e16.size
            replace BL := BL.e0 e16
            replace b5 := b5.e0 e16
            replace b6 := b6.e0 e16
            replace b7 := b7.e0 e16
            replace b8 := b8.e0 e16
            replace b9 := b9.e0 e16
            replace b15 := b15.e0 e16
            replace U1 := U1.e0 e16
            replace b19 := b19.e0 e16
            replace U2 := U2.e0 e16
            replace b26 := b26.e0 e16
            clear e16
            refine ⟨.agg (cellsOf .u8 (nn (mnode tab dc dd))), rfl, ?_⟩
            refine ze 37 ⟨BL, b5, b6, b7, b8, b9, b15, U1, b19, U2, by omega⟩ ?_
            simp only [List.set_cons_zero, List.set_cons_succ]
            refine zv 38 59 (.bool true) (fun _ ⟨BL, b5, b6, b7, b8, b9, b15, U1, b19, U2, z2⟩ => Val.eqA .eql 37 _ (.tmp 55) (.tmp 58) rfl Try.underlying37 Try.underlying5 (by kernel_rfl) (by kernel_rfl) (nn (mnode tab da db)) (nn (mnode tab dc dd)) (by kernel_rfl) (by kernel_rfl) (by rw [nn_len]; exact (mnode_len _ _ _)) (by rw [nn_len]; exact (mnode_len _ _ _)) (.inl rfl) _ (by rw [eql_nn]; exact decide_eq_true (by rw [g37, Classical.not_not.1 g53]))) ⟨BL, b5, b6, b7, b8, b9, b15, U1, b19, U2, by omega⟩ ?_
            simp only [List.set_cons_zero, List.set_cons_succ]
            refine zv 39 60 (.bool true) (fun _ _ => .of) ⟨BL, b5, b6, b7, b8, b9, b15, U1, b19, U2, by omega⟩ ?_
            simp only [List.set_cons_zero, List.set_cons_succ]
            refine zv 40 61 (.bool true) (fun _ _ => .of) ⟨BL, b5, b6, b7, b8, b9, b15, U1, b19, U2, by omega⟩ ?_
            simp only [List.set_cons_zero, List.set_cons_succ]
            refine zv 41 62 (.bool true) (fun _ _ => .of) ⟨BL, b5, b6, b7, b8, b9, b15, U1, b19, U2, by omega⟩ ?_
            simp only [List.set_cons_zero, List.set_cons_succ]
            refine zo1 42 rfl ?_
            refine xCall 63 41 #[] (by kernel_rfl) ?_
            refine (awake10 w27).mono ?_
            rintro en w28 ⟨rfl, hb1⟩
            have e17 := belE0 hb1
            have ze17 := e17.size
            replace BL := BL.e0 e17
            replace b5 := b5.e0 e17
            replace b6 := b6.e0 e17
            replace b7 := b7.e0 e17
            replace b8 := b8.e0 e17
            replace b9 := b9.e0 e17
            replace b15 := b15.e0 e17
            replace U1 := U1.e0 e17
            replace b19 := b19.e0 e17
            replace U2 := U2.e0 e17
            replace b26 := b26.e0 e17
            clear e17
            refine ⟨.bool true, rfl, ?_⟩
            refine ze 42 ⟨BL, b5, b6, b7, b8, b9, b15, U1, b19, U2, by omega⟩ ?_
            simp only [List.set_cons_zero, List.set_cons_succ]
            refine zv 43 64 (.bool true) (fun _ _ => .of) ⟨BL, b5, b6, b7, b8, b9, b15, U1, b19, U2, by omega⟩ ?_
            simp only [List.set_cons_zero, List.set_cons_succ]
            refine zv 44 10 (.bool true) (fun _ _ => .of) ⟨BL, b5, b6, b7, b8, b9, b15, U1, b19, U2, by omega⟩ ?_
            simp only [List.set_cons_zero, List.set_cons_succ]
            refine zd (by kernel_rfl) ?_ _
            refine hK3 _ _ ?_
            refine wp_ret ?_
            (try simp only [Exit.then, Exit.inBlock])
            refine bodyPost_ret (v := .bool true) rT rfl ?_
            exact ⟨rfl, BL.b⟩
        · skip
          have dg37 : decide (da = dc) = false := decide_eq_false g37
          simp only [dg37]
          clear dg37
          refine zs 16 37 ⟨BL, b5, b6, b7, b8, b9, b15, U1, b19, U2, by omega⟩ ?_
          simp only [List.set_cons_zero, List.set_cons_succ]
          refine zs 17 38 ⟨BL, b5, b6, b7, b8, b9, b15, U1, b19, U2, by omega⟩ ?_
          simp only [List.set_cons_zero, List.set_cons_succ]
          refine zs 18 39 ⟨BL, b5, b6, b7, b8, b9, b15, U1, b19, U2, by omega⟩ ?_
          simp only [List.set_cons_zero, List.set_cons_succ]
          refine zv 19 40 (.bool false) (fun _ _ => .of) ⟨BL, b5, b6, b7, b8, b9, b15, U1, b19, U2, by omega⟩ ?_
          simp only [List.set_cons_zero, List.set_cons_succ]
          refine zv 20 41 (.bool true) (fun _ ⟨BL, b5, b6, b7, b8, b9, b15, U1, b19, U2, z2⟩ => Val.bools .eql 4 _ (.tmp 32) (.tmp 40) rfl Try.underlying4 s false (by kernel_rfl) (by kernel_rfl) (.inl rfl) true (by rw [hs]; simp [g37])) ⟨BL, b5, b6, b7, b8, b9, b15, U1, b19, U2, by omega⟩ ?_
          simp only [List.set_cons_zero, List.set_cons_succ]
          refine zv 21 42 (.bool true) (fun _ _ => .of) ⟨BL, b5, b6, b7, b8, b9, b15, U1, b19, U2, by omega⟩ ?_
          simp only [List.set_cons_zero, List.set_cons_succ]
          refine zv 22 43 (.bool true) (fun _ _ => .of) ⟨BL, b5, b6, b7, b8, b9, b15, U1, b19, U2, by omega⟩ ?_
          simp only [List.set_cons_zero, List.set_cons_succ]
          refine zv 23 44 (.agg (cellsOf .u8 (nn (da)))) (fun _ ⟨BL, b5, b6, b7, b8, b9, b15, U1, b19, U2, z2⟩ => Val.blk 37 _ rfl 0 32 (by kernel_rfl) b6 _ Try.underlying37 rfl (by kernel_rfl) (by (try simp only [nn_len, List.length_cons, List.length_nil, List.length_set, List.length_replicate]); try omega) _ (seg_all' _ (by (try simp only [nn_len, List.length_cons, List.length_nil, List.length_set, List.length_replicate]); try omega))) ⟨BL, b5, b6, b7, b8, b9, b15, U1, b19, U2, by omega⟩ ?_
          simp only [List.set_cons_zero, List.set_cons_succ]
          refine zv 24 45 (.agg (cellsOf .u8 (nn (dc)))) (fun _ ⟨BL, b5, b6, b7, b8, b9, b15, U1, b19, U2, z2⟩ => Val.blk 37 _ rfl 0 32 (by kernel_rfl) b8 _ Try.underlying37 rfl (by kernel_rfl) (by (try simp only [nn_len, List.length_cons, List.length_nil, List.length_set, List.length_replicate]); try omega) _ (seg_all' _ (by (try simp only [nn_len, List.length_cons, List.length_nil, List.length_set, List.length_replicate]); try omega))) ⟨BL, b5, b6, b7, b8, b9, b15, U1, b19, U2, by omega⟩ ?_
          simp only [List.set_cons_zero, List.set_cons_succ]
          refine zv 25 46 (.bool true) (fun _ ⟨BL, b5, b6, b7, b8, b9, b15, U1, b19, U2, z2⟩ => Val.eqA .neq 37 _ (.tmp 44) (.tmp 45) rfl Try.underlying37 Try.underlying5 (by kernel_rfl) (by kernel_rfl) (nn (da)) (nn (dc)) (by kernel_rfl) (by kernel_rfl) (by rw [nn_len]; exact ha) (by rw [nn_len]; exact hc) (.inr rfl) _ (by rw [neq_nn]; simp [g37])) ⟨BL, b5, b6, b7, b8, b9, b15, U1, b19, U2, by omega⟩ ?_
          simp only [List.set_cons_zero, List.set_cons_succ]
          refine zv 26 47 (.bool true) (fun _ _ => .of) ⟨BL, b5, b6, b7, b8, b9, b15, U1, b19, U2, by omega⟩ ?_
          simp only [List.set_cons_zero, List.set_cons_succ]
          refine zs 27 48 ⟨BL, b5, b6, b7, b8, b9, b15, U1, b19, U2, by omega⟩ ?_
          simp only [List.set_cons_zero, List.set_cons_succ]
          refine zs 28 49 ⟨BL, b5, b6, b7, b8, b9, b15, U1, b19, U2, by omega⟩ ?_
          simp only [List.set_cons_zero, List.set_cons_succ]
          refine zs 29 50 ⟨BL, b5, b6, b7, b8, b9, b15, U1, b19, U2, by omega⟩ ?_
          simp only [List.set_cons_zero, List.set_cons_succ]
          refine zv 30 51 (.bool true) (fun _ _ => .of) ⟨BL, b5, b6, b7, b8, b9, b15, U1, b19, U2, by omega⟩ ?_
          simp only [List.set_cons_zero, List.set_cons_succ]
          refine zv 31 52 (.bool true) (fun _ _ => .of) ⟨BL, b5, b6, b7, b8, b9, b15, U1, b19, U2, by omega⟩ ?_
          simp only [List.set_cons_zero, List.set_cons_succ]
          refine zs 32 53 ⟨BL, b5, b6, b7, b8, b9, b15, U1, b19, U2, by omega⟩ ?_
          simp only [List.set_cons_zero, List.set_cons_succ]
          refine zs 33 54 ⟨BL, b5, b6, b7, b8, b9, b15, U1, b19, U2, by omega⟩ ?_
          simp only [List.set_cons_zero, List.set_cons_succ]
          refine zs 34 55 ⟨BL, b5, b6, b7, b8, b9, b15, U1, b19, U2, by omega⟩ ?_
          simp only [List.set_cons_zero, List.set_cons_succ]
          refine zs 35 56 ⟨BL, b5, b6, b7, b8, b9, b15, U1, b19, U2, by omega⟩ ?_
          simp only [List.set_cons_zero, List.set_cons_succ]
          refine zs 36 57 ⟨BL, b5, b6, b7, b8, b9, b15, U1, b19, U2, by omega⟩ ?_
          simp only [List.set_cons_zero, List.set_cons_succ]
          refine zs 37 58 ⟨BL, b5, b6, b7, b8, b9, b15, U1, b19, U2, by omega⟩ ?_
          simp only [List.set_cons_zero, List.set_cons_succ]
          refine zs 38 59 ⟨BL, b5, b6, b7, b8, b9, b15, U1, b19, U2, by omega⟩ ?_
          simp only [List.set_cons_zero, List.set_cons_succ]
          refine zv 39 60 (.bool true) (fun _ _ => .of) ⟨BL, b5, b6, b7, b8, b9, b15, U1, b19, U2, by omega⟩ ?_
          simp only [List.set_cons_zero, List.set_cons_succ]
          refine zv 40 61 (.bool true) (fun _ _ => .of) ⟨BL, b5, b6, b7, b8, b9, b15, U1, b19, U2, by omega⟩ ?_
          simp only [List.set_cons_zero, List.set_cons_succ]
          refine zv 41 62 (.bool true) (fun _ _ => .of) ⟨BL, b5, b6, b7, b8, b9, b15, U1, b19, U2, by omega⟩ ?_
          simp only [List.set_cons_zero, List.set_cons_succ]
          refine zo1 42 rfl ?_
          refine xCall 63 41 #[] (by kernel_rfl) ?_
          refine (awake10 w23).mono ?_
          rintro en w29 ⟨rfl, hb1⟩
          have e18 := belE0 hb1
          have ze18 := e18.size
          replace BL := BL.e0 e18
          replace b5 := b5.e0 e18
          replace b6 := b6.e0 e18
          replace b7 := b7.e0 e18
          replace b8 := b8.e0 e18
          replace b9 := b9.e0 e18
          replace b15 := b15.e0 e18
          replace U1 := U1.e0 e18
          replace b19 := b19.e0 e18
          replace U2 := U2.e0 e18
          replace b26 := b26.e0 e18
          clear e18
          refine ⟨.bool true, rfl, ?_⟩
          refine ze 42 ⟨BL, b5, b6, b7, b8, b9, b15, U1, b19, U2, by omega⟩ ?_
          simp only [List.set_cons_zero, List.set_cons_succ]
          refine zv 43 64 (.bool true) (fun _ _ => .of) ⟨BL, b5, b6, b7, b8, b9, b15, U1, b19, U2, by omega⟩ ?_
          simp only [List.set_cons_zero, List.set_cons_succ]
          refine zv 44 10 (.bool true) (fun _ _ => .of) ⟨BL, b5, b6, b7, b8, b9, b15, U1, b19, U2, by omega⟩ ?_
          simp only [List.set_cons_zero, List.set_cons_succ]
          refine zd (by kernel_rfl) ?_ _
          refine hK3 _ _ ?_
          refine wp_ret ?_
          (try simp only [Exit.then, Exit.inBlock])
          refine bodyPost_ret (v := .bool true) rT rfl ?_
          exact ⟨rfl, BL.b⟩
    · skip
      refine xLit 19 124 30 2 _ #[(0, .slice (some ⟨w3.heap.size, 0, none⟩) 32 32), (1, .slice (some ⟨w4.heap.size, 0, none⟩) 32 32)] [.slice (some ⟨w3.heap.size, 0, none⟩) 32 32, .slice (some ⟨w4.heap.size, 0, none⟩) 32 32] rfl (by kernel_rfl) (by kernel_rfl) ?_
      intro w30 n10
      have zn10 := n10.z
      have b19 := n10.c
      replace BL := BL.e0 n10.e
      replace b5 := b5.e0 n10.e
      replace b6 := b6.e0 n10.e
      replace b7 := b7.e0 n10.e
      replace b8 := b8.e0 n10.e
      replace b9 := b9.e0 n10.e
      replace b15 := b15.e0 n10.e
      refine ze 6 ⟨BL, b5, b6, b7, b8, b9, by omega⟩ ?_
      simp only [List.set_cons_zero, List.set_cons_succ]
      refine zo1 3 rfl ?_
      refine xCall 16 29 #[.int .u8 4, .slice (some ⟨w6.heap.size, 0, none⟩) 2 2] (by kernel_rfl) ?_
      refine (mactext_any ((4 : Nat) : Int) _ [.slice (some ⟨w1.heap.size, 0, none⟩) 32 32, .slice (some ⟨w2.heap.size, 0, none⟩) 32 32] ([da, db].map nn) w30 (SV.ofCelM (n := 2) b15 rfl (by unfold maxLen; omega)) w30.heap.size (by omega) (SLs.two (SL.ofBlk b6 (by rw [nn_len]; exact ha) (by unfold maxLen; omega)) (fun g hg => by have := ownB_lit (lo := 0) (hi := w30.heap.size) (by omega) g hg; omega) (SL.ofBlk b7 (by rw [nn_len]; exact hb) (by unfold maxLen; omega)) (fun g hg => by have := ownB_lit (lo := 0) (hi := w30.heap.size) (by omega) g hg; omega)) (by simp only [List.length_cons, List.length_nil] at hbs1; omega)).mono ?_
      rintro en w31 ⟨u1, rfl, hO, hb1⟩
      rw [← textN_nn] at hO
      have e19 := belE0 hb1
      have ze19 := e19.size
      replace BL := BL.e0 e19
      replace b5 := b5.e0 e19
      replace b6 := b6.e0 e19
      replace b7 := b7.e0 e19
      replace b8 := b8.e0 e19
      replace b9 := b9.e0 e19
      replace b15 := b15.e0 e19
      replace b19 := b19.e0 e19
      clear e19
      have U1 : Own 5 .u8 w30.heap.size w31 u1 (nn (textN 4 [da, db])) := hO
      have lU1_2 := U1.ge
      refine ⟨u1, rfl, ?_⟩
      refine ze 3 ⟨BL, b5, b6, b7, b8, b9, by omega⟩ ?_
      simp only [List.set_cons_zero, List.set_cons_succ]
      refine zo1 7 rfl ?_
      refine xCall 20 29 #[.int .u8 4, .slice (some ⟨w7.heap.size, 0, none⟩) 2 2] (by kernel_rfl) ?_
      refine (mactext_any ((4 : Nat) : Int) _ [.slice (some ⟨w3.heap.size, 0, none⟩) 32 32, .slice (some ⟨w4.heap.size, 0, none⟩) 32 32] ([dc, dd].map nn) w31 (SV.ofCelM (n := 2) b19 rfl (by unfold maxLen; omega)) w31.heap.size (by omega) (SLs.two (SL.ofBlk b8 (by rw [nn_len]; exact hc) (by unfold maxLen; omega)) (fun g hg => by have := ownB_lit (lo := 0) (hi := w31.heap.size) (by omega) g hg; omega) (SL.ofBlk b9 (by rw [nn_len]; exact hd) (by unfold maxLen; omega)) (fun g hg => by have := ownB_lit (lo := 0) (hi := w31.heap.size) (by omega) g hg; omega)) (by simp only [List.length_cons, List.length_nil] at hbs2; omega)).mono ?_
      rintro en w32 ⟨u2, rfl, hO, hb1⟩
      rw [← textN_nn] at hO
      have e20 := belE0 hb1
      have ze20 := e20.size
      replace BL := BL.e0 e20
      replace b5 := b5.e0 e20
      replace b6 := b6.e0 e20
      replace b7 := b7.e0 e20
      replace b8 := b8.e0 e20
      replace b9 := b9.e0 e20
      replace b15 := b15.e0 e20
      replace b19 := b19.e0 e20
      replace U1 := U1.e0 e20
      clear e20
      have U2 : Own 5 .u8 w31.heap.size w32 u2 (nn (textN 4 [dc, dd])) := hO
      have lU2_2 := U2.ge
      refine ⟨u2, rfl, ?_⟩
      refine ze 7 ⟨BL, b5, b6, b7, b8, b9, by omega⟩ ?_
      simp only [List.set_cons_zero, List.set_cons_succ]
      refine zv 8 11 (u1) (fun _ _ => .of) ⟨BL, b5, b6, b7, b8, b9, by omega⟩ ?_
      simp only [List.set_cons_zero, List.set_cons_succ]
      refine zv 9 12 (u2) (fun _ _ => .of) ⟨BL, b5, b6, b7, b8, b9, by omega⟩ ?_
      simp only [List.set_cons_zero, List.set_cons_succ]
      refine zd (by kernel_rfl) ?_ _
      refine hK2 _ _ ?_
      refine wp_seq_k fun K4 hK4 => ?_
      have e21 := drew_e0 w32
      refine zg (fun w_ => Bl w.heap.size w w_ ∧ Blk .u32 w_ w.heap.size 26 (nn tab) ∧ Blk .u8 w_ w1.heap.size 37 (nn (da)) ∧ Blk .u8 w_ w2.heap.size 37 (nn (db)) ∧ Blk .u8 w_ w3.heap.size 37 (nn (dc)) ∧ Blk .u8 w_ w4.heap.size 37 (nn (dd)) ∧ Cel w_ w6.heap.size 30 [.slice (some ⟨w1.heap.size, 0, none⟩) 32 32, .slice (some ⟨w2.heap.size, 0, none⟩) 32 32] ∧ Cel w_ w7.heap.size 30 [.slice (some ⟨w3.heap.size, 0, none⟩) 32 32, .slice (some ⟨w4.heap.size, 0, none⟩) 32 32] ∧ Own 5 .u8 w30.heap.size w_ u1 (nn (textN 4 [da, db])) ∧ Own 5 .u8 w31.heap.size w_ u2 (nn (textN 4 [dc, dd])) ∧ w32.heap.size ≤ w_.heap.size) (fun w_ => Bl w.heap.size w w_ ∧ Blk .u32 w_ w.heap.size 26 (nn tab) ∧ Blk .u8 w_ w1.heap.size 37 (nn (da)) ∧ Blk .u8 w_ w2.heap.size 37 (nn (db)) ∧ Blk .u8 w_ w3.heap.size 37 (nn (dc)) ∧ Blk .u8 w_ w4.heap.size 37 (nn (dd)) ∧ Cel w_ w6.heap.size 30 [.slice (some ⟨w1.heap.size, 0, none⟩) 32 32, .slice (some ⟨w2.heap.size, 0, none⟩) 32 32] ∧ Cel w_ w7.heap.size 30 [.slice (some ⟨w3.heap.size, 0, none⟩) 32 32, .slice (some ⟨w4.heap.size, 0, none⟩) 32 32] ∧ Own 5 .u8 w30.heap.size w_ u1 (nn (textN 4 [da, db])) ∧ Own 5 .u8 w31.heap.size w_ u2 (nn (textN 4 [dc, dd])) ∧ w32.heap.size ≤ w_.heap.size) 100000 45 ⟨BL.e0 e21, b5.e0 e21, b6.e0 e21, b7.e0 e21, b8.e0 e21, b9.e0 e21, b15.e0 e21, b19.e0 e21, U1.e0 e21, U2.e0 e21, Nat.le_refl _⟩ ?_
      clear BL b5 b6 b7 b8 b9 b15 b19 U1 U2
      clear e21
      intro w33
      rintro ⟨BL, b5, b6, b7, b8, b9, b15, b19, U1, U2, z3⟩
      refine zv 0 21 (.agg (cellsOf .u8 (nn (da)))) (fun _ ⟨BL, b5, b6, b7, b8, b9, b15, b19, U1, U2, z3⟩ => Val.blk 37 _ rfl 0 32 (by kernel_rfl) b6 _ Try.underlying37 rfl (by kernel_rfl) (by (try simp only [nn_len, List.length_cons, List.length_nil, List.length_set, List.length_replicate]); try omega) _ (seg_all' _ (by (try simp only [nn_len, List.length_cons, List.length_nil, List.length_set, List.length_replicate]); try omega))) ⟨BL, b5, b6, b7, b8, b9, b15, b19, U1, U2, by omega⟩ ?_
      simp only [List.set_cons_zero, List.set_cons_succ]
      refine zv 1 22 (.agg (cellsOf .u8 (nn (db)))) (fun _ ⟨BL, b5, b6, b7, b8, b9, b15, b19, U1, U2, z3⟩ => Val.blk 37 _ rfl 0 32 (by kernel_rfl) b7 _ Try.underlying37 rfl (by kernel_rfl) (by (try simp only [nn_len, List.length_cons, List.length_nil, List.length_set, List.length_replicate]); try omega) _ (seg_all' _ (by (try simp only [nn_len, List.length_cons, List.length_nil, List.length_set, List.length_replicate]); try omega))) ⟨BL, b5, b6, b7, b8, b9, b15, b19, U1, U2, by omega⟩ ?_
      simp only [List.set_cons_zero, List.set_cons_succ]
      refine zv 3 24 (.slice (some ⟨w1.heap.size, 0, none⟩) 32 32) (fun _ _ => .of) ⟨BL, b5, b6, b7, b8, b9, b15, b19, U1, U2, by omega⟩ ?_
      simp only [List.set_cons_zero, List.set_cons_succ]
      refine zv 4 25 (.slice (some ⟨w2.heap.size, 0, none⟩) 32 32) (fun _ _ => .of) ⟨BL, b5, b6, b7, b8, b9, b15, b19, U1, U2, by omega⟩ ?_
      simp only [List.set_cons_zero, List.set_cons_succ]
      refine zo2 2 5 rfl rfl ?_ ?_
      · skip
        refine xCall 23 40 #[.pointer (some ⟨w.heap.size, 0, none⟩), .agg (cellsOf .u8 (nn (da))), .agg (cellsOf .u8 (nn (db)))] (by kernel_rfl) ?_
        refine (mnode_any w.heap.size tab ht w33 b5 da db ha hb).mono ?_
        rintro en w34 ⟨rfl, hb1⟩
        have e22 := belE0 hb1
        have ze22 := e22.size
        replace BL := BL.e0 e22
        replace b5 := b5.e0 e22
        replace b6 := b6.e0 e22
        replace b7 := b7.e0 e22
        replace b8 := b8.e0 e22
        replace b9 := b9.e0 e22
        replace b15 := b15.e0 e22
        replace b19 := b19.e0 e22
        replace U1 := U1.e0 e22
        replace U2 := U2.e0 e22
        clear e22
        refine ⟨.agg (cellsOf .u8 (nn (mnode tab da db))), rfl, ?_⟩
        refine ze 2 ⟨BL, b5, b6, b7, b8, b9, b15, b19, U1, U2, by omega⟩ ?_
        simp only [List.set_cons_zero, List.set_cons_succ]
        refine zo1 5 rfl ?_
        refine xLit 26 124 30 2 _ #[(0, .slice (some ⟨w1.heap.size, 0, none⟩) 32 32), (1, .slice (some ⟨w2.heap.size, 0, none⟩) 32 32)] [.slice (some ⟨w1.heap.size, 0, none⟩) 32 32, .slice (some ⟨w2.heap.size, 0, none⟩) 32 32] rfl (by kernel_rfl) (by kernel_rfl) ?_
        intro w35 n11
        have zn11 := n11.z
        have b26 := n11.c
        replace BL := BL.e0 n11.e
        replace b5 := b5.e0 n11.e
        replace b6 := b6.e0 n11.e
        replace b7 := b7.e0 n11.e
        replace b8 := b8.e0 n11.e
        replace b9 := b9.e0 n11.e
        replace b15 := b15.e0 n11.e
        replace b19 := b19.e0 n11.e
        replace U1 := U1.e0 n11.e
        replace U2 := U2.e0 n11.e
        refine ze 5 ⟨BL, b5, b6, b7, b8, b9, b15, b19, U1, U2, by omega⟩ ?_
        simp only [List.set_cons_zero, List.set_cons_succ]
        refine zo1 6 rfl ?_
        refine xCall 27 27 #[.pointer (some ⟨w.heap.size, 0, none⟩), .int .u8 4, .slice (some ⟨w34.heap.size, 0, none⟩) 2 2] (by kernel_rfl) ?_
        refine (tagged_any w.heap.size tab ht w35 b5 4 _ [.slice (some ⟨w1.heap.size, 0, none⟩) 32 32, .slice (some ⟨w2.heap.size, 0, none⟩) 32 32] [da, db] (SV.ofCelM (n := 2) b26 rfl (by unfold maxLen; omega)) (SLs.two (SL.ofBlk b6 (by rw [nn_len]; exact ha) (by unfold maxLen; omega)) (fun g hg => by have := ownB_lit (lo := 0) (hi := w35.heap.size) (by omega) g hg; omega) (SL.ofBlk b7 (by rw [nn_len]; exact hb) (by unfold maxLen; omega)) (fun g hg => by have := ownB_lit (lo := 0) (hi := w35.heap.size) (by omega) g hg; omega)) (by simp only [List.length_cons, List.length_nil] at hbs1; omega) (by simp)).mono ?_
        rintro en w36 ⟨he, hb1⟩
        rw [show taggedN tab 4 [da, db] = mnode tab da db by unfold mnode; rfl] at he
        subst he
        have e23 := belE0 hb1
        have ze23 := e23.size
        replace BL := BL.e0 e23
        replace b5 := b5.e0 e23
        replace b6 := b6.e0 e23
        replace b7 := b7.e0 e23
        replace b8 := b8.e0 e23
        replace b9 := b9.e0 e23
        replace b15 := b15.e0 e23
        replace b19 := b19.e0 e23
        replace U1 := U1.e0 e23
        replace U2 := U2.e0 e23
        replace b26 := b26.e0 e23
        clear e23
        refine ⟨.agg (cellsOf .u8 (nn (mnode tab da db))), rfl, ?_⟩
        refine ze 6 ⟨BL, b5, b6, b7, b8, b9, b15, b19, U1, U2, by omega⟩ ?_
        simp only [List.set_cons_zero, List.set_cons_succ]
        refine zv 7 28 (.bool true) (fun _ ⟨BL, b5, b6, b7, b8, b9, b15, b19, U1, U2, z3⟩ => Val.eqA .eql 37 _ (.tmp 23) (.tmp 27) rfl Try.underlying37 Try.underlying5 (by kernel_rfl) (by kernel_rfl) (nn (mnode tab da db)) (nn (mnode tab da db)) (by kernel_rfl) (by kernel_rfl) (by rw [nn_len]; exact (mnode_len _ _ _)) (by rw [nn_len]; exact (mnode_len _ _ _)) (.inl rfl) _ (by simp)) ⟨BL, b5, b6, b7, b8, b9, b15, b19, U1, U2, by omega⟩ ?_
        simp only [List.set_cons_zero, List.set_cons_succ]
        refine zv 8 29 (.bool true) (fun _ _ => .of) ⟨BL, b5, b6, b7, b8, b9, b15, b19, U1, U2, by omega⟩ ?_
        simp only [List.set_cons_zero, List.set_cons_succ]
        refine zv 9 30 (u1) (fun _ _ => .of) ⟨BL, b5, b6, b7, b8, b9, b15, b19, U1, U2, by omega⟩ ?_
        simp only [List.set_cons_zero, List.set_cons_succ]
        refine zv 10 31 (u2) (fun _ _ => .of) ⟨BL, b5, b6, b7, b8, b9, b15, b19, U1, U2, by omega⟩ ?_
        simp only [List.set_cons_zero, List.set_cons_succ]
        refine zv 12 33 (.agg (cellsOf .u8 (nn (da)))) (fun _ ⟨BL, b5, b6, b7, b8, b9, b15, b19, U1, U2, z3⟩ => Val.blk 37 _ rfl 0 32 (by kernel_rfl) b6 _ Try.underlying37 rfl (by kernel_rfl) (by (try simp only [nn_len, List.length_cons, List.length_nil, List.length_set, List.length_replicate]); try omega) _ (seg_all' _ (by (try simp only [nn_len, List.length_cons, List.length_nil, List.length_set, List.length_replicate]); try omega))) ⟨BL, b5, b6, b7, b8, b9, b15, b19, U1, U2, by omega⟩ ?_
        simp only [List.set_cons_zero, List.set_cons_succ]
        refine zv 13 34 (.agg (cellsOf .u8 (nn (dc)))) (fun _ ⟨BL, b5, b6, b7, b8, b9, b15, b19, U1, U2, z3⟩ => Val.blk 37 _ rfl 0 32 (by kernel_rfl) b8 _ Try.underlying37 rfl (by kernel_rfl) (by (try simp only [nn_len, List.length_cons, List.length_nil, List.length_set, List.length_replicate]); try omega) _ (seg_all' _ (by (try simp only [nn_len, List.length_cons, List.length_nil, List.length_set, List.length_replicate]); try omega))) ⟨BL, b5, b6, b7, b8, b9, b15, b19, U1, U2, by omega⟩ ?_
        simp only [List.set_cons_zero, List.set_cons_succ]
        refine zv 14 35 (.bool (decide (da = dc))) (fun _ ⟨BL, b5, b6, b7, b8, b9, b15, b19, U1, U2, z3⟩ => Val.eqA .eql 37 _ (.tmp 33) (.tmp 34) rfl Try.underlying37 Try.underlying5 (by kernel_rfl) (by kernel_rfl) (nn (da)) (nn (dc)) (by kernel_rfl) (by kernel_rfl) (by rw [nn_len]; exact ha) (by rw [nn_len]; exact hc) (.inl rfl) _ (eql_nn _ _)) ⟨BL, b5, b6, b7, b8, b9, b15, b19, U1, U2, by omega⟩ ?_
        simp only [List.set_cons_zero, List.set_cons_succ]
        refine zo1 11 rfl ?_
        refine xCall 32 28 #[u1, u2] (by kernel_rfl) ?_
        refine (samex_any _ _ (nn (textN 4 [da, db])) (nn (textN 4 [dc, dd])) w36 (.inl U1.sl) (.inl U2.sl) ht1 ht2).mono ?_
        rintro en w37 ⟨he, hw⟩
        rw [same_s ha hb hc hd, ← hs] at he
        subst he
        obtain rfl := (hw.symm).symm
        refine ⟨.bool s, rfl, ?_⟩
        refine ze 11 ⟨BL, b5, b6, b7, b8, b9, b15, b19, U1, U2, by omega⟩ ?_
        simp only [List.set_cons_zero, List.set_cons_succ]
        refine zv 15 36 (.bool (decide (da = dc))) (fun _ _ => .of) ⟨BL, b5, b6, b7, b8, b9, b15, b19, U1, U2, by omega⟩ ?_
        simp only [List.set_cons_zero, List.set_cons_succ]
        by_cases g37 : da = dc
        · skip
          have dg37 : decide (da = dc) = true := decide_eq_true g37
          simp only [dg37]
          clear dg37
          refine zv 16 37 (.agg (cellsOf .u8 (nn (db)))) (fun _ ⟨BL, b5, b6, b7, b8, b9, b15, b19, U1, U2, z3⟩ => Val.blk 37 _ rfl 0 32 (by kernel_rfl) b7 _ Try.underlying37 rfl (by kernel_rfl) (by (try simp only [nn_len, List.length_cons, List.length_nil, List.length_set, List.length_replicate]); try omega) _ (seg_all' _ (by (try simp only [nn_len, List.length_cons, List.length_nil, List.length_set, List.length_replicate]); try omega))) ⟨BL, b5, b6, b7, b8, b9, b15, b19, U1, U2, by omega⟩ ?_
          simp only [List.set_cons_zero, List.set_cons_succ]
          refine zv 17 38 (.agg (cellsOf .u8 (nn (dd)))) (fun _ ⟨BL, b5, b6, b7, b8, b9, b15, b19, U1, U2, z3⟩ => Val.blk 37 _ rfl 0 32 (by kernel_rfl) b9 _ Try.underlying37 rfl (by kernel_rfl) (by (try simp only [nn_len, List.length_cons, List.length_nil, List.length_set, List.length_replicate]); try omega) _ (seg_all' _ (by (try simp only [nn_len, List.length_cons, List.length_nil, List.length_set, List.length_replicate]); try omega))) ⟨BL, b5, b6, b7, b8, b9, b15, b19, U1, U2, by omega⟩ ?_
          simp only [List.set_cons_zero, List.set_cons_succ]
          refine zv 18 39 (.bool (decide (db = dd))) (fun _ ⟨BL, b5, b6, b7, b8, b9, b15, b19, U1, U2, z3⟩ => Val.eqA .eql 37 _ (.tmp 37) (.tmp 38) rfl Try.underlying37 Try.underlying5 (by kernel_rfl) (by kernel_rfl) (nn (db)) (nn (dd)) (by kernel_rfl) (by kernel_rfl) (by rw [nn_len]; exact hb) (by rw [nn_len]; exact hd) (.inl rfl) _ (eql_nn _ _)) ⟨BL, b5, b6, b7, b8, b9, b15, b19, U1, U2, by omega⟩ ?_
          simp only [List.set_cons_zero, List.set_cons_succ]
          refine zv 19 40 (.bool (decide (db = dd))) (fun _ _ => .of) ⟨BL, b5, b6, b7, b8, b9, b15, b19, U1, U2, by omega⟩ ?_
          simp only [List.set_cons_zero, List.set_cons_succ]
          refine zv 20 41 (.bool true) (fun _ ⟨BL, b5, b6, b7, b8, b9, b15, b19, U1, U2, z3⟩ => Val.bools .eql 4 _ (.tmp 32) (.tmp 40) rfl Try.underlying4 s (decide (db = dd)) (by kernel_rfl) (by kernel_rfl) (.inl rfl) true (by rw [hs]; simp [g37])) ⟨BL, b5, b6, b7, b8, b9, b15, b19, U1, U2, by omega⟩ ?_
          simp only [List.set_cons_zero, List.set_cons_succ]
          refine zv 21 42 (.bool true) (fun _ _ => .of) ⟨BL, b5, b6, b7, b8, b9, b15, b19, U1, U2, by omega⟩ ?_
          simp only [List.set_cons_zero, List.set_cons_succ]
          refine zv 22 43 (.bool true) (fun _ _ => .of) ⟨BL, b5, b6, b7, b8, b9, b15, b19, U1, U2, by omega⟩ ?_
          simp only [List.set_cons_zero, List.set_cons_succ]
          refine zv 23 44 (.agg (cellsOf .u8 (nn (da)))) (fun _ ⟨BL, b5, b6, b7, b8, b9, b15, b19, U1, U2, z3⟩ => Val.blk 37 _ rfl 0 32 (by kernel_rfl) b6 _ Try.underlying37 rfl (by kernel_rfl) (by (try simp only [nn_len, List.length_cons, List.length_nil, List.length_set, List.length_replicate]); try omega) _ (seg_all' _ (by (try simp only [nn_len, List.length_cons, List.length_nil, List.length_set, List.length_replicate]); try omega))) ⟨BL, b5, b6, b7, b8, b9, b15, b19, U1, U2, by omega⟩ ?_
          simp only [List.set_cons_zero, List.set_cons_succ]
          refine zv 24 45 (.agg (cellsOf .u8 (nn (dc)))) (fun _ ⟨BL, b5, b6, b7, b8, b9, b15, b19, U1, U2, z3⟩ => Val.blk 37 _ rfl 0 32 (by kernel_rfl) b8 _ Try.underlying37 rfl (by kernel_rfl) (by (try simp only [nn_len, List.length_cons, List.length_nil, List.length_set, List.length_replicate]); try omega) _ (seg_all' _ (by (try simp only [nn_len, List.length_cons, List.length_nil, List.length_set, List.length_replicate]); try omega))) ⟨BL, b5, b6, b7, b8, b9, b15, b19, U1, U2, by omega⟩ ?_
          simp only [List.set_cons_zero, List.set_cons_succ]
          refine zv 25 46 (.bool false) (fun _ ⟨BL, b5, b6, b7, b8, b9, b15, b19, U1, U2, z3⟩ => Val.eqA .neq 37 _ (.tmp 44) (.tmp 45) rfl Try.underlying37 Try.underlying5 (by kernel_rfl) (by kernel_rfl) (nn (da)) (nn (dc)) (by kernel_rfl) (by kernel_rfl) (by rw [nn_len]; exact ha) (by rw [nn_len]; exact hc) (.inr rfl) _ (by rw [neq_nn]; simp [g37])) ⟨BL, b5, b6, b7, b8, b9, b15, b19, U1, U2, by omega⟩ ?_
          simp only [List.set_cons_zero, List.set_cons_succ]
          refine zv 26 47 (.bool false) (fun _ _ => .of) ⟨BL, b5, b6, b7, b8, b9, b15, b19, U1, U2, by omega⟩ ?_
          simp only [List.set_cons_zero, List.set_cons_succ]
          refine zv 27 48 (.agg (cellsOf .u8 (nn (db)))) (fun _ ⟨BL, b5, b6, b7, b8, b9, b15, b19, U1, U2, z3⟩ => Val.blk 37 _ rfl 0 32 (by kernel_rfl) b7 _ Try.underlying37 rfl (by kernel_rfl) (by (try simp only [nn_len, List.length_cons, List.length_nil, List.length_set, List.length_replicate]); try omega) _ (seg_all' _ (by (try simp only [nn_len, List.length_cons, List.length_nil, List.length_set, List.length_replicate]); try omega))) ⟨BL, b5, b6, b7, b8, b9, b15, b19, U1, U2, by omega⟩ ?_
          simp only [List.set_cons_zero, List.set_cons_succ]
          refine zv 28 49 (.agg (cellsOf .u8 (nn (dd)))) (fun _ ⟨BL, b5, b6, b7, b8, b9, b15, b19, U1, U2, z3⟩ => Val.blk 37 _ rfl 0 32 (by kernel_rfl) b9 _ Try.underlying37 rfl (by kernel_rfl) (by (try simp only [nn_len, List.length_cons, List.length_nil, List.length_set, List.length_replicate]); try omega) _ (seg_all' _ (by (try simp only [nn_len, List.length_cons, List.length_nil, List.length_set, List.length_replicate]); try omega))) ⟨BL, b5, b6, b7, b8, b9, b15, b19, U1, U2, by omega⟩ ?_
          simp only [List.set_cons_zero, List.set_cons_succ]
          refine zv 29 50 (.bool (decide (¬ db = dd))) (fun _ ⟨BL, b5, b6, b7, b8, b9, b15, b19, U1, U2, z3⟩ => Val.eqA .neq 37 _ (.tmp 48) (.tmp 49) rfl Try.underlying37 Try.underlying5 (by kernel_rfl) (by kernel_rfl) (nn (db)) (nn (dd)) (by kernel_rfl) (by kernel_rfl) (by rw [nn_len]; exact hb) (by rw [nn_len]; exact hd) (.inr rfl) _ (neq_nn _ _)) ⟨BL, b5, b6, b7, b8, b9, b15, b19, U1, U2, by omega⟩ ?_
          simp only [List.set_cons_zero, List.set_cons_succ]
          refine zv 30 51 (.bool (decide (¬ db = dd))) (fun _ _ => .of) ⟨BL, b5, b6, b7, b8, b9, b15, b19, U1, U2, by omega⟩ ?_
          simp only [List.set_cons_zero, List.set_cons_succ]
          refine zv 31 52 (.bool (decide (¬ db = dd))) (fun _ _ => .of) ⟨BL, b5, b6, b7, b8, b9, b15, b19, U1, U2, by omega⟩ ?_
          simp only [List.set_cons_zero, List.set_cons_succ]
          by_cases g53 : ¬ db = dd
          · skip
            have dg53 : decide (¬ db = dd) = true := decide_eq_true g53
            simp only [dg53]
            clear dg53
            refine zs 32 53 ⟨BL, b5, b6, b7, b8, b9, b15, b19, U1, U2, by omega⟩ ?_
            simp only [List.set_cons_zero, List.set_cons_succ]
            refine zs 33 54 ⟨BL, b5, b6, b7, b8, b9, b15, b19, U1, U2, by omega⟩ ?_
            simp only [List.set_cons_zero, List.set_cons_succ]
            refine zs 34 55 ⟨BL, b5, b6, b7, b8, b9, b15, b19, U1, U2, by omega⟩ ?_
            simp only [List.set_cons_zero, List.set_cons_succ]
            refine zs 35 56 ⟨BL, b5, b6, b7, b8, b9, b15, b19, U1, U2, by omega⟩ ?_
            simp only [List.set_cons_zero, List.set_cons_succ]
            refine zs 36 57 ⟨BL, b5, b6, b7, b8, b9, b15, b19, U1, U2, by omega⟩ ?_
            simp only [List.set_cons_zero, List.set_cons_succ]
            refine zs 37 58 ⟨BL, b5, b6, b7, b8, b9, b15, b19, U1, U2, by omega⟩ ?_
            simp only [List.set_cons_zero, List.set_cons_succ]
            refine zs 38 59 ⟨BL, b5, b6, b7, b8, b9, b15, b19, U1, U2, by omega⟩ ?_
            simp only [List.set_cons_zero, List.set_cons_succ]
            refine zv 39 60 (.bool true) (fun _ _ => .of) ⟨BL, b5, b6, b7, b8, b9, b15, b19, U1, U2, by omega⟩ ?_
            simp only [List.set_cons_zero, List.set_cons_succ]
            refine zv 40 61 (.bool true) (fun _ _ => .of) ⟨BL, b5, b6, b7, b8, b9, b15, b19, U1, U2, by omega⟩ ?_
            simp only [List.set_cons_zero, List.set_cons_succ]
            refine zv 41 62 (.bool true) (fun _ _ => .of) ⟨BL, b5, b6, b7, b8, b9, b15, b19, U1, U2, by omega⟩ ?_
            simp only [List.set_cons_zero, List.set_cons_succ]
            refine zo1 42 rfl ?_
            refine xCall 63 41 #[] (by kernel_rfl) ?_
            refine (awake10 w36).mono ?_
            rintro en w38 ⟨rfl, hb1⟩
            have e24 := belE0 hb1
            have ze24 := e24.size
            replace BL := BL.e0 e24
            replace b5 := b5.e0 e24
            replace b6 := b6.e0 e24
            replace b7 := b7.e0 e24
            replace b8 := b8.e0 e24
            replace b9 := b9.e0 e24
            replace b15 := b15.e0 e24
            replace b19 := b19.e0 e24
            replace U1 := U1.e0 e24
            replace U2 := U2.e0 e24
            replace b26 := b26.e0 e24
            clear e24
            refine ⟨.bool true, rfl, ?_⟩
            refine ze 42 ⟨BL, b5, b6, b7, b8, b9, b15, b19, U1, U2, by omega⟩ ?_
            simp only [List.set_cons_zero, List.set_cons_succ]
            refine zv 43 64 (.bool true) (fun _ _ => .of) ⟨BL, b5, b6, b7, b8, b9, b15, b19, U1, U2, by omega⟩ ?_
            simp only [List.set_cons_zero, List.set_cons_succ]
            refine zv 44 10 (.bool true) (fun _ _ => .of) ⟨BL, b5, b6, b7, b8, b9, b15, b19, U1, U2, by omega⟩ ?_
            simp only [List.set_cons_zero, List.set_cons_succ]
            refine zd (by kernel_rfl) ?_ _
            refine hK4 _ _ ?_
            refine wp_ret ?_
            (try simp only [Exit.then, Exit.inBlock])
            refine bodyPost_ret (v := .bool true) rT rfl ?_
            exact ⟨rfl, BL.b⟩
          · skip
            have dg53 : decide (¬ db = dd) = false := decide_eq_false g53
            simp only [dg53]
            clear dg53
            refine zv 32 53 (.agg (cellsOf .u8 (nn (da)))) (fun _ ⟨BL, b5, b6, b7, b8, b9, b15, b19, U1, U2, z3⟩ => Val.blk 37 _ rfl 0 32 (by kernel_rfl) b6 _ Try.underlying37 rfl (by kernel_rfl) (by (try simp only [nn_len, List.length_cons, List.length_nil, List.length_set, List.length_replicate]); try omega) _ (seg_all' _ (by (try simp only [nn_len, List.length_cons, List.length_nil, List.length_set, List.length_replicate]); try omega))) ⟨BL, b5, b6, b7, b8, b9, b15, b19, U1, U2, by omega⟩ ?_
            simp only [List.set_cons_zero, List.set_cons_succ]
            refine zv 33 54 (.agg (cellsOf .u8 (nn (db)))) (fun _ ⟨BL, b5, b6, b7, b8, b9, b15, b19, U1, U2, z3⟩ => Val.blk 37 _ rfl 0 32 (by kernel_rfl) b7 _ Try.underlying37 rfl (by kernel_rfl) (by (try simp only [nn_len, List.length_cons, List.length_nil, List.length_set, List.length_replicate]); try omega) _ (seg_all' _ (by (try simp only [nn_len, List.length_cons, List.length_nil, List.length_set, List.length_replicate]); try omega))) ⟨BL, b5, b6, b7, b8, b9, b15, b19, U1, U2, by omega⟩ ?_
            simp only [List.set_cons_zero, List.set_cons_succ]
            refine zv 35 56 (.agg (cellsOf .u8 (nn (dc)))) (fun _ ⟨BL, b5, b6, b7, b8, b9, b15, b19, U1, U2, z3⟩ => Val.blk 37 _ rfl 0 32 (by kernel_rfl) b8 _ Try.underlying37 rfl (by kernel_rfl) (by (try simp only [nn_len, List.length_cons, List.length_nil, List.length_set, List.length_replicate]); try omega) _ (seg_all' _ (by (try simp only [nn_len, List.length_cons, List.length_nil, List.length_set, List.length_replicate]); try omega))) ⟨BL, b5, b6, b7, b8, b9, b15, b19, U1, U2, by omega⟩ ?_
            simp only [List.set_cons_zero, List.set_cons_succ]
            refine zv 36 57 (.agg (cellsOf .u8 (nn (dd)))) (fun _ ⟨BL, b5, b6, b7, b8, b9, b15, b19, U1, U2, z3⟩ => Val.blk 37 _ rfl 0 32 (by kernel_rfl) b9 _ Try.underlying37 rfl (by kernel_rfl) (by (try simp only [nn_len, List.length_cons, List.length_nil, List.length_set, List.length_replicate]); try omega) _ (seg_all' _ (by (try simp only [nn_len, List.length_cons, List.length_nil, List.length_set, List.length_replicate]); try omega))) ⟨BL, b5, b6, b7, b8, b9, b15, b19, U1, U2, by omega⟩ ?_
            simp only [List.set_cons_zero, List.set_cons_succ]
            refine zo1 34 rfl ?_
            refine xCall 55 40 #[.pointer (some ⟨w.heap.size, 0, none⟩), .agg (cellsOf .u8 (nn (da))), .agg (cellsOf .u8 (nn (db)))] (by kernel_rfl) ?_
            refine (mnode_any w.heap.size tab ht w36 b5 da db ha hb).mono ?_
            rintro en w39 ⟨rfl, hb1⟩
            have e25 := belE0 hb1
            have ze25 := e25.size
            replace BL := BL.e0 e25
            replace b5 := b5.e0 e25
            replace b6 := b6.e0 e25
            replace b7 := b7.e0 e25
            replace b8 := b8.e0 e25
            replace b9 := b9.e0 e25
            replace b15 := b15.e0 e25
            replace b19 := b19.e0 e25
            replace U1 := U1.e0 e25
            replace U2 := U2.e0 e25
            replace b26 := b26.e0 e25
            clear e25
            refine ⟨.agg (cellsOf .u8 (nn (mnode tab da db))), rfl, ?_⟩
            refine ze 34 ⟨BL, b5, b6, b7, b8, b9, b15, b19, U1, U2, by omega⟩ ?_
            simp only [List.set_cons_zero, List.set_cons_succ]
            refine zo1 37 rfl ?_
            refine xCall 58 40 #[.pointer (some ⟨w.heap.size, 0, none⟩), .agg (cellsOf .u8 (nn (dc))), .agg (cellsOf .u8 (nn (dd)))] (by kernel_rfl) ?_
            refine (mnode_any w.heap.size tab ht w39 b5 dc dd hc hd).mono ?_
            rintro en w40 ⟨rfl, hb1⟩
            have e26 := belE0 hb1
            have ze26 := e26.size
            replace BL := BL.e0 e26
            replace b5 := b5.e0 e26
            replace b6 := b6.e0 e26
            replace b7 := b7.e0 e26
            replace b8 := b8.e0 e26
            replace b9 := b9.e0 e26
            replace b15 := b15.e0 e26
            replace b19 := b19.e0 e26
            replace U1 := U1.e0 e26
            replace U2 := U2.e0 e26
            replace b26 := b26.e0 e26
            clear e26
            refine ⟨.agg (cellsOf .u8 (nn (mnode tab dc dd))), rfl, ?_⟩
            refine ze 37 ⟨BL, b5, b6, b7, b8, b9, b15, b19, U1, U2, by omega⟩ ?_
            simp only [List.set_cons_zero, List.set_cons_succ]
            refine zv 38 59 (.bool true) (fun _ ⟨BL, b5, b6, b7, b8, b9, b15, b19, U1, U2, z3⟩ => Val.eqA .eql 37 _ (.tmp 55) (.tmp 58) rfl Try.underlying37 Try.underlying5 (by kernel_rfl) (by kernel_rfl) (nn (mnode tab da db)) (nn (mnode tab dc dd)) (by kernel_rfl) (by kernel_rfl) (by rw [nn_len]; exact (mnode_len _ _ _)) (by rw [nn_len]; exact (mnode_len _ _ _)) (.inl rfl) _ (by rw [eql_nn]; exact decide_eq_true (by rw [g37, Classical.not_not.1 g53]))) ⟨BL, b5, b6, b7, b8, b9, b15, b19, U1, U2, by omega⟩ ?_
            simp only [List.set_cons_zero, List.set_cons_succ]
            refine zv 39 60 (.bool true) (fun _ _ => .of) ⟨BL, b5, b6, b7, b8, b9, b15, b19, U1, U2, by omega⟩ ?_
            simp only [List.set_cons_zero, List.set_cons_succ]
            refine zv 40 61 (.bool true) (fun _ _ => .of) ⟨BL, b5, b6, b7, b8, b9, b15, b19, U1, U2, by omega⟩ ?_
            simp only [List.set_cons_zero, List.set_cons_succ]
            refine zv 41 62 (.bool true) (fun _ _ => .of) ⟨BL, b5, b6, b7, b8, b9, b15, b19, U1, U2, by omega⟩ ?_
            simp only [List.set_cons_zero, List.set_cons_succ]
            refine zo1 42 rfl ?_
            refine xCall 63 41 #[] (by kernel_rfl) ?_
            refine (awake10 w40).mono ?_
            rintro en w41 ⟨rfl, hb1⟩
            have e27 := belE0 hb1
            have ze27 := e27.size
            replace BL := BL.e0 e27
            replace b5 := b5.e0 e27
            replace b6 := b6.e0 e27
            replace b7 := b7.e0 e27
            replace b8 := b8.e0 e27
            replace b9 := b9.e0 e27
            replace b15 := b15.e0 e27
            replace b19 := b19.e0 e27
            replace U1 := U1.e0 e27
            replace U2 := U2.e0 e27
            replace b26 := b26.e0 e27
            clear e27
            refine ⟨.bool true, rfl, ?_⟩
            refine ze 42 ⟨BL, b5, b6, b7, b8, b9, b15, b19, U1, U2, by omega⟩ ?_
            simp only [List.set_cons_zero, List.set_cons_succ]
            refine zv 43 64 (.bool true) (fun _ _ => .of) ⟨BL, b5, b6, b7, b8, b9, b15, b19, U1, U2, by omega⟩ ?_
            simp only [List.set_cons_zero, List.set_cons_succ]
            refine zv 44 10 (.bool true) (fun _ _ => .of) ⟨BL, b5, b6, b7, b8, b9, b15, b19, U1, U2, by omega⟩ ?_
            simp only [List.set_cons_zero, List.set_cons_succ]
            refine zd (by kernel_rfl) ?_ _
            refine hK4 _ _ ?_
            refine wp_ret ?_
            (try simp only [Exit.then, Exit.inBlock])
            refine bodyPost_ret (v := .bool true) rT rfl ?_
            exact ⟨rfl, BL.b⟩
        · skip
          have dg37 : decide (da = dc) = false := decide_eq_false g37
          simp only [dg37]
          clear dg37
          refine zs 16 37 ⟨BL, b5, b6, b7, b8, b9, b15, b19, U1, U2, by omega⟩ ?_
          simp only [List.set_cons_zero, List.set_cons_succ]
          refine zs 17 38 ⟨BL, b5, b6, b7, b8, b9, b15, b19, U1, U2, by omega⟩ ?_
          simp only [List.set_cons_zero, List.set_cons_succ]
          refine zs 18 39 ⟨BL, b5, b6, b7, b8, b9, b15, b19, U1, U2, by omega⟩ ?_
          simp only [List.set_cons_zero, List.set_cons_succ]
          refine zv 19 40 (.bool false) (fun _ _ => .of) ⟨BL, b5, b6, b7, b8, b9, b15, b19, U1, U2, by omega⟩ ?_
          simp only [List.set_cons_zero, List.set_cons_succ]
          refine zv 20 41 (.bool true) (fun _ ⟨BL, b5, b6, b7, b8, b9, b15, b19, U1, U2, z3⟩ => Val.bools .eql 4 _ (.tmp 32) (.tmp 40) rfl Try.underlying4 s false (by kernel_rfl) (by kernel_rfl) (.inl rfl) true (by rw [hs]; simp [g37])) ⟨BL, b5, b6, b7, b8, b9, b15, b19, U1, U2, by omega⟩ ?_
          simp only [List.set_cons_zero, List.set_cons_succ]
          refine zv 21 42 (.bool true) (fun _ _ => .of) ⟨BL, b5, b6, b7, b8, b9, b15, b19, U1, U2, by omega⟩ ?_
          simp only [List.set_cons_zero, List.set_cons_succ]
          refine zv 22 43 (.bool true) (fun _ _ => .of) ⟨BL, b5, b6, b7, b8, b9, b15, b19, U1, U2, by omega⟩ ?_
          simp only [List.set_cons_zero, List.set_cons_succ]
          refine zv 23 44 (.agg (cellsOf .u8 (nn (da)))) (fun _ ⟨BL, b5, b6, b7, b8, b9, b15, b19, U1, U2, z3⟩ => Val.blk 37 _ rfl 0 32 (by kernel_rfl) b6 _ Try.underlying37 rfl (by kernel_rfl) (by (try simp only [nn_len, List.length_cons, List.length_nil, List.length_set, List.length_replicate]); try omega) _ (seg_all' _ (by (try simp only [nn_len, List.length_cons, List.length_nil, List.length_set, List.length_replicate]); try omega))) ⟨BL, b5, b6, b7, b8, b9, b15, b19, U1, U2, by omega⟩ ?_
          simp only [List.set_cons_zero, List.set_cons_succ]
          refine zv 24 45 (.agg (cellsOf .u8 (nn (dc)))) (fun _ ⟨BL, b5, b6, b7, b8, b9, b15, b19, U1, U2, z3⟩ => Val.blk 37 _ rfl 0 32 (by kernel_rfl) b8 _ Try.underlying37 rfl (by kernel_rfl) (by (try simp only [nn_len, List.length_cons, List.length_nil, List.length_set, List.length_replicate]); try omega) _ (seg_all' _ (by (try simp only [nn_len, List.length_cons, List.length_nil, List.length_set, List.length_replicate]); try omega))) ⟨BL, b5, b6, b7, b8, b9, b15, b19, U1, U2, by omega⟩ ?_
          simp only [List.set_cons_zero, List.set_cons_succ]
          refine zv 25 46 (.bool true) (fun _ ⟨BL, b5, b6, b7, b8, b9, b15, b19, U1, U2, z3⟩ => Val.eqA .neq 37 _ (.tmp 44) (.tmp 45) rfl Try.underlying37 Try.underlying5 (by kernel_rfl) (by kernel_rfl) (nn (da)) (nn (dc)) (by kernel_rfl) (by kernel_rfl) (by rw [nn_len]; exact ha) (by rw [nn_len]; exact hc) (.inr rfl) _ (by rw [neq_nn]; simp [g37])) ⟨BL, b5, b6, b7, b8, b9, b15, b19, U1, U2, by omega⟩ ?_
          simp only [List.set_cons_zero, List.set_cons_succ]
          refine zv 26 47 (.bool true) (fun _ _ => .of) ⟨BL, b5, b6, b7, b8, b9, b15, b19, U1, U2, by omega⟩ ?_
          simp only [List.set_cons_zero, List.set_cons_succ]
          refine zs 27 48 ⟨BL, b5, b6, b7, b8, b9, b15, b19, U1, U2, by omega⟩ ?_
          simp only [List.set_cons_zero, List.set_cons_succ]
          refine zs 28 49 ⟨BL, b5, b6, b7, b8, b9, b15, b19, U1, U2, by omega⟩ ?_
          simp only [List.set_cons_zero, List.set_cons_succ]
          refine zs 29 50 ⟨BL, b5, b6, b7, b8, b9, b15, b19, U1, U2, by omega⟩ ?_
          simp only [List.set_cons_zero, List.set_cons_succ]
          refine zv 30 51 (.bool true) (fun _ _ => .of) ⟨BL, b5, b6, b7, b8, b9, b15, b19, U1, U2, by omega⟩ ?_
          simp only [List.set_cons_zero, List.set_cons_succ]
          refine zv 31 52 (.bool true) (fun _ _ => .of) ⟨BL, b5, b6, b7, b8, b9, b15, b19, U1, U2, by omega⟩ ?_
          simp only [List.set_cons_zero, List.set_cons_succ]
          refine zs 32 53 ⟨BL, b5, b6, b7, b8, b9, b15, b19, U1, U2, by omega⟩ ?_
          simp only [List.set_cons_zero, List.set_cons_succ]
          refine zs 33 54 ⟨BL, b5, b6, b7, b8, b9, b15, b19, U1, U2, by omega⟩ ?_
          simp only [List.set_cons_zero, List.set_cons_succ]
          refine zs 34 55 ⟨BL, b5, b6, b7, b8, b9, b15, b19, U1, U2, by omega⟩ ?_
          simp only [List.set_cons_zero, List.set_cons_succ]
          refine zs 35 56 ⟨BL, b5, b6, b7, b8, b9, b15, b19, U1, U2, by omega⟩ ?_
          simp only [List.set_cons_zero, List.set_cons_succ]
          refine zs 36 57 ⟨BL, b5, b6, b7, b8, b9, b15, b19, U1, U2, by omega⟩ ?_
          simp only [List.set_cons_zero, List.set_cons_succ]
          refine zs 37 58 ⟨BL, b5, b6, b7, b8, b9, b15, b19, U1, U2, by omega⟩ ?_
          simp only [List.set_cons_zero, List.set_cons_succ]
          refine zs 38 59 ⟨BL, b5, b6, b7, b8, b9, b15, b19, U1, U2, by omega⟩ ?_
          simp only [List.set_cons_zero, List.set_cons_succ]
          refine zv 39 60 (.bool true) (fun _ _ => .of) ⟨BL, b5, b6, b7, b8, b9, b15, b19, U1, U2, by omega⟩ ?_
          simp only [List.set_cons_zero, List.set_cons_succ]
          refine zv 40 61 (.bool true) (fun _ _ => .of) ⟨BL, b5, b6, b7, b8, b9, b15, b19, U1, U2, by omega⟩ ?_
          simp only [List.set_cons_zero, List.set_cons_succ]
          refine zv 41 62 (.bool true) (fun _ _ => .of) ⟨BL, b5, b6, b7, b8, b9, b15, b19, U1, U2, by omega⟩ ?_
          simp only [List.set_cons_zero, List.set_cons_succ]
          refine zo1 42 rfl ?_
          refine xCall 63 41 #[] (by kernel_rfl) ?_
          refine (awake10 w36).mono ?_
          rintro en w42 ⟨rfl, hb1⟩
          have e28 := belE0 hb1
          have ze28 := e28.size
          replace BL := BL.e0 e28
          replace b5 := b5.e0 e28
          replace b6 := b6.e0 e28
          replace b7 := b7.e0 e28
          replace b8 := b8.e0 e28
          replace b9 := b9.e0 e28
          replace b15 := b15.e0 e28
          replace b19 := b19.e0 e28
          replace U1 := U1.e0 e28
          replace U2 := U2.e0 e28
          replace b26 := b26.e0 e28
          clear e28
          refine ⟨.bool true, rfl, ?_⟩
          refine ze 42 ⟨BL, b5, b6, b7, b8, b9, b15, b19, U1, U2, by omega⟩ ?_
          simp only [List.set_cons_zero, List.set_cons_succ]
          refine zv 43 64 (.bool true) (fun _ _ => .of) ⟨BL, b5, b6, b7, b8, b9, b15, b19, U1, U2, by omega⟩ ?_
          simp only [List.set_cons_zero, List.set_cons_succ]
          refine zv 44 10 (.bool true) (fun _ _ => .of) ⟨BL, b5, b6, b7, b8, b9, b15, b19, U1, U2, by omega⟩ ?_
          simp only [List.set_cons_zero, List.set_cons_succ]
          refine zd (by kernel_rfl) ?_ _
          refine hK4 _ _ ?_
          refine wp_ret ?_
          (try simp only [Exit.then, Exit.inBlock])
          refine bodyPost_ret (v := .bool true) rT rfl ?_
          exact ⟨rfl, BL.b⟩
      · skip
        refine xLit 26 124 30 2 _ #[(0, .slice (some ⟨w1.heap.size, 0, none⟩) 32 32), (1, .slice (some ⟨w2.heap.size, 0, none⟩) 32 32)] [.slice (some ⟨w1.heap.size, 0, none⟩) 32 32, .slice (some ⟨w2.heap.size, 0, none⟩) 32 32] rfl (by kernel_rfl) (by kernel_rfl) ?_
        intro w43 n12
        have zn12 := n12.z
        have b26 := n12.c
        replace BL := BL.e0 n12.e
        replace b5 := b5.e0 n12.e
        replace b6 := b6.e0 n12.e
        replace b7 := b7.e0 n12.e
        replace b8 := b8.e0 n12.e
        replace b9 := b9.e0 n12.e
        replace b15 := b15.e0 n12.e
        replace b19 := b19.e0 n12.e
        replace U1 := U1.e0 n12.e
        replace U2 := U2.e0 n12.e
        refine ze 5 ⟨BL, b5, b6, b7, b8, b9, b15, b19, U1, U2, by omega⟩ ?_
        simp only [List.set_cons_zero, List.set_cons_succ]
        refine zo1 2 rfl ?_
        refine xCall 23 40 #[.pointer (some ⟨w.heap.size, 0, none⟩), .agg (cellsOf .u8 (nn (da))), .agg (cellsOf .u8 (nn (db)))] (by kernel_rfl) ?_
        refine (mnode_any w.heap.size tab ht w43 b5 da db ha hb).mono ?_
        rintro en w44 ⟨rfl, hb1⟩
        have e29 := belE0 hb1
        have ze29 := e29.size
        replace BL := BL.e0 e29
        replace b5 := b5.e0 e29
        replace b6 := b6.e0 e29
        replace b7 := b7.e0 e29
        replace b8 := b8.e0 e29
        replace b9 := b9.e0 e29
        replace b15 := b15.e0 e29
        replace b19 := b19.e0 e29
        replace U1 := U1.e0 e29
        replace U2 := U2.e0 e29
        replace b26 := b26.e0 e29
        clear e29
        refine ⟨.agg (cellsOf .u8 (nn (mnode tab da db))), rfl, ?_⟩
        refine ze 2 ⟨BL, b5, b6, b7, b8, b9, b15, b19, U1, U2, by omega⟩ ?_
        simp only [List.set_cons_zero, List.set_cons_succ]
        refine zo1 6 rfl ?_
        refine xCall 27 27 #[.pointer (some ⟨w.heap.size, 0, none⟩), .int .u8 4, .slice (some ⟨w33.heap.size, 0, none⟩) 2 2] (by kernel_rfl) ?_
        refine (tagged_any w.heap.size tab ht w44 b5 4 _ [.slice (some ⟨w1.heap.size, 0, none⟩) 32 32, .slice (some ⟨w2.heap.size, 0, none⟩) 32 32] [da, db] (SV.ofCelM (n := 2) b26 rfl (by unfold maxLen; omega)) (SLs.two (SL.ofBlk b6 (by rw [nn_len]; exact ha) (by unfold maxLen; omega)) (fun g hg => by have := ownB_lit (lo := 0) (hi := w44.heap.size) (by omega) g hg; omega) (SL.ofBlk b7 (by rw [nn_len]; exact hb) (by unfold maxLen; omega)) (fun g hg => by have := ownB_lit (lo := 0) (hi := w44.heap.size) (by omega) g hg; omega)) (by simp only [List.length_cons, List.length_nil] at hbs1; omega) (by simp)).mono ?_
        rintro en w45 ⟨he, hb1⟩
        rw [show taggedN tab 4 [da, db] = mnode tab da db by unfold mnode; rfl] at he
        subst he
        have e30 := belE0 hb1
        have ze30 := e30.size
        replace BL := BL.e0 e30
        replace b5 := b5.e0 e30
        replace b6 := b6.e0 e30
        replace b7 := b7.e0 e30
        replace b8 := b8.e0 e30
        replace b9 := b9.e0 e30
        replace b15 := b15.e0 e30
        replace b19 := b19.e0 e30
        replace U1 := U1.e0 e30
        replace U2 := U2.e0 e30
        replace b26 := b26.e0 e30
        clear e30
        refine ⟨.agg (cellsOf .u8 (nn (mnode tab da db))), rfl, ?_⟩
        refine ze 6 ⟨BL, b5, b6, b7, b8, b9, b15, b19, U1, U2, by omega⟩ ?_
        simp only [List.set_cons_zero, List.set_cons_succ]
        refine zv 7 28 (.bool true) (fun _ ⟨BL, b5, b6, b7, b8, b9, b15, b19, U1, U2, z3⟩ => Val.eqA .eql 37 _ (.tmp 23) (.tmp 27) rfl Try.underlying37 Try.underlying5 (by kernel_rfl) (by kernel_rfl) (nn (mnode tab da db)) (nn (mnode tab da db)) (by kernel_rfl) (by kernel_rfl) (by rw [nn_len]; exact (mnode_len _ _ _)) (by rw [nn_len]; exact (mnode_len _ _ _)) (.inl rfl) _ (by simp)) ⟨BL, b5, b6, b7, b8, b9, b15, b19, U1, U2, by omega⟩ ?_
        simp only [List.set_cons_zero, List.set_cons_succ]
        refine zv 8 29 (.bool true) (fun _ _ => .of) ⟨BL, b5, b6, b7, b8, b9, b15, b19, U1, U2, by omega⟩ ?_
        simp only [List.set_cons_zero, List.set_cons_succ]
        refine zv 9 30 (u1) (fun _ _ => .of) ⟨BL, b5, b6, b7, b8, b9, b15, b19, U1, U2, by omega⟩ ?_
        simp only [List.set_cons_zero, List.set_cons_succ]
        refine zv 10 31 (u2) (fun _ _ => .of) ⟨BL, b5, b6, b7, b8, b9, b15, b19, U1, U2, by omega⟩ ?_
        simp only [List.set_cons_zero, List.set_cons_succ]
        refine zv 12 33 (.agg (cellsOf .u8 (nn (da)))) (fun _ ⟨BL, b5, b6, b7, b8, b9, b15, b19, U1, U2, z3⟩ => Val.blk 37 _ rfl 0 32 (by kernel_rfl) b6 _ Try.underlying37 rfl (by kernel_rfl) (by (try simp only [nn_len, List.length_cons, List.length_nil, List.length_set, List.length_replicate]); try omega) _ (seg_all' _ (by (try simp only [nn_len, List.length_cons, List.length_nil, List.length_set, List.length_replicate]); try omega))) ⟨BL, b5, b6, b7, b8, b9, b15, b19, U1, U2, by omega⟩ ?_
        simp only [List.set_cons_zero, List.set_cons_succ]
        refine zv 13 34 (.agg (cellsOf .u8 (nn (dc)))) (fun _ ⟨BL, b5, b6, b7, b8, b9, b15, b19, U1, U2, z3⟩ => Val.blk 37 _ rfl 0 32 (by kernel_rfl) b8 _ Try.underlying37 rfl (by kernel_rfl) (by (try simp only [nn_len, List.length_cons, List.length_nil, List.length_set, List.length_replicate]); try omega) _ (seg_all' _ (by (try simp only [nn_len, List.length_cons, List.length_nil, List.length_set, List.length_replicate]); try omega))) ⟨BL, b5, b6, b7, b8, b9, b15, b19, U1, U2, by omega⟩ ?_
        simp only [List.set_cons_zero, List.set_cons_succ]
        refine zv 14 35 (.bool (decide (da = dc))) (fun _ ⟨BL, b5, b6, b7, b8, b9, b15, b19, U1, U2, z3⟩ => Val.eqA .eql 37 _ (.tmp 33) (.tmp 34) rfl Try.underlying37 Try.underlying5 (by kernel_rfl) (by kernel_rfl) (nn (da)) (nn (dc)) (by kernel_rfl) (by kernel_rfl) (by rw [nn_len]; exact ha) (by rw [nn_len]; exact hc) (.inl rfl) _ (eql_nn _ _)) ⟨BL, b5, b6, b7, b8, b9, b15, b19, U1, U2, by omega⟩ ?_
        simp only [List.set_cons_zero, List.set_cons_succ]
        refine zo1 11 rfl ?_
        refine xCall 32 28 #[u1, u2] (by kernel_rfl) ?_
        refine (samex_any _ _ (nn (textN 4 [da, db])) (nn (textN 4 [dc, dd])) w45 (.inl U1.sl) (.inl U2.sl) ht1 ht2).mono ?_
        rintro en w46 ⟨he, hw⟩
        rw [same_s ha hb hc hd, ← hs] at he
        subst he
        obtain rfl := (hw.symm).symm
        refine ⟨.bool s, rfl, ?_⟩
        refine ze 11 ⟨BL, b5, b6, b7, b8, b9, b15, b19, U1, U2, by omega⟩ ?_
        simp only [List.set_cons_zero, List.set_cons_succ]
        refine zv 15 36 (.bool (decide (da = dc))) (fun _ _ => .of) ⟨BL, b5, b6, b7, b8, b9, b15, b19, U1, U2, by omega⟩ ?_
        simp only [List.set_cons_zero, List.set_cons_succ]
        by_cases g37 : da = dc
        · skip
          have dg37 : decide (da = dc) = true := decide_eq_true g37
          simp only [dg37]
          clear dg37
          refine zv 16 37 (.agg (cellsOf .u8 (nn (db)))) (fun _ ⟨BL, b5, b6, b7, b8, b9, b15, b19, U1, U2, z3⟩ => Val.blk 37 _ rfl 0 32 (by kernel_rfl) b7 _ Try.underlying37 rfl (by kernel_rfl) (by (try simp only [nn_len, List.length_cons, List.length_nil, List.length_set, List.length_replicate]); try omega) _ (seg_all' _ (by (try simp only [nn_len, List.length_cons, List.length_nil, List.length_set, List.length_replicate]); try omega))) ⟨BL, b5, b6, b7, b8, b9, b15, b19, U1, U2, by omega⟩ ?_
          simp only [List.set_cons_zero, List.set_cons_succ]
          refine zv 17 38 (.agg (cellsOf .u8 (nn (dd)))) (fun _ ⟨BL, b5, b6, b7, b8, b9, b15, b19, U1, U2, z3⟩ => Val.blk 37 _ rfl 0 32 (by kernel_rfl) b9 _ Try.underlying37 rfl (by kernel_rfl) (by (try simp only [nn_len, List.length_cons, List.length_nil, List.length_set, List.length_replicate]); try omega) _ (seg_all' _ (by (try simp only [nn_len, List.length_cons, List.length_nil, List.length_set, List.length_replicate]); try omega))) ⟨BL, b5, b6, b7, b8, b9, b15, b19, U1, U2, by omega⟩ ?_
          simp only [List.set_cons_zero, List.set_cons_succ]
          refine zv 18 39 (.bool (decide (db = dd))) (fun _ ⟨BL, b5, b6, b7, b8, b9, b15, b19, U1, U2, z3⟩ => Val.eqA .eql 37 _ (.tmp 37) (.tmp 38) rfl Try.underlying37 Try.underlying5 (by kernel_rfl) (by kernel_rfl) (nn (db)) (nn (dd)) (by kernel_rfl) (by kernel_rfl) (by rw [nn_len]; exact hb) (by rw [nn_len]; exact hd) (.inl rfl) _ (eql_nn _ _)) ⟨BL, b5, b6, b7, b8, b9, b15, b19, U1, U2, by omega⟩ ?_
          simp only [List.set_cons_zero, List.set_cons_succ]
          refine zv 19 40 (.bool (decide (db = dd))) (fun _ _ => .of) ⟨BL, b5, b6, b7, b8, b9, b15, b19, U1, U2, by omega⟩ ?_
          simp only [List.set_cons_zero, List.set_cons_succ]
          refine zv 20 41 (.bool true) (fun _ ⟨BL, b5, b6, b7, b8, b9, b15, b19, U1, U2, z3⟩ => Val.bools .eql 4 _ (.tmp 32) (.tmp 40) rfl Try.underlying4 s (decide (db = dd)) (by kernel_rfl) (by kernel_rfl) (.inl rfl) true (by rw [hs]; simp [g37])) ⟨BL, b5, b6, b7, b8, b9, b15, b19, U1, U2, by omega⟩ ?_
          simp only [List.set_cons_zero, List.set_cons_succ]
          refine zv 21 42 (.bool true) (fun _ _ => .of) ⟨BL, b5, b6, b7, b8, b9, b15, b19, U1, U2, by omega⟩ ?_
          simp only [List.set_cons_zero, List.set_cons_succ]
          refine zv 22 43 (.bool true) (fun _ _ => .of) ⟨BL, b5, b6, b7, b8, b9, b15, b19, U1, U2, by omega⟩ ?_
          simp only [List.set_cons_zero, List.set_cons_succ]
          refine zv 23 44 (.agg (cellsOf .u8 (nn (da)))) (fun _ ⟨BL, b5, b6, b7, b8, b9, b15, b19, U1, U2, z3⟩ => Val.blk 37 _ rfl 0 32 (by kernel_rfl) b6 _ Try.underlying37 rfl (by kernel_rfl) (by (try simp only [nn_len, List.length_cons, List.length_nil, List.length_set, List.length_replicate]); try omega) _ (seg_all' _ (by (try simp only [nn_len, List.length_cons, List.length_nil, List.length_set, List.length_replicate]); try omega))) ⟨BL, b5, b6, b7, b8, b9, b15, b19, U1, U2, by omega⟩ ?_
          simp only [List.set_cons_zero, List.set_cons_succ]
          refine zv 24 45 (.agg (cellsOf .u8 (nn (dc)))) (fun _ ⟨BL, b5, b6, b7, b8, b9, b15, b19, U1, U2, z3⟩ => Val.blk 37 _ rfl 0 32 (by kernel_rfl) b8 _ Try.underlying37 rfl (by kernel_rfl) (by (try simp only [nn_len, List.length_cons, List.length_nil, List.length_set, List.length_replicate]); try omega) _ (seg_all' _ (by (try simp only [nn_len, List.length_cons, List.length_nil, List.length_set, List.length_replicate]); try omega))) ⟨BL, b5, b6, b7, b8, b9, b15, b19, U1, U2, by omega⟩ ?_
          simp only [List.set_cons_zero, List.set_cons_succ]
          refine zv 25 46 (.bool false) (fun _ ⟨BL, b5, b6, b7, b8, b9, b15, b19, U1, U2, z3⟩ => Val.eqA .neq 37 _ (.tmp 44) (.tmp 45) rfl Try.underlying37 Try.underlying5 (by kernel_rfl) (by kernel_rfl) (nn (da)) (nn (dc)) (by kernel_rfl) (by kernel_rfl) (by rw [nn_len]; exact ha) (by rw [nn_len]; exact hc) (.inr rfl) _ (by rw [neq_nn]; simp [g37])) ⟨BL, b5, b6, b7, b8, b9, b15, b19, U1, U2, by omega⟩ ?_
          simp only [List.set_cons_zero, List.set_cons_succ]
          refine zv 26 47 (.bool false) (fun _ _ => .of) ⟨BL, b5, b6, b7, b8, b9, b15, b19, U1, U2, by omega⟩ ?_
          simp only [List.set_cons_zero, List.set_cons_succ]
          refine zv 27 48 (.agg (cellsOf .u8 (nn (db)))) (fun _ ⟨BL, b5, b6, b7, b8, b9, b15, b19, U1, U2, z3⟩ => Val.blk 37 _ rfl 0 32 (by kernel_rfl) b7 _ Try.underlying37 rfl (by kernel_rfl) (by (try simp only [nn_len, List.length_cons, List.length_nil, List.length_set, List.length_replicate]); try omega) _ (seg_all' _ (by (try simp only [nn_len, List.length_cons, List.length_nil, List.length_set, List.length_replicate]); try omega))) ⟨BL, b5, b6, b7, b8, b9, b15, b19, U1, U2, by omega⟩ ?_
          simp only [List.set_cons_zero, List.set_cons_succ]
          refine zv 28 49 (.agg (cellsOf .u8 (nn (dd)))) (fun _ ⟨BL, b5, b6, b7, b8, b9, b15, b19, U1, U2, z3⟩ => Val.blk 37 _ rfl 0 32 (by kernel_rfl) b9 _ Try.underlying37 rfl (by kernel_rfl) (by (try simp only [nn_len, List.length_cons, List.length_nil, List.length_set, List.length_replicate]); try omega) _ (seg_all' _ (by (try simp only [nn_len, List.length_cons, List.length_nil, List.length_set, List.length_replicate]); try omega))) ⟨BL, b5, b6, b7, b8, b9, b15, b19, U1, U2, by omega⟩ ?_
          simp only [List.set_cons_zero, List.set_cons_succ]
          refine zv 29 50 (.bool (decide (¬ db = dd))) (fun _ ⟨BL, b5, b6, b7, b8, b9, b15, b19, U1, U2, z3⟩ => Val.eqA .neq 37 _ (.tmp 48) (.tmp 49) rfl Try.underlying37 Try.underlying5 (by kernel_rfl) (by kernel_rfl) (nn (db)) (nn (dd)) (by kernel_rfl) (by kernel_rfl) (by rw [nn_len]; exact hb) (by rw [nn_len]; exact hd) (.inr rfl) _ (neq_nn _ _)) ⟨BL, b5, b6, b7, b8, b9, b15, b19, U1, U2, by omega⟩ ?_
          simp only [List.set_cons_zero, List.set_cons_succ]
          refine zv 30 51 (.bool (decide (¬ db = dd))) (fun _ _ => .of) ⟨BL, b5, b6, b7, b8, b9, b15, b19, U1, U2, by omega⟩ ?_
          simp only [List.set_cons_zero, List.set_cons_succ]
          refine zv 31 52 (.bool (decide (¬ db = dd))) (fun _ _ => .of) ⟨BL, b5, b6, b7, b8, b9, b15, b19, U1, U2, by omega⟩ ?_
          simp only [List.set_cons_zero, List.set_cons_succ]
          by_cases g53 : ¬ db = dd
          · skip
            have dg53 : decide (¬ db = dd) = true := decide_eq_true g53
            simp only [dg53]
            clear dg53
            refine zs 32 53 ⟨BL, b5, b6, b7, b8, b9, b15, b19, U1, U2, by omega⟩ ?_
            simp only [List.set_cons_zero, List.set_cons_succ]
            refine zs 33 54 ⟨BL, b5, b6, b7, b8, b9, b15, b19, U1, U2, by omega⟩ ?_
            simp only [List.set_cons_zero, List.set_cons_succ]
            refine zs 34 55 ⟨BL, b5, b6, b7, b8, b9, b15, b19, U1, U2, by omega⟩ ?_
            simp only [List.set_cons_zero, List.set_cons_succ]
            refine zs 35 56 ⟨BL, b5, b6, b7, b8, b9, b15, b19, U1, U2, by omega⟩ ?_
            simp only [List.set_cons_zero, List.set_cons_succ]
            refine zs 36 57 ⟨BL, b5, b6, b7, b8, b9, b15, b19, U1, U2, by omega⟩ ?_
            simp only [List.set_cons_zero, List.set_cons_succ]
            refine zs 37 58 ⟨BL, b5, b6, b7, b8, b9, b15, b19, U1, U2, by omega⟩ ?_
            simp only [List.set_cons_zero, List.set_cons_succ]
            refine zs 38 59 ⟨BL, b5, b6, b7, b8, b9, b15, b19, U1, U2, by omega⟩ ?_
            simp only [List.set_cons_zero, List.set_cons_succ]
            refine zv 39 60 (.bool true) (fun _ _ => .of) ⟨BL, b5, b6, b7, b8, b9, b15, b19, U1, U2, by omega⟩ ?_
            simp only [List.set_cons_zero, List.set_cons_succ]
            refine zv 40 61 (.bool true) (fun _ _ => .of) ⟨BL, b5, b6, b7, b8, b9, b15, b19, U1, U2, by omega⟩ ?_
            simp only [List.set_cons_zero, List.set_cons_succ]
            refine zv 41 62 (.bool true) (fun _ _ => .of) ⟨BL, b5, b6, b7, b8, b9, b15, b19, U1, U2, by omega⟩ ?_
            simp only [List.set_cons_zero, List.set_cons_succ]
            refine zo1 42 rfl ?_
            refine xCall 63 41 #[] (by kernel_rfl) ?_
            refine (awake10 w45).mono ?_
            rintro en w47 ⟨rfl, hb1⟩
            have e31 := belE0 hb1
            have ze31 := e31.size
            replace BL := BL.e0 e31
            replace b5 := b5.e0 e31
            replace b6 := b6.e0 e31
            replace b7 := b7.e0 e31
            replace b8 := b8.e0 e31
            replace b9 := b9.e0 e31
            replace b15 := b15.e0 e31
            replace b19 := b19.e0 e31
            replace U1 := U1.e0 e31
            replace U2 := U2.e0 e31
            replace b26 := b26.e0 e31
            clear e31
            refine ⟨.bool true, rfl, ?_⟩
            refine ze 42 ⟨BL, b5, b6, b7, b8, b9, b15, b19, U1, U2, by omega⟩ ?_
            simp only [List.set_cons_zero, List.set_cons_succ]
            refine zv 43 64 (.bool true) (fun _ _ => .of) ⟨BL, b5, b6, b7, b8, b9, b15, b19, U1, U2, by omega⟩ ?_
            simp only [List.set_cons_zero, List.set_cons_succ]
            refine zv 44 10 (.bool true) (fun _ _ => .of) ⟨BL, b5, b6, b7, b8, b9, b15, b19, U1, U2, by omega⟩ ?_
            simp only [List.set_cons_zero, List.set_cons_succ]
            refine zd (by kernel_rfl) ?_ _
            refine hK4 _ _ ?_
            refine wp_ret ?_
            (try simp only [Exit.then, Exit.inBlock])
            refine bodyPost_ret (v := .bool true) rT rfl ?_
            exact ⟨rfl, BL.b⟩
          · skip
            have dg53 : decide (¬ db = dd) = false := decide_eq_false g53
            simp only [dg53]
            clear dg53
            refine zv 32 53 (.agg (cellsOf .u8 (nn (da)))) (fun _ ⟨BL, b5, b6, b7, b8, b9, b15, b19, U1, U2, z3⟩ => Val.blk 37 _ rfl 0 32 (by kernel_rfl) b6 _ Try.underlying37 rfl (by kernel_rfl) (by (try simp only [nn_len, List.length_cons, List.length_nil, List.length_set, List.length_replicate]); try omega) _ (seg_all' _ (by (try simp only [nn_len, List.length_cons, List.length_nil, List.length_set, List.length_replicate]); try omega))) ⟨BL, b5, b6, b7, b8, b9, b15, b19, U1, U2, by omega⟩ ?_
            simp only [List.set_cons_zero, List.set_cons_succ]
            refine zv 33 54 (.agg (cellsOf .u8 (nn (db)))) (fun _ ⟨BL, b5, b6, b7, b8, b9, b15, b19, U1, U2, z3⟩ => Val.blk 37 _ rfl 0 32 (by kernel_rfl) b7 _ Try.underlying37 rfl (by kernel_rfl) (by (try simp only [nn_len, List.length_cons, List.length_nil, List.length_set, List.length_replicate]); try omega) _ (seg_all' _ (by (try simp only [nn_len, List.length_cons, List.length_nil, List.length_set, List.length_replicate]); try omega))) ⟨BL, b5, b6, b7, b8, b9, b15, b19, U1, U2, by omega⟩ ?_
            simp only [List.set_cons_zero, List.set_cons_succ]
            refine zv 35 56 (.agg (cellsOf .u8 (nn (dc)))) (fun _ ⟨BL, b5, b6, b7, b8, b9, b15, b19, U1, U2, z3⟩ => Val.blk 37 _ rfl 0 32 (by kernel_rfl) b8 _ Try.underlying37 rfl (by kernel_rfl) (by (try simp only [nn_len, List.length_cons, List.length_nil, List.length_set, List.length_replicate]); try omega) _ (seg_all' _ (by (try simp only [nn_len, List.length_cons, List.length_nil, List.length_set, List.length_replicate]); try omega))) ⟨BL, b5, b6, b7, b8, b9, b15, b19, U1, U2, by omega⟩ ?_
            simp only [List.set_cons_zero, List.set_cons_succ]
            refine zv 36 57 (.agg (cellsOf .u8 (nn (dd)))) (fun _ ⟨BL, b5, b6, b7, b8, b9, b15, b19, U1, U2, z3⟩ => Val.blk 37 _ rfl 0 32 (by kernel_rfl) b9 _ Try.underlying37 rfl (by kernel_rfl) (by (try simp only [nn_len, List.length_cons, List.length_nil, List.length_set, List.length_replicate]); try omega) _ (seg_all' _ (by (try simp only [nn_len, List.length_cons, List.length_nil, List.length_set, List.length_replicate]); try omega))) ⟨BL, b5, b6, b7, b8, b9, b15, b19, U1, U2, by omega⟩ ?_
            simp only [List.set_cons_zero, List.set_cons_succ]
            refine zo1 34 rfl ?_
            refine xCall 55 40 #[.pointer (some ⟨w.heap.size, 0, none⟩), .agg (cellsOf .u8 (nn (da))), .agg (cellsOf .u8 (nn (db)))] (by kernel_rfl) ?_
            refine (mnode_any w.heap.size tab ht w45 b5 da db ha hb).mono ?_
            rintro en w48 ⟨rfl, hb1⟩
            have e32 := belE0 hb1
            have ze32 := e32.size
            replace BL := BL.e0 e32
            replace b5 := b5.e0 e32
            replace b6 := b6.e0 e32
            replace b7 := b7.e0 e32
            replace b8 := b8.e0 e32
            replace b9 := b9.e0 e32
            replace b15 := b15.e0 e32
            replace b19 := b19.e0 e32
            replace U1 := U1.e0 e32
            replace U2 := U2.e0 e32
            replace b26 := b26.e0 e32
            clear e32
            refine ⟨.agg (cellsOf .u8 (nn (mnode tab da db))), rfl, ?_⟩
            refine ze 34 ⟨BL, b5, b6, b7, b8, b9, b15, b19, U1, U2, by omega⟩ ?_
            simp only [List.set_cons_zero, List.set_cons_succ]
            refine zo1 37 rfl ?_
            refine xCall 58 40 #[.pointer (some ⟨w.heap.size, 0, none⟩), .agg (cellsOf .u8 (nn (dc))), .agg (cellsOf .u8 (nn (dd)))] (by kernel_rfl) ?_
            refine (mnode_any w.heap.size tab ht w48 b5 dc dd hc hd).mono ?_
            rintro en w49 ⟨rfl, hb1⟩
            have e33 := belE0 hb1
            have ze33 := e33.size
            replace BL := BL.e0 e33
            replace b5 := b5.e0 e33
            replace b6 := b6.e0 e33
            replace b7 := b7.e0 e33
            replace b8 := b8.e0 e33
            replace b9 := b9.e0 e33
            replace b15 := b15.e0 e33
            replace b19 := b19.e0 e33
            replace U1 := U1.e0 e33
            replace U2 := U2.e0 e33
            replace b26 := b26.e0 e33
            clear e33
            refine ⟨.agg (cellsOf .u8 (nn (mnode tab dc dd))), rfl, ?_⟩
            refine ze 37 ⟨BL, b5, b6, b7, b8, b9, b15, b19, U1, U2, by omega⟩ ?_
            simp only [List.set_cons_zero, List.set_cons_succ]
            refine zv 38 59 (.bool true) (fun _ ⟨BL, b5, b6, b7, b8, b9, b15, b19, U1, U2, z3⟩ => Val.eqA .eql 37 _ (.tmp 55) (.tmp 58) rfl Try.underlying37 Try.underlying5 (by kernel_rfl) (by kernel_rfl) (nn (mnode tab da db)) (nn (mnode tab dc dd)) (by kernel_rfl) (by kernel_rfl) (by rw [nn_len]; exact (mnode_len _ _ _)) (by rw [nn_len]; exact (mnode_len _ _ _)) (.inl rfl) _ (by rw [eql_nn]; exact decide_eq_true (by rw [g37, Classical.not_not.1 g53]))) ⟨BL, b5, b6, b7, b8, b9, b15, b19, U1, U2, by omega⟩ ?_
            simp only [List.set_cons_zero, List.set_cons_succ]
            refine zv 39 60 (.bool true) (fun _ _ => .of) ⟨BL, b5, b6, b7, b8, b9, b15, b19, U1, U2, by omega⟩ ?_
            simp only [List.set_cons_zero, List.set_cons_succ]
            refine zv 40 61 (.bool true) (fun _ _ => .of) ⟨BL, b5, b6, b7, b8, b9, b15, b19, U1, U2, by omega⟩ ?_
            simp only [List.set_cons_zero, List.set_cons_succ]
            refine zv 41 62 (.bool true) (fun _ _ => .of) ⟨BL, b5, b6, b7, b8, b9, b15, b19, U1, U2, by omega⟩ ?_
            simp only [List.set_cons_zero, List.set_cons_succ]
            refine zo1 42 rfl ?_
            refine xCall 63 41 #[] (by kernel_rfl) ?_
            refine (awake10 w49).mono ?_
            rintro en w50 ⟨rfl, hb1⟩
            have e34 := belE0 hb1
            have ze34 := e34.size
            replace BL := BL.e0 e34
            replace b5 := b5.e0 e34
            replace b6 := b6.e0 e34
            replace b7 := b7.e0 e34
            replace b8 := b8.e0 e34
            replace b9 := b9.e0 e34
            replace b15 := b15.e0 e34
            replace b19 := b19.e0 e34
            replace U1 := U1.e0 e34
            replace U2 := U2.e0 e34
            replace b26 := b26.e0 e34
            clear e34
            refine ⟨.bool true, rfl, ?_⟩
            refine ze 42 ⟨BL, b5, b6, b7, b8, b9, b15, b19, U1, U2, by omega⟩ ?_
            simp only [List.set_cons_zero, List.set_cons_succ]
            refine zv 43 64 (.bool true) (fun _ _ => .of) ⟨BL, b5, b6, b7, b8, b9, b15, b19, U1, U2, by omega⟩ ?_
            simp only [List.set_cons_zero, List.set_cons_succ]
            refine zv 44 10 (.bool true) (fun _ _ => .of) ⟨BL, b5, b6, b7, b8, b9, b15, b19, U1, U2, by omega⟩ ?_
            simp only [List.set_cons_zero, List.set_cons_succ]
            refine zd (by kernel_rfl) ?_ _
            refine hK4 _ _ ?_
            refine wp_ret ?_
            (try simp only [Exit.then, Exit.inBlock])
            refine bodyPost_ret (v := .bool true) rT rfl ?_
            exact ⟨rfl, BL.b⟩
        · skip
          have dg37 : decide (da = dc) = false := decide_eq_false g37
          simp only [dg37]
          clear dg37
          refine zs 16 37 ⟨BL, b5, b6, b7, b8, b9, b15, b19, U1, U2, by omega⟩ ?_
          simp only [List.set_cons_zero, List.set_cons_succ]
          refine zs 17 38 ⟨BL, b5, b6, b7, b8, b9, b15, b19, U1, U2, by omega⟩ ?_
          simp only [List.set_cons_zero, List.set_cons_succ]
          refine zs 18 39 ⟨BL, b5, b6, b7, b8, b9, b15, b19, U1, U2, by omega⟩ ?_
          simp only [List.set_cons_zero, List.set_cons_succ]
          refine zv 19 40 (.bool false) (fun _ _ => .of) ⟨BL, b5, b6, b7, b8, b9, b15, b19, U1, U2, by omega⟩ ?_
          simp only [List.set_cons_zero, List.set_cons_succ]
          refine zv 20 41 (.bool true) (fun _ ⟨BL, b5, b6, b7, b8, b9, b15, b19, U1, U2, z3⟩ => Val.bools .eql 4 _ (.tmp 32) (.tmp 40) rfl Try.underlying4 s false (by kernel_rfl) (by kernel_rfl) (.inl rfl) true (by rw [hs]; simp [g37])) ⟨BL, b5, b6, b7, b8, b9, b15, b19, U1, U2, by omega⟩ ?_
          simp only [List.set_cons_zero, List.set_cons_succ]
          refine zv 21 42 (.bool true) (fun _ _ => .of) ⟨BL, b5, b6, b7, b8, b9, b15, b19, U1, U2, by omega⟩ ?_
          simp only [List.set_cons_zero, List.set_cons_succ]
          refine zv 22 43 (.bool true) (fun _ _ => .of) ⟨BL, b5, b6, b7, b8, b9, b15, b19, U1, U2, by omega⟩ ?_
          simp only [List.set_cons_zero, List.set_cons_succ]
          refine zv 23 44 (.agg (cellsOf .u8 (nn (da)))) (fun _ ⟨BL, b5, b6, b7, b8, b9, b15, b19, U1, U2, z3⟩ => Val.blk 37 _ rfl 0 32 (by kernel_rfl) b6 _ Try.underlying37 rfl (by kernel_rfl) (by (try simp only [nn_len, List.length_cons, List.length_nil, List.length_set, List.length_replicate]); try omega) _ (seg_all' _ (by (try simp only [nn_len, List.length_cons, List.length_nil, List.length_set, List.length_replicate]); try omega))) ⟨BL, b5, b6, b7, b8, b9, b15, b19, U1, U2, by omega⟩ ?_
          simp only [List.set_cons_zero, List.set_cons_succ]
          refine zv 24 45 (.agg (cellsOf .u8 (nn (dc)))) (fun _ ⟨BL, b5, b6, b7, b8, b9, b15, b19, U1, U2, z3⟩ => Val.blk 37 _ rfl 0 32 (by kernel_rfl) b8 _ Try.underlying37 rfl (by kernel_rfl) (by (try simp only [nn_len, List.length_cons, List.length_nil, List.length_set, List.length_replicate]); try omega) _ (seg_all' _ (by (try simp only [nn_len, List.length_cons, List.length_nil, List.length_set, List.length_replicate]); try omega))) ⟨BL, b5, b6, b7, b8, b9, b15, b19, U1, U2, by omega⟩ ?_
          simp only [List.set_cons_zero, List.set_cons_succ]
          refine zv 25 46 (.bool true) (fun _ ⟨BL, b5, b6, b7, b8, b9, b15, b19, U1, U2, z3⟩ => Val.eqA .neq 37 _ (.tmp 44) (.tmp 45) rfl Try.underlying37 Try.underlying5 (by kernel_rfl) (by kernel_rfl) (nn (da)) (nn (dc)) (by kernel_rfl) (by kernel_rfl) (by rw [nn_len]; exact ha) (by rw [nn_len]; exact hc) (.inr rfl) _ (by rw [neq_nn]; simp [g37])) ⟨BL, b5, b6, b7, b8, b9, b15, b19, U1, U2, by omega⟩ ?_
          simp only [List.set_cons_zero, List.set_cons_succ]
          refine zv 26 47 (.bool true) (fun _ _ => .of) ⟨BL, b5, b6, b7, b8, b9, b15, b19, U1, U2, by omega⟩ ?_
          simp only [List.set_cons_zero, List.set_cons_succ]
          refine zs 27 48 ⟨BL, b5, b6, b7, b8, b9, b15, b19, U1, U2, by omega⟩ ?_
          simp only [List.set_cons_zero, List.set_cons_succ]
          refine zs 28 49 ⟨BL, b5, b6, b7, b8, b9, b15, b19, U1, U2, by omega⟩ ?_
          simp only [List.set_cons_zero, List.set_cons_succ]
          refine zs 29 50 ⟨BL, b5, b6, b7, b8, b9, b15, b19, U1, U2, by omega⟩ ?_
          simp only [List.set_cons_zero, List.set_cons_succ]
          refine zv 30 51 (.bool true) (fun _ _ => .of) ⟨BL, b5, b6, b7, b8, b9, b15, b19, U1, U2, by omega⟩ ?_
          simp only [List.set_cons_zero, List.set_cons_succ]
          refine zv 31 52 (.bool true) (fun _ _ => .of) ⟨BL, b5, b6, b7, b8, b9, b15, b19, U1, U2, by omega⟩ ?_
          simp only [List.set_cons_zero, List.set_cons_succ]
          refine zs 32 53 ⟨BL, b5, b6, b7, b8, b9, b15, b19, U1, U2, by omega⟩ ?_
          simp only [List.set_cons_zero, List.set_cons_succ]
          refine zs 33 54 ⟨BL, b5, b6, b7, b8, b9, b15, b19, U1, U2, by omega⟩ ?_
          simp only [List.set_cons_zero, List.set_cons_succ]
          refine zs 34 55 ⟨BL, b5, b6, b7, b8, b9, b15, b19, U1, U2, by omega⟩ ?_
          simp only [List.set_cons_zero, List.set_cons_succ]
          refine zs 35 56 ⟨BL, b5, b6, b7, b8, b9, b15, b19, U1, U2, by omega⟩ ?_
          simp only [List.set_cons_zero, List.set_cons_succ]
          refine zs 36 57 ⟨BL, b5, b6, b7, b8, b9, b15, b19, U1, U2, by omega⟩ ?_
          simp only [List.set_cons_zero, List.set_cons_succ]
          refine zs 37 58 ⟨BL, b5, b6, b7, b8, b9, b15, b19, U1, U2, by omega⟩ ?_
          simp only [List.set_cons_zero, List.set_cons_succ]
          refine zs 38 59 ⟨BL, b5, b6, b7, b8, b9, b15, b19, U1, U2, by omega⟩ ?_
          simp only [List.set_cons_zero, List.set_cons_succ]
          refine zv 39 60 (.bool true) (fun _ _ => .of) ⟨BL, b5, b6, b7, b8, b9, b15, b19, U1, U2, by omega⟩ ?_
          simp only [List.set_cons_zero, List.set_cons_succ]
          refine zv 40 61 (.bool true) (fun _ _ => .of) ⟨BL, b5, b6, b7, b8, b9, b15, b19, U1, U2, by omega⟩ ?_
          simp only [List.set_cons_zero, List.set_cons_succ]
          refine zv 41 62 (.bool true) (fun _ _ => .of) ⟨BL, b5, b6, b7, b8, b9, b15, b19, U1, U2, by omega⟩ ?_
          simp only [List.set_cons_zero, List.set_cons_succ]
          refine zo1 42 rfl ?_
          refine xCall 63 41 #[] (by kernel_rfl) ?_
          refine (awake10 w45).mono ?_
          rintro en w51 ⟨rfl, hb1⟩
          have e35 := belE0 hb1
          have ze35 := e35.size
          replace BL := BL.e0 e35
          replace b5 := b5.e0 e35
          replace b6 := b6.e0 e35
          replace b7 := b7.e0 e35
          replace b8 := b8.e0 e35
          replace b9 := b9.e0 e35
          replace b15 := b15.e0 e35
          replace b19 := b19.e0 e35
          replace U1 := U1.e0 e35
          replace U2 := U2.e0 e35
          replace b26 := b26.e0 e35
          clear e35
          refine ⟨.bool true, rfl, ?_⟩
          refine ze 42 ⟨BL, b5, b6, b7, b8, b9, b15, b19, U1, U2, by omega⟩ ?_
          simp only [List.set_cons_zero, List.set_cons_succ]
          refine zv 43 64 (.bool true) (fun _ _ => .of) ⟨BL, b5, b6, b7, b8, b9, b15, b19, U1, U2, by omega⟩ ?_
          simp only [List.set_cons_zero, List.set_cons_succ]
          refine zv 44 10 (.bool true) (fun _ _ => .of) ⟨BL, b5, b6, b7, b8, b9, b15, b19, U1, U2, by omega⟩ ?_
          simp only [List.set_cons_zero, List.set_cons_succ]
          refine zd (by kernel_rfl) ?_ _
          refine hK4 _ _ ?_
          refine wp_ret ?_
          (try simp only [Exit.then, Exit.inBlock])
          refine bodyPost_ret (v := .bool true) rT rfl ?_
          exact ⟨rfl, BL.b⟩
  · skip
    refine xLit 19 124 30 2 _ #[(0, .slice (some ⟨w3.heap.size, 0, none⟩) 32 32), (1, .slice (some ⟨w4.heap.size, 0, none⟩) 32 32)] [.slice (some ⟨w3.heap.size, 0, none⟩) 32 32, .slice (some ⟨w4.heap.size, 0, none⟩) 32 32] rfl (by kernel_rfl) (by kernel_rfl) ?_
    intro w52 n13
    have zn13 := n13.z
    have b19 := n13.c
    replace BL := BL.e0 n13.e
    replace b5 := b5.e0 n13.e
    replace b6 := b6.e0 n13.e
    replace b7 := b7.e0 n13.e
    replace b8 := b8.e0 n13.e
    replace b9 := b9.e0 n13.e
    refine ze 6 ⟨BL, b5, b6, b7, b8, b9, by omega⟩ ?_
    simp only [List.set_cons_zero, List.set_cons_succ]
    refine zo1 2 rfl ?_
    refine xLit 15 124 30 2 _ #[(0, .slice (some ⟨w1.heap.size, 0, none⟩) 32 32), (1, .slice (some ⟨w2.heap.size, 0, none⟩) 32 32)] [.slice (some ⟨w1.heap.size, 0, none⟩) 32 32, .slice (some ⟨w2.heap.size, 0, none⟩) 32 32] rfl (by kernel_rfl) (by kernel_rfl) ?_
    intro w53 n14
    have zn14 := n14.z
    have b15 := n14.c
    replace BL := BL.e0 n14.e
    replace b5 := b5.e0 n14.e
    replace b6 := b6.e0 n14.e
    replace b7 := b7.e0 n14.e
    replace b8 := b8.e0 n14.e
    replace b9 := b9.e0 n14.e
    replace b19 := b19.e0 n14.e
    refine ze 2 ⟨BL, b5, b6, b7, b8, b9, by omega⟩ ?_
    simp only [List.set_cons_zero, List.set_cons_succ]
    refine zo1 3 rfl ?_
    refine xCall 16 29 #[.int .u8 4, .slice (some ⟨w52.heap.size, 0, none⟩) 2 2] (by kernel_rfl) ?_
    refine (mactext_any ((4 : Nat) : Int) _ [.slice (some ⟨w1.heap.size, 0, none⟩) 32 32, .slice (some ⟨w2.heap.size, 0, none⟩) 32 32] ([da, db].map nn) w53 (SV.ofCelM (n := 2) b15 rfl (by unfold maxLen; omega)) w53.heap.size (by omega) (SLs.two (SL.ofBlk b6 (by rw [nn_len]; exact ha) (by unfold maxLen; omega)) (fun g hg => by have := ownB_lit (lo := 0) (hi := w53.heap.size) (by omega) g hg; omega) (SL.ofBlk b7 (by rw [nn_len]; exact hb) (by unfold maxLen; omega)) (fun g hg => by have := ownB_lit (lo := 0) (hi := w53.heap.size) (by omega) g hg; omega)) (by simp only [List.length_cons, List.length_nil] at hbs1; omega)).mono ?_
    rintro en w54 ⟨u1, rfl, hO, hb1⟩
    rw [← textN_nn] at hO
    have e36 := belE0 hb1
    have ze36 := e36.size
    replace BL := BL.e0 e36
    replace b5 := b5.e0 e36
    replace b6 := b6.e0 e36
    replace b7 := b7.e0 e36
    replace b8 := b8.e0 e36
    replace b9 := b9.e0 e36
    replace b19 := b19.e0 e36
    replace b15 := b15.e0 e36
    clear e36
    have U1 : Own 5 .u8 w53.heap.size w54 u1 (nn (textN 4 [da, db])) := hO
    have lU1_3 := U1.ge
    refine ⟨u1, rfl, ?_⟩
    refine ze 3 ⟨BL, b5, b6, b7, b8, b9, by omega⟩ ?_
    simp only [List.set_cons_zero, List.set_cons_succ]
    refine zo1 7 rfl ?_
    refine xCall 20 29 #[.int .u8 4, .slice (some ⟨w6.heap.size, 0, none⟩) 2 2] (by kernel_rfl) ?_
    refine (mactext_any ((4 : Nat) : Int) _ [.slice (some ⟨w3.heap.size, 0, none⟩) 32 32, .slice (some ⟨w4.heap.size, 0, none⟩) 32 32] ([dc, dd].map nn) w54 (SV.ofCelM (n := 2) b19 rfl (by unfold maxLen; omega)) w54.heap.size (by omega) (SLs.two (SL.ofBlk b8 (by rw [nn_len]; exact hc) (by unfold maxLen; omega)) (fun g hg => by have := ownB_lit (lo := 0) (hi := w54.heap.size) (by omega) g hg; omega) (SL.ofBlk b9 (by rw [nn_len]; exact hd) (by unfold maxLen; omega)) (fun g hg => by have := ownB_lit (lo := 0) (hi := w54.heap.size) (by omega) g hg; omega)) (by simp only [List.length_cons, List.length_nil] at hbs2; omega)).mono ?_
    rintro en w55 ⟨u2, rfl, hO, hb1⟩
    rw [← textN_nn] at hO
    have e37 := belE0 hb1
    have ze37 := e37.size
    replace BL := BL.e0 e37
    replace b5 := b5.e0 e37
    replace b6 := b6.e0 e37
    replace b7 := b7.e0 e37
    replace b8 := b8.e0 e37
    replace b9 := b9.e0 e37
    replace b19 := b19.e0 e37
    replace b15 := b15.e0 e37
    replace U1 := U1.e0 e37
    clear e37
    have U2 : Own 5 .u8 w54.heap.size w55 u2 (nn (textN 4 [dc, dd])) := hO
    have lU2_3 := U2.ge
    refine ⟨u2, rfl, ?_⟩
    refine ze 7 ⟨BL, b5, b6, b7, b8, b9, by omega⟩ ?_
    simp only [List.set_cons_zero, List.set_cons_succ]
    refine zv 8 11 (u1) (fun _ _ => .of) ⟨BL, b5, b6, b7, b8, b9, by omega⟩ ?_
    simp only [List.set_cons_zero, List.set_cons_succ]
    refine zv 9 12 (u2) (fun _ _ => .of) ⟨BL, b5, b6, b7, b8, b9, by omega⟩ ?_
    simp only [List.set_cons_zero, List.set_cons_succ]
    refine zd (by kernel_rfl) ?_ _
    refine hK2 _ _ ?_
    refine wp_seq_k fun K5 hK5 => ?_
    have e38 := drew_e0 w55
    refine zg (fun w_ => Bl w.heap.size w w_ ∧ Blk .u32 w_ w.heap.size 26 (nn tab) ∧ Blk .u8 w_ w1.heap.size 37 (nn (da)) ∧ Blk .u8 w_ w2.heap.size 37 (nn (db)) ∧ Blk .u8 w_ w3.heap.size 37 (nn (dc)) ∧ Blk .u8 w_ w4.heap.size 37 (nn (dd)) ∧ Cel w_ w6.heap.size 30 [.slice (some ⟨w3.heap.size, 0, none⟩) 32 32, .slice (some ⟨w4.heap.size, 0, none⟩) 32 32] ∧ Cel w_ w52.heap.size 30 [.slice (some ⟨w1.heap.size, 0, none⟩) 32 32, .slice (some ⟨w2.heap.size, 0, none⟩) 32 32] ∧ Own 5 .u8 w53.heap.size w_ u1 (nn (textN 4 [da, db])) ∧ Own 5 .u8 w54.heap.size w_ u2 (nn (textN 4 [dc, dd])) ∧ w55.heap.size ≤ w_.heap.size) (fun w_ => Bl w.heap.size w w_ ∧ Blk .u32 w_ w.heap.size 26 (nn tab) ∧ Blk .u8 w_ w1.heap.size 37 (nn (da)) ∧ Blk .u8 w_ w2.heap.size 37 (nn (db)) ∧ Blk .u8 w_ w3.heap.size 37 (nn (dc)) ∧ Blk .u8 w_ w4.heap.size 37 (nn (dd)) ∧ Cel w_ w6.heap.size 30 [.slice (some ⟨w3.heap.size, 0, none⟩) 32 32, .slice (some ⟨w4.heap.size, 0, none⟩) 32 32] ∧ Cel w_ w52.heap.size 30 [.slice (some ⟨w1.heap.size, 0, none⟩) 32 32, .slice (some ⟨w2.heap.size, 0, none⟩) 32 32] ∧ Own 5 .u8 w53.heap.size w_ u1 (nn (textN 4 [da, db])) ∧ Own 5 .u8 w54.heap.size w_ u2 (nn (textN 4 [dc, dd])) ∧ w55.heap.size ≤ w_.heap.size) 100000 45 ⟨BL.e0 e38, b5.e0 e38, b6.e0 e38, b7.e0 e38, b8.e0 e38, b9.e0 e38, b19.e0 e38, b15.e0 e38, U1.e0 e38, U2.e0 e38, Nat.le_refl _⟩ ?_
    clear BL b5 b6 b7 b8 b9 b19 b15 U1 U2
    clear e38
    intro w56
    rintro ⟨BL, b5, b6, b7, b8, b9, b19, b15, U1, U2, z4⟩
    refine zv 0 21 (.agg (cellsOf .u8 (nn (da)))) (fun _ ⟨BL, b5, b6, b7, b8, b9, b19, b15, U1, U2, z4⟩ => Val.blk 37 _ rfl 0 32 (by kernel_rfl) b6 _ Try.underlying37 rfl (by kernel_rfl) (by (try simp only [nn_len, List.length_cons, List.length_nil, List.length_set, List.length_replicate]); try omega) _ (seg_all' _ (by (try simp only [nn_len, List.length_cons, List.length_nil, List.length_set, List.length_replicate]); try omega))) ⟨BL, b5, b6, b7, b8, b9, b19, b15, U1, U2, by omega⟩ ?_
    simp only [List.set_cons_zero, List.set_cons_succ]
    refine zv 1 22 (.agg (cellsOf .u8 (nn (db)))) (fun _ ⟨BL, b5, b6, b7, b8, b9, b19, b15, U1, U2, z4⟩ => Val.blk 37 _ rfl 0 32 (by kernel_rfl) b7 _ Try.underlying37 rfl (by kernel_rfl) (by (try simp only [nn_len, List.length_cons, List.length_nil, List.length_set, List.length_replicate]); try omega) _ (seg_all' _ (by (try simp only [nn_len, List.length_cons, List.length_nil, List.length_set, List.length_replicate]); try omega))) ⟨BL, b5, b6, b7, b8, b9, b19, b15, U1, U2, by omega⟩ ?_
    simp only [List.set_cons_zero, List.set_cons_succ]
    refine zv 3 24 (.slice (some ⟨w1.heap.size, 0, none⟩) 32 32) (fun _ _ => .of) ⟨BL, b5, b6, b7, b8, b9, b19, b15, U1, U2, by omega⟩ ?_
    simp only [List.set_cons_zero, List.set_cons_succ]
    refine zv 4 25 (.slice (some ⟨w2.heap.size, 0, none⟩) 32 32) (fun _ _ => .of) ⟨BL, b5, b6, b7, b8, b9, b19, b15, U1, U2, by omega⟩ ?_
    simp only [List.set_cons_zero, List.set_cons_succ]
    refine zo2 2 5 rfl rfl ?_ ?_
    · skip
      refine xCall 23 40 #[.pointer (some ⟨w.heap.size, 0, none⟩), .agg (cellsOf .u8 (nn (da))), .agg (cellsOf .u8 (nn (db)))] (by kernel_rfl) ?_
      refine (mnode_any w.heap.size tab ht w56 b5 da db ha hb).mono ?_
      rintro en w57 ⟨rfl, hb1⟩
      have e39 := belE0 hb1
      have ze39 := e39.size
      replace BL := BL.e0 e39
      replace b5 := b5.e0 e39
      replace b6 := b6.e0 e39
      replace b7 := b7.e0 e39
      replace b8 := b8.e0 e39
      replace b9 := b9.e0 e39
      replace b19 := b19.e0 e39
      replace b15 := b15.e0 e39
      replace U1 := U1.e0 e39
      replace U2 := U2.e0 e39
      clear e39
      refine ⟨.agg (cellsOf .u8 (nn (mnode tab da db))), rfl, ?_⟩
      refine ze 2 ⟨BL, b5, b6, b7, b8, b9, b19, b15, U1, U2, by omega⟩ ?_
      simp only [List.set_cons_zero, List.set_cons_succ]
      refine zo1 5 rfl ?_
      refine xLit 26 124 30 2 _ #[(0, .slice (some ⟨w1.heap.size, 0, none⟩) 32 32), (1, .slice (some ⟨w2.heap.size, 0, none⟩) 32 32)] [.slice (some ⟨w1.heap.size, 0, none⟩) 32 32, .slice (some ⟨w2.heap.size, 0, none⟩) 32 32] rfl (by kernel_rfl) (by kernel_rfl) ?_
      intro w58 n15
      have zn15 := n15.z
      have b26 := n15.c
      replace BL := BL.e0 n15.e
      replace b5 := b5.e0 n15.e
      replace b6 := b6.e0 n15.e
      replace b7 := b7.e0 n15.e
      replace b8 := b8.e0 n15.e
      replace b9 := b9.e0 n15.e
      replace b19 := b19.e0 n15.e
      replace b15 := b15.e0 n15.e
      replace U1 := U1.e0 n15.e
      replace U2 := U2.e0 n15.e
      refine ze 5 ⟨BL, b5, b6, b7, b8, b9, b19, b15, U1, U2, by omega⟩ ?_
      simp only [List.set_cons_zero, List.set_cons_succ]
      refine zo1 6 rfl ?_
      refine xCall 27 27 #[.pointer (some ⟨w.heap.size, 0, none⟩), .int .u8 4, .slice (some ⟨w57.heap.size, 0, none⟩) 2 2] (by kernel_rfl) ?_
      refine (tagged_any w.heap.size tab ht w58 b5 4 _ [.slice (some ⟨w1.heap.size, 0, none⟩) 32 32, .slice (some ⟨w2.heap.size, 0, none⟩) 32 32] [da, db] (SV.ofCelM (n := 2) b26 rfl (by unfold maxLen; omega)) (SLs.two (SL.ofBlk b6 (by rw [nn_len]; exact ha) (by unfold maxLen; omega)) (fun g hg => by have := ownB_lit (lo := 0) (hi := w58.heap.size) (by omega) g hg; omega) (SL.ofBlk b7 (by rw [nn_len]; exact hb) (by unfold maxLen; omega)) (fun g hg => by have := ownB_lit (lo := 0) (hi := w58.heap.size) (by omega) g hg; omega)) (by simp only [List.length_cons, List.length_nil] at hbs1; omega) (by simp)).mono ?_
      rintro en w59 ⟨he, hb1⟩
      rw [show taggedN tab 4 [da, db] = mnode tab da db by unfold mnode; rfl] at he
      subst he
      have e40 := belE0 hb1
      have ze40 := e40.size
      replace BL := BL.e0 e40
      replace b5 := b5.e0 e40
      replace b6 := b6.e0 e40
      replace b7 := b7.e0 e40
      replace b8 := b8.e0 e40
      replace b9 := b9.e0 e40
      replace b19 := b19.e0 e40
      replace b15 := b15.e0 e40
      replace U1 := U1.e0 e40
      replace U2 := U2.e0 e40
      replace b26 := b26.e0 e40
      clear e40
      refine ⟨.agg (cellsOf .u8 (nn (mnode tab da db))), rfl, ?_⟩
      refine ze 6 ⟨BL, b5, b6, b7, b8, b9, b19, b15, U1, U2, by omega⟩ ?_
      simp only [List.set_cons_zero, List.set_cons_succ]
      refine zv 7 28 (.bool true) (fun _ ⟨BL, b5, b6, b7, b8, b9, b19, b15, U1, U2, z4⟩ => Val.eqA .eql 37 _ (.tmp 23) (.tmp 27) rfl Try.underlying37 Try.underlying5 (by kernel_rfl) (by kernel_rfl) (nn (mnode tab da db)) (nn (mnode tab da db)) (by kernel_rfl) (by kernel_rfl) (by rw [nn_len]; exact (mnode_len _ _ _)) (by rw [nn_len]; exact (mnode_len _ _ _)) (.inl rfl) _ (by simp)) ⟨BL, b5, b6, b7, b8, b9, b19, b15, U1, U2, by omega⟩ ?_
      simp only [List.set_cons_zero, List.set_cons_succ]
      refine zv 8 29 (.bool true) (fun _ _ => .of) ⟨BL, b5, b6, b7, b8, b9, b19, b15, U1, U2, by omega⟩ ?_
      simp only [List.set_cons_zero, List.set_cons_succ]
      refine zv 9 30 (u1) (fun _ _ => .of) ⟨BL, b5, b6, b7, b8, b9, b19, b15, U1, U2, by omega⟩ ?_
      simp only [List.set_cons_zero, List.set_cons_succ]
      refine zv 10 31 (u2) (fun _ _ => .of) ⟨BL, b5, b6, b7, b8, b9, b19, b15, U1, U2, by omega⟩ ?_
      simp only [List.set_cons_zero, List.set_cons_succ]
      refine zv 12 33 (.agg (cellsOf .u8 (nn (da)))) (fun _ ⟨BL, b5, b6, b7, b8, b9, b19, b15, U1, U2, z4⟩ => Val.blk 37 _ rfl 0 32 (by kernel_rfl) b6 _ Try.underlying37 rfl (by kernel_rfl) (by (try simp only [nn_len, List.length_cons, List.length_nil, List.length_set, List.length_replicate]); try omega) _ (seg_all' _ (by (try simp only [nn_len, List.length_cons, List.length_nil, List.length_set, List.length_replicate]); try omega))) ⟨BL, b5, b6, b7, b8, b9, b19, b15, U1, U2, by omega⟩ ?_
      simp only [List.set_cons_zero, List.set_cons_succ]
      refine zv 13 34 (.agg (cellsOf .u8 (nn (dc)))) (fun _ ⟨BL, b5, b6, b7, b8, b9, b19, b15, U1, U2, z4⟩ => Val.blk 37 _ rfl 0 32 (by kernel_rfl) b8 _ Try.underlying37 rfl (by kernel_rfl) (by (try simp only [nn_len, List.length_cons, List.length_nil, List.length_set, List.length_replicate]); try omega) _ (seg_all' _ (by (try simp only [nn_len, List.length_cons, List.length_nil, List.length_set, List.length_replicate]); try omega))) ⟨BL, b5, b6, b7, b8, b9, b19, b15, U1, U2, by omega⟩ ?_
      simp only [List.set_cons_zero, List.set_cons_succ]
      refine zv 14 35 (.bool (decide (da = dc))) (fun _ ⟨BL, b5, b6, b7, b8, b9, b19, b15, U1, U2, z4⟩ => Val.eqA .eql 37 _ (.tmp 33) (.tmp 34) rfl Try.underlying37 Try.underlying5 (by kernel_rfl) (by kernel_rfl) (nn (da)) (nn (dc)) (by kernel_rfl) (by kernel_rfl) (by rw [nn_len]; exact ha) (by rw [nn_len]; exact hc) (.inl rfl) _ (eql_nn _ _)) ⟨BL, b5, b6, b7, b8, b9, b19, b15, U1, U2, by omega⟩ ?_
      simp only [List.set_cons_zero, List.set_cons_succ]
      refine zo1 11 rfl ?_
      refine xCall 32 28 #[u1, u2] (by kernel_rfl) ?_
      refine (samex_any _ _ (nn (textN 4 [da, db])) (nn (textN 4 [dc, dd])) w59 (.inl U1.sl) (.inl U2.sl) ht1 ht2).mono ?_
      rintro en w60 ⟨he, hw⟩
      rw [same_s ha hb hc hd, ← hs] at he
      subst he
      obtain rfl := (hw.symm).symm
      refine ⟨.bool s, rfl, ?_⟩
      refine ze 11 ⟨BL, b5, b6, b7, b8, b9, b19, b15, U1, U2, by omega⟩ ?_
      simp only [List.set_cons_zero, List.set_cons_succ]
      refine zv 15 36 (.bool (decide (da = dc))) (fun _ _ => .of) ⟨BL, b5, b6, b7, b8, b9, b19, b15, U1, U2, by omega⟩ ?_
      simp only [List.set_cons_zero, List.set_cons_succ]
      by_cases g37 : da = dc
      · skip
        have dg37 : decide (da = dc) = true := decide_eq_true g37
        simp only [dg37]
        clear dg37
        refine zv 16 37 (.agg (cellsOf .u8 (nn (db)))) (fun _ ⟨BL, b5, b6, b7, b8, b9, b19, b15, U1, U2, z4⟩ => Val.blk 37 _ rfl 0 32 (by kernel_rfl) b7 _ Try.underlying37 rfl (by kernel_rfl) (by (try simp only [nn_len, List.length_cons, List.length_nil, List.length_set, List.length_replicate]); try omega) _ (seg_all' _ (by (try simp only [nn_len, List.length_cons, List.length_nil, List.length_set, List.length_replicate]); try omega))) ⟨BL, b5, b6, b7, b8, b9, b19, b15, U1, U2, by omega⟩ ?_
        simp only [List.set_cons_zero, List.set_cons_succ]
        refine zv 17 38 (.agg (cellsOf .u8 (nn (dd)))) (fun _ ⟨BL, b5, b6, b7, b8, b9, b19, b15, U1, U2, z4⟩ => Val.blk 37 _ rfl 0 32 (by kernel_rfl) b9 _ Try.underlying37 rfl (by kernel_rfl) (by (try simp only [nn_len, List.length_cons, List.length_nil, List.length_set, List.length_replicate]); try omega) _ (seg_all' _ (by (try simp only [nn_len, List.length_cons, List.length_nil, List.length_set, List.length_replicate]); try omega))) ⟨BL, b5, b6, b7, b8, b9, b19, b15, U1, U2, by omega⟩ ?_
        simp only [List.set_cons_zero, List.set_cons_succ]
        refine zv 18 39 (.bool (decide (db = dd))) (fun _ ⟨BL, b5, b6, b7, b8, b9, b19, b15, U1, U2, z4⟩ => Val.eqA .eql 37 _ (.tmp 37) (.tmp 38) rfl Try.underlying37 Try.underlying5 (by kernel_rfl) (by kernel_rfl) (nn (db)) (nn (dd)) (by kernel_rfl) (by kernel_rfl) (by rw [nn_len]; exact hb) (by rw [nn_len]; exact hd) (.inl rfl) _ (eql_nn _ _)) ⟨BL, b5, b6, b7, b8, b9, b19, b15, U1, U2, by omega⟩ ?_
        simp only [List.set_cons_zero, List.set_cons_succ]
        refine zv 19 40 (.bool (decide (db = dd))) (fun _ _ => .of) ⟨BL, b5, b6, b7, b8, b9, b19, b15, U1, U2, by omega⟩ ?_
        simp only [List.set_cons_zero, List.set_cons_succ]
        refine zv 20 41 (.bool true) (fun _ ⟨BL, b5, b6, b7, b8, b9, b19, b15, U1, U2, z4⟩ => Val.bools .eql 4 _ (.tmp 32) (.tmp 40) rfl Try.underlying4 s (decide (db = dd)) (by kernel_rfl) (by kernel_rfl) (.inl rfl) true (by rw [hs]; simp [g37])) ⟨BL, b5, b6, b7, b8, b9, b19, b15, U1, U2, by omega⟩ ?_
        simp only [List.set_cons_zero, List.set_cons_succ]
        refine zv 21 42 (.bool true) (fun _ _ => .of) ⟨BL, b5, b6, b7, b8, b9, b19, b15, U1, U2, by omega⟩ ?_
        simp only [List.set_cons_zero, List.set_cons_succ]
        refine zv 22 43 (.bool true) (fun _ _ => .of) ⟨BL, b5, b6, b7, b8, b9, b19, b15, U1, U2, by omega⟩ ?_
        simp only [List.set_cons_zero, List.set_cons_succ]
        refine zv 23 44 (.agg (cellsOf .u8 (nn (da)))) (fun _ ⟨BL, b5, b6, b7, b8, b9, b19, b15, U1, U2, z4⟩ => Val.blk 37 _ rfl 0 32 (by kernel_rfl) b6 _ Try.underlying37 rfl (by kernel_rfl) (by (try simp only [nn_len, List.length_cons, List.length_nil, List.length_set, List.length_replicate]); try omega) _ (seg_all' _ (by (try simp only [nn_len, List.length_cons, List.length_nil, List.length_set, List.length_replicate]); try omega))) ⟨BL, b5, b6, b7, b8, b9, b19, b15, U1, U2, by omega⟩ ?_
        simp only [List.set_cons_zero, List.set_cons_succ]
        refine zv 24 45 (.agg (cellsOf .u8 (nn (dc)))) (fun _ ⟨BL, b5, b6, b7, b8, b9, b19, b15, U1, U2, z4⟩ => Val.blk 37 _ rfl 0 32 (by kernel_rfl) b8 _ Try.underlying37 rfl (by kernel_rfl) (by (try simp only [nn_len, List.length_cons, List.length_nil, List.length_set, List.length_replicate]); try omega) _ (seg_all' _ (by (try simp only [nn_len, List.length_cons, List.length_nil, List.length_set, List.length_replicate]); try omega))) ⟨BL, b5, b6, b7, b8, b9, b19, b15, U1, U2, by omega⟩ ?_
        simp only [List.set_cons_zero, List.set_cons_succ]
        refine zv 25 46 (.bool false) (fun _ ⟨BL, b5, b6, b7, b8, b9, b19, b15, U1, U2, z4⟩ => Val.eqA .neq 37 _ (.tmp 44) (.tmp 45) rfl Try.underlying37 Try.underlying5 (by kernel_rfl) (by kernel_rfl) (nn (da)) (nn (dc)) (by kernel_rfl) (by kernel_rfl) (by rw [nn_len]; exact ha) (by rw [nn_len]; exact hc) (.inr rfl) _ (by rw [neq_nn]; simp [g37])) ⟨BL, b5, b6, b7, b8, b9, b19, b15, U1, U2, by omega⟩ ?_
        simp only [List.set_cons_zero, List.set_cons_succ]
        refine zv 26 47 (.bool false) (fun _ _ => .of) ⟨BL, b5, b6, b7, b8, b9, b19, b15, U1, U2, by omega⟩ ?_
        simp only [List.set_cons_zero, List.set_cons_succ]
        refine zv 27 48 (.agg (cellsOf .u8 (nn (db)))) (fun _ ⟨BL, b5, b6, b7, b8, b9, b19, b15, U1, U2, z4⟩ => Val.blk 37 _ rfl 0 32 (by kernel_rfl) b7 _ Try.underlying37 rfl (by kernel_rfl) (by (try simp only [nn_len, List.length_cons, List.length_nil, List.length_set, List.length_replicate]); try omega) _ (seg_all' _ (by (try simp only [nn_len, List.length_cons, List.length_nil, List.length_set, List.length_replicate]); try omega))) ⟨BL, b5, b6, b7, b8, b9, b19, b15, U1, U2, by omega⟩ ?_
        simp only [List.set_cons_zero, List.set_cons_succ]
        refine zv 28 49 (.agg (cellsOf .u8 (nn (dd)))) (fun _ ⟨BL, b5, b6, b7, b8, b9, b19, b15, U1, U2, z4⟩ => Val.blk 37 _ rfl 0 32 (by kernel_rfl) b9 _ Try.underlying37 rfl (by kernel_rfl) (by (try simp only [nn_len, List.length_cons, List.length_nil, List.length_set, List.length_replicate]); try omega) _ (seg_all' _ (by (try simp only [nn_len, List.length_cons, List.length_nil, List.length_set, List.length_replicate]); try omega))) ⟨BL, b5, b6, b7, b8, b9, b19, b15, U1, U2, by omega⟩ ?_
        simp only [List.set_cons_zero, List.set_cons_succ]
        refine zv 29 50 (.bool (decide (¬ db = dd))) (fun _ ⟨BL, b5, b6, b7, b8, b9, b19, b15, U1, U2, z4⟩ => Val.eqA .neq 37 _ (.tmp 48) (.tmp 49) rfl Try.underlying37 Try.underlying5 (by kernel_rfl) (by kernel_rfl) (nn (db)) (nn (dd)) (by kernel_rfl) (by kernel_rfl) (by rw [nn_len]; exact hb) (by rw [nn_len]; exact hd) (.inr rfl) _ (neq_nn _ _)) ⟨BL, b5, b6, b7, b8, b9, b19, b15, U1, U2, by omega⟩ ?_
        simp only [List.set_cons_zero, List.set_cons_succ]
        refine zv 30 51 (.bool (decide (¬ db = dd))) (fun _ _ => .of) ⟨BL, b5, b6, b7, b8, b9, b19, b15, U1, U2, by omega⟩ ?_
        simp only [List.set_cons_zero, List.set_cons_succ]
        refine zv 31 52 (.bool (decide (¬ db = dd))) (fun _ _ => .of) ⟨BL, b5, b6, b7, b8, b9, b19, b15, U1, U2, by omega⟩ ?_
        simp only [List.set_cons_zero, List.set_cons_succ]
        by_cases g53 : ¬ db = dd
        · skip
          have dg53 : decide (¬ db = dd) = true := decide_eq_true g53
          simp only [dg53]
          clear dg53
          refine zs 32 53 ⟨BL, b5, b6, b7, b8, b9, b19, b15, U1, U2, by omega⟩ ?_
          simp only [List.set_cons_zero, List.set_cons_succ]
          refine zs 33 54 ⟨BL, b5, b6, b7, b8, b9, b19, b15, U1, U2, by omega⟩ ?_
          simp only [List.set_cons_zero, List.set_cons_succ]
          refine zs 34 55 ⟨BL, b5, b6, b7, b8, b9, b19, b15, U1, U2, by omega⟩ ?_
          simp only [List.set_cons_zero, List.set_cons_succ]
          refine zs 35 56 ⟨BL, b5, b6, b7, b8, b9, b19, b15, U1, U2, by omega⟩ ?_
          simp only [List.set_cons_zero, List.set_cons_succ]
          refine zs 36 57 ⟨BL, b5, b6, b7, b8, b9, b19, b15, U1, U2, by omega⟩ ?_
          simp only [List.set_cons_zero, List.set_cons_succ]
          refine zs 37 58 ⟨BL, b5, b6, b7, b8, b9, b19, b15, U1, U2, by omega⟩ ?_
          simp only [List.set_cons_zero, List.set_cons_succ]
          refine zs 38 59 ⟨BL, b5, b6, b7, b8, b9, b19, b15, U1, U2, by omega⟩ ?_
          simp only [List.set_cons_zero, List.set_cons_succ]
          refine zv 39 60 (.bool true) (fun _ _ => .of) ⟨BL, b5, b6, b7, b8, b9, b19, b15, U1, U2, by omega⟩ ?_
          simp only [List.set_cons_zero, List.set_cons_succ]
          refine zv 40 61 (.bool true) (fun _ _ => .of) ⟨BL, b5, b6, b7, b8, b9, b19, b15, U1, U2, by omega⟩ ?_
          simp only [List.set_cons_zero, List.set_cons_succ]
          refine zv 41 62 (.bool true) (fun _ _ => .of) ⟨BL, b5, b6, b7, b8, b9, b19, b15, U1, U2, by omega⟩ ?_
          simp only [List.set_cons_zero, List.set_cons_succ]
          refine zo1 42 rfl ?_
          refine xCall 63 41 #[] (by kernel_rfl) ?_
          refine (awake10 w59).mono ?_
          rintro en w61 ⟨rfl, hb1⟩
          have e41 := belE0 hb1
          have ze41 := e41.size
          replace BL := BL.e0 e41
          replace b5 := b5.e0 e41
          replace b6 := b6.e0 e41
          replace b7 := b7.e0 e41
          replace b8 := b8.e0 e41
          replace b9 := b9.e0 e41
          replace b19 := b19.e0 e41
          replace b15 := b15.e0 e41
          replace U1 := U1.e0 e41
          replace U2 := U2.e0 e41
          replace b26 := b26.e0 e41
          clear e41
          refine ⟨.bool true, rfl, ?_⟩
          refine ze 42 ⟨BL, b5, b6, b7, b8, b9, b19, b15, U1, U2, by omega⟩ ?_
          simp only [List.set_cons_zero, List.set_cons_succ]
          refine zv 43 64 (.bool true) (fun _ _ => .of) ⟨BL, b5, b6, b7, b8, b9, b19, b15, U1, U2, by omega⟩ ?_
          simp only [List.set_cons_zero, List.set_cons_succ]
          refine zv 44 10 (.bool true) (fun _ _ => .of) ⟨BL, b5, b6, b7, b8, b9, b19, b15, U1, U2, by omega⟩ ?_
          simp only [List.set_cons_zero, List.set_cons_succ]
          refine zd (by kernel_rfl) ?_ _
          refine hK5 _ _ ?_
          refine wp_ret ?_
          (try simp only [Exit.then, Exit.inBlock])
          refine bodyPost_ret (v := .bool true) rT rfl ?_
          exact ⟨rfl, BL.b⟩
        · skip
          have dg53 : decide (¬ db = dd) = false := decide_eq_false g53
          simp only [dg53]
          clear dg53
          refine zv 32 53 (.agg (cellsOf .u8 (nn (da)))) (fun _ ⟨BL, b5, b6, b7, b8, b9, b19, b15, U1, U2, z4⟩ => Val.blk 37 _ rfl 0 32 (by kernel_rfl) b6 _ Try.underlying37 rfl (by kernel_rfl) (by (try simp only [nn_len, List.length_cons, List.length_nil, List.length_set, List.length_replicate]); try omega) _ (seg_all' _ (by (try simp only [nn_len, List.length_cons, List.length_nil, List.length_set, List.length_replicate]); try omega))) ⟨BL, b5, b6, b7, b8, b9, b19, b15, U1, U2, by omega⟩ ?_
          simp only [List.set_cons_zero, List.set_cons_succ]
          refine zv 33 54 (.agg (cellsOf .u8 (nn (db)))) (fun _ ⟨BL, b5, b6, b7, b8, b9, b19, b15, U1, U2, z4⟩ => Val.blk 37 _ rfl 0 32 (by kernel_rfl) b7 _ Try.underlying37 rfl (by kernel_rfl) (by (try simp only [nn_len, List.length_cons, List.length_nil, List.length_set, List.length_replicate]); try omega) _ (seg_all' _ (by (try simp only [nn_len, List.length_cons, List.length_nil, List.length_set, List.length_replicate]); try omega))) ⟨BL, b5, b6, b7, b8, b9, b19, b15, U1, U2, by omega⟩ ?_
          simp only [List.set_cons_zero, List.set_cons_succ]
          refine zv 35 56 (.agg (cellsOf .u8 (nn (dc)))) (fun _ ⟨BL, b5, b6, b7, b8, b9, b19, b15, U1, U2, z4⟩ => Val.blk 37 _ rfl 0 32 (by kernel_rfl) b8 _ Try.underlying37 rfl (by kernel_rfl) (by (try simp only [nn_len, List.length_cons, List.length_nil, List.length_set, List.length_replicate]); try omega) _ (seg_all' _ (by (try simp only [nn_len, List.length_cons, List.length_nil, List.length_set, List.length_replicate]); try omega))) ⟨BL, b5, b6, b7, b8, b9, b19, b15, U1, U2, by omega⟩ ?_
          simp only [List.set_cons_zero, List.set_cons_succ]
          refine zv 36 57 (.agg (cellsOf .u8 (nn (dd)))) (fun _ ⟨BL, b5, b6, b7, b8, b9, b19, b15, U1, U2, z4⟩ => Val.blk 37 _ rfl 0 32 (by kernel_rfl) b9 _ Try.underlying37 rfl (by kernel_rfl) (by (try simp only [nn_len, List.length_cons, List.length_nil, List.length_set, List.length_replicate]); try omega) _ (seg_all' _ (by (try simp only [nn_len, List.length_cons, List.length_nil, List.length_set, List.length_replicate]); try omega))) ⟨BL, b5, b6, b7, b8, b9, b19, b15, U1, U2, by omega⟩ ?_
          simp only [List.set_cons_zero, List.set_cons_succ]
          refine zo1 34 rfl ?_
          refine xCall 55 40 #[.pointer (some ⟨w.heap.size, 0, none⟩), .agg (cellsOf .u8 (nn (da))), .agg (cellsOf .u8 (nn (db)))] (by kernel_rfl) ?_
          refine (mnode_any w.heap.size tab ht w59 b5 da db ha hb).mono ?_
          rintro en w62 ⟨rfl, hb1⟩
          have e42 := belE0 hb1
          have ze42 := e42.size
          replace BL := BL.e0 e42
          replace b5 := b5.e0 e42
          replace b6 := b6.e0 e42
          replace b7 := b7.e0 e42
          replace b8 := b8.e0 e42
          replace b9 := b9.e0 e42
          replace b19 := b19.e0 e42
          replace b15 := b15.e0 e42
          replace U1 := U1.e0 e42
          replace U2 := U2.e0 e42
          replace b26 := b26.e0 e42
          clear e42
          refine ⟨.agg (cellsOf .u8 (nn (mnode tab da db))), rfl, ?_⟩
          refine ze 34 ⟨BL, b5, b6, b7, b8, b9, b19, b15, U1, U2, by omega⟩ ?_
          simp only [List.set_cons_zero, List.set_cons_succ]
          refine zo1 37 rfl ?_
          refine xCall 58 40 #[.pointer (some ⟨w.heap.size, 0, none⟩), .agg (cellsOf .u8 (nn (dc))), .agg (cellsOf .u8 (nn (dd)))] (by kernel_rfl) ?_
          refine (mnode_any w.heap.size tab ht w62 b5 dc dd hc hd).mono ?_
          rintro en w63 ⟨rfl, hb1⟩
          have e43 := belE0 hb1
          have ze43 := e43.size
          replace BL := BL.e0 e43
          replace b5 := b5.e0 e43
          replace b6 := b6.e0 e43
          replace b7 := b7.e0 e43
          replace b8 := b8.e0 e43
          replace b9 := b9.e0 e43
          replace b19 := b19.e0 e43
          replace b15 := b15.e0 e43
          replace U1 := U1.e0 e43
          replace U2 := U2.e0 e43
          replace b26 := b26.e0 e43
          clear e43
          refine ⟨.agg (cellsOf .u8 (nn (mnode tab dc dd))), rfl, ?_⟩
          refine ze 37 ⟨BL, b5, b6, b7, b8, b9, b19, b15, U1, U2, by omega⟩ ?_
          simp only [List.set_cons_zero, List.set_cons_succ]
          refine zv 38 59 (.bool true) (fun _ ⟨BL, b5, b6, b7, b8, b9, b19, b15, U1, U2, z4⟩ => Val.eqA .eql 37 _ (.tmp 55) (.tmp 58) rfl Try.underlying37 Try.underlying5 (by kernel_rfl) (by kernel_rfl) (nn (mnode tab da db)) (nn (mnode tab dc dd)) (by kernel_rfl) (by kernel_rfl) (by rw [nn_len]; exact (mnode_len _ _ _)) (by rw [nn_len]; exact (mnode_len _ _ _)) (.inl rfl) _ (by rw [eql_nn]; exact decide_eq_true (by rw [g37, Classical.not_not.1 g53]))) ⟨BL, b5, b6, b7, b8, b9, b19, b15, U1, U2, by omega⟩ ?_
          simp only [List.set_cons_zero, List.set_cons_succ]
          refine zv 39 60 (.bool true) (fun _ _ => .of) ⟨BL, b5, b6, b7, b8, b9, b19, b15, U1, U2, by omega⟩ ?_
          simp only [List.set_cons_zero, List.set_cons_succ]
          refine zv 40 61 (.bool true) (fun _ _ => .of) ⟨BL, b5, b6, b7, b8, b9, b19, b15, U1, U2, by omega⟩ ?_
          simp only [List.set_cons_zero, List.set_cons_succ]
          refine zv 41 62 (.bool true) (fun _ _ => .of) ⟨BL, b5, b6, b7, b8, b9, b19, b15, U1, U2, by omega⟩ ?_
          simp only [List.set_cons_zero, List.set_cons_succ]
          refine zo1 42 rfl ?_
          refine xCall 63 41 #[] (by kernel_rfl) ?_
          refine (awake10 w63).mono ?_
          rintro en w64 ⟨rfl, hb1⟩
          have e44 := belE0 hb1
          have ze44 := e44.size
          replace BL := BL.e0 e44
          replace b5 := b5.e0 e44
          replace b6 := b6.e0 e44
          replace b7 := b7.e0 e44
          replace b8 := b8.e0 e44
          replace b9 := b9.e0 e44
          replace b19 := b19.e0 e44
          replace b15 := b15.e0 e44
          replace U1 := U1.e0 e44
          replace U2 := U2.e0 e44
          replace b26 := b26.e0 e44
          clear e44
          refine ⟨.bool true, rfl, ?_⟩
          refine ze 42 ⟨BL, b5, b6, b7, b8, b9, b19, b15, U1, U2, by omega⟩ ?_
          simp only [List.set_cons_zero, List.set_cons_succ]
          refine zv 43 64 (.bool true) (fun _ _ => .of) ⟨BL, b5, b6, b7, b8, b9, b19, b15, U1, U2, by omega⟩ ?_
          simp only [List.set_cons_zero, List.set_cons_succ]
          refine zv 44 10 (.bool true) (fun _ _ => .of) ⟨BL, b5, b6, b7, b8, b9, b19, b15, U1, U2, by omega⟩ ?_
          simp only [List.set_cons_zero, List.set_cons_succ]
          refine zd (by kernel_rfl) ?_ _
          refine hK5 _ _ ?_
          refine wp_ret ?_
          (try simp only [Exit.then, Exit.inBlock])
          refine bodyPost_ret (v := .bool true) rT rfl ?_
          exact ⟨rfl, BL.b⟩
      · skip
        have dg37 : decide (da = dc) = false := decide_eq_false g37
        simp only [dg37]
        clear dg37
        refine zs 16 37 ⟨BL, b5, b6, b7, b8, b9, b19, b15, U1, U2, by omega⟩ ?_
        simp only [List.set_cons_zero, List.set_cons_succ]
        refine zs 17 38 ⟨BL, b5, b6, b7, b8, b9, b19, b15, U1, U2, by omega⟩ ?_
        simp only [List.set_cons_zero, List.set_cons_succ]
        refine zs 18 39 ⟨BL, b5, b6, b7, b8, b9, b19, b15, U1, U2, by omega⟩ ?_
        simp only [List.set_cons_zero, List.set_cons_succ]
        refine zv 19 40 (.bool false) (fun _ _ => .of) ⟨BL, b5, b6, b7, b8, b9, b19, b15, U1, U2, by omega⟩ ?_
        simp only [List.set_cons_zero, List.set_cons_succ]
        refine zv 20 41 (.bool true) (fun _ ⟨BL, b5, b6, b7, b8, b9, b19, b15, U1, U2, z4⟩ => Val.bools .eql 4 _ (.tmp 32) (.tmp 40) rfl Try.underlying4 s false (by kernel_rfl) (by kernel_rfl) (.inl rfl) true (by rw [hs]; simp [g37])) ⟨BL, b5, b6, b7, b8, b9, b19, b15, U1, U2, by omega⟩ ?_
        simp only [List.set_cons_zero, List.set_cons_succ]
        refine zv 21 42 (.bool true) (fun _ _ => .of) ⟨BL, b5, b6, b7, b8, b9, b19, b15, U1, U2, by omega⟩ ?_
        simp only [List.set_cons_zero, List.set_cons_succ]
        refine zv 22 43 (.bool true) (fun _ _ => .of) ⟨BL, b5, b6, b7, b8, b9, b19, b15, U1, U2, by omega⟩ ?_
        simp only [List.set_cons_zero, List.set_cons_succ]
        refine zv 23 44 (.agg (cellsOf .u8 (nn (da)))) (fun _ ⟨BL, b5, b6, b7, b8, b9, b19, b15, U1, U2, z4⟩ => Val.blk 37 _ rfl 0 32 (by kernel_rfl) b6 _ Try.underlying37 rfl (by kernel_rfl) (by (try simp only [nn_len, List.length_cons, List.length_nil, List.length_set, List.length_replicate]); try omega) _ (seg_all' _ (by (try simp only [nn_len, List.length_cons, List.length_nil, List.length_set, List.length_replicate]); try omega))) ⟨BL, b5, b6, b7, b8, b9, b19, b15, U1, U2, by omega⟩ ?_
        simp only [List.set_cons_zero, List.set_cons_succ]
        refine zv 24 45 (.agg (cellsOf .u8 (nn (dc)))) (fun _ ⟨BL, b5, b6, b7, b8, b9, b19, b15, U1, U2, z4⟩ => Val.blk 37 _ rfl 0 32 (by kernel_rfl) b8 _ Try.underlying37 rfl (by kernel_rfl) (by (try simp only [nn_len, List.length_cons, List.length_nil, List.length_set, List.length_replicate]); try omega) _ (seg_all' _ (by (try simp only [nn_len, List.length_cons, List.length_nil, List.length_set, List.length_replicate]); try omega))) ⟨BL, b5, b6, b7, b8, b9, b19, b15, U1, U2, by omega⟩ ?_
        simp only [List.set_cons_zero, List.set_cons_succ]
        refine zv 25 46 (.bool true) (fun _ ⟨BL, b5, b6, b7, b8, b9, b19, b15, U1, U2, z4⟩ => Val.eqA .neq 37 _ (.tmp 44) (.tmp 45) rfl Try.underlying37 Try.underlying5 (by kernel_rfl) (by kernel_rfl) (nn (da)) (nn (dc)) (by kernel_rfl) (by kernel_rfl) (by rw [nn_len]; exact ha) (by rw [nn_len]; exact hc) (.inr rfl) _ (by rw [neq_nn]; simp [g37])) ⟨BL, b5, b6, b7, b8, b9, b19, b15, U1, U2, by omega⟩ ?_
        simp only [List.set_cons_zero, List.set_cons_succ]
        refine zv 26 47 (.bool true) (fun _ _ => .of) ⟨BL, b5, b6, b7, b8, b9, b19, b15, U1, U2, by omega⟩ ?_
        simp only [List.set_cons_zero, List.set_cons_succ]
        refine zs 27 48 ⟨BL, b5, b6, b7, b8, b9, b19, b15, U1, U2, by omega⟩ ?_
        simp only [List.set_cons_zero, List.set_cons_succ]
        refine zs 28 49 ⟨BL, b5, b6, b7, b8, b9, b19, b15, U1, U2, by omega⟩ ?_
        simp only [List.set_cons_zero, List.set_cons_succ]
        refine zs 29 50 ⟨BL, b5, b6, b7, b8, b9, b19, b15, U1, U2, by omega⟩ ?_
        simp only [List.set_cons_zero, List.set_cons_succ]
        refine zv 30 51 (.bool true) (fun _ _ => .of) ⟨BL, b5, b6, b7, b8, b9, b19, b15, U1, U2, by omega⟩ ?_
        simp only [List.set_cons_zero, List.set_cons_succ]
        refine zv 31 52 (.bool true) (fun _ _ => .of) ⟨BL, b5, b6, b7, b8, b9, b19, b15, U1, U2, by omega⟩ ?_
        simp only [List.set_cons_zero, List.set_cons_succ]
        refine zs 32 53 ⟨BL, b5, b6, b7, b8, b9, b19, b15, U1, U2, by omega⟩ ?_
        simp only [List.set_cons_zero, List.set_cons_succ]
        refine zs 33 54 ⟨BL, b5, b6, b7, b8, b9, b19, b15, U1, U2, by omega⟩ ?_
        simp only [List.set_cons_zero, List.set_cons_succ]
        refine zs 34 55 ⟨BL, b5, b6, b7, b8, b9, b19, b15, U1, U2, by omega⟩ ?_
        simp only [List.set_cons_zero, List.set_cons_succ]
        refine zs 35 56 ⟨BL, b5, b6, b7, b8, b9, b19, b15, U1, U2, by omega⟩ ?_
        simp only [List.set_cons_zero, List.set_cons_succ]
        refine zs 36 57 ⟨BL, b5, b6, b7, b8, b9, b19, b15, U1, U2, by omega⟩ ?_
        simp only [List.set_cons_zero, List.set_cons_succ]
        refine zs 37 58 ⟨BL, b5, b6, b7, b8, b9, b19, b15, U1, U2, by omega⟩ ?_
        simp only [List.set_cons_zero, List.set_cons_succ]
        refine zs 38 59 ⟨BL, b5, b6, b7, b8, b9, b19, b15, U1, U2, by omega⟩ ?_
        simp only [List.set_cons_zero, List.set_cons_succ]
        refine zv 39 60 (.bool true) (fun _ _ => .of) ⟨BL, b5, b6, b7, b8, b9, b19, b15, U1, U2, by omega⟩ ?_
        simp only [List.set_cons_zero, List.set_cons_succ]
        refine zv 40 61 (.bool true) (fun _ _ => .of) ⟨BL, b5, b6, b7, b8, b9, b19, b15, U1, U2, by omega⟩ ?_
        simp only [List.set_cons_zero, List.set_cons_succ]
        refine zv 41 62 (.bool true) (fun _ _ => .of) ⟨BL, b5, b6, b7, b8, b9, b19, b15, U1, U2, by omega⟩ ?_
        simp only [List.set_cons_zero, List.set_cons_succ]
        refine zo1 42 rfl ?_
        refine xCall 63 41 #[] (by kernel_rfl) ?_
        refine (awake10 w59).mono ?_
        rintro en w65 ⟨rfl, hb1⟩
        have e45 := belE0 hb1
        have ze45 := e45.size
        replace BL := BL.e0 e45
        replace b5 := b5.e0 e45
        replace b6 := b6.e0 e45
        replace b7 := b7.e0 e45
        replace b8 := b8.e0 e45
        replace b9 := b9.e0 e45
        replace b19 := b19.e0 e45
        replace b15 := b15.e0 e45
        replace U1 := U1.e0 e45
        replace U2 := U2.e0 e45
        replace b26 := b26.e0 e45
        clear e45
        refine ⟨.bool true, rfl, ?_⟩
        refine ze 42 ⟨BL, b5, b6, b7, b8, b9, b19, b15, U1, U2, by omega⟩ ?_
        simp only [List.set_cons_zero, List.set_cons_succ]
        refine zv 43 64 (.bool true) (fun _ _ => .of) ⟨BL, b5, b6, b7, b8, b9, b19, b15, U1, U2, by omega⟩ ?_
        simp only [List.set_cons_zero, List.set_cons_succ]
        refine zv 44 10 (.bool true) (fun _ _ => .of) ⟨BL, b5, b6, b7, b8, b9, b19, b15, U1, U2, by omega⟩ ?_
        simp only [List.set_cons_zero, List.set_cons_succ]
        refine zd (by kernel_rfl) ?_ _
        refine hK5 _ _ ?_
        refine wp_ret ?_
        (try simp only [Exit.then, Exit.inBlock])
        refine bodyPost_ret (v := .bool true) rT rfl ?_
        exact ⟨rfl, BL.b⟩
    · skip
      refine xLit 26 124 30 2 _ #[(0, .slice (some ⟨w1.heap.size, 0, none⟩) 32 32), (1, .slice (some ⟨w2.heap.size, 0, none⟩) 32 32)] [.slice (some ⟨w1.heap.size, 0, none⟩) 32 32, .slice (some ⟨w2.heap.size, 0, none⟩) 32 32] rfl (by kernel_rfl) (by kernel_rfl) ?_
      intro w66 n16
      have zn16 := n16.z
      have b26 := n16.c
      replace BL := BL.e0 n16.e
      replace b5 := b5.e0 n16.e
      replace b6 := b6.e0 n16.e
      replace b7 := b7.e0 n16.e
      replace b8 := b8.e0 n16.e
      replace b9 := b9.e0 n16.e
      replace b19 := b19.e0 n16.e
      replace b15 := b15.e0 n16.e
      replace U1 := U1.e0 n16.e
      replace U2 := U2.e0 n16.e
      refine ze 5 ⟨BL, b5, b6, b7, b8, b9, b19, b15, U1, U2, by omega⟩ ?_
      simp only [List.set_cons_zero, List.set_cons_succ]
      refine zo1 2 rfl ?_
      refine xCall 23 40 #[.pointer (some ⟨w.heap.size, 0, none⟩), .agg (cellsOf .u8 (nn (da))), .agg (cellsOf .u8 (nn (db)))] (by kernel_rfl) ?_
      refine (mnode_any w.heap.size tab ht w66 b5 da db ha hb).mono ?_
      rintro en w67 ⟨rfl, hb1⟩
      have e46 := belE0 hb1
      have ze46 := e46.size
      replace BL := BL.e0 e46
      replace b5 := b5.e0 e46
      replace b6 := b6.e0 e46
      replace b7 := b7.e0 e46
      replace b8 := b8.e0 e46
      replace b9 := b9.e0 e46
      replace b19 := b19.e0 e46
      replace b15 := b15.e0 e46
      replace U1 := U1.e0 e46
      replace U2 := U2.e0 e46
      replace b26 := b26.e0 e46
      clear e46
      refine ⟨.agg (cellsOf .u8 (nn (mnode tab da db))), rfl, ?_⟩
      refine ze 2 ⟨BL, b5, b6, b7, b8, b9, b19, b15, U1, U2, by omega⟩ ?_
      simp only [List.set_cons_zero, List.set_cons_succ]
      refine zo1 6 rfl ?_
      refine xCall 27 27 #[.pointer (some ⟨w.heap.size, 0, none⟩), .int .u8 4, .slice (some ⟨w56.heap.size, 0, none⟩) 2 2] (by kernel_rfl) ?_
      refine (tagged_any w.heap.size tab ht w67 b5 4 _ [.slice (some ⟨w1.heap.size, 0, none⟩) 32 32, .slice (some ⟨w2.heap.size, 0, none⟩) 32 32] [da, db] (SV.ofCelM (n := 2) b26 rfl (by unfold maxLen; omega)) (SLs.two (SL.ofBlk b6 (by rw [nn_len]; exact ha) (by unfold maxLen; omega)) (fun g hg => by have := ownB_lit (lo := 0) (hi := w67.heap.size) (by omega) g hg; omega) (SL.ofBlk b7 (by rw [nn_len]; exact hb) (by unfold maxLen; omega)) (fun g hg => by have := ownB_lit (lo := 0) (hi := w67.heap.size) (by omega) g hg; omega)) (by simp only [List.length_cons, List.length_nil] at hbs1; omega) (by simp)).mono ?_
      rintro en w68 ⟨he, hb1⟩
      rw [show taggedN tab 4 [da, db] = mnode tab da db by unfold mnode; rfl] at he
      subst he
      have e47 := belE0 hb1
      have ze47 := e47.size
      replace BL := BL.e0 e47
      replace b5 := b5.e0 e47
      replace b6 := b6.e0 e47
      replace b7 := b7.e0 e47
      replace b8 := b8.e0 e47
      replace b9 := b9.e0 e47
      replace b19 := b19.e0 e47
      replace b15 := b15.e0 e47
      replace U1 := U1.e0 e47
      replace U2 := U2.e0 e47
      replace b26 := b26.e0 e47
      clear e47
      refine ⟨.agg (cellsOf .u8 (nn (mnode tab da db))), rfl, ?_⟩
      refine ze 6 ⟨BL, b5, b6, b7, b8, b9, b19, b15, U1, U2, by omega⟩ ?_
      simp only [List.set_cons_zero, List.set_cons_succ]
      refine zv 7 28 (.bool true) (fun _ ⟨BL, b5, b6, b7, b8, b9, b19, b15, U1, U2, z4⟩ => Val.eqA .eql 37 _ (.tmp 23) (.tmp 27) rfl Try.underlying37 Try.underlying5 (by kernel_rfl) (by kernel_rfl) (nn (mnode tab da db)) (nn (mnode tab da db)) (by kernel_rfl) (by kernel_rfl) (by rw [nn_len]; exact (mnode_len _ _ _)) (by rw [nn_len]; exact (mnode_len _ _ _)) (.inl rfl) _ (by simp)) ⟨BL, b5, b6, b7, b8, b9, b19, b15, U1, U2, by omega⟩ ?_
      simp only [List.set_cons_zero, List.set_cons_succ]
      refine zv 8 29 (.bool true) (fun _ _ => .of) ⟨BL, b5, b6, b7, b8, b9, b19, b15, U1, U2, by omega⟩ ?_
      simp only [List.set_cons_zero, List.set_cons_succ]
      refine zv 9 30 (u1) (fun _ _ => .of) ⟨BL, b5, b6, b7, b8, b9, b19, b15, U1, U2, by omega⟩ ?_
      simp only [List.set_cons_zero, List.set_cons_succ]
      refine zv 10 31 (u2) (fun _ _ => .of) ⟨BL, b5, b6, b7, b8, b9, b19, b15, U1, U2, by omega⟩ ?_
      simp only [List.set_cons_zero, List.set_cons_succ]
      refine zv 12 33 (.agg (cellsOf .u8 (nn (da)))) (fun _ ⟨BL, b5, b6, b7, b8, b9, b19, b15, U1, U2, z4⟩ => Val.blk 37 _ rfl 0 32 (by kernel_rfl) b6 _ Try.underlying37 rfl (by kernel_rfl) (by (try simp only [nn_len, List.length_cons, List.length_nil, List.length_set, List.length_replicate]); try omega) _ (seg_all' _ (by (try simp only [nn_len, List.length_cons, List.length_nil, List.length_set, List.length_replicate]); try omega))) ⟨BL, b5, b6, b7, b8, b9, b19, b15, U1, U2, by omega⟩ ?_
      simp only [List.set_cons_zero, List.set_cons_succ]
      refine zv 13 34 (.agg (cellsOf .u8 (nn (dc)))) (fun _ ⟨BL, b5, b6, b7, b8, b9, b19, b15, U1, U2, z4⟩ => Val.blk 37 _ rfl 0 32 (by kernel_rfl) b8 _ Try.underlying37 rfl (by kernel_rfl) (by (try simp only [nn_len, List.length_cons, List.length_nil, List.length_set, List.length_replicate]); try omega) _ (seg_all' _ (by (try simp only [nn_len, List.length_cons, List.length_nil, List.length_set, List.length_replicate]); try omega))) ⟨BL, b5, b6, b7, b8, b9, b19, b15, U1, U2, by omega⟩ ?_
      simp only [List.set_cons_zero, List.set_cons_succ]
      refine zv 14 35 (.bool (decide (da = dc))) (fun _ ⟨BL, b5, b6, b7, b8, b9, b19, b15, U1, U2, z4⟩ => Val.eqA .eql 37 _ (.tmp 33) (.tmp 34) rfl Try.underlying37 Try.underlying5 (by kernel_rfl) (by kernel_rfl) (nn (da)) (nn (dc)) (by kernel_rfl) (by kernel_rfl) (by rw [nn_len]; exact ha) (by rw [nn_len]; exact hc) (.inl rfl) _ (eql_nn _ _)) ⟨BL, b5, b6, b7, b8, b9, b19, b15, U1, U2, by omega⟩ ?_
      simp only [List.set_cons_zero, List.set_cons_succ]
      refine zo1 11 rfl ?_
      refine xCall 32 28 #[u1, u2] (by kernel_rfl) ?_
      refine (samex_any _ _ (nn (textN 4 [da, db])) (nn (textN 4 [dc, dd])) w68 (.inl U1.sl) (.inl U2.sl) ht1 ht2).mono ?_
      rintro en w69 ⟨he, hw⟩
      rw [same_s ha hb hc hd, ← hs] at he
      subst he
      obtain rfl := (hw.symm).symm
      refine ⟨.bool s, rfl, ?_⟩
      refine ze 11 ⟨BL, b5, b6, b7, b8, b9, b19, b15, U1, U2, by omega⟩ ?_
      simp only [List.set_cons_zero, List.set_cons_succ]
      refine zv 15 36 (.bool (decide (da = dc))) (fun _ _ => .of) ⟨BL, b5, b6, b7, b8, b9, b19, b15, U1, U2, by omega⟩ ?_
      simp only [List.set_cons_zero, List.set_cons_succ]
      by_cases g37 : da = dc
      · skip
        have dg37 : decide (da = dc) = true := decide_eq_true g37
        simp only [dg37]
        clear dg37
        refine zv 16 37 (.agg (cellsOf .u8 (nn (db)))) (fun _ ⟨BL, b5, b6, b7, b8, b9, b19, b15, U1, U2, z4⟩ => Val.blk 37 _ rfl 0 32 (by kernel_rfl) b7 _ Try.underlying37 rfl (by kernel_rfl) (by (try simp only [nn_len, List.length_cons, List.length_nil, List.length_set, List.length_replicate]); try omega) _ (seg_all' _ (by (try simp only [nn_len, List.length_cons, List.length_nil, List.length_set, List.length_replicate]); try omega))) ⟨BL, b5, b6, b7, b8, b9, b19, b15, U1, U2, by omega⟩ ?_
        simp only [List.set_cons_zero, List.set_cons_succ]
        refine zv 17 38 (.agg (cellsOf .u8 (nn (dd)))) (fun _ ⟨BL, b5, b6, b7, b8, b9, b19, b15, U1, U2, z4⟩ => Val.blk 37 _ rfl 0 32 (by kernel_rfl) b9 _ Try.underlying37 rfl (by kernel_rfl) (by (try simp only [nn_len, List.length_cons, List.length_nil, List.length_set, List.length_replicate]); try omega) _ (seg_all' _ (by (try simp only [nn_len, List.length_cons, List.length_nil, List.length_set, List.length_replicate]); try omega))) ⟨BL, b5, b6, b7, b8, b9, b19, b15, U1, U2, by omega⟩ ?_
        simp only [List.set_cons_zero, List.set_cons_succ]
        refine zv 18 39 (.bool (decide (db = dd))) (fun _ ⟨BL, b5, b6, b7, b8, b9, b19, b15, U1, U2, z4⟩ => Val.eqA .eql 37 _ (.tmp 37) (.tmp 38) rfl Try.underlying37 Try.underlying5 (by kernel_rfl) (by kernel_rfl) (nn (db)) (nn (dd)) (by kernel_rfl) (by kernel_rfl) (by rw [nn_len]; exact hb) (by rw [nn_len]; exact hd) (.inl rfl) _ (eql_nn _ _)) ⟨BL, b5, b6, b7, b8, b9, b19, b15, U1, U2, by omega⟩ ?_
        simp only [List.set_cons_zero, List.set_cons_succ]
        refine zv 19 40 (.bool (decide (db = dd))) (fun _ _ => .of) ⟨BL, b5, b6, b7, b8, b9, b19, b15, U1, U2, by omega⟩ ?_
        simp only [List.set_cons_zero, List.set_cons_succ]
        refine zv 20 41 (.bool true) (fun _ ⟨BL, b5, b6, b7, b8, b9, b19, b15, U1, U2, z4⟩ => Val.bools .eql 4 _ (.tmp 32) (.tmp 40) rfl Try.underlying4 s (decide (db = dd)) (by kernel_rfl) (by kernel_rfl) (.inl rfl) true (by rw [hs]; simp [g37])) ⟨BL, b5, b6, b7, b8, b9, b19, b15, U1, U2, by omega⟩ ?_
        simp only [List.set_cons_zero, List.set_cons_succ]
        refine zv 21 42 (.bool true) (fun _ _ => .of) ⟨BL, b5, b6, b7, b8, b9, b19, b15, U1, U2, by omega⟩ ?_
        simp only [List.set_cons_zero, List.set_cons_succ]
        refine zv 22 43 (.bool true) (fun _ _ => .of) ⟨BL, b5, b6, b7, b8, b9, b19, b15, U1, U2, by omega⟩ ?_
        simp only [List.set_cons_zero, List.set_cons_succ]
        refine zv 23 44 (.agg (cellsOf .u8 (nn (da)))) (fun _ ⟨BL, b5, b6, b7, b8, b9, b19, b15, U1, U2, z4⟩ => Val.blk 37 _ rfl 0 32 (by kernel_rfl) b6 _ Try.underlying37 rfl (by kernel_rfl) (by (try simp only [nn_len, List.length_cons, List.length_nil, List.length_set, List.length_replicate]); try omega) _ (seg_all' _ (by (try simp only [nn_len, List.length_cons, List.length_nil, List.length_set, List.length_replicate]); try omega))) ⟨BL, b5, b6, b7, b8, b9, b19, b15, U1, U2, by omega⟩ ?_
        simp only [List.set_cons_zero, List.set_cons_succ]
        refine zv 24 45 (.agg (cellsOf .u8 (nn (dc)))) (fun _ ⟨BL, b5, b6, b7, b8, b9, b19, b15, U1, U2, z4⟩ => Val.blk 37 _ rfl 0 32 (by kernel_rfl) b8 _ Try.underlying37 rfl (by kernel_rfl) (by (try simp only [nn_len, List.length_cons, List.length_nil, List.length_set, List.length_replicate]); try omega) _ (seg_all' _ (by (try simp only [nn_len, List.length_cons, List.length_nil, List.length_set, List.length_replicate]); try omega))) ⟨BL, b5, b6, b7, b8, b9, b19, b15, U1, U2, by omega⟩ ?_
        simp only [List.set_cons_zero, List.set_cons_succ]
        refine zv 25 46 (.bool false) (fun _ ⟨BL, b5, b6, b7, b8, b9, b19, b15, U1, U2, z4⟩ => Val.eqA .neq 37 _ (.tmp 44) (.tmp 45) rfl Try.underlying37 Try.underlying5 (by kernel_rfl) (by kernel_rfl) (nn (da)) (nn (dc)) (by kernel_rfl) (by kernel_rfl) (by rw [nn_len]; exact ha) (by rw [nn_len]; exact hc) (.inr rfl) _ (by rw [neq_nn]; simp [g37])) ⟨BL, b5, b6, b7, b8, b9, b19, b15, U1, U2, by omega⟩ ?_
        simp only [List.set_cons_zero, List.set_cons_succ]
        refine zv 26 47 (.bool false) (fun _ _ => .of) ⟨BL, b5, b6, b7, b8, b9, b19, b15, U1, U2, by omega⟩ ?_
        simp only [List.set_cons_zero, List.set_cons_succ]
        refine zv 27 48 (.agg (cellsOf .u8 (nn (db)))) (fun _ ⟨BL, b5, b6, b7, b8, b9, b19, b15, U1, U2, z4⟩ => Val.blk 37 _ rfl 0 32 (by kernel_rfl) b7 _ Try.underlying37 rfl (by kernel_rfl) (by (try simp only [nn_len, List.length_cons, List.length_nil, List.length_set, List.length_replicate]); try omega) _ (seg_all' _ (by (try simp only [nn_len, List.length_cons, List.length_nil, List.length_set, List.length_replicate]); try omega))) ⟨BL, b5, b6, b7, b8, b9, b19, b15, U1, U2, by omega⟩ ?_
        simp only [List.set_cons_zero, List.set_cons_succ]
        refine zv 28 49 (.agg (cellsOf .u8 (nn (dd)))) (fun _ ⟨BL, b5, b6, b7, b8, b9, b19, b15, U1, U2, z4⟩ => Val.blk 37 _ rfl 0 32 (by kernel_rfl) b9 _ Try.underlying37 rfl (by kernel_rfl) (by (try simp only [nn_len, List.length_cons, List.length_nil, List.length_set, List.length_replicate]); try omega) _ (seg_all' _ (by (try simp only [nn_len, List.length_cons, List.length_nil, List.length_set, List.length_replicate]); try omega))) ⟨BL, b5, b6, b7, b8, b9, b19, b15, U1, U2, by omega⟩ ?_
        simp only [List.set_cons_zero, List.set_cons_succ]
        refine zv 29 50 (.bool (decide (¬ db = dd))) (fun _ ⟨BL, b5, b6, b7, b8, b9, b19, b15, U1, U2, z4⟩ => Val.eqA .neq 37 _ (.tmp 48) (.tmp 49) rfl Try.underlying37 Try.underlying5 (by kernel_rfl) (by kernel_rfl) (nn (db)) (nn (dd)) (by kernel_rfl) (by kernel_rfl) (by rw [nn_len]; exact hb) (by rw [nn_len]; exact hd) (.inr rfl) _ (neq_nn _ _)) ⟨BL, b5, b6, b7, b8, b9, b19, b15, U1, U2, by omega⟩ ?_
        simp only [List.set_cons_zero, List.set_cons_succ]
        refine zv 30 51 (.bool (decide (¬ db = dd))) (fun _ _ => .of) ⟨BL, b5, b6, b7, b8, b9, b19, b15, U1, U2, by omega⟩ ?_
        simp only [List.set_cons_zero, List.set_cons_succ]
        refine zv 31 52 (.bool (decide (¬ db = dd))) (fun _ _ => .of) ⟨BL, b5, b6, b7, b8, b9, b19, b15, U1, U2, by omega⟩ ?_
        simp only [List.set_cons_zero, List.set_cons_succ]
        by_cases g53 : ¬ db = dd
        · skip
          have dg53 : decide (¬ db = dd) = true := decide_eq_true g53
          simp only [dg53]
          clear dg53
          refine zs 32 53 ⟨BL, b5, b6, b7, b8, b9, b19, b15, U1, U2, by omega⟩ ?_
          simp only [List.set_cons_zero, List.set_cons_succ]
          refine zs 33 54 ⟨BL, b5, b6, b7, b8, b9, b19, b15, U1, U2, by omega⟩ ?_
          simp only [List.set_cons_zero, List.set_cons_succ]
          refine zs 34 55 ⟨BL, b5, b6, b7, b8, b9, b19, b15, U1, U2, by omega⟩ ?_
          simp only [List.set_cons_zero, List.set_cons_succ]
          refine zs 35 56 ⟨BL, b5, b6, b7, b8, b9, b19, b15, U1, U2, by omega⟩ ?_
          simp only [List.set_cons_zero, List.set_cons_succ]
          refine zs 36 57 ⟨BL, b5, b6, b7, b8, b9, b19, b15, U1, U2, by omega⟩ ?_
          simp only [List.set_cons_zero, List.set_cons_succ]
          refine zs 37 58 ⟨BL, b5, b6, b7, b8, b9, b19, b15, U1, U2, by omega⟩ ?_
          simp only [List.set_cons_zero, List.set_cons_succ]
          refine zs 38 59 ⟨BL, b5, b6, b7, b8, b9, b19, b15, U1, U2, by omega⟩ ?_
          simp only [List.set_cons_zero, List.set_cons_succ]
          refine zv 39 60 (.bool true) (fun _ _ => .of) ⟨BL, b5, b6, b7, b8, b9, b19, b15, U1, U2, by omega⟩ ?_
          simp only [List.set_cons_zero, List.set_cons_succ]
          refine zv 40 61 (.bool true) (fun _ _ => .of) ⟨BL, b5, b6, b7, b8, b9, b19, b15, U1, U2, by omega⟩ ?_
          simp only [List.set_cons_zero, List.set_cons_succ]
          refine zv 41 62 (.bool true) (fun _ _ => .of) ⟨BL, b5, b6, b7, b8, b9, b19, b15, U1, U2, by omega⟩ ?_
          simp only [List.set_cons_zero, List.set_cons_succ]
          refine zo1 42 rfl ?_
          refine xCall 63 41 #[] (by kernel_rfl) ?_
          refine (awake10 w68).mono ?_
          rintro en w70 ⟨rfl, hb1⟩
          have e48 := belE0 hb1
          have ze48 := e48.size
          replace BL := BL.e0 e48
          replace b5 := b5.e0 e48
          replace b6 := b6.e0 e48
          replace b7 := b7.e0 e48
          replace b8 := b8.e0 e48
          replace b9 := b9.e0 e48
          replace b19 := b19.e0 e48
          replace b15 := b15.e0 e48
          replace U1 := U1.e0 e48
          replace U2 := U2.e0 e48
          replace b26 := b26.e0 e48
          clear e48
          refine ⟨.bool true, rfl, ?_⟩
          refine ze 42 ⟨BL, b5, b6, b7, b8, b9, b19, b15, U1, U2, by omega⟩ ?_
          simp only [List.set_cons_zero, List.set_cons_succ]
          refine zv 43 64 (.bool true) (fun _ _ => .of) ⟨BL, b5, b6, b7, b8, b9, b19, b15, U1, U2, by omega⟩ ?_
          simp only [List.set_cons_zero, List.set_cons_succ]
          refine zv 44 10 (.bool true) (fun _ _ => .of) ⟨BL, b5, b6, b7, b8, b9, b19, b15, U1, U2, by omega⟩ ?_
          simp only [List.set_cons_zero, List.set_cons_succ]
          refine zd (by kernel_rfl) ?_ _
          refine hK5 _ _ ?_
          refine wp_ret ?_
          (try simp only [Exit.then, Exit.inBlock])
          refine bodyPost_ret (v := .bool true) rT rfl ?_
          exact ⟨rfl, BL.b⟩
        · skip
          have dg53 : decide (¬ db = dd) = false := decide_eq_false g53
          simp only [dg53]
          clear dg53
          refine zv 32 53 (.agg (cellsOf .u8 (nn (da)))) (fun _ ⟨BL, b5, b6, b7, b8, b9, b19, b15, U1, U2, z4⟩ => Val.blk 37 _ rfl 0 32 (by kernel_rfl) b6 _ Try.underlying37 rfl (by kernel_rfl) (by (try simp only [nn_len, List.length_cons, List.length_nil, List.length_set, List.length_replicate]); try omega) _ (seg_all' _ (by (try simp only [nn_len, List.length_cons, List.length_nil, List.length_set, List.length_replicate]); try omega))) ⟨BL, b5, b6, b7, b8, b9, b19, b15, U1, U2, by omega⟩ ?_
          simp only [List.set_cons_zero, List.set_cons_succ]
          refine zv 33 54 (.agg (cellsOf .u8 (nn (db)))) (fun _ ⟨BL, b5, b6, b7, b8, b9, b19, b15, U1, U2, z4⟩ => Val.blk 37 _ rfl 0 32 (by kernel_rfl) b7 _ Try.underlying37 rfl (by kernel_rfl) (by (try simp only [nn_len, List.length_cons, List.length_nil, List.length_set, List.length_replicate]); try omega) _ (seg_all' _ (by (try simp only [nn_len, List.length_cons, List.length_nil, List.length_set, List.length_replicate]); try omega))) ⟨BL, b5, b6, b7, b8, b9, b19, b15, U1, U2, by omega⟩ ?_
          simp only [List.set_cons_zero, List.set_cons_succ]
          refine zv 35 56 (.agg (cellsOf .u8 (nn (dc)))) (fun _ ⟨BL, b5, b6, b7, b8, b9, b19, b15, U1, U2, z4⟩ => Val.blk 37 _ rfl 0 32 (by kernel_rfl) b8 _ Try.underlying37 rfl (by kernel_rfl) (by (try simp only [nn_len, List.length_cons, List.length_nil, List.length_set, List.length_replicate]); try omega) _ (seg_all' _ (by (try simp only [nn_len, List.length_cons, List.length_nil, List.length_set, List.length_replicate]); try omega))) ⟨BL, b5, b6, b7, b8, b9, b19, b15, U1, U2, by omega⟩ ?_
          simp only [List.set_cons_zero, List.set_cons_succ]
          refine zv 36 57 (.agg (cellsOf .u8 (nn (dd)))) (fun _ ⟨BL, b5, b6, b7, b8, b9, b19, b15, U1, U2, z4⟩ => Val.blk 37 _ rfl 0 32 (by kernel_rfl) b9 _ Try.underlying37 rfl (by kernel_rfl) (by (try simp only [nn_len, List.length_cons, List.length_nil, List.length_set, List.length_replicate]); try omega) _ (seg_all' _ (by (try simp only [nn_len, List.length_cons, List.length_nil, List.length_set, List.length_replicate]); try omega))) ⟨BL, b5, b6, b7, b8, b9, b19, b15, U1, U2, by omega⟩ ?_
          simp only [List.set_cons_zero, List.set_cons_succ]
          refine zo1 34 rfl ?_
          refine xCall 55 40 #[.pointer (some ⟨w.heap.size, 0, none⟩), .agg (cellsOf .u8 (nn (da))), .agg (cellsOf .u8 (nn (db)))] (by kernel_rfl) ?_
          refine (mnode_any w.heap.size tab ht w68 b5 da db ha hb).mono ?_
          rintro en w71 ⟨rfl, hb1⟩
          have e49 := belE0 hb1
          have ze49 := e49.size
          replace BL := BL.e0 e49
          replace b5 := b5.e0 e49
          replace b6 := b6.e0 e49
          replace b7 := b7.e0 e49
          replace b8 := b8.e0 e49
          replace b9 := b9.e0 e49
          replace b19 := b19.e0 e49
          replace b15 := b15.e0 e49
          replace U1 := U1.e0 e49
          replace U2 := U2.e0 e49
          replace b26 := b26.e0 e49
          clear e49
          refine ⟨.agg (cellsOf .u8 (nn (mnode tab da db))), rfl, ?_⟩
          refine ze 34 ⟨BL, b5, b6, b7, b8, b9, b19, b15, U1, U2, by omega⟩ ?_
          simp only [List.set_cons_zero, List.set_cons_succ]
          refine zo1 37 rfl ?_
          refine xCall 58 40 #[.pointer (some ⟨w.heap.size, 0, none⟩), .agg (cellsOf .u8 (nn (dc))), .agg (cellsOf .u8 (nn (dd)))] (by kernel_rfl) ?_
          refine (mnode_any w.heap.size tab ht w71 b5 dc dd hc hd).mono ?_
          rintro en w72 ⟨rfl, hb1⟩
          have e50 := belE0 hb1
          have ze50 := e50.size
          replace BL := BL.e0 e50
          replace b5 := b5.e0 e50
          replace b6 := b6.e0 e50
          replace b7 := b7.e0 e50
          replace b8 := b8.e0 e50
          replace b9 := b9.e0 e50
          replace b19 := b19.e0 e50
          replace b15 := b15.e0 e50
          replace U1 := U1.e0 e50
          replace U2 := U2.e0 e50
          replace b26 := b26.e0 e50
          clear e50
          refine ⟨.agg (cellsOf .u8 (nn (mnode tab dc dd))), rfl, ?_⟩
          refine ze 37 ⟨BL, b5, b6, b7, b8, b9, b19, b15, U1, U2, by omega⟩ ?_
          simp only [List.set_cons_zero, List.set_cons_succ]
          refine zv 38 59 (.bool true) (fun _ ⟨BL, b5, b6, b7, b8, b9, b19, b15, U1, U2, z4⟩ => Val.eqA .eql 37 _ (.tmp 55) (.tmp 58) rfl Try.underlying37 Try.underlying5 (by kernel_rfl) (by kernel_rfl) (nn (mnode tab da db)) (nn (mnode tab dc dd)) (by kernel_rfl) (by kernel_rfl) (by rw [nn_len]; exact (mnode_len _ _ _)) (by rw [nn_len]; exact (mnode_len _ _ _)) (.inl rfl) _ (by rw [eql_nn]; exact decide_eq_true (by rw [g37, Classical.not_not.1 g53]))) ⟨BL, b5, b6, b7, b8, b9, b19, b15, U1, U2, by omega⟩ ?_
          simp only [List.set_cons_zero, List.set_cons_succ]
          refine zv 39 60 (.bool true) (fun _ _ => .of) ⟨BL, b5, b6, b7, b8, b9, b19, b15, U1, U2, by omega⟩ ?_
          simp only [List.set_cons_zero, List.set_cons_succ]
          refine zv 40 61 (.bool true) (fun _ _ => .of) ⟨BL, b5, b6, b7, b8, b9, b19, b15, U1, U2, by omega⟩ ?_
          simp only [List.set_cons_zero, List.set_cons_succ]
          refine zv 41 62 (.bool true) (fun _ _ => .of) ⟨BL, b5, b6, b7, b8, b9, b19, b15, U1, U2, by omega⟩ ?_
          simp only [List.set_cons_zero, List.set_cons_succ]
          refine zo1 42 rfl ?_
          refine xCall 63 41 #[] (by kernel_rfl) ?_
          refine (awake10 w72).mono ?_
          rintro en w73 ⟨rfl, hb1⟩
          have e51 := belE0 hb1
          have ze51 := e51.size
          replace BL := BL.e0 e51
          replace b5 := b5.e0 e51
          replace b6 := b6.e0 e51
          replace b7 := b7.e0 e51
          replace b8 := b8.e0 e51
          replace b9 := b9.e0 e51
          replace b19 := b19.e0 e51
          replace b15 := b15.e0 e51
          replace U1 := U1.e0 e51
          replace U2 := U2.e0 e51
          replace b26 := b26.e0 e51
          clear e51
          refine ⟨.bool true, rfl, ?_⟩
          refine ze 42 ⟨BL, b5, b6, b7, b8, b9, b19, b15, U1, U2, by omega⟩ ?_
          simp only [List.set_cons_zero, List.set_cons_succ]
          refine zv 43 64 (.bool true) (fun _ _ => .of) ⟨BL, b5, b6, b7, b8, b9, b19, b15, U1, U2, by omega⟩ ?_
          simp only [List.set_cons_zero, List.set_cons_succ]
          refine zv 44 10 (.bool true) (fun _ _ => .of) ⟨BL, b5, b6, b7, b8, b9, b19, b15, U1, U2, by omega⟩ ?_
          simp only [List.set_cons_zero, List.set_cons_succ]
          refine zd (by kernel_rfl) ?_ _
          refine hK5 _ _ ?_
          refine wp_ret ?_
          (try simp only [Exit.then, Exit.inBlock])
          refine bodyPost_ret (v := .bool true) rT rfl ?_
          exact ⟨rfl, BL.b⟩
      · skip
        have dg37 : decide (da = dc) = false := decide_eq_false g37
        simp only [dg37]
        clear dg37
        refine zs 16 37 ⟨BL, b5, b6, b7, b8, b9, b19, b15, U1, U2, by omega⟩ ?_
        simp only [List.set_cons_zero, List.set_cons_succ]
        refine zs 17 38 ⟨BL, b5, b6, b7, b8, b9, b19, b15, U1, U2, by omega⟩ ?_
        simp only [List.set_cons_zero, List.set_cons_succ]
        refine zs 18 39 ⟨BL, b5, b6, b7, b8, b9, b19, b15, U1, U2, by omega⟩ ?_
        simp only [List.set_cons_zero, List.set_cons_succ]
        refine zv 19 40 (.bool false) (fun _ _ => .of) ⟨BL, b5, b6, b7, b8, b9, b19, b15, U1, U2, by omega⟩ ?_
        simp only [List.set_cons_zero, List.set_cons_succ]
        refine zv 20 41 (.bool true) (fun _ ⟨BL, b5, b6, b7, b8, b9, b19, b15, U1, U2, z4⟩ => Val.bools .eql 4 _ (.tmp 32) (.tmp 40) rfl Try.underlying4 s false (by kernel_rfl) (by kernel_rfl) (.inl rfl) true (by rw [hs]; simp [g37])) ⟨BL, b5, b6, b7, b8, b9, b19, b15, U1, U2, by omega⟩ ?_
        simp only [List.set_cons_zero, List.set_cons_succ]
        refine zv 21 42 (.bool true) (fun _ _ => .of) ⟨BL, b5, b6, b7, b8, b9, b19, b15, U1, U2, by omega⟩ ?_
        simp only [List.set_cons_zero, List.set_cons_succ]
        refine zv 22 43 (.bool true) (fun _ _ => .of) ⟨BL, b5, b6, b7, b8, b9, b19, b15, U1, U2, by omega⟩ ?_
        simp only [List.set_cons_zero, List.set_cons_succ]
        refine zv 23 44 (.agg (cellsOf .u8 (nn (da)))) (fun _ ⟨BL, b5, b6, b7, b8, b9, b19, b15, U1, U2, z4⟩ => Val.blk 37 _ rfl 0 32 (by kernel_rfl) b6 _ Try.underlying37 rfl (by kernel_rfl) (by (try simp only [nn_len, List.length_cons, List.length_nil, List.length_set, List.length_replicate]); try omega) _ (seg_all' _ (by (try simp only [nn_len, List.length_cons, List.length_nil, List.length_set, List.length_replicate]); try omega))) ⟨BL, b5, b6, b7, b8, b9, b19, b15, U1, U2, by omega⟩ ?_
        simp only [List.set_cons_zero, List.set_cons_succ]
        refine zv 24 45 (.agg (cellsOf .u8 (nn (dc)))) (fun _ ⟨BL, b5, b6, b7, b8, b9, b19, b15, U1, U2, z4⟩ => Val.blk 37 _ rfl 0 32 (by kernel_rfl) b8 _ Try.underlying37 rfl (by kernel_rfl) (by (try simp only [nn_len, List.length_cons, List.length_nil, List.length_set, List.length_replicate]); try omega) _ (seg_all' _ (by (try simp only [nn_len, List.length_cons, List.length_nil, List.length_set, List.length_replicate]); try omega))) ⟨BL, b5, b6, b7, b8, b9, b19, b15, U1, U2, by omega⟩ ?_
        simp only [List.set_cons_zero, List.set_cons_succ]
        refine zv 25 46 (.bool true) (fun _ ⟨BL, b5, b6, b7, b8, b9, b19, b15, U1, U2, z4⟩ => Val.eqA .neq 37 _ (.tmp 44) (.tmp 45) rfl Try.underlying37 Try.underlying5 (by kernel_rfl) (by kernel_rfl) (nn (da)) (nn (dc)) (by kernel_rfl) (by kernel_rfl) (by rw [nn_len]; exact ha) (by rw [nn_len]; exact hc) (.inr rfl) _ (by rw [neq_nn]; simp [g37])) ⟨BL, b5, b6, b7, b8, b9, b19, b15, U1, U2, by omega⟩ ?_
        simp only [List.set_cons_zero, List.set_cons_succ]
        refine zv 26 47 (.bool true) (fun _ _ => .of) ⟨BL, b5, b6, b7, b8, b9, b19, b15, U1, U2, by omega⟩ ?_
        simp only [List.set_cons_zero, List.set_cons_succ]
        refine zs 27 48 ⟨BL, b5, b6, b7, b8, b9, b19, b15, U1, U2, by omega⟩ ?_
        simp only [List.set_cons_zero, List.set_cons_succ]
        refine zs 28 49 ⟨BL, b5, b6, b7, b8, b9, b19, b15, U1, U2, by omega⟩ ?_
        simp only [List.set_cons_zero, List.set_cons_succ]
        refine zs 29 50 ⟨BL, b5, b6, b7, b8, b9, b19, b15, U1, U2, by omega⟩ ?_
        simp only [List.set_cons_zero, List.set_cons_succ]
        refine zv 30 51 (.bool true) (fun _ _ => .of) ⟨BL, b5, b6, b7, b8, b9, b19, b15, U1, U2, by omega⟩ ?_
        simp only [List.set_cons_zero, List.set_cons_succ]
        refine zv 31 52 (.bool true) (fun _ _ => .of) ⟨BL, b5, b6, b7, b8, b9, b19, b15, U1, U2, by omega⟩ ?_
        simp only [List.set_cons_zero, List.set_cons_succ]
        refine zs 32 53 ⟨BL, b5, b6, b7, b8, b9, b19, b15, U1, U2, by omega⟩ ?_
        simp only [List.set_cons_zero, List.set_cons_succ]
        refine zs 33 54 ⟨BL, b5, b6, b7, b8, b9, b19, b15, U1, U2, by omega⟩ ?_
        simp only [List.set_cons_zero, List.set_cons_succ]
        refine zs 34 55 ⟨BL, b5, b6, b7, b8, b9, b19, b15, U1, U2, by omega⟩ ?_
        simp only [List.set_cons_zero, List.set_cons_succ]
        refine zs 35 56 ⟨BL, b5, b6, b7, b8, b9, b19, b15, U1, U2, by omega⟩ ?_
        simp only [List.set_cons_zero, List.set_cons_succ]
        refine zs 36 57 ⟨BL, b5, b6, b7, b8, b9, b19, b15, U1, U2, by omega⟩ ?_
        simp only [List.set_cons_zero, List.set_cons_succ]
        refine zs 37 58 ⟨BL, b5, b6, b7, b8, b9, b19, b15, U1, U2, by omega⟩ ?_
        simp only [List.set_cons_zero, List.set_cons_succ]
        refine zs 38 59 ⟨BL, b5, b6, b7, b8, b9, b19, b15, U1, U2, by omega⟩ ?_
        simp only [List.set_cons_zero, List.set_cons_succ]
        refine zv 39 60 (.bool true) (fun _ _ => .of) ⟨BL, b5, b6, b7, b8, b9, b19, b15, U1, U2, by omega⟩ ?_
        simp only [List.set_cons_zero, List.set_cons_succ]
        refine zv 40 61 (.bool true) (fun _ _ => .of) ⟨BL, b5, b6, b7, b8, b9, b19, b15, U1, U2, by omega⟩ ?_
        simp only [List.set_cons_zero, List.set_cons_succ]
        refine zv 41 62 (.bool true) (fun _ _ => .of) ⟨BL, b5, b6, b7, b8, b9, b19, b15, U1, U2, by omega⟩ ?_
        simp only [List.set_cons_zero, List.set_cons_succ]
        refine zo1 42 rfl ?_
        refine xCall 63 41 #[] (by kernel_rfl) ?_
        refine (awake10 w68).mono ?_
        rintro en w74 ⟨rfl, hb1⟩
        have e52 := belE0 hb1
        have ze52 := e52.size
        replace BL := BL.e0 e52
        replace b5 := b5.e0 e52
        replace b6 := b6.e0 e52
        replace b7 := b7.e0 e52
        replace b8 := b8.e0 e52
        replace b9 := b9.e0 e52
        replace b19 := b19.e0 e52
        replace b15 := b15.e0 e52
        replace U1 := U1.e0 e52
        replace U2 := U2.e0 e52
        replace b26 := b26.e0 e52
        clear e52
        refine ⟨.bool true, rfl, ?_⟩
        refine ze 42 ⟨BL, b5, b6, b7, b8, b9, b19, b15, U1, U2, by omega⟩ ?_
        simp only [List.set_cons_zero, List.set_cons_succ]
        refine zv 43 64 (.bool true) (fun _ _ => .of) ⟨BL, b5, b6, b7, b8, b9, b19, b15, U1, U2, by omega⟩ ?_
        simp only [List.set_cons_zero, List.set_cons_succ]
        refine zv 44 10 (.bool true) (fun _ _ => .of) ⟨BL, b5, b6, b7, b8, b9, b19, b15, U1, U2, by omega⟩ ?_
        simp only [List.set_cons_zero, List.set_cons_succ]
        refine zd (by kernel_rfl) ?_ _
        refine hK5 _ _ ?_
        refine wp_ret ?_
        (try simp only [Exit.then, Exit.inBlock])
        refine bodyPost_ret (v := .bool true) rT rfl ?_
        exact ⟨rfl, BL.b⟩

theorem merkleNodes_any (w : World) (x0 : List Value) (R0 : RInts .u32 72 w x0) (x1 : List Value) (R1 : RInts .u8 32 w x1) (x2 : List Value) (R2 : RInts .u8 32 w x2) (x3 : List Value) (R3 : RInts .u8 32 w x3) (x4 : List Value) (R4 : RInts .u8 32 w x4) :
    Calls Try.prog 6 #[.agg x0.toArray, .agg x1.toArray, .agg x2.toArray, .agg x3.toArray, .agg x4.toArray] w fun e w' => e = .returned (.bool true) ∧ Below w.heap.size w w' := by
  obtain ⟨tab, ht, rfl, _⟩ := rints32 R0
  obtain ⟨da, ha, rfl, ha8⟩ := rints8 R1
  obtain ⟨db, hb, rfl, hb8⟩ := rints8 R2
  obtain ⟨dc, hc, rfl, hc8⟩ := rints8 R3
  obtain ⟨dd, hd, rfl, hd8⟩ := rints8 R4
  exact merkleNodes_walk tab ht w da db dc dd ha hb hc hd ha8 hb8 hc8 hd8
end Go.Proofs.Yteaijjefbadnbaa
