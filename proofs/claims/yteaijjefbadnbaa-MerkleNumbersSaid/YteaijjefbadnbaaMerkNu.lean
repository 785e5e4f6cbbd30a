/-
  MerkleNumbers: the walk.
-/
import Derived.Test.YteaijjefbadnbaaMerkA
import Derived.Test.YteaijjefbadnbaaMakeE
import Derived.Test.YteaijjefbadnbaaNilL
namespace Go.Proofs.Yteaijjefbadnbaa
open Go.RowKit
set_option linter.unusedVariables false
set_option linter.unusedSimpArgs false
set_option maxRecDepth 100000
attribute [local irreducible] wpList Code.wp wpAnyZ taggedN mnode ofN textN tabL
theorem SE.partN {z : Nat} {w : World} {v : Value} {l : List (List Nat)} (h : SE .u8 z w v (nnd l)) (n : Nat) (h2 : n ≤ l.length) (m : List (List Nat)) (hm : l.take n = m) :
    ∃ A C, sliceE z v 0 n = .slice A n C ∧ SE .u8 z w (.slice A n C) (nnd m) := by
  have h3 := SE.cast (h.slice 0 n (Nat.zero_le _) (by rw [nnd_len]; exact h2)) (nnd_seg _ _ _)
  rw [List.drop_zero, Nat.sub_zero, hm] at h3
  obtain ⟨A, C, e, _⟩ := h3.len
  rw [nnd_len, show m.length = n by rw [← hm, List.length_take]; omega] at e
  exact ⟨A, C, e, e ▸ h3⟩
def dI (i : Nat) : List Nat := [i % 256, (i / 256) % 256, 0, 0, 0, 0, 0, 0, 0, 0, 0, 0, 0, 0, 0, 0, 0, 0, 0, 0, 0, 0, 0, 0, 0, 0, 0, 0, 0, 0, 0, 0]
theorem dI_len (i : Nat) : (dI i).length = 32 := rfl
attribute [local irreducible] dI
/-- The first k of them are laid. -/
def mkI (k : Nat) : List (List Nat) := (List.range 512).map fun i => if i < k then dI i else List.replicate 32 0
theorem mkI_len (k : Nat) : (mkI k).length = 512 := by simp [mkI]
theorem mkI_0 : mkI 0 = List.replicate 512 (List.replicate 32 0) := by
  refine List.ext_getElem (by rw [mkI_len, List.length_replicate]) fun i h1 h2 => ?_
  rw [List.getElem_replicate]
  simp only [mkI, List.getElem_map, List.getElem_range]
  rw [if_neg (Nat.not_lt_zero _)]
theorem mkI_set (k : Nat) (hk : k < 512) : (mkI k).set k (dI k) = mkI (k + 1) := by
  refine List.ext_getElem (by rw [List.length_set, mkI_len, mkI_len]) fun i h1 h2 => ?_
  rw [List.getElem_set]
  by_cases e : k = i
  · subst e; simp [mkI]
  · rw [if_neg e]
    simp only [mkI, List.getElem_map, List.getElem_range]
    by_cases h : i < k
    · rw [if_pos h, if_pos (by omega)]
    · rw [if_neg h, if_neg (by omega)]
theorem mkI_lens (k : Nat) : ∀ d ∈ mkI k, d.length = 32 := fun d hd => by
  obtain ⟨i, _, rfl⟩ := List.mem_map.1 hd
  show (if i < k then dI i else List.replicate 32 0).length = 32
  split
  · exact dI_len i
  · simp
theorem neq_nnN (a : List Nat) : (if BinOp.neq = BinOp.eql then decide (nn a = nn a) else !decide (nn a = nn a)) = false := by simp

set_option maxHeartbeats 4000000 in
theorem mnode_nil (da db : List Nat) (hda : da.length = 32) (hdb : db.length = 32) (w : World) :
    Calls Try.prog 40 #[.pointer none, .agg (cellsOf .u8 (nn da)), .agg (cellsOf .u8 (nn db))] w fun e w' => e = .returned (.agg (cellsOf .u8 (nn (List.replicate 32 0)))) ∧ Below w.heap.size w w' := by
  have BL := Bl.refl w
  have hbs := blobsB_small [da, db] 32 (fun p hp => by rcases List.mem_cons.1 hp with rfl | hp; omega; rw [List.mem_singleton.1 hp]; omega) (by omega)
  go_enter Try.func40, Try.ntmps40
  refine wp_seq_k fun K1 hK1 => ?_
  refine cPlain ?_
  refine xBox 4 37 _ ((nn (da)).map (Value.int .u8)) rfl (cells_toList _ _) ?_
  intro w1 n1
  have zn1 := n1.z
  have b4 := n1.c
  replace b4 : Blk .u8 w1 w.heap.size 37 (nn (da)) := b4
  replace BL := BL.e0 n1.e
  simp only [List.set_cons_zero, List.set_cons_succ]
  refine xBox 5 37 _ ((nn (db)).map (Value.int .u8)) rfl (cells_toList _ _) ?_
  intro w2 n2
  have zn2 := n2.z
  have b5 := n2.c
  replace b5 : Blk .u8 w2 w1.heap.size 37 (nn (db)) := b5
  replace BL := BL.e0 n2.e
  replace b4 := b4.e0 n2.e
  simp only [List.set_cons_zero, List.set_cons_succ]
  refine xAlloc 6 37 ((nn (List.replicate 32 0)).map (Value.int .u8)) rfl (by kernel_rfl) ?_
  intro w3 n3
  have zn3 := n3.z
  have b6 := n3.c
  replace b6 : Blk .u8 w3 w2.heap.size 37 (nn (List.replicate 32 0)) := b6
  replace BL := BL.e0 n3.e
  replace b4 := b4.e0 n3.e
  replace b5 := b5.e0 n3.e
  simp only [List.set_cons_zero, List.set_cons_succ]
  refine wpList_nil ?_
  refine hK1 _ _ ?_
  refine wp_seq_k fun K2 hK2 => ?_
  have e1 := drew_e0 w3
  refine zg (fun w_ => Bl w.heap.size w w_ ∧ Blk .u8 w_ w.heap.size 37 (nn (da)) ∧ Blk .u8 w_ w1.heap.size 37 (nn (db)) ∧ Blk .u8 w_ w2.heap.size 37 (nn (List.replicate 32 0)) ∧ w3.heap.size ≤ w_.heap.size) (fun w_ => Bl w.heap.size w w_ ∧ Blk .u8 w_ w.heap.size 37 (nn (da)) ∧ Blk .u8 w_ w1.heap.size 37 (nn (db)) ∧ Blk .u8 w_ w2.heap.size 37 (nn (List.replicate 32 0)) ∧ w3.heap.size ≤ w_.heap.size) 5 6 ⟨BL.e0 e1, b4.e0 e1, b5.e0 e1, b6.e0 e1, Nat.le_refl _⟩ ?_
  clear BL b4 b5 b6
  clear e1
  intro w4
  rintro ⟨BL, b4, b5, b6, z1⟩
  refine zv 0 7 (.pointer none) (fun _ _ => .of) ⟨BL, b4, b5, b6, by omega⟩ ?_
  simp only [List.set_cons_zero, List.set_cons_succ]
  refine zv 1 8 (.slice (some ⟨w.heap.size, 0, none⟩) 32 32) (fun _ _ => .of) ⟨BL, b4, b5, b6, by omega⟩ ?_
  simp only [List.set_cons_zero, List.set_cons_succ]
  refine zv 2 9 (.slice (some ⟨w1.heap.size, 0, none⟩) 32 32) (fun _ _ => .of) ⟨BL, b4, b5, b6, by omega⟩ ?_
  simp only [List.set_cons_zero, List.set_cons_succ]
  refine zo1 3 rfl ?_
  refine xLit 10 124 30 2 _ #[(0, .slice (some ⟨w.heap.size, 0, none⟩) 32 32), (1, .slice (some ⟨w1.heap.size, 0, none⟩) 32 32)] [.slice (some ⟨w.heap.size, 0, none⟩) 32 32, .slice (some ⟨w1.heap.size, 0, none⟩) 32 32] rfl (by kernel_rfl) (by kernel_rfl) ?_
  intro w5 n4
  have zn4 := n4.z
  have b10 := n4.c
  replace BL := BL.e0 n4.e
  replace b4 := b4.e0 n4.e
  replace b5 := b5.e0 n4.e
  replace b6 := b6.e0 n4.e
  refine ze 3 ⟨BL, b4, b5, b6, by omega⟩ ?_
  simp only [List.set_cons_zero, List.set_cons_succ]
  refine zo1 4 rfl ?_
  refine xCall 11 27 #[.pointer none, .int .u8 4, .slice (some ⟨w4.heap.size, 0, none⟩) 2 2] (by kernel_rfl) ?_
  refine (tagged_nil 4 _ [.slice (some ⟨w.heap.size, 0, none⟩) 32 32, .slice (some ⟨w1.heap.size, 0, none⟩) 32 32] [da, db] w5 (SV.ofCelM (n := 2) b10 rfl (by unfold maxLen; omega)) (SLs.two (SL.ofBlk b4 (by rw [nn_len]; exact hda) (by unfold maxLen; omega)) (fun g hg => by have := ownB_lit (lo := 0) (hi := w5.heap.size) (by omega) g hg; omega) (SL.ofBlk b5 (by rw [nn_len]; exact hdb) (by unfold maxLen; omega)) (fun g hg => by have := ownB_lit (lo := 0) (hi := w5.heap.size) (by omega) g hg; omega)) (by simp only [List.length_cons, List.length_nil] at hbs; omega)).mono ?_
  rintro en w6 ⟨rfl, hb1⟩
  have e2 := belE0 hb1
  have ze2 := e2.size
  replace BL := BL.e0 e2
  replace b4 := b4.e0 e2
  replace b5 := b5.e0 e2
  replace b6 := b6.e0 e2
  replace b10 := b10.e0 e2
  clear e2
  refine ⟨.agg (cellsOf .u8 (nn (List.replicate 32 0))), rfl, ?_⟩
  refine ze 4 ⟨BL, b4, b5, b6, by omega⟩ ?_
  simp only [List.set_cons_zero, List.set_cons_succ]
  refine zo1 5 rfl ?_
  refine xStoreA 37 (.tmp 6) (.tmp 11) rfl .u8 w2.heap.size 37 (nn (List.replicate 32 0)) 0 (nn (List.replicate 32 0)) (by kernel_rfl) (by kernel_rfl) b6 (by rw [show (nn (List.replicate 32 0)).length = 32 by ((try simp only [nn_len, List.length_cons, List.length_nil, List.length_set, List.length_replicate]); try omega)]; kernel_rfl) (by (try simp only [nn_len, List.length_cons, List.length_nil, List.length_set, List.length_replicate]); try omega) (nn (List.replicate 32 0)) (over_whole _ _ (by (try simp only [nn_len, List.length_cons, List.length_nil, List.length_set, List.length_replicate]); try omega)) ?_
  intro w7 t1
  have zt1 := t1.z
  have BL_ := BL.ev t1.e (fun i h => show w.heap.size ≤ i by have h : i = w2.heap.size := h; omega)
  have b4_ := b4.ev t1.e (show ¬ (w.heap.size = w2.heap.size) by omega)
  have b5_ := b5.ev t1.e (show ¬ (w1.heap.size = w2.heap.size) by omega)
  have b10_ := b10.ev t1.e (show ¬ (w4.heap.size = w2.heap.size) by omega)
  replace BL := BL_; clear BL_
  replace b4 := b4_; clear b4_
  replace b5 := b5_; clear b5_
  replace b10 := b10_; clear b10_
  replace b6 : Blk .u8 w7 w2.heap.size 37 (nn (List.replicate 32 0)) := t1.c
  clear t1
  refine zz 5 ?_
  refine zd (by kernel_rfl) ?_ _
  refine hK2 _ _ ?_
  refine wp_ret ?_
  (try simp only [Exit.then, Exit.inBlock])
  refine bodyPost_ret (rC rfl _ w2.heap.size _ _ (by kernel_rfl) b6.cel _ Try.underlying37 rfl (by rw [List.length_map, show (nn (List.replicate 32 0)).length = 32 by ((try simp only [nn_len, List.length_cons, List.length_nil, List.length_set, List.length_replicate]); try omega)]; kernel_rfl)) rfl ?_
  exact ⟨rfl, BL.b⟩

set_option maxHeartbeats 8000000 in
theorem merkleNumbers_walk (w : World) :
    Calls Try.prog 10 #[] w fun e w' => e = .returned (.bool true) ∧ Below w.heap.size w w' := by
  have BL := Bl.refl w
  have hTL := tabL_len
  go_enter Try.func10, Try.ntmps10
  refine wp_seq_k fun K1 hK1 => ?_
  refine cPlain ?_
  refine sv 0 (.bool false) .of ?_
  simp only [List.set_cons_zero, List.set_cons_succ]
  refine wpList_nil ?_
  refine hK1 _ _ ?_
  refine wp_seq_k fun K2 hK2 => ?_
  refine cPlain ?_
  refine xCall 24 13 #[] (by kernel_rfl) ?_
  refine (table_any w).mono ?_
  rintro en w1 ⟨he, hb1⟩
  rw [tableN_eq] at he
  subst he
  have e1 := belE0 hb1
  have ze1 := e1.size
  replace BL := BL.e0 e1
  clear e1
  refine ⟨.agg (cellsOf .u32 (nn tabL)), rfl, ?_⟩
  simp only [List.set_cons_zero, List.set_cons_succ]
  refine xAlloc 1 26 ((nn (List.replicate 72 0)).map (Value.int .u32)) rfl (by kernel_rfl) ?_
  intro w2 n1
  have zn1 := n1.z
  have b1 := n1.c
  replace b1 : Blk .u32 w2 w1.heap.size 26 (nn (List.replicate 72 0)) := b1
  replace BL := BL.e0 n1.e
  simp only [List.set_cons_zero, List.set_cons_succ]
  refine xStoreA 26 (.tmp 1) (.tmp 24) rfl .u32 w1.heap.size 26 (nn (List.replicate 72 0)) 0 (nn tabL) (by kernel_rfl) (by kernel_rfl) b1 (by rw [show (nn tabL).length = 72 by ((try simp only [nn_len, List.length_append, List.length_replicate]); try omega)]; kernel_rfl) (by (try simp only [nn_len, List.length_append, List.length_replicate]); try omega) (nn tabL) (over_whole _ _ (by (try simp only [nn_len, List.length_append, List.length_replicate]); try omega)) ?_
  intro w3 t1
  have zt1 := t1.z
  have BL_ := BL.ev t1.e (fun i h => show w.heap.size ≤ i by have h : i = w1.heap.size := h; omega)
  replace BL := BL_; clear BL_
  replace b1 : Blk .u32 w3 w1.heap.size 26 (nn tabL) := t1.c
  clear t1
  refine wpList_nil ?_
  refine hK2 _ _ ?_
  refine wp_seq_k fun K3 hK3 => ?_
  refine cPlain ?_
  refine xMakeE 25 _ _ 63 37 .u8 32 32 rfl Try.underlying63 (by kernel_rfl) (by omega) 512 (by kernel_rfl) (by kernel_rfl) (by unfold maxLen; omega) (by omega) ?_
  intro w4 O n2
  have zn2 := n2.size
  rw [← nnd_rep] at O
  replace BL := BL.e0 n2
  replace b1 := b1.e0 n2
  have lO_1 := O.ge
  simp only [List.set_cons_zero, List.set_cons_succ]
  refine sv 2 (.slice (some ⟨w3.heap.size, 0, none⟩) 512 512) .of ?_
  simp only [List.set_cons_zero, List.set_cons_succ]
  refine wpList_nil ?_
  refine hK3 _ _ ?_
  refine wp_seq_k fun K4 hK4 => ?_
  refine wp_seq_k fun K5 hK5 => ?_
  refine cPlain ?_
  refine sv 26 (.slice (some ⟨w3.heap.size, 0, none⟩) 512 512) .of ?_
  simp only [List.set_cons_zero, List.set_cons_succ]
  refine sv 27 (.int .i64 (512 : Int)) .of ?_
  simp only [List.set_cons_zero, List.set_cons_succ]
  refine sv 28 (.int .i64 0) .of ?_
  simp only [List.set_cons_zero, List.set_cons_succ]
  refine wpList_nil ?_
  refine hK5 _ _ ?_
  refine wp_block ?_
  refine cLoop (fun N_ A_ w_ => ∃ (i : Nat), (N_ = 512 - i ∧ (i ≤ 512) ∧ (∃ s1 : Nat → Value, A_ = ⟨[.bool false, .pointer (some ⟨w1.heap.size, 0, none⟩), .slice (some ⟨w3.heap.size, 0, none⟩) 512 512, (s1 3), undef, undef, undef, undef, undef, undef, undef, undef, undef, undef, undef, undef, undef, undef, undef, undef, undef, undef, undef, undef, .agg (cellsOf .u32 (nn tabL)), .slice (some ⟨w3.heap.size, 0, none⟩) 512 512, .slice (some ⟨w3.heap.size, 0, none⟩) 512 512, .int .i64 (512 : Int), .int .i64 ((i : Nat) : Int), (s1 29), (s1 30), (s1 31), (s1 32), (s1 33), (s1 34), (s1 35), (s1 36), (s1 37), (s1 38), (s1 39), (s1 40), undef, undef, undef, undef, undef, undef, undef, undef, undef, undef, undef, undef, undef, undef, undef, undef, undef, undef, undef, undef, undef, undef, undef, undef, undef, undef, undef, undef, undef, undef, undef, undef, undef, undef, undef, undef, undef, undef, undef, undef, undef, undef, undef, undef, undef, undef, undef, undef, undef, undef, undef, undef, undef, undef, undef, undef, undef, undef, undef, undef, undef, undef, undef, undef, undef, undef, undef, undef, undef, undef, undef, undef, undef, undef, undef, undef, undef, undef, undef, undef, undef, undef, undef, undef, undef, undef, undef, undef, undef, undef, undef, undef, undef, undef, undef, undef, undef, undef, undef, undef, undef, undef, undef, undef, undef, undef, undef, undef, undef, undef, undef, undef, undef, undef, undef, undef, undef, undef, undef, undef, undef, undef, undef, undef, undef, undef, undef, undef, undef, undef, undef, undef, undef, undef, undef, undef, undef, undef, undef, undef, undef, undef].toArray, []⟩) ∧ Bl w.heap.size w w_ ∧ Blk .u32 w_ w1.heap.size 26 (nn tabL) ∧ OwnE 37 .u8 32 w3.heap.size w_ (.slice (some ⟨w3.heap.size, 0, none⟩) 512 512) (nnd (mkI i)) ∧ w4.heap.size ≤ w_.heap.size)) _ ⟨0, rfl, (Nat.zero_le _), cutE, BL, b1, (O.cast (by rw [mkI_0])), Nat.le_refl _⟩ ?_
  clear BL b1 O
  rintro n_ a_ wl0 ⟨i, rfl, hc0_0, ⟨s1, rfl⟩, BL, b1, O, zl0⟩
  have lO_2 := O.ge
  refine wp_seq_k fun K6 hK6 => ?_
  refine cPlain ?_
  refine sv 29 (.bool (decide (((i : Nat) : Int) < (512 : Int)))) (Val.cmp .lss 3 _ (.tmp 28) (.tmp 27) rfl .i64 ((i : Nat) : Int) (512 : Int) (by kernel_rfl) (by kernel_rfl) (by simp) _ rfl) ?_
  simp only [List.set_cons_zero, List.set_cons_succ]
  refine wpList_nil ?_
  refine hK6 _ _ ?_
  refine wp_seq_k fun K7 hK7 => ?_
  refine cDec (((i : Nat) : Int) < (512 : Int)) (by kernel_rfl) (fun c29 => ?_) (fun c29 => ?_)
  · skip
    refine wp_skip ?_
    refine hK7 _ _ ?_
    refine wp_seq_k fun K8 hK8 => ?_
    refine wp_block ?_
    refine wp_seq_k fun K9 hK9 => ?_
    refine cPlain ?_
    refine sv 30 (.int .i64 ((i : Nat) : Int)) .of ?_
    simp only [List.set_cons_zero, List.set_cons_succ]
    refine sv 3 (.int .i64 ((i : Nat) : Int)) .of ?_
    simp only [List.set_cons_zero, List.set_cons_succ]
    refine wpList_nil ?_
    refine hK9 _ _ ?_
    have hml := mkI_len i
    have hdl := dI_len i
    refine cPlain ?_
    refine sv 31 (.slice (some ⟨w3.heap.size, 0, none⟩) 512 512) .of ?_
    simp only [List.set_cons_zero, List.set_cons_succ]
    refine sv 32 (.int .i64 ((i : Nat) : Int)) .of ?_
    simp only [List.set_cons_zero, List.set_cons_succ]
    refine sv 33 (.int .i64 ((i : Nat) : Int)) .of ?_
    simp only [List.set_cons_zero, List.set_cons_succ]
    refine sv 34 (.int .u8 ((i % 256 : Nat) : Int)) (Val.convN 3 5 (.tmp 33) rfl .u8 i 256 Try.underlying3 Try.underlying5 (by kernel_rfl)) ?_
    simp only [List.set_cons_zero, List.set_cons_succ]
    refine sv 35 (.int .i64 ((i : Nat) : Int)) .of ?_
    simp only [List.set_cons_zero, List.set_cons_succ]
    refine sv 36 (.int .i64 ((i / 256 : Nat) : Int)) (Val.quoI 3 _ (.tmp 35) _ rfl i 256 (by kernel_rfl) (by kernel_rfl) (by omega) (by omega)) ?_
    simp only [List.set_cons_zero, List.set_cons_succ]
    refine sv 37 (.int .u8 (((i / 256) % 256 : Nat) : Int)) (Val.convN 3 5 (.tmp 36) rfl .u8 (i / 256) 256 Try.underlying3 Try.underlying5 (by kernel_rfl)) ?_
    simp only [List.set_cons_zero, List.set_cons_succ]
    refine sv 38 (.agg (cellsOf .u8 (nn (dI i)))) (by unfold dI; exact Val.of) ?_
    simp only [List.set_cons_zero, List.set_cons_succ]
    refine sv 39 (elemE 32 (.slice (some ⟨w3.heap.size, 0, none⟩) 512 512) i) (Val.ixE 63 (.tmp 31) (.tmp 32) rfl (.slice (some ⟨w3.heap.size, 0, none⟩) 512 512) i (by kernel_rfl) (by kernel_rfl) O.se Try.underlying63 (by kernel_rfl) (by simp only [nnd_len]; omega)) ?_
    simp only [List.set_cons_zero, List.set_cons_succ]
    refine xStoreE2 37 (.tmp 39) (.tmp 38) rfl (.slice (some ⟨w3.heap.size, 0, none⟩) 512 512) i (nn (dI i)) (by kernel_rfl) (by kernel_rfl) O (by kernel_rfl) (by (try simp only [nn_len, List.length_append, List.length_replicate]); try omega) (by simp only [nnd_len]; omega) ?_
    intro w5 O_ e2 ze2
    rw [← nnd_set] at O_
    have BL_ := BL.ev e2 (fun i h => by have := lO_2 _ h; omega)
    have b1_ := b1.ev e2 (fun h => by have := lO_2 _ h; omega)
    replace BL := BL_; clear BL_
    replace b1 := b1_; clear b1_
    replace O := O_; clear O_ e2
    refine wpList_nil ?_
    refine hK8 _ _ ?_
    refine cPlain ?_
    refine sv 40 (.int .i64 ((i + 1 : Nat) : Int)) (Val.as (Val.add 3 _ (.tmp 28) _ rfl ((i : Nat) : Int) 1 (by kernel_rfl) (by kernel_rfl) (by omega)) (congrArg (Value.int .i64) (by omega))) ?_
    simp only [List.set_cons_zero, List.set_cons_succ]
    refine sv 28 (.int .i64 ((i + 1 : Nat) : Int)) .of ?_
    simp only [List.set_cons_zero, List.set_cons_succ]
    refine wpList_nil ?_
    refine ⟨_, ?_, i + 1, rfl, by omega, cutE, BL, b1, (O.cast (by rw [mkI_set _ (by omega)])), by omega⟩
    omega
  · skip
    refine wp_exit ?_
    simp only [Exit.then, Exit.inBlock, ↓reduceIte, Nat.reduceEqDiff]
    refine hK4 _ _ ?_
    refine wp_seq_k fun K10 hK10 => ?_
    obtain ⟨M, hM⟩ : ∃ M, mkI 512 = M := ⟨_, rfl⟩
    have hMl : M.length = 512 := by rw [← hM, mkI_len]
    have hM32 : ∀ d ∈ M, d.length = 32 := by rw [← hM]; exact mkI_lens _
    replace O := O.cast (show nnd (mkI i) = nnd M by rw [show i = 512 by omega, hM])
    obtain ⟨m256, hm256⟩ : ∃ m, M.take 256 = m := ⟨_, rfl⟩
    have hml256 : m256.length = 256 := by rw [← hm256, List.length_take]; omega
    obtain ⟨A256, C256, hk256, D256⟩ := O.se.partN 256 (by omega) m256 hm256
    have hdd256 : ∀ i, Value.ownBlock (.slice A256 256 C256) = some i → i < wl0.heap.size := fun i hi => O.se.lt i (sliceE_own (hk256 ▸ hi))
    obtain ⟨m4, hm4⟩ : ∃ m, M.take 4 = m := ⟨_, rfl⟩
    have hml4 : m4.length = 4 := by rw [← hm4, List.length_take]; omega
    obtain ⟨A4, C4, hk4, D4⟩ := O.se.partN 4 (by omega) m4 hm4
    have hdd4 : ∀ i, Value.ownBlock (.slice A4 4 C4) = some i → i < wl0.heap.size := fun i hi => O.se.lt i (sliceE_own (hk4 ▸ hi))
    obtain ⟨m6, hm6⟩ : ∃ m, M.take 6 = m := ⟨_, rfl⟩
    have hml6 : m6.length = 6 := by rw [← hm6, List.length_take]; omega
    obtain ⟨A6, C6, hk6, D6⟩ := O.se.partN 6 (by omega) m6 hm6
    have hdd6 : ∀ i, Value.ownBlock (.slice A6 6 C6) = some i → i < wl0.heap.size := fun i hi => O.se.lt i (sliceE_own (hk6 ▸ hi))
    obtain ⟨m2, hm2⟩ : ∃ m, M.take 2 = m := ⟨_, rfl⟩
    have hml2 : m2.length = 2 := by rw [← hm2, List.length_take]; omega
    obtain ⟨A2, C2, hk2, D2⟩ := O.se.partN 2 (by omega) m2 hm2
    have hdd2 : ∀ i, Value.ownBlock (.slice A2 2 C2) = some i → i < wl0.heap.size := fun i hi => O.se.lt i (sliceE_own (hk2 ▸ hi))
    obtain ⟨m9, hm9⟩ : ∃ m, M.take 9 = m := ⟨_, rfl⟩
    have hml9 : m9.length = 9 := by rw [← hm9, List.length_take]; omega
    obtain ⟨A9, C9, hk9, D9⟩ := O.se.partN 9 (by omega) m9 hm9
    have hdd9 : ∀ i, Value.ownBlock (.slice A9 9 C9) = some i → i < wl0.heap.size := fun i hi => O.se.lt i (sliceE_own (hk9 ▸ hi))
    have h256l : ∀ d ∈ m256, d.length = 32 := by rw [← hm256]; exact fun d hd => hM32 d (List.mem_of_mem_take hd)
    have hg255 : m256.getD 255 [] = M.getD 255 [] := by rw [← hm256]; simp [List.getD_eq_getElem?_getD, List.getElem?_take]
    have hrl := mroot_len tabL 8 m256 hml256 h256l
    have hOb := O.ge
    have O : OwnE 37 .u8 32 w3.heap.size wl0 (.slice (some ⟨w3.heap.size, 0, none⟩) 512 512) (nnd M) := O
    have D256 : SE .u8 32 wl0 (.slice A256 256 C256) (nnd m256) := D256
    have D4 : SE .u8 32 wl0 (.slice A4 4 C4) (nnd m4) := D4
    have D6 : SE .u8 32 wl0 (.slice A6 6 C6) (nnd m6) := D6
    have D2 : SE .u8 32 wl0 (.slice A2 2 C2) (nnd m2) := D2
    have D9 : SE .u8 32 wl0 (.slice A9 9 C9) (nnd m9) := D9
    refine cPlain ?_
    refine sv 42 (.slice (some ⟨w3.heap.size, 0, none⟩) 512 512) .of ?_
    simp only [List.set_cons_zero, List.set_cons_succ]
    refine sv 43 (.slice A256 256 C256) (Val.as (Val.slcE 63 (.tmp 42) none (some _) rfl (.slice (some ⟨w3.heap.size, 0, none⟩) 512 512) (by kernel_rfl) O.se 0 256 (.inr ⟨rfl, rfl⟩) (.inl (by kernel_rfl)) (Nat.zero_le _) (by rw [nnd_len]; omega) Try.underlying63 (by kernel_rfl)) hk256) ?_
    simp only [List.set_cons_zero, List.set_cons_succ]
    refine xCall 44 45 #[.pointer (some ⟨w1.heap.size, 0, none⟩), .slice A256 256 C256] (by kernel_rfl) ?_
    refine (mroot_any w1.heap.size tabL hTL wl0 b1 _ m256 D256 h256l 8 (by omega) hml256).mono ?_
    rintro en w6 ⟨rfl, hb1⟩
    have e3 := belE0 hb1
    have ze3 := e3.size
    replace BL := BL.e0 e3
    replace b1 := b1.e0 e3
    replace O := O.e0 e3
    replace D256 := D256.e0 e3
    replace D4 := D4.e0 e3
    replace D6 := D6.e0 e3
    replace D2 := D2.e0 e3
    replace D9 := D9.e0 e3
    clear e3
    refine ⟨.tuple #[.agg (cellsOf .u8 (nn (mroot tabL 8 m256))), .int .i64 0], rfl, ?_⟩
    simp only [List.set_cons_zero, List.set_cons_succ]
    refine sv 41 (.tuple #[.agg (cellsOf .u8 (nn (mroot tabL 8 m256))), .int .i64 0]) .of ?_
    simp only [List.set_cons_zero, List.set_cons_succ]
    refine sv 45 (.agg (cellsOf .u8 (nn (mroot tabL 8 m256)))) .of ?_
    simp only [List.set_cons_zero, List.set_cons_succ]
    refine sv 46 (.int .i64 0) .of ?_
    simp only [List.set_cons_zero, List.set_cons_succ]
    refine xAlloc 4 37 ((nn (List.replicate 32 0)).map (Value.int .u8)) rfl (by kernel_rfl) ?_
    intro w7 n3
    have zn3 := n3.z
    have b4 := n3.c
    replace b4 : Blk .u8 w7 w6.heap.size 37 (nn (List.replicate 32 0)) := b4
    replace BL := BL.e0 n3.e
    replace b1 := b1.e0 n3.e
    replace O := O.e0 n3.e
    replace D256 := D256.e0 n3.e
    replace D4 := D4.e0 n3.e
    replace D6 := D6.e0 n3.e
    replace D2 := D2.e0 n3.e
    replace D9 := D9.e0 n3.e
    simp only [List.set_cons_zero, List.set_cons_succ]
    refine xStoreA 37 (.tmp 4) (.tmp 45) rfl .u8 w6.heap.size 37 (nn (List.replicate 32 0)) 0 (nn (mroot tabL 8 m256)) (by kernel_rfl) (by kernel_rfl) b4 (by rw [show (nn (mroot tabL 8 m256)).length = 32 by ((try simp only [nn_len, List.length_append, List.length_replicate]); try omega)]; kernel_rfl) (by (try simp only [nn_len, List.length_append, List.length_replicate]); try omega) (nn (mroot tabL 8 m256)) (over_whole _ _ (by (try simp only [nn_len, List.length_append, List.length_replicate]); try omega)) ?_
    intro w8 t2
    have zt2 := t2.z
    have BL_ := BL.ev t2.e (fun i h => show w.heap.size ≤ i by have h : i = w6.heap.size := h; omega)
    have b1_ := b1.ev t2.e (show ¬ (w1.heap.size = w6.heap.size) by omega)
    have O_ := O.ev t2.e (fun i hi => show ¬ (i = w6.heap.size) by have := hOb i hi; omega)
    have D256_ := D256.ev t2.e (fun i hi => show ¬ (i = w6.heap.size) by have := hdd256 i hi; omega)
    have D4_ := D4.ev t2.e (fun i hi => show ¬ (i = w6.heap.size) by have := hdd4 i hi; omega)
    have D6_ := D6.ev t2.e (fun i hi => show ¬ (i = w6.heap.size) by have := hdd6 i hi; omega)
    have D2_ := D2.ev t2.e (fun i hi => show ¬ (i = w6.heap.size) by have := hdd2 i hi; omega)
    have D9_ := D9.ev t2.e (fun i hi => show ¬ (i = w6.heap.size) by have := hdd9 i hi; omega)
    replace BL := BL_; clear BL_
    replace b1 := b1_; clear b1_
    replace O := O_; clear O_
    replace D256 := D256_; clear D256_
    replace D4 := D4_; clear D4_
    replace D6 := D6_; clear D6_
    replace D2 := D2_; clear D2_
    replace D9 := D9_; clear D9_
    replace b4 : Blk .u8 w8 w6.heap.size 37 (nn (mroot tabL 8 m256)) := t2.c
    clear t2
    refine sv 5 (.int .i64 0) .of ?_
    simp only [List.set_cons_zero, List.set_cons_succ]
    refine wpList_nil ?_
    refine hK10 _ _ ?_
    refine wp_seq_k fun K11 hK11 => ?_
    refine cPlain ?_
    refine sv 48 (.slice (some ⟨w3.heap.size, 0, none⟩) 512 512) .of ?_
    simp only [List.set_cons_zero, List.set_cons_succ]
    refine sv 49 (.slice A256 256 C256) (Val.as (Val.slcE 63 (.tmp 48) none (some _) rfl (.slice (some ⟨w3.heap.size, 0, none⟩) 512 512) (by kernel_rfl) O.se 0 256 (.inr ⟨rfl, rfl⟩) (.inl (by kernel_rfl)) (Nat.zero_le _) (by rw [nnd_len]; omega) Try.underlying63 (by kernel_rfl)) hk256) ?_
    simp only [List.set_cons_zero, List.set_cons_succ]
    refine xCall 50 46 #[.pointer (some ⟨w1.heap.size, 0, none⟩), .slice A256 256 C256, .int .i64 255] (by kernel_rfl) ?_
    refine (mpath_any w1.heap.size tabL hTL w8 b1 _ m256 D256 h256l 8 (by omega) hml256 255 (by omega)).mono ?_
    rintro en w9 ⟨pA, pN, pC, he, hBO, hb1⟩
    have hpN : pN = 8 := by have := hBO.se.cap.1; rw [nnd_len, mpath_len] at this; exact this
    rw [hpN] at he hBO
    clear hpN
    subst he
    have e4 := belE0 hb1
    have ze4 := e4.size
    replace BL := BL.e0 e4
    replace b1 := b1.e0 e4
    replace O := O.e0 e4
    replace D256 := D256.e0 e4
    replace D4 := D4.e0 e4
    replace D6 := D6.e0 e4
    replace D2 := D2.e0 e4
    replace D9 := D9.e0 e4
    replace b4 := b4.e0 e4
    clear e4
    have PO : OwnE 37 .u8 32 w8.heap.size w9 (.slice pA 8 pC) (nnd (mpath tabL 8 m256 255)) := hBO
    have lPO_1 := PO.ge
    refine ⟨.tuple #[.agg #[.int .i64 ((255 : Nat) : Int), .slice pA 8 pC], .int .i64 0], rfl, ?_⟩
    simp only [List.set_cons_zero, List.set_cons_succ]
    refine sv 47 (.tuple #[.agg #[.int .i64 ((255 : Nat) : Int), .slice pA 8 pC], .int .i64 0]) .of ?_
    simp only [List.set_cons_zero, List.set_cons_succ]
    refine sv 51 (.agg #[.int .i64 ((255 : Nat) : Int), .slice pA 8 pC]) .of ?_
    simp only [List.set_cons_zero, List.set_cons_succ]
    refine sv 52 (.int .i64 0) .of ?_
    simp only [List.set_cons_zero, List.set_cons_succ]
    refine xAlloc 6 66 [.int .i64 0, .slice none 0 0] rfl (by kernel_rfl) ?_
    intro w10 n4
    have zn4 := n4.z
    have b6 := n4.c
    replace BL := BL.e0 n4.e
    replace b1 := b1.e0 n4.e
    replace O := O.e0 n4.e
    replace D256 := D256.e0 n4.e
    replace D4 := D4.e0 n4.e
    replace D6 := D6.e0 n4.e
    replace D2 := D2.e0 n4.e
    replace D9 := D9.e0 n4.e
    replace b4 := b4.e0 n4.e
    replace PO := PO.e0 n4.e
    simp only [List.set_cons_zero, List.set_cons_succ]
    refine xStoreR 66 (.tmp 6) (.tmp 51) rfl w9.heap.size 66 [.int .i64 0, .slice none 0 0] 0 [.int .i64 ((255 : Nat) : Int), .slice pA 8 pC] (by kernel_rfl) (by kernel_rfl) b6 (by kernel_rfl) (by simp) rfl [.int .i64 ((255 : Nat) : Int), .slice pA 8 pC] rfl ?_
    intro w11 t3
    have zt3 := t3.z
    have BL_ := BL.ev t3.e (fun i h => show w.heap.size ≤ i by have h : i = w9.heap.size := h; omega)
    have b1_ := b1.ev t3.e (show ¬ (w1.heap.size = w9.heap.size) by omega)
    have O_ := O.ev t3.e (fun i hi => show ¬ (i = w9.heap.size) by have := hOb i hi; omega)
    have D256_ := D256.ev t3.e (fun i hi => show ¬ (i = w9.heap.size) by have := hdd256 i hi; omega)
    have D4_ := D4.ev t3.e (fun i hi => show ¬ (i = w9.heap.size) by have := hdd4 i hi; omega)
    have D6_ := D6.ev t3.e (fun i hi => show ¬ (i = w9.heap.size) by have := hdd6 i hi; omega)
    have D2_ := D2.ev t3.e (fun i hi => show ¬ (i = w9.heap.size) by have := hdd2 i hi; omega)
    have D9_ := D9.ev t3.e (fun i hi => show ¬ (i = w9.heap.size) by have := hdd9 i hi; omega)
    have b4_ := b4.ev t3.e (show ¬ (w6.heap.size = w9.heap.size) by omega)
    have PO_ := PO.ev t3.e (fun i hi => show ¬ (i = w9.heap.size) by have := lPO_1 i hi; omega)
    replace BL := BL_; clear BL_
    replace b1 := b1_; clear b1_
    replace O := O_; clear O_
    replace D256 := D256_; clear D256_
    replace D4 := D4_; clear D4_
    replace D6 := D6_; clear D6_
    replace D2 := D2_; clear D2_
    replace D9 := D9_; clear D9_
    replace b4 := b4_; clear b4_
    replace PO := PO_; clear PO_
    replace b6 : Cel w11 w9.heap.size 66 [.int .i64 ((255 : Nat) : Int), .slice pA 8 pC] := t3.c
    clear t3
    refine sv 7 (.int .i64 0) .of ?_
    simp only [List.set_cons_zero, List.set_cons_succ]
    refine wpList_nil ?_
    refine hK11 _ _ ?_
    refine wp_seq_k fun K12 hK12 => ?_
    have e5 := drew_e0 w11
    refine zg (fun w_ => Bl w.heap.size w w_ ∧ Blk .u32 w_ w1.heap.size 26 (nn tabL) ∧ OwnE 37 .u8 32 w3.heap.size w_ (.slice (some ⟨w3.heap.size, 0, none⟩) 512 512) (nnd M) ∧ SE .u8 32 w_ (.slice A256 256 C256) (nnd m256) ∧ SE .u8 32 w_ (.slice A4 4 C4) (nnd m4) ∧ SE .u8 32 w_ (.slice A6 6 C6) (nnd m6) ∧ SE .u8 32 w_ (.slice A2 2 C2) (nnd m2) ∧ SE .u8 32 w_ (.slice A9 9 C9) (nnd m9) ∧ Blk .u8 w_ w6.heap.size 37 (nn (mroot tabL 8 m256)) ∧ OwnE 37 .u8 32 w8.heap.size w_ (.slice pA 8 pC) (nnd (mpath tabL 8 m256 255)) ∧ Cel w_ w9.heap.size 66 [.int .i64 ((255 : Nat) : Int), .slice pA 8 pC] ∧ w11.heap.size ≤ w_.heap.size) (fun w_ => Bl w.heap.size w w_ ∧ Blk .u32 w_ w1.heap.size 26 (nn tabL) ∧ OwnE 37 .u8 32 w3.heap.size w_ (.slice (some ⟨w3.heap.size, 0, none⟩) 512 512) (nnd M) ∧ SE .u8 32 w_ (.slice A256 256 C256) (nnd m256) ∧ SE .u8 32 w_ (.slice A4 4 C4) (nnd m4) ∧ SE .u8 32 w_ (.slice A6 6 C6) (nnd m6) ∧ SE .u8 32 w_ (.slice A2 2 C2) (nnd m2) ∧ SE .u8 32 w_ (.slice A9 9 C9) (nnd m9) ∧ Blk .u8 w_ w6.heap.size 37 (nn (mroot tabL 8 m256)) ∧ OwnE 37 .u8 32 w8.heap.size w_ (.slice pA 8 pC) (nnd (mpath tabL 8 m256 255)) ∧ Cel w_ w9.heap.size 66 [.int .i64 ((255 : Nat) : Int), .slice pA 8 pC] ∧ w11.heap.size ≤ w_.heap.size) 100000 11 ⟨BL.e0 e5, b1.e0 e5, O.e0 e5, D256.e0 e5, D4.e0 e5, D6.e0 e5, D2.e0 e5, D9.e0 e5, b4.e0 e5, PO.e0 e5, b6.e0 e5, Nat.le_refl _⟩ ?_
    clear BL b1 O D256 D4 D6 D2 D9 b4 PO b6
    clear e5
    intro w12
    rintro ⟨BL, b1, O, D256, D4, D6, D2, D9, b4, PO, b6, z1⟩
    refine zv 0 54 (.slice (some ⟨w3.heap.size, 0, none⟩) 512 512) (fun _ _ => .of) ⟨BL, b1, O, D256, D4, D6, D2, D9, b4, PO, b6, by omega⟩ ?_
    simp only [List.set_cons_zero, List.set_cons_succ]
    refine zv 1 55 (elemE 32 (.slice (some ⟨w3.heap.size, 0, none⟩) 512 512) 255) (fun _ ⟨BL, b1, O, D256, D4, D6, D2, D9, b4, PO, b6, z1⟩ => Val.ixE 63 (.tmp 54) _ rfl (.slice (some ⟨w3.heap.size, 0, none⟩) 512 512) 255 (by kernel_rfl) (by kernel_rfl) O.se Try.underlying63 (by kernel_rfl) (by simp only [nnd_len]; omega)) ⟨BL, b1, O, D256, D4, D6, D2, D9, b4, PO, b6, by omega⟩ ?_
    simp only [List.set_cons_zero, List.set_cons_succ]
    refine zv 2 56 (.agg (cellsOf .u8 (nn (M.getD 255 [])))) (fun _ ⟨BL, b1, O, D256, D4, D6, D2, D9, b4, PO, b6, z1⟩ => Val.ldGN 37 _ rfl (.slice (some ⟨w3.heap.size, 0, none⟩) 512 512) 255 (by kernel_rfl) O.se _ Try.underlying37 rfl (by kernel_rfl) (by simp only [nnd_len]; omega)) ⟨BL, b1, O, D256, D4, D6, D2, D9, b4, PO, b6, by omega⟩ ?_
    simp only [List.set_cons_zero, List.set_cons_succ]
    refine zv 3 57 (.agg #[.int .i64 ((255 : Nat) : Int), .slice pA 8 pC]) (fun _ ⟨BL, b1, O, D256, D4, D6, D2, D9, b4, PO, b6, z1⟩ => Val.cel 66 _ rfl 0 2 (by kernel_rfl) b6 _ Try.underlying66 rfl (by kernel_rfl) (by simp) [.int .i64 ((255 : Nat) : Int), .slice pA 8 pC] rfl) ⟨BL, b1, O, D256, D4, D6, D2, D9, b4, PO, b6, by omega⟩ ?_
    simp only [List.set_cons_zero, List.set_cons_succ]
    refine zo2 4 8 rfl rfl ?_ ?_
    · skip
      refine xCall 58 43 #[.pointer (some ⟨w1.heap.size, 0, none⟩), .agg (cellsOf .u8 (nn (M.getD 255 []))), .agg #[.int .i64 ((255 : Nat) : Int), .slice pA 8 pC]] (by kernel_rfl) ?_
      have hcp := mclimb_path tabL 8 m256 255 hml256 (by omega)
      rw [hg255] at hcp
      have hP2 : SE .u8 32 w12 (.slice pA (mpath tabL 8 m256 255).length pC) (nnd (mpath tabL 8 m256 255)) := by rw [mpath_len]; exact PO.se
      have hcc := mclimb_any w1.heap.size tabL hTL w12 b1 (M.getD 255 []) (fe_getDN hM32 (by omega)) 255 pA pC (mpath tabL 8 m256 255) hP2 (mpath_lens tabL 8 m256 255 hml256 (by omega) h256l) (by rw [mpath_len]; omega) (by rw [mpath_len]; omega)
      rw [hcp, mpath_len] at hcc
      refine (hcc).mono ?_
      rintro en w13 ⟨rfl, hb1⟩
      have e6 := belE0 hb1
      have ze6 := e6.size
      replace BL := BL.e0 e6
      replace b1 := b1.e0 e6
      replace O := O.e0 e6
      replace D256 := D256.e0 e6
      replace D4 := D4.e0 e6
      replace D6 := D6.e0 e6
      replace D2 := D2.e0 e6
      replace D9 := D9.e0 e6
      replace b4 := b4.e0 e6
      replace PO := PO.e0 e6
      replace b6 := b6.e0 e6
      clear e6
      refine ⟨.tuple #[.agg (cellsOf .u8 (nn (mroot tabL 8 m256))), .int .i64 0], rfl, ?_⟩
      refine ze 4 ⟨BL, b1, O, D256, D4, D6, D2, D9, b4, PO, b6, by omega⟩ ?_
      simp only [List.set_cons_zero, List.set_cons_succ]
      refine zv 5 53 (.tuple #[.agg (cellsOf .u8 (nn (mroot tabL 8 m256))), .int .i64 0]) (fun _ _ => .of) ⟨BL, b1, O, D256, D4, D6, D2, D9, b4, PO, b6, by omega⟩ ?_
      simp only [List.set_cons_zero, List.set_cons_succ]
      refine zv 6 59 (.agg (cellsOf .u8 (nn (mroot tabL 8 m256)))) (fun _ _ => .of) ⟨BL, b1, O, D256, D4, D6, D2, D9, b4, PO, b6, by omega⟩ ?_
      simp only [List.set_cons_zero, List.set_cons_succ]
      refine zv 7 60 (.int .i64 0) (fun _ _ => .of) ⟨BL, b1, O, D256, D4, D6, D2, D9, b4, PO, b6, by omega⟩ ?_
      simp only [List.set_cons_zero, List.set_cons_succ]
      refine zo1 8 rfl ?_
      refine xAlloc 8 37 ((nn (List.replicate 32 0)).map (Value.int .u8)) rfl (by kernel_rfl) ?_
      intro w14 n5
      have zn5 := n5.z
      have b8 := n5.c
      replace b8 : Blk .u8 w14 w13.heap.size 37 (nn (List.replicate 32 0)) := b8
      replace BL := BL.e0 n5.e
      replace b1 := b1.e0 n5.e
      replace O := O.e0 n5.e
      replace D256 := D256.e0 n5.e
      replace D4 := D4.e0 n5.e
      replace D6 := D6.e0 n5.e
      replace D2 := D2.e0 n5.e
      replace D9 := D9.e0 n5.e
      replace b4 := b4.e0 n5.e
      replace PO := PO.e0 n5.e
      replace b6 := b6.e0 n5.e
      refine ze 8 ⟨BL, b1, O, D256, D4, D6, D2, D9, b4, PO, b6, by omega⟩ ?_
      simp only [List.set_cons_zero, List.set_cons_succ]
      refine zo1 9 rfl ?_
      refine xStoreA 37 (.tmp 8) (.tmp 59) rfl .u8 w13.heap.size 37 (nn (List.replicate 32 0)) 0 (nn (mroot tabL 8 m256)) (by kernel_rfl) (by kernel_rfl) b8 (by rw [show (nn (mroot tabL 8 m256)).length = 32 by ((try simp only [nn_len, List.length_append, List.length_replicate]); try omega)]; kernel_rfl) (by (try simp only [nn_len, List.length_append, List.length_replicate]); try omega) (nn (mroot tabL 8 m256)) (over_whole _ _ (by (try simp only [nn_len, List.length_append, List.length_replicate]); try omega)) ?_
      intro w15 t4
      have zt4 := t4.z
      have BL_ := BL.ev t4.e (fun i h => show w.heap.size ≤ i by have h : i = w13.heap.size := h; omega)
      have b1_ := b1.ev t4.e (show ¬ (w1.heap.size = w13.heap.size) by omega)
      have O_ := O.ev t4.e (fun i hi => show ¬ (i = w13.heap.size) by have := hOb i hi; omega)
      have D256_ := D256.ev t4.e (fun i hi => show ¬ (i = w13.heap.size) by have := hdd256 i hi; omega)
      have D4_ := D4.ev t4.e (fun i hi => show ¬ (i = w13.heap.size) by have := hdd4 i hi; omega)
      have D6_ := D6.ev t4.e (fun i hi => show ¬ (i = w13.heap.size) by have := hdd6 i hi; omega)
      have D2_ := D2.ev t4.e (fun i hi => show ¬ (i = w13.heap.size) by have := hdd2 i hi; omega)
      have D9_ := D9.ev t4.e (fun i hi => show ¬ (i = w13.heap.size) by have := hdd9 i hi; omega)
      have b4_ := b4.ev t4.e (show ¬ (w6.heap.size = w13.heap.size) by omega)
      have PO_ := PO.ev t4.e (fun i hi => show ¬ (i = w13.heap.size) by have := lPO_1 i hi; omega)
      have b6_ := b6.ev t4.e (show ¬ (w9.heap.size = w13.heap.size) by omega)
      replace BL := BL_; clear BL_
      replace b1 := b1_; clear b1_
      replace O := O_; clear O_
      replace D256 := D256_; clear D256_
      replace D4 := D4_; clear D4_
      replace D6 := D6_; clear D6_
      replace D2 := D2_; clear D2_
      replace D9 := D9_; clear D9_
      replace b4 := b4_; clear b4_
      replace PO := PO_; clear PO_
      replace b6 := b6_; clear b6_
      replace b8 : Blk .u8 w15 w13.heap.size 37 (nn (mroot tabL 8 m256)) := t4.c
      clear t4
      refine ze 9 ⟨BL, b1, O, D256, D4, D6, D2, D9, b4, PO, b6, by omega⟩ ?_
      refine zv 10 9 (.int .i64 0) (fun _ _ => .of) ⟨BL, b1, O, D256, D4, D6, D2, D9, b4, PO, b6, by omega⟩ ?_
      simp only [List.set_cons_zero, List.set_cons_succ]
      refine zd (by kernel_rfl) ?_ _
      refine hK12 _ _ ?_
      refine wp_seq_k fun K13 hK13 => ?_
      refine cPlain ?_
      refine sv 62 (.slice (some ⟨w3.heap.size, 0, none⟩) 512 512) .of ?_
      simp only [List.set_cons_zero, List.set_cons_succ]
      refine xCall 63 45 #[.pointer (some ⟨w1.heap.size, 0, none⟩), .slice (some ⟨w3.heap.size, 0, none⟩) 512 512] (by kernel_rfl) ?_
      refine (mroot_no _ _ M w15 O.se (by omega) (by rw [hMl]; rfl)).mono ?_
      rintro en w16 ⟨rfl, hb1⟩
      have e7 := belE0 hb1
      have ze7 := e7.size
      replace BL := BL.e0 e7
      replace b1 := b1.e0 e7
      replace O := O.e0 e7
      replace D256 := D256.e0 e7
      replace D4 := D4.e0 e7
      replace D6 := D6.e0 e7
      replace D2 := D2.e0 e7
      replace D9 := D9.e0 e7
      replace b4 := b4.e0 e7
      replace PO := PO.e0 e7
      replace b6 := b6.e0 e7
      replace b8 := b8.e0 e7
      clear e7
      refine ⟨.tuple #[.agg (cellsOf .u8 (nn (List.replicate 32 0))), .int .i64 2], rfl, ?_⟩
      simp only [List.set_cons_zero, List.set_cons_succ]
      refine sv 61 (.tuple #[.agg (cellsOf .u8 (nn (List.replicate 32 0))), .int .i64 2]) .of ?_
      simp only [List.set_cons_zero, List.set_cons_succ]
      refine sv 64 (.agg (cellsOf .u8 (nn (List.replicate 32 0)))) .of ?_
      simp only [List.set_cons_zero, List.set_cons_succ]
      refine sv 65 (.int .i64 2) .of ?_
      simp only [List.set_cons_zero, List.set_cons_succ]
      refine xAlloc 10 37 ((nn (List.replicate 32 0)).map (Value.int .u8)) rfl (by kernel_rfl) ?_
      intro w17 n6
      have zn6 := n6.z
      have b10 := n6.c
      replace b10 : Blk .u8 w17 w16.heap.size 37 (nn (List.replicate 32 0)) := b10
      replace BL := BL.e0 n6.e
      replace b1 := b1.e0 n6.e
      replace O := O.e0 n6.e
      replace D256 := D256.e0 n6.e
      replace D4 := D4.e0 n6.e
      replace D6 := D6.e0 n6.e
      replace D2 := D2.e0 n6.e
      replace D9 := D9.e0 n6.e
      replace b4 := b4.e0 n6.e
      replace PO := PO.e0 n6.e
      replace b6 := b6.e0 n6.e
      replace b8 := b8.e0 n6.e
      simp only [List.set_cons_zero, List.set_cons_succ]
      refine xStoreA 37 (.tmp 10) (.tmp 64) rfl .u8 w16.heap.size 37 (nn (List.replicate 32 0)) 0 (nn (List.replicate 32 0)) (by kernel_rfl) (by kernel_rfl) b10 (by rw [show (nn (List.replicate 32 0)).length = 32 by ((try simp only [nn_len, List.length_append, List.length_replicate]); try omega)]; kernel_rfl) (by (try simp only [nn_len, List.length_append, List.length_replicate]); try omega) (nn (List.replicate 32 0)) (over_whole _ _ (by (try simp only [nn_len, List.length_append, List.length_replicate]); try omega)) ?_
      intro w18 t5
      have zt5 := t5.z
      have BL_ := BL.ev t5.e (fun i h => show w.heap.size ≤ i by have h : i = w16.heap.size := h; omega)
      have b1_ := b1.ev t5.e (show ¬ (w1.heap.size = w16.heap.size) by omega)
      have O_ := O.ev t5.e (fun i hi => show ¬ (i = w16.heap.size) by have := hOb i hi; omega)
      have D256_ := D256.ev t5.e (fun i hi => show ¬ (i = w16.heap.size) by have := hdd256 i hi; omega)
      have D4_ := D4.ev t5.e (fun i hi => show ¬ (i = w16.heap.size) by have := hdd4 i hi; omega)
      have D6_ := D6.ev t5.e (fun i hi => show ¬ (i = w16.heap.size) by have := hdd6 i hi; omega)
      have D2_ := D2.ev t5.e (fun i hi => show ¬ (i = w16.heap.size) by have := hdd2 i hi; omega)
      have D9_ := D9.ev t5.e (fun i hi => show ¬ (i = w16.heap.size) by have := hdd9 i hi; omega)
      have b4_ := b4.ev t5.e (show ¬ (w6.heap.size = w16.heap.size) by omega)
      have PO_ := PO.ev t5.e (fun i hi => show ¬ (i = w16.heap.size) by have := lPO_1 i hi; omega)
      have b6_ := b6.ev t5.e (show ¬ (w9.heap.size = w16.heap.size) by omega)
      have b8_ := b8.ev t5.e (show ¬ (w13.heap.size = w16.heap.size) by omega)
      replace BL := BL_; clear BL_
      replace b1 := b1_; clear b1_
      replace O := O_; clear O_
      replace D256 := D256_; clear D256_
      replace D4 := D4_; clear D4_
      replace D6 := D6_; clear D6_
      replace D2 := D2_; clear D2_
      replace D9 := D9_; clear D9_
      replace b4 := b4_; clear b4_
      replace PO := PO_; clear PO_
      replace b6 := b6_; clear b6_
      replace b8 := b8_; clear b8_
      replace b10 : Blk .u8 w18 w16.heap.size 37 (nn (List.replicate 32 0)) := t5.c
      clear t5
      refine sv 11 (.int .i64 2) .of ?_
      simp only [List.set_cons_zero, List.set_cons_succ]
      refine wpList_nil ?_
      refine hK13 _ _ ?_
      refine wp_seq_k fun K14 hK14 => ?_
      refine cPlain ?_
      refine sv 67 (.slice (some ⟨w3.heap.size, 0, none⟩) 512 512) .of ?_
      simp only [List.set_cons_zero, List.set_cons_succ]
      refine xCall 68 46 #[.pointer (some ⟨w1.heap.size, 0, none⟩), .slice (some ⟨w3.heap.size, 0, none⟩) 512 512, .int .i64 0] (by kernel_rfl) ?_
      refine (mpath_no _ _ M 0 w18 O.se (by omega) (by omega) (by rw [hMl]; rfl)).mono ?_
      rintro en w19 ⟨rfl, hb1⟩
      have e8 := belE0 hb1
      have ze8 := e8.size
      replace BL := BL.e0 e8
      replace b1 := b1.e0 e8
      replace O := O.e0 e8
      replace D256 := D256.e0 e8
      replace D4 := D4.e0 e8
      replace D6 := D6.e0 e8
      replace D2 := D2.e0 e8
      replace D9 := D9.e0 e8
      replace b4 := b4.e0 e8
      replace PO := PO.e0 e8
      replace b6 := b6.e0 e8
      replace b8 := b8.e0 e8
      replace b10 := b10.e0 e8
      clear e8
      refine ⟨.tuple #[.agg #[.int .i64 0, .slice none 0 0], .int .i64 2], rfl, ?_⟩
      simp only [List.set_cons_zero, List.set_cons_succ]
      refine sv 66 (.tuple #[.agg #[.int .i64 0, .slice none 0 0], .int .i64 2]) .of ?_
      simp only [List.set_cons_zero, List.set_cons_succ]
      refine sv 69 (.agg #[.int .i64 0, .slice none 0 0]) .of ?_
      simp only [List.set_cons_zero, List.set_cons_succ]
      refine sv 70 (.int .i64 2) .of ?_
      simp only [List.set_cons_zero, List.set_cons_succ]
      refine xAlloc 12 66 [.int .i64 0, .slice none 0 0] rfl (by kernel_rfl) ?_
      intro w20 n7
      have zn7 := n7.z
      have b12 := n7.c
      replace BL := BL.e0 n7.e
      replace b1 := b1.e0 n7.e
      replace O := O.e0 n7.e
      replace D256 := D256.e0 n7.e
      replace D4 := D4.e0 n7.e
      replace D6 := D6.e0 n7.e
      replace D2 := D2.e0 n7.e
      replace D9 := D9.e0 n7.e
      replace b4 := b4.e0 n7.e
      replace PO := PO.e0 n7.e
      replace b6 := b6.e0 n7.e
      replace b8 := b8.e0 n7.e
      replace b10 := b10.e0 n7.e
      simp only [List.set_cons_zero, List.set_cons_succ]
      refine xStoreR 66 (.tmp 12) (.tmp 69) rfl w19.heap.size 66 [.int .i64 0, .slice none 0 0] 0 [.int .i64 0, .slice none 0 0] (by kernel_rfl) (by kernel_rfl) b12 (by kernel_rfl) (by simp) rfl [.int .i64 0, .slice none 0 0] rfl ?_
      intro w21 t6
      have zt6 := t6.z
      have BL_ := BL.ev t6.e (fun i h => show w.heap.size ≤ i by have h : i = w19.heap.size := h; omega)
      have b1_ := b1.ev t6.e (show ¬ (w1.heap.size = w19.heap.size) by omega)
      have O_ := O.ev t6.e (fun i hi => show ¬ (i = w19.heap.size) by have := hOb i hi; omega)
      have D256_ := D256.ev t6.e (fun i hi => show ¬ (i = w19.heap.size) by have := hdd256 i hi; omega)
      have D4_ := D4.ev t6.e (fun i hi => show ¬ (i = w19.heap.size) by have := hdd4 i hi; omega)
      have D6_ := D6.ev t6.e (fun i hi => show ¬ (i = w19.heap.size) by have := hdd6 i hi; omega)
      have D2_ := D2.ev t6.e (fun i hi => show ¬ (i = w19.heap.size) by have := hdd2 i hi; omega)
      have D9_ := D9.ev t6.e (fun i hi => show ¬ (i = w19.heap.size) by have := hdd9 i hi; omega)
      have b4_ := b4.ev t6.e (show ¬ (w6.heap.size = w19.heap.size) by omega)
      have PO_ := PO.ev t6.e (fun i hi => show ¬ (i = w19.heap.size) by have := lPO_1 i hi; omega)
      have b6_ := b6.ev t6.e (show ¬ (w9.heap.size = w19.heap.size) by omega)
      have b8_ := b8.ev t6.e (show ¬ (w13.heap.size = w19.heap.size) by omega)
      have b10_ := b10.ev t6.e (show ¬ (w16.heap.size = w19.heap.size) by omega)
      replace BL := BL_; clear BL_
      replace b1 := b1_; clear b1_
      replace O := O_; clear O_
      replace D256 := D256_; clear D256_
      replace D4 := D4_; clear D4_
      replace D6 := D6_; clear D6_
      replace D2 := D2_; clear D2_
      replace D9 := D9_; clear D9_
      replace b4 := b4_; clear b4_
      replace PO := PO_; clear PO_
      replace b6 := b6_; clear b6_
      replace b8 := b8_; clear b8_
      replace b10 := b10_; clear b10_
      replace b12 : Cel w21 w19.heap.size 66 [.int .i64 0, .slice none 0 0] := t6.c
      clear t6
      refine sv 13 (.int .i64 2) .of ?_
      simp only [List.set_cons_zero, List.set_cons_succ]
      refine wpList_nil ?_
      refine hK14 _ _ ?_
      refine wp_seq_k fun K15 hK15 => ?_
      refine cPlain ?_
      refine sv 72 (.slice (some ⟨w3.heap.size, 0, none⟩) 512 512) .of ?_
      simp only [List.set_cons_zero, List.set_cons_succ]
      refine sv 73 (.slice A4 4 C4) (Val.as (Val.slcE 63 (.tmp 72) none (some _) rfl (.slice (some ⟨w3.heap.size, 0, none⟩) 512 512) (by kernel_rfl) O.se 0 4 (.inr ⟨rfl, rfl⟩) (.inl (by kernel_rfl)) (Nat.zero_le _) (by rw [nnd_len]; omega) Try.underlying63 (by kernel_rfl)) hk4) ?_
      simp only [List.set_cons_zero, List.set_cons_succ]
      refine xCall 74 46 #[.pointer (some ⟨w1.heap.size, 0, none⟩), .slice A4 4 C4, .int .i64 4] (by kernel_rfl) ?_
      refine (mpath_bad _ _ m4 (4) w21 D4 (by omega)).mono ?_
      rintro en w22 ⟨rfl, hb1⟩
      have e9 := belE0 hb1
      have ze9 := e9.size
      replace BL := BL.e0 e9
      replace b1 := b1.e0 e9
      replace O := O.e0 e9
      replace D256 := D256.e0 e9
      replace D4 := D4.e0 e9
      replace D6 := D6.e0 e9
      replace D2 := D2.e0 e9
      replace D9 := D9.e0 e9
      replace b4 := b4.e0 e9
      replace PO := PO.e0 e9
      replace b6 := b6.e0 e9
      replace b8 := b8.e0 e9
      replace b10 := b10.e0 e9
      replace b12 := b12.e0 e9
      clear e9
      refine ⟨.tuple #[.agg #[.int .i64 0, .slice none 0 0], .int .i64 2], rfl, ?_⟩
      simp only [List.set_cons_zero, List.set_cons_succ]
      refine sv 71 (.tuple #[.agg #[.int .i64 0, .slice none 0 0], .int .i64 2]) .of ?_
      simp only [List.set_cons_zero, List.set_cons_succ]
      refine sv 75 (.agg #[.int .i64 0, .slice none 0 0]) .of ?_
      simp only [List.set_cons_zero, List.set_cons_succ]
      refine sv 76 (.int .i64 2) .of ?_
      simp only [List.set_cons_zero, List.set_cons_succ]
      refine xAlloc 14 66 [.int .i64 0, .slice none 0 0] rfl (by kernel_rfl) ?_
      intro w23 n8
      have zn8 := n8.z
      have b14 := n8.c
      replace BL := BL.e0 n8.e
      replace b1 := b1.e0 n8.e
      replace O := O.e0 n8.e
      replace D256 := D256.e0 n8.e
      replace D4 := D4.e0 n8.e
      replace D6 := D6.e0 n8.e
      replace D2 := D2.e0 n8.e
      replace D9 := D9.e0 n8.e
      replace b4 := b4.e0 n8.e
      replace PO := PO.e0 n8.e
      replace b6 := b6.e0 n8.e
      replace b8 := b8.e0 n8.e
      replace b10 := b10.e0 n8.e
      replace b12 := b12.e0 n8.e
      simp only [List.set_cons_zero, List.set_cons_succ]
      refine xStoreR 66 (.tmp 14) (.tmp 75) rfl w22.heap.size 66 [.int .i64 0, .slice none 0 0] 0 [.int .i64 0, .slice none 0 0] (by kernel_rfl) (by kernel_rfl) b14 (by kernel_rfl) (by simp) rfl [.int .i64 0, .slice none 0 0] rfl ?_
      intro w24 t7
      have zt7 := t7.z
      have BL_ := BL.ev t7.e (fun i h => show w.heap.size ≤ i by have h : i = w22.heap.size := h; omega)
      have b1_ := b1.ev t7.e (show ¬ (w1.heap.size = w22.heap.size) by omega)
      have O_ := O.ev t7.e (fun i hi => show ¬ (i = w22.heap.size) by have := hOb i hi; omega)
      have D256_ := D256.ev t7.e (fun i hi => show ¬ (i = w22.heap.size) by have := hdd256 i hi; omega)
      have D4_ := D4.ev t7.e (fun i hi => show ¬ (i = w22.heap.size) by have := hdd4 i hi; omega)
      have D6_ := D6.ev t7.e (fun i hi => show ¬ (i = w22.heap.size) by have := hdd6 i hi; omega)
      have D2_ := D2.ev t7.e (fun i hi => show ¬ (i = w22.heap.size) by have := hdd2 i hi; omega)
      have D9_ := D9.ev t7.e (fun i hi => show ¬ (i = w22.heap.size) by have := hdd9 i hi; omega)
      have b4_ := b4.ev t7.e (show ¬ (w6.heap.size = w22.heap.size) by omega)
      have PO_ := PO.ev t7.e (fun i hi => show ¬ (i = w22.heap.size) by have := lPO_1 i hi; omega)
      have b6_ := b6.ev t7.e (show ¬ (w9.heap.size = w22.heap.size) by omega)
      have b8_ := b8.ev t7.e (show ¬ (w13.heap.size = w22.heap.size) by omega)
      have b10_ := b10.ev t7.e (show ¬ (w16.heap.size = w22.heap.size) by omega)
      have b12_ := b12.ev t7.e (show ¬ (w19.heap.size = w22.heap.size) by omega)
      replace BL := BL_; clear BL_
      replace b1 := b1_; clear b1_
      replace O := O_; clear O_
      replace D256 := D256_; clear D256_
      replace D4 := D4_; clear D4_
      replace D6 := D6_; clear D6_
      replace D2 := D2_; clear D2_
      replace D9 := D9_; clear D9_
      replace b4 := b4_; clear b4_
      replace PO := PO_; clear PO_
      replace b6 := b6_; clear b6_
      replace b8 := b8_; clear b8_
      replace b10 := b10_; clear b10_
      replace b12 := b12_; clear b12_
      replace b14 : Cel w24 w22.heap.size 66 [.int .i64 0, .slice none 0 0] := t7.c
      clear t7
      refine sv 15 (.int .i64 2) .of ?_
      simp only [List.set_cons_zero, List.set_cons_succ]
      refine wpList_nil ?_
      refine hK15 _ _ ?_
      refine wp_seq_k fun K16 hK16 => ?_
      refine cPlain ?_
      refine sv 78 (.slice (some ⟨w3.heap.size, 0, none⟩) 512 512) .of ?_
      simp only [List.set_cons_zero, List.set_cons_succ]
      refine sv 79 (.slice A4 4 C4) (Val.as (Val.slcE 63 (.tmp 78) none (some _) rfl (.slice (some ⟨w3.heap.size, 0, none⟩) 512 512) (by kernel_rfl) O.se 0 4 (.inr ⟨rfl, rfl⟩) (.inl (by kernel_rfl)) (Nat.zero_le _) (by rw [nnd_len]; omega) Try.underlying63 (by kernel_rfl)) hk4) ?_
      simp only [List.set_cons_zero, List.set_cons_succ]
      refine xCall 80 46 #[.pointer (some ⟨w1.heap.size, 0, none⟩), .slice A4 4 C4, .int .i64 (-1)] (by kernel_rfl) ?_
      refine (mpath_bad _ _ m4 (-1) w24 D4 (by omega)).mono ?_
      rintro en w25 ⟨rfl, hb1⟩
      have e10 := belE0 hb1
      have ze10 := e10.size
      replace BL := BL.e0 e10
      replace b1 := b1.e0 e10
      replace O := O.e0 e10
      replace D256 := D256.e0 e10
      replace D4 := D4.e0 e10
      replace D6 := D6.e0 e10
      replace D2 := D2.e0 e10
      replace D9 := D9.e0 e10
      replace b4 := b4.e0 e10
      replace PO := PO.e0 e10
      replace b6 := b6.e0 e10
      replace b8 := b8.e0 e10
      replace b10 := b10.e0 e10
      replace b12 := b12.e0 e10
      replace b14 := b14.e0 e10
      clear e10
      refine ⟨.tuple #[.agg #[.int .i64 0, .slice none 0 0], .int .i64 2], rfl, ?_⟩
      simp only [List.set_cons_zero, List.set_cons_succ]
      refine sv 77 (.tuple #[.agg #[.int .i64 0, .slice none 0 0], .int .i64 2]) .of ?_
      simp only [List.set_cons_zero, List.set_cons_succ]
      refine sv 81 (.agg #[.int .i64 0, .slice none 0 0]) .of ?_
      simp only [List.set_cons_zero, List.set_cons_succ]
      refine sv 82 (.int .i64 2) .of ?_
      simp only [List.set_cons_zero, List.set_cons_succ]
      refine xAlloc 16 66 [.int .i64 0, .slice none 0 0] rfl (by kernel_rfl) ?_
      intro w26 n9
      have zn9 := n9.z
      have b16 := n9.c
      replace BL := BL.e0 n9.e
      replace b1 := b1.e0 n9.e
      replace O := O.e0 n9.e
      replace D256 := D256.e0 n9.e
      replace D4 := D4.e0 n9.e
      replace D6 := D6.e0 n9.e
      replace D2 := D2.e0 n9.e
      replace D9 := D9.e0 n9.e
      replace b4 := b4.e0 n9.e
      replace PO := PO.e0 n9.e
      replace b6 := b6.e0 n9.e
      replace b8 := b8.e0 n9.e
      replace b10 := b10.e0 n9.e
      replace b12 := b12.e0 n9.e
      replace b14 := b14.e0 n9.e
      simp only [List.set_cons_zero, List.set_cons_succ]
      refine xStoreR 66 (.tmp 16) (.tmp 81) rfl w25.heap.size 66 [.int .i64 0, .slice none 0 0] 0 [.int .i64 0, .slice none 0 0] (by kernel_rfl) (by kernel_rfl) b16 (by kernel_rfl) (by simp) rfl [.int .i64 0, .slice none 0 0] rfl ?_
      intro w27 t8
      have zt8 := t8.z
      have BL_ := BL.ev t8.e (fun i h => show w.heap.size ≤ i by have h : i = w25.heap.size := h; omega)
      have b1_ := b1.ev t8.e (show ¬ (w1.heap.size = w25.heap.size) by omega)
      have O_ := O.ev t8.e (fun i hi => show ¬ (i = w25.heap.size) by have := hOb i hi; omega)
      have D256_ := D256.ev t8.e (fun i hi => show ¬ (i = w25.heap.size) by have := hdd256 i hi; omega)
      have D4_ := D4.ev t8.e (fun i hi => show ¬ (i = w25.heap.size) by have := hdd4 i hi; omega)
      have D6_ := D6.ev t8.e (fun i hi => show ¬ (i = w25.heap.size) by have := hdd6 i hi; omega)
      have D2_ := D2.ev t8.e (fun i hi => show ¬ (i = w25.heap.size) by have := hdd2 i hi; omega)
      have D9_ := D9.ev t8.e (fun i hi => show ¬ (i = w25.heap.size) by have := hdd9 i hi; omega)
      have b4_ := b4.ev t8.e (show ¬ (w6.heap.size = w25.heap.size) by omega)
      have PO_ := PO.ev t8.e (fun i hi => show ¬ (i = w25.heap.size) by have := lPO_1 i hi; omega)
      have b6_ := b6.ev t8.e (show ¬ (w9.heap.size = w25.heap.size) by omega)
      have b8_ := b8.ev t8.e (show ¬ (w13.heap.size = w25.heap.size) by omega)
      have b10_ := b10.ev t8.e (show ¬ (w16.heap.size = w25.heap.size) by omega)
      have b12_ := b12.ev t8.e (show ¬ (w19.heap.size = w25.heap.size) by omega)
      have b14_ := b14.ev t8.e (show ¬ (w22.heap.size = w25.heap.size) by omega)
      replace BL := BL_; clear BL_
      replace b1 := b1_; clear b1_
      replace O := O_; clear O_
      replace D256 := D256_; clear D256_
      replace D4 := D4_; clear D4_
      replace D6 := D6_; clear D6_
      replace D2 := D2_; clear D2_
      replace D9 := D9_; clear D9_
      replace b4 := b4_; clear b4_
      replace PO := PO_; clear PO_
      replace b6 := b6_; clear b6_
      replace b8 := b8_; clear b8_
      replace b10 := b10_; clear b10_
      replace b12 := b12_; clear b12_
      replace b14 := b14_; clear b14_
      replace b16 : Cel w27 w25.heap.size 66 [.int .i64 0, .slice none 0 0] := t8.c
      clear t8
      refine sv 17 (.int .i64 2) .of ?_
      simp only [List.set_cons_zero, List.set_cons_succ]
      refine wpList_nil ?_
      refine hK16 _ _ ?_
      refine wp_seq_k fun K17 hK17 => ?_
      refine cPlain ?_
      refine sv 84 (.slice (some ⟨w3.heap.size, 0, none⟩) 512 512) .of ?_
      simp only [List.set_cons_zero, List.set_cons_succ]
      refine sv 85 (.slice A6 6 C6) (Val.as (Val.slcE 63 (.tmp 84) none (some _) rfl (.slice (some ⟨w3.heap.size, 0, none⟩) 512 512) (by kernel_rfl) O.se 0 6 (.inr ⟨rfl, rfl⟩) (.inl (by kernel_rfl)) (Nat.zero_le _) (by rw [nnd_len]; omega) Try.underlying63 (by kernel_rfl)) hk6) ?_
      simp only [List.set_cons_zero, List.set_cons_succ]
      refine xCall 86 46 #[.pointer (some ⟨w1.heap.size, 0, none⟩), .slice A6 6 C6, .int .i64 1] (by kernel_rfl) ?_
      refine (mpath_no _ _ m6 1 w27 D6 (by omega) (by omega) (by rw [hml6]; rfl)).mono ?_
      rintro en w28 ⟨rfl, hb1⟩
      have e11 := belE0 hb1
      have ze11 := e11.size
      replace BL := BL.e0 e11
      replace b1 := b1.e0 e11
      replace O := O.e0 e11
      replace D256 := D256.e0 e11
      replace D4 := D4.e0 e11
      replace D6 := D6.e0 e11
      replace D2 := D2.e0 e11
      replace D9 := D9.e0 e11
      replace b4 := b4.e0 e11
      replace PO := PO.e0 e11
      replace b6 := b6.e0 e11
      replace b8 := b8.e0 e11
      replace b10 := b10.e0 e11
      replace b12 := b12.e0 e11
      replace b14 := b14.e0 e11
      replace b16 := b16.e0 e11
      clear e11
      refine ⟨.tuple #[.agg #[.int .i64 0, .slice none 0 0], .int .i64 2], rfl, ?_⟩
      simp only [List.set_cons_zero, List.set_cons_succ]
      refine sv 83 (.tuple #[.agg #[.int .i64 0, .slice none 0 0], .int .i64 2]) .of ?_
      simp only [List.set_cons_zero, List.set_cons_succ]
      refine sv 87 (.agg #[.int .i64 0, .slice none 0 0]) .of ?_
      simp only [List.set_cons_zero, List.set_cons_succ]
      refine sv 88 (.int .i64 2) .of ?_
      simp only [List.set_cons_zero, List.set_cons_succ]
      refine xAlloc 18 66 [.int .i64 0, .slice none 0 0] rfl (by kernel_rfl) ?_
      intro w29 n10
      have zn10 := n10.z
      have b18 := n10.c
      replace BL := BL.e0 n10.e
      replace b1 := b1.e0 n10.e
      replace O := O.e0 n10.e
      replace D256 := D256.e0 n10.e
      replace D4 := D4.e0 n10.e
      replace D6 := D6.e0 n10.e
      replace D2 := D2.e0 n10.e
      replace D9 := D9.e0 n10.e
      replace b4 := b4.e0 n10.e
      replace PO := PO.e0 n10.e
      replace b6 := b6.e0 n10.e
      replace b8 := b8.e0 n10.e
      replace b10 := b10.e0 n10.e
      replace b12 := b12.e0 n10.e
      replace b14 := b14.e0 n10.e
      replace b16 := b16.e0 n10.e
      simp only [List.set_cons_zero, List.set_cons_succ]
      refine xStoreR 66 (.tmp 18) (.tmp 87) rfl w28.heap.size 66 [.int .i64 0, .slice none 0 0] 0 [.int .i64 0, .slice none 0 0] (by kernel_rfl) (by kernel_rfl) b18 (by kernel_rfl) (by simp) rfl [.int .i64 0, .slice none 0 0] rfl ?_
      intro w30 t9
      have zt9 := t9.z
      have BL_ := BL.ev t9.e (fun i h => show w.heap.size ≤ i by have h : i = w28.heap.size := h; omega)
      have b1_ := b1.ev t9.e (show ¬ (w1.heap.size = w28.heap.size) by omega)
      have O_ := O.ev t9.e (fun i hi => show ¬ (i = w28.heap.size) by have := hOb i hi; omega)
      have D256_ := D256.ev t9.e (fun i hi => show ¬ (i = w28.heap.size) by have := hdd256 i hi; omega)
      have D4_ := D4.ev t9.e (fun i hi => show ¬ (i = w28.heap.size) by have := hdd4 i hi; omega)
      have D6_ := D6.ev t9.e (fun i hi => show ¬ (i = w28.heap.size) by have := hdd6 i hi; omega)
      have D2_ := D2.ev t9.e (fun i hi => show ¬ (i = w28.heap.size) by have := hdd2 i hi; omega)
      have D9_ := D9.ev t9.e (fun i hi => show ¬ (i = w28.heap.size) by have := hdd9 i hi; omega)
      have b4_ := b4.ev t9.e (show ¬ (w6.heap.size = w28.heap.size) by omega)
      have PO_ := PO.ev t9.e (fun i hi => show ¬ (i = w28.heap.size) by have := lPO_1 i hi; omega)
      have b6_ := b6.ev t9.e (show ¬ (w9.heap.size = w28.heap.size) by omega)
      have b8_ := b8.ev t9.e (show ¬ (w13.heap.size = w28.heap.size) by omega)
      have b10_ := b10.ev t9.e (show ¬ (w16.heap.size = w28.heap.size) by omega)
      have b12_ := b12.ev t9.e (show ¬ (w19.heap.size = w28.heap.size) by omega)
      have b14_ := b14.ev t9.e (show ¬ (w22.heap.size = w28.heap.size) by omega)
      have b16_ := b16.ev t9.e (show ¬ (w25.heap.size = w28.heap.size) by omega)
      replace BL := BL_; clear BL_
      replace b1 := b1_; clear b1_
      replace O := O_; clear O_
      replace D256 := D256_; clear D256_
      replace D4 := D4_; clear D4_
      replace D6 := D6_; clear D6_
      replace D2 := D2_; clear D2_
      replace D9 := D9_; clear D9_
      replace b4 := b4_; clear b4_
      replace PO := PO_; clear PO_
      replace b6 := b6_; clear b6_
      replace b8 := b8_; clear b8_
      replace b10 := b10_; clear b10_
      replace b12 := b12_; clear b12_
      replace b14 := b14_; clear b14_
      replace b16 := b16_; clear b16_
      replace b18 : Cel w30 w28.heap.size 66 [.int .i64 0, .slice none 0 0] := t9.c
      clear t9
      refine sv 19 (.int .i64 2) .of ?_
      simp only [List.set_cons_zero, List.set_cons_succ]
      refine wpList_nil ?_
      refine hK17 _ _ ?_
      refine wp_seq_k fun K18 hK18 => ?_
      refine wp_seq_k fun K19 hK19 => ?_
      refine cPlain ?_
      refine sv 89 (.int .i64 0) .of ?_
      simp only [List.set_cons_zero, List.set_cons_succ]
      refine sv 90 (.int .i64 0) .of ?_
      simp only [List.set_cons_zero, List.set_cons_succ]
      refine sv 91 (.int .i64 (0 + 0)) (Val.add 67 _ (.tmp 89) (.tmp 90) rfl 0 0 (by kernel_rfl) (by kernel_rfl) (by omega)) ?_
      simp only [List.set_cons_zero, List.set_cons_succ]
      refine sv 92 (.int .i64 0) .of ?_
      simp only [List.set_cons_zero, List.set_cons_succ]
      refine sv 93 (.int .i64 ((0 + 0) + 0)) (Val.add 67 _ (.tmp 91) (.tmp 92) rfl (0 + 0) 0 (by kernel_rfl) (by kernel_rfl) (by omega)) ?_
      simp only [List.set_cons_zero, List.set_cons_succ]
      refine sv 94 (.bool false) .of ?_
      simp only [List.set_cons_zero, List.set_cons_succ]
      refine sv 95 (.bool false) .of ?_
      simp only [List.set_cons_zero, List.set_cons_succ]
      refine sv 96 (.agg (cellsOf .u8 (nn (mroot tabL 8 m256)))) (Val.blk 37 _ rfl 0 32 (by kernel_rfl) b8 _ Try.underlying37 rfl (by kernel_rfl) (by (try simp only [nn_len, List.length_append, List.length_replicate]); try omega) _ (seg_all' _ (by (try simp only [nn_len, List.length_append, List.length_replicate]); try omega))) ?_
      simp only [List.set_cons_zero, List.set_cons_succ]
      refine sv 97 (.agg (cellsOf .u8 (nn (mroot tabL 8 m256)))) (Val.blk 37 _ rfl 0 32 (by kernel_rfl) b4 _ Try.underlying37 rfl (by kernel_rfl) (by (try simp only [nn_len, List.length_append, List.length_replicate]); try omega) _ (seg_all' _ (by (try simp only [nn_len, List.length_append, List.length_replicate]); try omega))) ?_
      simp only [List.set_cons_zero, List.set_cons_succ]
      refine sv 98 (.bool false) (Val.eqA .neq 37 _ (.tmp 96) (.tmp 97) rfl Try.underlying37 Try.underlying5 (by kernel_rfl) (by kernel_rfl) (nn (mroot tabL 8 m256)) (nn (mroot tabL 8 m256)) (by kernel_rfl) (by kernel_rfl) (by rw [nn_len]; exact hrl) (by rw [nn_len]; exact hrl) (.inr rfl) false (neq_nnN _)) ?_
      simp only [List.set_cons_zero, List.set_cons_succ]
      refine sv 99 (.bool false) .of ?_
      simp only [List.set_cons_zero, List.set_cons_succ]
      refine sv 100 (.bool false) .of ?_
      simp only [List.set_cons_zero, List.set_cons_succ]
      refine sv 101 (.pointer (some ⟨w9.heap.size, 1, none⟩)) .of ?_
      simp only [List.set_cons_zero, List.set_cons_succ]
      refine sv 102 (.slice pA 8 pC) (Val.cel1 63 _ rfl w9.heap.size 1 _ (by kernel_rfl) (fun _ => (by kernel_rfl)) b6 rfl) ?_
      simp only [List.set_cons_zero, List.set_cons_succ]
      refine sv 103 (.int .i64 (8 : Int)) .of ?_
      simp only [List.set_cons_zero, List.set_cons_succ]
      refine sv 104 (.bool false) .of ?_
      simp only [List.set_cons_zero, List.set_cons_succ]
      refine sv 105 (.bool false) .of ?_
      simp only [List.set_cons_zero, List.set_cons_succ]
      refine sv 106 (.bool false) .of ?_
      simp only [List.set_cons_zero, List.set_cons_succ]
      refine sv 107 (.int .i64 2) .of ?_
      simp only [List.set_cons_zero, List.set_cons_succ]
      refine sv 108 (.bool false) (Val.cmp .neq 3 _ (.tmp 107) _ rfl .i64 2 2 (by kernel_rfl) (by kernel_rfl) (by simp) _ rfl) ?_
      simp only [List.set_cons_zero, List.set_cons_succ]
      refine sv 109 (.bool false) .of ?_
      simp only [List.set_cons_zero, List.set_cons_succ]
      refine sv 110 (.bool false) .of ?_
      simp only [List.set_cons_zero, List.set_cons_succ]
      refine sv 111 (.int .i64 2) .of ?_
      simp only [List.set_cons_zero, List.set_cons_succ]
      refine sv 112 (.bool false) (Val.cmp .neq 3 _ (.tmp 111) _ rfl .i64 2 2 (by kernel_rfl) (by kernel_rfl) (by simp) _ rfl) ?_
      simp only [List.set_cons_zero, List.set_cons_succ]
      refine sv 113 (.bool false) .of ?_
      simp only [List.set_cons_zero, List.set_cons_succ]
      refine sv 114 (.bool false) .of ?_
      simp only [List.set_cons_zero, List.set_cons_succ]
      refine sv 115 (.int .i64 2) .of ?_
      simp only [List.set_cons_zero, List.set_cons_succ]
      refine sv 116 (.bool false) (Val.cmp .neq 3 _ (.tmp 115) _ rfl .i64 2 2 (by kernel_rfl) (by kernel_rfl) (by simp) _ rfl) ?_
      simp only [List.set_cons_zero, List.set_cons_succ]
      refine sv 117 (.bool false) .of ?_
      simp only [List.set_cons_zero, List.set_cons_succ]
      refine sv 118 (.bool false) .of ?_
      simp only [List.set_cons_zero, List.set_cons_succ]
      refine sv 119 (.int .i64 2) .of ?_
      simp only [List.set_cons_zero, List.set_cons_succ]
      refine sv 120 (.bool false) (Val.cmp .neq 3 _ (.tmp 119) _ rfl .i64 2 2 (by kernel_rfl) (by kernel_rfl) (by simp) _ rfl) ?_
      simp only [List.set_cons_zero, List.set_cons_succ]
      refine sv 121 (.bool false) .of ?_
      simp only [List.set_cons_zero, List.set_cons_succ]
      refine sv 122 (.bool false) .of ?_
      simp only [List.set_cons_zero, List.set_cons_succ]
      refine sv 123 (.int .i64 2) .of ?_
      simp only [List.set_cons_zero, List.set_cons_succ]
      refine sv 124 (.bool false) (Val.cmp .neq 3 _ (.tmp 123) _ rfl .i64 2 2 (by kernel_rfl) (by kernel_rfl) (by simp) _ rfl) ?_
      simp only [List.set_cons_zero, List.set_cons_succ]
      refine sv 125 (.bool false) .of ?_
      simp only [List.set_cons_zero, List.set_cons_succ]
      refine wpList_nil ?_
      refine hK19 _ _ ?_
      refine cF ?_
      refine wp_skip ?_
      refine hK18 _ _ ?_
      refine wp_seq_k fun K20 hK20 => ?_
      refine wp_seq_k fun K21 hK21 => ?_
      have e12 := drew_e0 w30
      refine zg (fun w_ => Bl w.heap.size w w_ ∧ Blk .u32 w_ w1.heap.size 26 (nn tabL) ∧ OwnE 37 .u8 32 w3.heap.size w_ (.slice (some ⟨w3.heap.size, 0, none⟩) 512 512) (nnd M) ∧ SE .u8 32 w_ (.slice A256 256 C256) (nnd m256) ∧ SE .u8 32 w_ (.slice A4 4 C4) (nnd m4) ∧ SE .u8 32 w_ (.slice A6 6 C6) (nnd m6) ∧ SE .u8 32 w_ (.slice A2 2 C2) (nnd m2) ∧ SE .u8 32 w_ (.slice A9 9 C9) (nnd m9) ∧ Blk .u8 w_ w6.heap.size 37 (nn (mroot tabL 8 m256)) ∧ OwnE 37 .u8 32 w8.heap.size w_ (.slice pA 8 pC) (nnd (mpath tabL 8 m256 255)) ∧ Cel w_ w9.heap.size 66 [.int .i64 ((255 : Nat) : Int), .slice pA 8 pC] ∧ Blk .u8 w_ w13.heap.size 37 (nn (mroot tabL 8 m256)) ∧ Blk .u8 w_ w16.heap.size 37 (nn (List.replicate 32 0)) ∧ Cel w_ w19.heap.size 66 [.int .i64 0, .slice none 0 0] ∧ Cel w_ w22.heap.size 66 [.int .i64 0, .slice none 0 0] ∧ Cel w_ w25.heap.size 66 [.int .i64 0, .slice none 0 0] ∧ Cel w_ w28.heap.size 66 [.int .i64 0, .slice none 0 0] ∧ w30.heap.size ≤ w_.heap.size) (fun w_ => Bl w.heap.size w w_ ∧ Blk .u32 w_ w1.heap.size 26 (nn tabL) ∧ OwnE 37 .u8 32 w3.heap.size w_ (.slice (some ⟨w3.heap.size, 0, none⟩) 512 512) (nnd M) ∧ SE .u8 32 w_ (.slice A256 256 C256) (nnd m256) ∧ SE .u8 32 w_ (.slice A4 4 C4) (nnd m4) ∧ SE .u8 32 w_ (.slice A6 6 C6) (nnd m6) ∧ SE .u8 32 w_ (.slice A2 2 C2) (nnd m2) ∧ SE .u8 32 w_ (.slice A9 9 C9) (nnd m9) ∧ Blk .u8 w_ w6.heap.size 37 (nn (mroot tabL 8 m256)) ∧ OwnE 37 .u8 32 w8.heap.size w_ (.slice pA 8 pC) (nnd (mpath tabL 8 m256 255)) ∧ Cel w_ w9.heap.size 66 [.int .i64 ((255 : Nat) : Int), .slice pA 8 pC] ∧ Blk .u8 w_ w13.heap.size 37 (nn (mroot tabL 8 m256)) ∧ Blk .u8 w_ w16.heap.size 37 (nn (List.replicate 32 0)) ∧ Cel w_ w19.heap.size 66 [.int .i64 0, .slice none 0 0] ∧ Cel w_ w22.heap.size 66 [.int .i64 0, .slice none 0 0] ∧ Cel w_ w25.heap.size 66 [.int .i64 0, .slice none 0 0] ∧ Cel w_ w28.heap.size 66 [.int .i64 0, .slice none 0 0] ∧ w30.heap.size ≤ w_.heap.size) 100000 11 ⟨BL.e0 e12, b1.e0 e12, O.e0 e12, D256.e0 e12, D4.e0 e12, D6.e0 e12, D2.e0 e12, D9.e0 e12, b4.e0 e12, PO.e0 e12, b6.e0 e12, b8.e0 e12, b10.e0 e12, b12.e0 e12, b14.e0 e12, b16.e0 e12, b18.e0 e12, Nat.le_refl _⟩ ?_
      clear BL b1 O D256 D4 D6 D2 D9 b4 PO b6 b8 b10 b12 b14 b16 b18
      clear e12
      intro w31
      rintro ⟨BL, b1, O, D256, D4, D6, D2, D9, b4, PO, b6, b8, b10, b12, b14, b16, b18, z2⟩
      refine zv 0 126 (.agg #[.int .i64 (-1), .slice none 0 0]) (fun _ _ => .of) ⟨BL, b1, O, D256, D4, D6, D2, D9, b4, PO, b6, b8, b10, b12, b14, b16, b18, by omega⟩ ?_
      simp only [List.set_cons_zero, List.set_cons_succ]
      refine zv 1 127 (.agg #[.int .i64 1, .slice none 0 0]) (fun _ _ => .of) ⟨BL, b1, O, D256, D4, D6, D2, D9, b4, PO, b6, b8, b10, b12, b14, b16, b18, by omega⟩ ?_
      simp only [List.set_cons_zero, List.set_cons_succ]
      refine zv 2 128 (.slice (some ⟨w3.heap.size, 0, none⟩) 512 512) (fun _ _ => .of) ⟨BL, b1, O, D256, D4, D6, D2, D9, b4, PO, b6, b8, b10, b12, b14, b16, b18, by omega⟩ ?_
      simp only [List.set_cons_zero, List.set_cons_succ]
      refine zv 3 129 (.slice A2 2 C2) (fun _ ⟨BL, b1, O, D256, D4, D6, D2, D9, b4, PO, b6, b8, b10, b12, b14, b16, b18, z2⟩ => Val.as (Val.slcE 63 (.tmp 128) none (some _) rfl (.slice (some ⟨w3.heap.size, 0, none⟩) 512 512) (by kernel_rfl) O.se 0 2 (.inr ⟨rfl, rfl⟩) (.inl (by kernel_rfl)) (Nat.zero_le _) (by rw [nnd_len]; omega) Try.underlying63 (by kernel_rfl)) hk2) ⟨BL, b1, O, D256, D4, D6, D2, D9, b4, PO, b6, b8, b10, b12, b14, b16, b18, by omega⟩ ?_
      simp only [List.set_cons_zero, List.set_cons_succ]
      refine zv 4 130 (.agg #[.int .i64 4, .slice A2 2 C2]) (fun _ _ => .of) ⟨BL, b1, O, D256, D4, D6, D2, D9, b4, PO, b6, b8, b10, b12, b14, b16, b18, by omega⟩ ?_
      simp only [List.set_cons_zero, List.set_cons_succ]
      refine zv 5 131 (.slice (some ⟨w3.heap.size, 0, none⟩) 512 512) (fun _ _ => .of) ⟨BL, b1, O, D256, D4, D6, D2, D9, b4, PO, b6, b8, b10, b12, b14, b16, b18, by omega⟩ ?_
      simp only [List.set_cons_zero, List.set_cons_succ]
      refine zv 6 132 (.slice A9 9 C9) (fun _ ⟨BL, b1, O, D256, D4, D6, D2, D9, b4, PO, b6, b8, b10, b12, b14, b16, b18, z2⟩ => Val.as (Val.slcE 63 (.tmp 131) none (some _) rfl (.slice (some ⟨w3.heap.size, 0, none⟩) 512 512) (by kernel_rfl) O.se 0 9 (.inr ⟨rfl, rfl⟩) (.inl (by kernel_rfl)) (Nat.zero_le _) (by rw [nnd_len]; omega) Try.underlying63 (by kernel_rfl)) hk9) ⟨BL, b1, O, D256, D4, D6, D2, D9, b4, PO, b6, b8, b10, b12, b14, b16, b18, by omega⟩ ?_
      simp only [List.set_cons_zero, List.set_cons_succ]
      refine zv 7 133 (.agg #[.int .i64 0, .slice A9 9 C9]) (fun _ _ => .of) ⟨BL, b1, O, D256, D4, D6, D2, D9, b4, PO, b6, b8, b10, b12, b14, b16, b18, by omega⟩ ?_
      simp only [List.set_cons_zero, List.set_cons_succ]
      refine zv 10 136 (.int .i64 0) (fun _ _ => .of) ⟨BL, b1, O, D256, D4, D6, D2, D9, b4, PO, b6, b8, b10, b12, b14, b16, b18, by omega⟩ ?_
      simp only [List.set_cons_zero, List.set_cons_succ]
      refine zo1 8 rfl ?_
      refine xLit 134 80 66 4 _ #[(0, .agg #[.int .i64 (-1), .slice none 0 0]), (1, .agg #[.int .i64 1, .slice none 0 0]), (2, .agg #[.int .i64 4, .slice A2 2 C2]), (3, .agg #[.int .i64 0, .slice A9 9 C9])] [.int .i64 (-1), .slice none 0 0, .int .i64 1, .slice none 0 0, .int .i64 4, .slice A2 2 C2, .int .i64 0, .slice A9 9 C9] rfl (by kernel_rfl) (by kernel_rfl) ?_
      intro w32 n11
      have zn11 := n11.z
      have b134 := n11.c
      replace BL := BL.e0 n11.e
      replace b1 := b1.e0 n11.e
      replace O := O.e0 n11.e
      replace D256 := D256.e0 n11.e
      replace D4 := D4.e0 n11.e
      replace D6 := D6.e0 n11.e
      replace D2 := D2.e0 n11.e
      replace D9 := D9.e0 n11.e
      replace b4 := b4.e0 n11.e
      replace PO := PO.e0 n11.e
      replace b6 := b6.e0 n11.e
      replace b8 := b8.e0 n11.e
      replace b10 := b10.e0 n11.e
      replace b12 := b12.e0 n11.e
      replace b14 := b14.e0 n11.e
      replace b16 := b16.e0 n11.e
      replace b18 := b18.e0 n11.e
      refine ze 8 ⟨BL, b1, O, D256, D4, D6, D2, D9, b4, PO, b6, b8, b10, b12, b14, b16, b18, by omega⟩ ?_
      simp only [List.set_cons_zero, List.set_cons_succ]
      refine zv 9 135 (.int .i64 (4 : Int)) (fun _ _ => .of) ⟨BL, b1, O, D256, D4, D6, D2, D9, b4, PO, b6, b8, b10, b12, b14, b16, b18, by omega⟩ ?_
      simp only [List.set_cons_zero, List.set_cons_succ]
      refine zd (by kernel_rfl) ?_ _
      refine hK21 _ _ ?_
      refine wp_block ?_
      refine cLoop (fun N_ A_ w_ => ∃ (c : Nat), (N_ = 4 - c ∧ (c ≤ 4) ∧ (∃ s2 : Nat → Value, A_ = ⟨[(s2 0), .pointer (some ⟨w1.heap.size, 0, none⟩), .slice (some ⟨w3.heap.size, 0, none⟩) 512 512, (s1 3), .pointer (some ⟨w6.heap.size, 0, none⟩), .int .i64 0, .pointer (some ⟨w9.heap.size, 0, none⟩), .int .i64 0, .pointer (some ⟨w13.heap.size, 0, none⟩), .int .i64 0, .pointer (some ⟨w16.heap.size, 0, none⟩), .int .i64 2, .pointer (some ⟨w19.heap.size, 0, none⟩), .int .i64 2, .pointer (some ⟨w22.heap.size, 0, none⟩), .int .i64 2, .pointer (some ⟨w25.heap.size, 0, none⟩), .int .i64 2, .pointer (some ⟨w28.heap.size, 0, none⟩), .int .i64 2, (s2 20), (s2 21), (s2 22), (s2 23), .agg (cellsOf .u32 (nn tabL)), .slice (some ⟨w3.heap.size, 0, none⟩) 512 512, .slice (some ⟨w3.heap.size, 0, none⟩) 512 512, .int .i64 (512 : Int), .int .i64 ((i : Nat) : Int), .bool (decide (((i : Nat) : Int) < (512 : Int))), (s1 30), (s1 31), (s1 32), (s1 33), (s1 34), (s1 35), (s1 36), (s1 37), (s1 38), (s1 39), (s1 40), .tuple #[.agg (cellsOf .u8 (nn (mroot tabL 8 m256))), .int .i64 0], .slice (some ⟨w3.heap.size, 0, none⟩) 512 512, .slice A256 256 C256, .tuple #[.agg (cellsOf .u8 (nn (mroot tabL 8 m256))), .int .i64 0], .agg (cellsOf .u8 (nn (mroot tabL 8 m256))), .int .i64 0, .tuple #[.agg #[.int .i64 ((255 : Nat) : Int), .slice pA 8 pC], .int .i64 0], .slice (some ⟨w3.heap.size, 0, none⟩) 512 512, .slice A256 256 C256, .tuple #[.agg #[.int .i64 ((255 : Nat) : Int), .slice pA 8 pC], .int .i64 0], .agg #[.int .i64 ((255 : Nat) : Int), .slice pA 8 pC], .int .i64 0, .tuple #[.agg (cellsOf .u8 (nn (mroot tabL 8 m256))), .int .i64 0], .slice (some ⟨w3.heap.size, 0, none⟩) 512 512, elemE 32 (.slice (some ⟨w3.heap.size, 0, none⟩) 512 512) 255, .agg (cellsOf .u8 (nn (M.getD 255 []))), .agg #[.int .i64 ((255 : Nat) : Int), .slice pA 8 pC], .tuple #[.agg (cellsOf .u8 (nn (mroot tabL 8 m256))), .int .i64 0], .agg (cellsOf .u8 (nn (mroot tabL 8 m256))), .int .i64 0, .tuple #[.agg (cellsOf .u8 (nn (List.replicate 32 0))), .int .i64 2], .slice (some ⟨w3.heap.size, 0, none⟩) 512 512, .tuple #[.agg (cellsOf .u8 (nn (List.replicate 32 0))), .int .i64 2], .agg (cellsOf .u8 (nn (List.replicate 32 0))), .int .i64 2, .tuple #[.agg #[.int .i64 0, .slice none 0 0], .int .i64 2], .slice (some ⟨w3.heap.size, 0, none⟩) 512 512, .tuple #[.agg #[.int .i64 0, .slice none 0 0], .int .i64 2], .agg #[.int .i64 0, .slice none 0 0], .int .i64 2, .tuple #[.agg #[.int .i64 0, .slice none 0 0], .int .i64 2], .slice (some ⟨w3.heap.size, 0, none⟩) 512 512, .slice A4 4 C4, .tuple #[.agg #[.int .i64 0, .slice none 0 0], .int .i64 2], .agg #[.int .i64 0, .slice none 0 0], .int .i64 2, .tuple #[.agg #[.int .i64 0, .slice none 0 0], .int .i64 2], .slice (some ⟨w3.heap.size, 0, none⟩) 512 512, .slice A4 4 C4, .tuple #[.agg #[.int .i64 0, .slice none 0 0], .int .i64 2], .agg #[.int .i64 0, .slice none 0 0], .int .i64 2, .tuple #[.agg #[.int .i64 0, .slice none 0 0], .int .i64 2], .slice (some ⟨w3.heap.size, 0, none⟩) 512 512, .slice A6 6 C6, .tuple #[.agg #[.int .i64 0, .slice none 0 0], .int .i64 2], .agg #[.int .i64 0, .slice none 0 0], .int .i64 2, .int .i64 0, .int .i64 0, .int .i64 (0 + 0), .int .i64 0, .int .i64 ((0 + 0) + 0), .bool false, .bool false, .agg (cellsOf .u8 (nn (mroot tabL 8 m256))), .agg (cellsOf .u8 (nn (mroot tabL 8 m256))), .bool false, .bool false, .bool false, .pointer (some ⟨w9.heap.size, 1, none⟩), .slice pA 8 pC, .int .i64 (8 : Int), .bool false, .bool false, .bool false, .int .i64 2, .bool false, .bool false, .bool false, .int .i64 2, .bool false, .bool false, .bool false, .int .i64 2, .bool false, .bool false, .bool false, .int .i64 2, .bool false, .bool false, .bool false, .int .i64 2, .bool false, .bool false, .agg #[.int .i64 (-1), .slice none 0 0], .agg #[.int .i64 1, .slice none 0 0], .slice (some ⟨w3.heap.size, 0, none⟩) 512 512, .slice A2 2 C2, .agg #[.int .i64 4, .slice A2 2 C2], .slice (some ⟨w3.heap.size, 0, none⟩) 512 512, .slice A9 9 C9, .agg #[.int .i64 0, .slice A9 9 C9], .slice (some ⟨w31.heap.size, 0, none⟩) 4 4, .int .i64 (4 : Int), .int .i64 ((c : Nat) : Int), (s2 137), (s2 138), (s2 139), (s2 140), (s2 141), (s2 142), (s2 143), (s2 144), (s2 145), (s2 146), (s2 147), (s2 148), (s2 149), (s2 150), (s2 151), (s2 152), (s2 153), (s2 154), (s2 155), (s2 156), (s2 157), (s2 158), (s2 159), (s2 160), (s2 161), (s2 162), undef, undef, undef, undef, undef, undef, undef, undef, undef, undef, undef, undef, undef, undef, undef, undef, undef, undef, undef, undef].toArray, []⟩) ∧ Bl w.heap.size w w_ ∧ Blk .u32 w_ w1.heap.size 26 (nn tabL) ∧ OwnE 37 .u8 32 w3.heap.size w_ (.slice (some ⟨w3.heap.size, 0, none⟩) 512 512) (nnd M) ∧ SE .u8 32 w_ (.slice A256 256 C256) (nnd m256) ∧ SE .u8 32 w_ (.slice A4 4 C4) (nnd m4) ∧ SE .u8 32 w_ (.slice A6 6 C6) (nnd m6) ∧ SE .u8 32 w_ (.slice A2 2 C2) (nnd m2) ∧ SE .u8 32 w_ (.slice A9 9 C9) (nnd m9) ∧ Blk .u8 w_ w6.heap.size 37 (nn (mroot tabL 8 m256)) ∧ OwnE 37 .u8 32 w8.heap.size w_ (.slice pA 8 pC) (nnd (mpath tabL 8 m256 255)) ∧ Cel w_ w9.heap.size 66 [.int .i64 ((255 : Nat) : Int), .slice pA 8 pC] ∧ Blk .u8 w_ w13.heap.size 37 (nn (mroot tabL 8 m256)) ∧ Blk .u8 w_ w16.heap.size 37 (nn (List.replicate 32 0)) ∧ Cel w_ w19.heap.size 66 [.int .i64 0, .slice none 0 0] ∧ Cel w_ w22.heap.size 66 [.int .i64 0, .slice none 0 0] ∧ Cel w_ w25.heap.size 66 [.int .i64 0, .slice none 0 0] ∧ Cel w_ w28.heap.size 66 [.int .i64 0, .slice none 0 0] ∧ Cel w_ w31.heap.size 66 [.int .i64 (-1), .slice none 0 0, .int .i64 1, .slice none 0 0, .int .i64 4, .slice A2 2 C2, .int .i64 0, .slice A9 9 C9] ∧ w32.heap.size ≤ w_.heap.size)) _ ⟨0, rfl, (Nat.zero_le _), cutE, BL, b1, O, D256, D4, D6, D2, D9, b4, PO, b6, b8, b10, b12, b14, b16, b18, b134, Nat.le_refl _⟩ ?_
      clear BL b1 O D256 D4 D6 D2 D9 b4 PO b6 b8 b10 b12 b14 b16 b18 b134
      rintro n_ a_ wl1 ⟨c, rfl, hc1_0, ⟨s2, rfl⟩, BL, b1, O, D256, D4, D6, D2, D9, b4, PO, b6, b8, b10, b12, b14, b16, b18, b134, zl1⟩
      have lO_3 := O.ge
      have lPO_2 := PO.ge
      refine wp_seq_k fun K22 hK22 => ?_
      refine cPlain ?_
      refine sv 137 (.bool (decide (((c : Nat) : Int) < (4 : Int)))) (Val.cmp .lss 3 _ (.tmp 136) (.tmp 135) rfl .i64 ((c : Nat) : Int) (4 : Int) (by kernel_rfl) (by kernel_rfl) (by simp) _ rfl) ?_
      simp only [List.set_cons_zero, List.set_cons_succ]
      refine wpList_nil ?_
      refine hK22 _ _ ?_
      refine wp_seq_k fun K23 hK23 => ?_
      refine cDec (((c : Nat) : Int) < (4 : Int)) (by kernel_rfl) (fun c137 => ?_) (fun c137 => ?_)
      · skip
        refine wp_skip ?_
        refine hK23 _ _ ?_
        refine wp_seq_k fun K24 hK24 => ?_
        refine wp_block ?_
        refine wp_seq_k fun K25 hK25 => ?_
        obtain ⟨pl, qA, qN, qC, hq1, hq2⟩ : ∃ (pl : Int) (A : Option Addr) (n C : Nat), segV (0 + c * 2) 2 [.int .i64 (-1), .slice none 0 0, .int .i64 1, .slice none 0 0, .int .i64 4, .slice A2 2 C2, .int .i64 0, .slice A9 9 C9] = [.int .i64 pl, .slice A n C] ∧ mright n pl = false := by
          have hi4 : c = 0 ∨ c = 1 ∨ c = 2 ∨ c = 3 := by omega
          rcases hi4 with rfl | rfl | rfl | rfl
          · exact ⟨_, _, _, _, rfl, rfl⟩
          · exact ⟨_, _, _, _, rfl, rfl⟩
          · exact ⟨_, _, _, _, rfl, rfl⟩
          · exact ⟨_, _, _, _, rfl, rfl⟩
        refine cPlain ?_
        refine sv 138 (.int .i64 ((c : Nat) : Int)) .of ?_
        simp only [List.set_cons_zero, List.set_cons_succ]
        refine sv 139 (.pointer (some ⟨w31.heap.size, 0 + c * 2, none⟩)) (Val.idxS 80 (.tmp 134) (.tmp 136) rfl w31.heap.size 0 4 4 c (by kernel_rfl) (by kernel_rfl) 2 Try.underlying80 (by kernel_rfl) (by omega)) ?_
        simp only [List.set_cons_zero, List.set_cons_succ]
        refine sv 140 (.agg #[.int .i64 pl, .slice qA qN qC]) (Val.cel 66 _ rfl (0 + c * 2) 2 (by kernel_rfl) b134 _ Try.underlying66 rfl (by kernel_rfl) (by simp only [List.length_cons, List.length_nil]; omega) [.int .i64 pl, .slice qA qN qC] hq1) ?_
        simp only [List.set_cons_zero, List.set_cons_succ]
        refine xAlloc 21 66 [.int .i64 0, .slice none 0 0] rfl (by kernel_rfl) ?_
        intro w33 n12
        have zn12 := n12.z
        have b21 := n12.c
        replace BL := BL.e0 n12.e
        replace b1 := b1.e0 n12.e
        replace O := O.e0 n12.e
        replace D256 := D256.e0 n12.e
        replace D4 := D4.e0 n12.e
        replace D6 := D6.e0 n12.e
        replace D2 := D2.e0 n12.e
        replace D9 := D9.e0 n12.e
        replace b4 := b4.e0 n12.e
        replace PO := PO.e0 n12.e
        replace b6 := b6.e0 n12.e
        replace b8 := b8.e0 n12.e
        replace b10 := b10.e0 n12.e
        replace b12 := b12.e0 n12.e
        replace b14 := b14.e0 n12.e
        replace b16 := b16.e0 n12.e
        replace b18 := b18.e0 n12.e
        replace b134 := b134.e0 n12.e
        simp only [List.set_cons_zero, List.set_cons_succ]
        refine sv 20 (.int .i64 ((c : Nat) : Int)) .of ?_
        simp only [List.set_cons_zero, List.set_cons_succ]
        refine xStoreR 66 (.tmp 21) (.tmp 140) rfl wl1.heap.size 66 [.int .i64 0, .slice none 0 0] 0 [.int .i64 pl, .slice qA qN qC] (by kernel_rfl) (by kernel_rfl) b21 (by kernel_rfl) (by simp) rfl [.int .i64 pl, .slice qA qN qC] rfl ?_
        intro w34 t10
        have zt10 := t10.z
        have BL_ := BL.ev t10.e (fun i h => show w.heap.size ≤ i by have h : i = wl1.heap.size := h; omega)
        have b1_ := b1.ev t10.e (show ¬ (w1.heap.size = wl1.heap.size) by omega)
        have O_ := O.ev t10.e (fun i hi => show ¬ (i = wl1.heap.size) by have := lO_3 i hi; omega)
        have D256_ := D256.ev t10.e (fun i hi => show ¬ (i = wl1.heap.size) by have := hdd256 i hi; omega)
        have D4_ := D4.ev t10.e (fun i hi => show ¬ (i = wl1.heap.size) by have := hdd4 i hi; omega)
        have D6_ := D6.ev t10.e (fun i hi => show ¬ (i = wl1.heap.size) by have := hdd6 i hi; omega)
        have D2_ := D2.ev t10.e (fun i hi => show ¬ (i = wl1.heap.size) by have := hdd2 i hi; omega)
        have D9_ := D9.ev t10.e (fun i hi => show ¬ (i = wl1.heap.size) by have := hdd9 i hi; omega)
        have b4_ := b4.ev t10.e (show ¬ (w6.heap.size = wl1.heap.size) by omega)
        have PO_ := PO.ev t10.e (fun i hi => show ¬ (i = wl1.heap.size) by have := lPO_2 i hi; omega)
        have b6_ := b6.ev t10.e (show ¬ (w9.heap.size = wl1.heap.size) by omega)
        have b8_ := b8.ev t10.e (show ¬ (w13.heap.size = wl1.heap.size) by omega)
        have b10_ := b10.ev t10.e (show ¬ (w16.heap.size = wl1.heap.size) by omega)
        have b12_ := b12.ev t10.e (show ¬ (w19.heap.size = wl1.heap.size) by omega)
        have b14_ := b14.ev t10.e (show ¬ (w22.heap.size = wl1.heap.size) by omega)
        have b16_ := b16.ev t10.e (show ¬ (w25.heap.size = wl1.heap.size) by omega)
        have b18_ := b18.ev t10.e (show ¬ (w28.heap.size = wl1.heap.size) by omega)
        have b134_ := b134.ev t10.e (show ¬ (w31.heap.size = wl1.heap.size) by omega)
        replace BL := BL_; clear BL_
        replace b1 := b1_; clear b1_
        replace O := O_; clear O_
        replace D256 := D256_; clear D256_
        replace D4 := D4_; clear D4_
        replace D6 := D6_; clear D6_
        replace D2 := D2_; clear D2_
        replace D9 := D9_; clear D9_
        replace b4 := b4_; clear b4_
        replace PO := PO_; clear PO_
        replace b6 := b6_; clear b6_
        replace b8 := b8_; clear b8_
        replace b10 := b10_; clear b10_
        replace b12 := b12_; clear b12_
        replace b14 := b14_; clear b14_
        replace b16 := b16_; clear b16_
        replace b18 := b18_; clear b18_
        replace b134 := b134_; clear b134_
        replace b21 : Cel w34 wl1.heap.size 66 [.int .i64 pl, .slice qA qN qC] := t10.c
        clear t10
        refine wpList_nil ?_
        refine hK25 _ _ ?_
        refine wp_seq_k fun K26 hK26 => ?_
        have e13 := drew_e0 w34
        refine zg (fun w_ => Bl w.heap.size w w_ ∧ Blk .u32 w_ w1.heap.size 26 (nn tabL) ∧ OwnE 37 .u8 32 w3.heap.size w_ (.slice (some ⟨w3.heap.size, 0, none⟩) 512 512) (nnd M) ∧ SE .u8 32 w_ (.slice A256 256 C256) (nnd m256) ∧ SE .u8 32 w_ (.slice A4 4 C4) (nnd m4) ∧ SE .u8 32 w_ (.slice A6 6 C6) (nnd m6) ∧ SE .u8 32 w_ (.slice A2 2 C2) (nnd m2) ∧ SE .u8 32 w_ (.slice A9 9 C9) (nnd m9) ∧ Blk .u8 w_ w6.heap.size 37 (nn (mroot tabL 8 m256)) ∧ OwnE 37 .u8 32 w8.heap.size w_ (.slice pA 8 pC) (nnd (mpath tabL 8 m256 255)) ∧ Cel w_ w9.heap.size 66 [.int .i64 ((255 : Nat) : Int), .slice pA 8 pC] ∧ Blk .u8 w_ w13.heap.size 37 (nn (mroot tabL 8 m256)) ∧ Blk .u8 w_ w16.heap.size 37 (nn (List.replicate 32 0)) ∧ Cel w_ w19.heap.size 66 [.int .i64 0, .slice none 0 0] ∧ Cel w_ w22.heap.size 66 [.int .i64 0, .slice none 0 0] ∧ Cel w_ w25.heap.size 66 [.int .i64 0, .slice none 0 0] ∧ Cel w_ w28.heap.size 66 [.int .i64 0, .slice none 0 0] ∧ Cel w_ w31.heap.size 66 [.int .i64 (-1), .slice none 0 0, .int .i64 1, .slice none 0 0, .int .i64 4, .slice A2 2 C2, .int .i64 0, .slice A9 9 C9] ∧ Cel w_ wl1.heap.size 66 [.int .i64 pl, .slice qA qN qC] ∧ w34.heap.size ≤ w_.heap.size) (fun w_ => Bl w.heap.size w w_ ∧ Blk .u32 w_ w1.heap.size 26 (nn tabL) ∧ OwnE 37 .u8 32 w3.heap.size w_ (.slice (some ⟨w3.heap.size, 0, none⟩) 512 512) (nnd M) ∧ SE .u8 32 w_ (.slice A256 256 C256) (nnd m256) ∧ SE .u8 32 w_ (.slice A4 4 C4) (nnd m4) ∧ SE .u8 32 w_ (.slice A6 6 C6) (nnd m6) ∧ SE .u8 32 w_ (.slice A2 2 C2) (nnd m2) ∧ SE .u8 32 w_ (.slice A9 9 C9) (nnd m9) ∧ Blk .u8 w_ w6.heap.size 37 (nn (mroot tabL 8 m256)) ∧ OwnE 37 .u8 32 w8.heap.size w_ (.slice pA 8 pC) (nnd (mpath tabL 8 m256 255)) ∧ Cel w_ w9.heap.size 66 [.int .i64 ((255 : Nat) : Int), .slice pA 8 pC] ∧ Blk .u8 w_ w13.heap.size 37 (nn (mroot tabL 8 m256)) ∧ Blk .u8 w_ w16.heap.size 37 (nn (List.replicate 32 0)) ∧ Cel w_ w19.heap.size 66 [.int .i64 0, .slice none 0 0] ∧ Cel w_ w22.heap.size 66 [.int .i64 0, .slice none 0 0] ∧ Cel w_ w25.heap.size 66 [.int .i64 0, .slice none 0 0] ∧ Cel w_ w28.heap.size 66 [.int .i64 0, .slice none 0 0] ∧ Cel w_ w31.heap.size 66 [.int .i64 (-1), .slice none 0 0, .int .i64 1, .slice none 0 0, .int .i64 4, .slice A2 2 C2, .int .i64 0, .slice A9 9 C9] ∧ Cel w_ wl1.heap.size 66 [.int .i64 pl, .slice qA qN qC] ∧ w34.heap.size ≤ w_.heap.size) 100000 11 ⟨BL.e0 e13, b1.e0 e13, O.e0 e13, D256.e0 e13, D4.e0 e13, D6.e0 e13, D2.e0 e13, D9.e0 e13, b4.e0 e13, PO.e0 e13, b6.e0 e13, b8.e0 e13, b10.e0 e13, b12.e0 e13, b14.e0 e13, b16.e0 e13, b18.e0 e13, b134.e0 e13, b21.e0 e13, Nat.le_refl _⟩ ?_
        clear BL b1 O D256 D4 D6 D2 D9 b4 PO b6 b8 b10 b12 b14 b16 b18 b134 b21
        clear e13
        intro w35
        rintro ⟨BL, b1, O, D256, D4, D6, D2, D9, b4, PO, b6, b8, b10, b12, b14, b16, b18, b134, b21, z3⟩
        refine zv 0 142 (.slice (some ⟨w3.heap.size, 0, none⟩) 512 512) (fun _ _ => .of) ⟨BL, b1, O, D256, D4, D6, D2, D9, b4, PO, b6, b8, b10, b12, b14, b16, b18, b134, b21, by omega⟩ ?_
        simp only [List.set_cons_zero, List.set_cons_succ]
        refine zv 1 143 (elemE 32 (.slice (some ⟨w3.heap.size, 0, none⟩) 512 512) 0) (fun _ ⟨BL, b1, O, D256, D4, D6, D2, D9, b4, PO, b6, b8, b10, b12, b14, b16, b18, b134, b21, z3⟩ => Val.ixE 63 (.tmp 142) _ rfl (.slice (some ⟨w3.heap.size, 0, none⟩) 512 512) 0 (by kernel_rfl) (by kernel_rfl) O.se Try.underlying63 (by kernel_rfl) (by simp only [nnd_len]; omega)) ⟨BL, b1, O, D256, D4, D6, D2, D9, b4, PO, b6, b8, b10, b12, b14, b16, b18, b134, b21, by omega⟩ ?_
        simp only [List.set_cons_zero, List.set_cons_succ]
        refine zv 2 144 (.agg (cellsOf .u8 (nn (M.getD 0 [])))) (fun _ ⟨BL, b1, O, D256, D4, D6, D2, D9, b4, PO, b6, b8, b10, b12, b14, b16, b18, b134, b21, z3⟩ => Val.ldGN 37 _ rfl (.slice (some ⟨w3.heap.size, 0, none⟩) 512 512) 0 (by kernel_rfl) O.se _ Try.underlying37 rfl (by kernel_rfl) (by simp only [nnd_len]; omega)) ⟨BL, b1, O, D256, D4, D6, D2, D9, b4, PO, b6, b8, b10, b12, b14, b16, b18, b134, b21, by omega⟩ ?_
        simp only [List.set_cons_zero, List.set_cons_succ]
        refine zv 3 145 (.agg #[.int .i64 pl, .slice qA qN qC]) (fun _ ⟨BL, b1, O, D256, D4, D6, D2, D9, b4, PO, b6, b8, b10, b12, b14, b16, b18, b134, b21, z3⟩ => Val.cel 66 _ rfl 0 2 (by kernel_rfl) b21 _ Try.underlying66 rfl (by kernel_rfl) (by simp) [.int .i64 pl, .slice qA qN qC] rfl) ⟨BL, b1, O, D256, D4, D6, D2, D9, b4, PO, b6, b8, b10, b12, b14, b16, b18, b134, b21, by omega⟩ ?_
        simp only [List.set_cons_zero, List.set_cons_succ]
        refine zo2 4 8 rfl rfl ?_ ?_
        · skip
          refine xCall 146 43 #[.pointer (some ⟨w1.heap.size, 0, none⟩), .agg (cellsOf .u8 (nn (M.getD 0 []))), .agg #[.int .i64 pl, .slice qA qN qC]] (by kernel_rfl) ?_
          refine (mclimb_no _ (M.getD 0 []) (fe_getDN hM32 (by omega)) pl qA qN qC w35 hq2).mono ?_
          rintro en w36 ⟨rfl, hb1⟩
          have e14 := belE0 hb1
          have ze14 := e14.size
          replace BL := BL.e0 e14
          replace b1 := b1.e0 e14
          replace O := O.e0 e14
          replace D256 := D256.e0 e14
          replace D4 := D4.e0 e14
          replace D6 := D6.e0 e14
          replace D2 := D2.e0 e14
          replace D9 := D9.e0 e14
          replace b4 := b4.e0 e14
          replace PO := PO.e0 e14
          replace b6 := b6.e0 e14
          replace b8 := b8.e0 e14
          replace b10 := b10.e0 e14
          replace b12 := b12.e0 e14
          replace b14 := b14.e0 e14
          replace b16 := b16.e0 e14
          replace b18 := b18.e0 e14
          replace b134 := b134.e0 e14
          replace b21 := b21.e0 e14
          clear e14
          refine ⟨.tuple #[.agg (cellsOf .u8 (nn (List.replicate 32 0))), .int .i64 2], rfl, ?_⟩
          refine ze 4 ⟨BL, b1, O, D256, D4, D6, D2, D9, b4, PO, b6, b8, b10, b12, b14, b16, b18, b134, b21, by omega⟩ ?_
          simp only [List.set_cons_zero, List.set_cons_succ]
          refine zv 5 141 (.tuple #[.agg (cellsOf .u8 (nn (List.replicate 32 0))), .int .i64 2]) (fun _ _ => .of) ⟨BL, b1, O, D256, D4, D6, D2, D9, b4, PO, b6, b8, b10, b12, b14, b16, b18, b134, b21, by omega⟩ ?_
          simp only [List.set_cons_zero, List.set_cons_succ]
          refine zv 6 147 (.agg (cellsOf .u8 (nn (List.replicate 32 0)))) (fun _ _ => .of) ⟨BL, b1, O, D256, D4, D6, D2, D9, b4, PO, b6, b8, b10, b12, b14, b16, b18, b134, b21, by omega⟩ ?_
          simp only [List.set_cons_zero, List.set_cons_succ]
          refine zv 7 148 (.int .i64 2) (fun _ _ => .of) ⟨BL, b1, O, D256, D4, D6, D2, D9, b4, PO, b6, b8, b10, b12, b14, b16, b18, b134, b21, by omega⟩ ?_
          simp only [List.set_cons_zero, List.set_cons_succ]
          refine zo1 8 rfl ?_
          refine xAlloc 22 37 ((nn (List.replicate 32 0)).map (Value.int .u8)) rfl (by kernel_rfl) ?_
          intro w37 n13
          have zn13 := n13.z
          have b22 := n13.c
          replace b22 : Blk .u8 w37 w36.heap.size 37 (nn (List.replicate 32 0)) := b22
          replace BL := BL.e0 n13.e
          replace b1 := b1.e0 n13.e
          replace O := O.e0 n13.e
          replace D256 := D256.e0 n13.e
          replace D4 := D4.e0 n13.e
          replace D6 := D6.e0 n13.e
          replace D2 := D2.e0 n13.e
          replace D9 := D9.e0 n13.e
          replace b4 := b4.e0 n13.e
          replace PO := PO.e0 n13.e
          replace b6 := b6.e0 n13.e
          replace b8 := b8.e0 n13.e
          replace b10 := b10.e0 n13.e
          replace b12 := b12.e0 n13.e
          replace b14 := b14.e0 n13.e
          replace b16 := b16.e0 n13.e
          replace b18 := b18.e0 n13.e
          replace b134 := b134.e0 n13.e
          replace b21 := b21.e0 n13.e
          refine ze 8 ⟨BL, b1, O, D256, D4, D6, D2, D9, b4, PO, b6, b8, b10, b12, b14, b16, b18, b134, b21, by omega⟩ ?_
          simp only [List.set_cons_zero, List.set_cons_succ]
          refine zo1 9 rfl ?_
          refine xStoreA 37 (.tmp 22) (.tmp 147) rfl .u8 w36.heap.size 37 (nn (List.replicate 32 0)) 0 (nn (List.replicate 32 0)) (by kernel_rfl) (by kernel_rfl) b22 (by rw [show (nn (List.replicate 32 0)).length = 32 by ((try simp only [nn_len, List.length_append, List.length_replicate]); try omega)]; kernel_rfl) (by (try simp only [nn_len, List.length_append, List.length_replicate]); try omega) (nn (List.replicate 32 0)) (over_whole _ _ (by (try simp only [nn_len, List.length_append, List.length_replicate]); try omega)) ?_
          intro w38 t11
          have zt11 := t11.z
          have BL_ := BL.ev t11.e (fun i h => show w.heap.size ≤ i by have h : i = w36.heap.size := h; omega)
          have b1_ := b1.ev t11.e (show ¬ (w1.heap.size = w36.heap.size) by omega)
          have O_ := O.ev t11.e (fun i hi => show ¬ (i = w36.heap.size) by have := lO_3 i hi; omega)
          have D256_ := D256.ev t11.e (fun i hi => show ¬ (i = w36.heap.size) by have := hdd256 i hi; omega)
          have D4_ := D4.ev t11.e (fun i hi => show ¬ (i = w36.heap.size) by have := hdd4 i hi; omega)
          have D6_ := D6.ev t11.e (fun i hi => show ¬ (i = w36.heap.size) by have := hdd6 i hi; omega)
          have D2_ := D2.ev t11.e (fun i hi => show ¬ (i = w36.heap.size) by have := hdd2 i hi; omega)
          have D9_ := D9.ev t11.e (fun i hi => show ¬ (i = w36.heap.size) by have := hdd9 i hi; omega)
          have b4_ := b4.ev t11.e (show ¬ (w6.heap.size = w36.heap.size) by omega)
          have PO_ := PO.ev t11.e (fun i hi => show ¬ (i = w36.heap.size) by have := lPO_2 i hi; omega)
          have b6_ := b6.ev t11.e (show ¬ (w9.heap.size = w36.heap.size) by omega)
          have b8_ := b8.ev t11.e (show ¬ (w13.heap.size = w36.heap.size) by omega)
          have b10_ := b10.ev t11.e (show ¬ (w16.heap.size = w36.heap.size) by omega)
          have b12_ := b12.ev t11.e (show ¬ (w19.heap.size = w36.heap.size) by omega)
          have b14_ := b14.ev t11.e (show ¬ (w22.heap.size = w36.heap.size) by omega)
          have b16_ := b16.ev t11.e (show ¬ (w25.heap.size = w36.heap.size) by omega)
          have b18_ := b18.ev t11.e (show ¬ (w28.heap.size = w36.heap.size) by omega)
          have b134_ := b134.ev t11.e (show ¬ (w31.heap.size = w36.heap.size) by omega)
          have b21_ := b21.ev t11.e (show ¬ (wl1.heap.size = w36.heap.size) by omega)
          replace BL := BL_; clear BL_
          replace b1 := b1_; clear b1_
          replace O := O_; clear O_
          replace D256 := D256_; clear D256_
          replace D4 := D4_; clear D4_
          replace D6 := D6_; clear D6_
          replace D2 := D2_; clear D2_
          replace D9 := D9_; clear D9_
          replace b4 := b4_; clear b4_
          replace PO := PO_; clear PO_
          replace b6 := b6_; clear b6_
          replace b8 := b8_; clear b8_
          replace b10 := b10_; clear b10_
          replace b12 := b12_; clear b12_
          replace b14 := b14_; clear b14_
          replace b16 := b16_; clear b16_
          replace b18 := b18_; clear b18_
          replace b134 := b134_; clear b134_
          replace b21 := b21_; clear b21_
          replace b22 : Blk .u8 w38 w36.heap.size 37 (nn (List.replicate 32 0)) := t11.c
          clear t11
          refine ze 9 ⟨BL, b1, O, D256, D4, D6, D2, D9, b4, PO, b6, b8, b10, b12, b14, b16, b18, b134, b21, by omega⟩ ?_
          refine zv 10 23 (.int .i64 2) (fun _ _ => .of) ⟨BL, b1, O, D256, D4, D6, D2, D9, b4, PO, b6, b8, b10, b12, b14, b16, b18, b134, b21, by omega⟩ ?_
          simp only [List.set_cons_zero, List.set_cons_succ]
          refine zd (by kernel_rfl) ?_ _
          refine hK26 _ _ ?_
          refine wp_seq_k fun K27 hK27 => ?_
          refine cPlain ?_
          refine sv 149 (.agg #[.int .i64 pl, .slice qA qN qC]) (Val.cel 66 _ rfl 0 2 (by kernel_rfl) b21 _ Try.underlying66 rfl (by kernel_rfl) (by simp) [.int .i64 pl, .slice qA qN qC] rfl) ?_
          simp only [List.set_cons_zero, List.set_cons_succ]
          refine xCall 150 47 #[.agg #[.int .i64 pl, .slice qA qN qC]] (by kernel_rfl) ?_
          refine (mright_any pl qA qN qC w38).mono ?_
          rintro en w39 ⟨he, hb1⟩
          rw [hq2] at he
          subst he
          have e15 := belE0 hb1
          have ze15 := e15.size
          replace BL := BL.e0 e15
          replace b1 := b1.e0 e15
          replace O := O.e0 e15
          replace D256 := D256.e0 e15
          replace D4 := D4.e0 e15
          replace D6 := D6.e0 e15
          replace D2 := D2.e0 e15
          replace D9 := D9.e0 e15
          replace b4 := b4.e0 e15
          replace PO := PO.e0 e15
          replace b6 := b6.e0 e15
          replace b8 := b8.e0 e15
          replace b10 := b10.e0 e15
          replace b12 := b12.e0 e15
          replace b14 := b14.e0 e15
          replace b16 := b16.e0 e15
          replace b18 := b18.e0 e15
          replace b134 := b134.e0 e15
          replace b21 := b21.e0 e15
          replace b22 := b22.e0 e15
          clear e15
          refine ⟨.bool false, rfl, ?_⟩
          simp only [List.set_cons_zero, List.set_cons_succ]
          refine sv 151 (.bool false) .of ?_
          simp only [List.set_cons_zero, List.set_cons_succ]
          refine sv 152 (.agg (cellsOf .u8 (nn (List.replicate 32 0)))) (Val.blk 37 _ rfl 0 32 (by kernel_rfl) b22 _ Try.underlying37 rfl (by kernel_rfl) (by (try simp only [nn_len, List.length_append, List.length_replicate]); try omega) _ (seg_all' _ (by (try simp only [nn_len, List.length_append, List.length_replicate]); try omega))) ?_
          simp only [List.set_cons_zero, List.set_cons_succ]
          refine sv 153 (.agg (cellsOf .u8 (nn (List.replicate 32 0)))) .of ?_
          simp only [List.set_cons_zero, List.set_cons_succ]
          refine sv 154 (.bool false) (Val.eqA .neq 37 _ (.tmp 152) (.tmp 153) rfl Try.underlying37 Try.underlying5 (by kernel_rfl) (by kernel_rfl) (nn (List.replicate 32 0)) (nn (List.replicate 32 0)) (by kernel_rfl) (by kernel_rfl) (by rw [nn_len]; exact (by simp)) (by rw [nn_len]; exact (by simp)) (.inr rfl) false (neq_nnN _)) ?_
          simp only [List.set_cons_zero, List.set_cons_succ]
          refine sv 155 (.bool false) .of ?_
          simp only [List.set_cons_zero, List.set_cons_succ]
          refine sv 156 (.bool false) .of ?_
          simp only [List.set_cons_zero, List.set_cons_succ]
          refine sv 157 (.int .i64 2) .of ?_
          simp only [List.set_cons_zero, List.set_cons_succ]
          refine sv 158 (.bool false) (Val.cmp .neq 3 _ (.tmp 157) _ rfl .i64 2 2 (by kernel_rfl) (by kernel_rfl) (by simp) _ rfl) ?_
          simp only [List.set_cons_zero, List.set_cons_succ]
          refine sv 159 (.bool false) .of ?_
          simp only [List.set_cons_zero, List.set_cons_succ]
          refine wpList_nil ?_
          refine hK27 _ _ ?_
          refine cF ?_
          refine wp_skip ?_
          refine hK24 _ _ ?_
          refine cPlain ?_
          refine sv 162 (.int .i64 ((c + 1 : Nat) : Int)) (Val.as (Val.add 3 _ (.tmp 136) _ rfl ((c : Nat) : Int) 1 (by kernel_rfl) (by kernel_rfl) (by omega)) (congrArg (Value.int .i64) (by omega))) ?_
          simp only [List.set_cons_zero, List.set_cons_succ]
          refine sv 136 (.int .i64 ((c + 1 : Nat) : Int)) .of ?_
          simp only [List.set_cons_zero, List.set_cons_succ]
          refine wpList_nil ?_
          refine ⟨_, ?_, c + 1, rfl, by omega, cutE, BL, b1, O, D256, D4, D6, D2, D9, b4, PO, b6, b8, b10, b12, b14, b16, b18, b134, by omega⟩
          omega
        · skip
          refine xAlloc 22 37 ((nn (List.replicate 32 0)).map (Value.int .u8)) rfl (by kernel_rfl) ?_
          intro w40 n14
          have zn14 := n14.z
          have b22 := n14.c
          replace b22 : Blk .u8 w40 w35.heap.size 37 (nn (List.replicate 32 0)) := b22
          replace BL := BL.e0 n14.e
          replace b1 := b1.e0 n14.e
          replace O := O.e0 n14.e
          replace D256 := D256.e0 n14.e
          replace D4 := D4.e0 n14.e
          replace D6 := D6.e0 n14.e
          replace D2 := D2.e0 n14.e
          replace D9 := D9.e0 n14.e
          replace b4 := b4.e0 n14.e
          replace PO := PO.e0 n14.e
          replace b6 := b6.e0 n14.e
          replace b8 := b8.e0 n14.e
          replace b10 := b10.e0 n14.e
          replace b12 := b12.e0 n14.e
          replace b14 := b14.e0 n14.e
          replace b16 := b16.e0 n14.e
          replace b18 := b18.e0 n14.e
          replace b134 := b134.e0 n14.e
          replace b21 := b21.e0 n14.e
          refine ze 8 ⟨BL, b1, O, D256, D4, D6, D2, D9, b4, PO, b6, b8, b10, b12, b14, b16, b18, b134, b21, by omega⟩ ?_
          simp only [List.set_cons_zero, List.set_cons_succ]
          refine zo1 4 rfl ?_
          refine xCall 146 43 #[.pointer (some ⟨w1.heap.size, 0, none⟩), .agg (cellsOf .u8 (nn (M.getD 0 []))), .agg #[.int .i64 pl, .slice qA qN qC]] (by kernel_rfl) ?_
          refine (mclimb_no _ (M.getD 0 []) (fe_getDN hM32 (by omega)) pl qA qN qC w40 hq2).mono ?_
          rintro en w41 ⟨rfl, hb1⟩
          have e16 := belE0 hb1
          have ze16 := e16.size
          replace BL := BL.e0 e16
          replace b1 := b1.e0 e16
          replace O := O.e0 e16
          replace D256 := D256.e0 e16
          replace D4 := D4.e0 e16
          replace D6 := D6.e0 e16
          replace D2 := D2.e0 e16
          replace D9 := D9.e0 e16
          replace b4 := b4.e0 e16
          replace PO := PO.e0 e16
          replace b6 := b6.e0 e16
          replace b8 := b8.e0 e16
          replace b10 := b10.e0 e16
          replace b12 := b12.e0 e16
          replace b14 := b14.e0 e16
          replace b16 := b16.e0 e16
          replace b18 := b18.e0 e16
          replace b134 := b134.e0 e16
          replace b21 := b21.e0 e16
          replace b22 := b22.e0 e16
          clear e16
          refine ⟨.tuple #[.agg (cellsOf .u8 (nn (List.replicate 32 0))), .int .i64 2], rfl, ?_⟩
          refine ze 4 ⟨BL, b1, O, D256, D4, D6, D2, D9, b4, PO, b6, b8, b10, b12, b14, b16, b18, b134, b21, by omega⟩ ?_
          simp only [List.set_cons_zero, List.set_cons_succ]
          refine zv 5 141 (.tuple #[.agg (cellsOf .u8 (nn (List.replicate 32 0))), .int .i64 2]) (fun _ _ => .of) ⟨BL, b1, O, D256, D4, D6, D2, D9, b4, PO, b6, b8, b10, b12, b14, b16, b18, b134, b21, by omega⟩ ?_
          simp only [List.set_cons_zero, List.set_cons_succ]
          refine zv 6 147 (.agg (cellsOf .u8 (nn (List.replicate 32 0)))) (fun _ _ => .of) ⟨BL, b1, O, D256, D4, D6, D2, D9, b4, PO, b6, b8, b10, b12, b14, b16, b18, b134, b21, by omega⟩ ?_
          simp only [List.set_cons_zero, List.set_cons_succ]
          refine zv 7 148 (.int .i64 2) (fun _ _ => .of) ⟨BL, b1, O, D256, D4, D6, D2, D9, b4, PO, b6, b8, b10, b12, b14, b16, b18, b134, b21, by omega⟩ ?_
          simp only [List.set_cons_zero, List.set_cons_succ]
          refine zo1 9 rfl ?_
          refine xStoreA 37 (.tmp 22) (.tmp 147) rfl .u8 w35.heap.size 37 (nn (List.replicate 32 0)) 0 (nn (List.replicate 32 0)) (by kernel_rfl) (by kernel_rfl) b22 (by rw [show (nn (List.replicate 32 0)).length = 32 by ((try simp only [nn_len, List.length_append, List.length_replicate]); try omega)]; kernel_rfl) (by (try simp only [nn_len, List.length_append, List.length_replicate]); try omega) (nn (List.replicate 32 0)) (over_whole _ _ (by (try simp only [nn_len, List.length_append, List.length_replicate]); try omega)) ?_
          intro w42 t12
          have zt12 := t12.z
          have BL_ := BL.ev t12.e (fun i h => show w.heap.size ≤ i by have h : i = w35.heap.size := h; omega)
          have b1_ := b1.ev t12.e (show ¬ (w1.heap.size = w35.heap.size) by omega)
          have O_ := O.ev t12.e (fun i hi => show ¬ (i = w35.heap.size) by have := lO_3 i hi; omega)
          have D256_ := D256.ev t12.e (fun i hi => show ¬ (i = w35.heap.size) by have := hdd256 i hi; omega)
          have D4_ := D4.ev t12.e (fun i hi => show ¬ (i = w35.heap.size) by have := hdd4 i hi; omega)
          have D6_ := D6.ev t12.e (fun i hi => show ¬ (i = w35.heap.size) by have := hdd6 i hi; omega)
          have D2_ := D2.ev t12.e (fun i hi => show ¬ (i = w35.heap.size) by have := hdd2 i hi; omega)
          have D9_ := D9.ev t12.e (fun i hi => show ¬ (i = w35.heap.size) by have := hdd9 i hi; omega)
          have b4_ := b4.ev t12.e (show ¬ (w6.heap.size = w35.heap.size) by omega)
          have PO_ := PO.ev t12.e (fun i hi => show ¬ (i = w35.heap.size) by have := lPO_2 i hi; omega)
          have b6_ := b6.ev t12.e (show ¬ (w9.heap.size = w35.heap.size) by omega)
          have b8_ := b8.ev t12.e (show ¬ (w13.heap.size = w35.heap.size) by omega)
          have b10_ := b10.ev t12.e (show ¬ (w16.heap.size = w35.heap.size) by omega)
          have b12_ := b12.ev t12.e (show ¬ (w19.heap.size = w35.heap.size) by omega)
          have b14_ := b14.ev t12.e (show ¬ (w22.heap.size = w35.heap.size) by omega)
          have b16_ := b16.ev t12.e (show ¬ (w25.heap.size = w35.heap.size) by omega)
          have b18_ := b18.ev t12.e (show ¬ (w28.heap.size = w35.heap.size) by omega)
          have b134_ := b134.ev t12.e (show ¬ (w31.heap.size = w35.heap.size) by omega)
          have b21_ := b21.ev t12.e (show ¬ (wl1.heap.size = w35.heap.size) by omega)
          replace BL := BL_; clear BL_
          replace b1 := b1_; clear b1_
          replace O := O_; clear O_
          replace D256 := D256_; clear D256_
          replace D4 := D4_; clear D4_
          replace D6 := D6_; clear D6_
          replace D2 := D2_; clear D2_
          replace D9 := D9_; clear D9_
          replace b4 := b4_; clear b4_
          replace PO := PO_; clear PO_
          replace b6 := b6_; clear b6_
          replace b8 := b8_; clear b8_
          replace b10 := b10_; clear b10_
          replace b12 := b12_; clear b12_
          replace b14 := b14_; clear b14_
          replace b16 := b16_; clear b16_
          replace b18 := b18_; clear b18_
          replace b134 := b134_; clear b134_
          replace b21 := b21_; clear b21_
          replace b22 : Blk .u8 w42 w35.heap.size 37 (nn (List.replicate 32 0)) := t12.c
          clear t12
          refine ze 9 ⟨BL, b1, O, D256, D4, D6, D2, D9, b4, PO, b6, b8, b10, b12, b14, b16, b18, b134, b21, by omega⟩ ?_
          refine zv 10 23 (.int .i64 2) (fun _ _ => .of) ⟨BL, b1, O, D256, D4, D6, D2, D9, b4, PO, b6, b8, b10, b12, b14, b16, b18, b134, b21, by omega⟩ ?_
          simp only [List.set_cons_zero, List.set_cons_succ]
          refine zd (by kernel_rfl) ?_ _
          refine hK26 _ _ ?_
          refine wp_seq_k fun K28 hK28 => ?_
          refine cPlain ?_
          refine sv 149 (.agg #[.int .i64 pl, .slice qA qN qC]) (Val.cel 66 _ rfl 0 2 (by kernel_rfl) b21 _ Try.underlying66 rfl (by kernel_rfl) (by simp) [.int .i64 pl, .slice qA qN qC] rfl) ?_
          simp only [List.set_cons_zero, List.set_cons_succ]
          refine xCall 150 47 #[.agg #[.int .i64 pl, .slice qA qN qC]] (by kernel_rfl) ?_
          refine (mright_any pl qA qN qC w42).mono ?_
          rintro en w43 ⟨he, hb1⟩
          rw [hq2] at he
          subst he
          have e17 := belE0 hb1
          have ze17 := e17.size
          replace BL := BL.e0 e17
          replace b1 := b1.e0 e17
          replace O := O.e0 e17
          replace D256 := D256.e0 e17
          replace D4 := D4.e0 e17
          replace D6 := D6.e0 e17
          replace D2 := D2.e0 e17
          replace D9 := D9.e0 e17
          replace b4 := b4.e0 e17
          replace PO := PO.e0 e17
          replace b6 := b6.e0 e17
          replace b8 := b8.e0 e17
          replace b10 := b10.e0 e17
          replace b12 := b12.e0 e17
          replace b14 := b14.e0 e17
          replace b16 := b16.e0 e17
          replace b18 := b18.e0 e17
          replace b134 := b134.e0 e17
          replace b21 := b21.e0 e17
          replace b22 := b22.e0 e17
          clear e17
          refine ⟨.bool false, rfl, ?_⟩
          simp only [List.set_cons_zero, List.set_cons_succ]
          refine sv 151 (.bool false) .of ?_
          simp only [List.set_cons_zero, List.set_cons_succ]
          refine sv 152 (.agg (cellsOf .u8 (nn (List.replicate 32 0)))) (Val.blk 37 _ rfl 0 32 (by kernel_rfl) b22 _ Try.underlying37 rfl (by kernel_rfl) (by (try simp only [nn_len, List.length_append, List.length_replicate]); try omega) _ (seg_all' _ (by (try simp only [nn_len, List.length_append, List.length_replicate]); try omega))) ?_
          simp only [List.set_cons_zero, List.set_cons_succ]
          refine sv 153 (.agg (cellsOf .u8 (nn (List.replicate 32 0)))) .of ?_
          simp only [List.set_cons_zero, List.set_cons_succ]
          refine sv 154 (.bool false) (Val.eqA .neq 37 _ (.tmp 152) (.tmp 153) rfl Try.underlying37 Try.underlying5 (by kernel_rfl) (by kernel_rfl) (nn (List.replicate 32 0)) (nn (List.replicate 32 0)) (by kernel_rfl) (by kernel_rfl) (by rw [nn_len]; exact (by simp)) (by rw [nn_len]; exact (by simp)) (.inr rfl) false (neq_nnN _)) ?_
          simp only [List.set_cons_zero, List.set_cons_succ]
          refine sv 155 (.bool false) .of ?_
          simp only [List.set_cons_zero, List.set_cons_succ]
          refine sv 156 (.bool false) .of ?_
          simp only [List.set_cons_zero, List.set_cons_succ]
          refine sv 157 (.int .i64 2) .of ?_
          simp only [List.set_cons_zero, List.set_cons_succ]
          refine sv 158 (.bool false) (Val.cmp .neq 3 _ (.tmp 157) _ rfl .i64 2 2 (by kernel_rfl) (by kernel_rfl) (by simp) _ rfl) ?_
          simp only [List.set_cons_zero, List.set_cons_succ]
          refine sv 159 (.bool false) .of ?_
          simp only [List.set_cons_zero, List.set_cons_succ]
          refine wpList_nil ?_
          refine hK28 _ _ ?_
          refine cF ?_
          refine wp_skip ?_
          refine hK24 _ _ ?_
          refine cPlain ?_
          refine sv 162 (.int .i64 ((c + 1 : Nat) : Int)) (Val.as (Val.add 3 _ (.tmp 136) _ rfl ((c : Nat) : Int) 1 (by kernel_rfl) (by kernel_rfl) (by omega)) (congrArg (Value.int .i64) (by omega))) ?_
          simp only [List.set_cons_zero, List.set_cons_succ]
          refine sv 136 (.int .i64 ((c + 1 : Nat) : Int)) .of ?_
          simp only [List.set_cons_zero, List.set_cons_succ]
          refine wpList_nil ?_
          refine ⟨_, ?_, c + 1, rfl, by omega, cutE, BL, b1, O, D256, D4, D6, D2, D9, b4, PO, b6, b8, b10, b12, b14, b16, b18, b134, by omega⟩
          omega
      · skip
        refine wp_exit ?_
        simp only [Exit.then, Exit.inBlock, ↓reduceIte, Nat.reduceEqDiff]
        refine hK20 _ _ ?_
        refine wp_seq_k fun K29 hK29 => ?_
        have e18 := drew_e0 wl1
        refine zg (fun w_ => Bl w.heap.size w w_ ∧ Blk .u32 w_ w1.heap.size 26 (nn tabL) ∧ OwnE 37 .u8 32 w3.heap.size w_ (.slice (some ⟨w3.heap.size, 0, none⟩) 512 512) (nnd M) ∧ SE .u8 32 w_ (.slice A256 256 C256) (nnd m256) ∧ SE .u8 32 w_ (.slice A4 4 C4) (nnd m4) ∧ SE .u8 32 w_ (.slice A6 6 C6) (nnd m6) ∧ SE .u8 32 w_ (.slice A2 2 C2) (nnd m2) ∧ SE .u8 32 w_ (.slice A9 9 C9) (nnd m9) ∧ Blk .u8 w_ w6.heap.size 37 (nn (mroot tabL 8 m256)) ∧ OwnE 37 .u8 32 w8.heap.size w_ (.slice pA 8 pC) (nnd (mpath tabL 8 m256 255)) ∧ Cel w_ w9.heap.size 66 [.int .i64 ((255 : Nat) : Int), .slice pA 8 pC] ∧ Blk .u8 w_ w13.heap.size 37 (nn (mroot tabL 8 m256)) ∧ Blk .u8 w_ w16.heap.size 37 (nn (List.replicate 32 0)) ∧ Cel w_ w19.heap.size 66 [.int .i64 0, .slice none 0 0] ∧ Cel w_ w22.heap.size 66 [.int .i64 0, .slice none 0 0] ∧ Cel w_ w25.heap.size 66 [.int .i64 0, .slice none 0 0] ∧ Cel w_ w28.heap.size 66 [.int .i64 0, .slice none 0 0] ∧ Cel w_ w31.heap.size 66 [.int .i64 (-1), .slice none 0 0, .int .i64 1, .slice none 0 0, .int .i64 4, .slice A2 2 C2, .int .i64 0, .slice A9 9 C9] ∧ wl1.heap.size ≤ w_.heap.size) (fun w_ => Bl w.heap.size w w_ ∧ Blk .u32 w_ w1.heap.size 26 (nn tabL) ∧ OwnE 37 .u8 32 w3.heap.size w_ (.slice (some ⟨w3.heap.size, 0, none⟩) 512 512) (nnd M) ∧ SE .u8 32 w_ (.slice A256 256 C256) (nnd m256) ∧ SE .u8 32 w_ (.slice A4 4 C4) (nnd m4) ∧ SE .u8 32 w_ (.slice A6 6 C6) (nnd m6) ∧ SE .u8 32 w_ (.slice A2 2 C2) (nnd m2) ∧ SE .u8 32 w_ (.slice A9 9 C9) (nnd m9) ∧ Blk .u8 w_ w6.heap.size 37 (nn (mroot tabL 8 m256)) ∧ OwnE 37 .u8 32 w8.heap.size w_ (.slice pA 8 pC) (nnd (mpath tabL 8 m256 255)) ∧ Cel w_ w9.heap.size 66 [.int .i64 ((255 : Nat) : Int), .slice pA 8 pC] ∧ Blk .u8 w_ w13.heap.size 37 (nn (mroot tabL 8 m256)) ∧ Blk .u8 w_ w16.heap.size 37 (nn (List.replicate 32 0)) ∧ Cel w_ w19.heap.size 66 [.int .i64 0, .slice none 0 0] ∧ Cel w_ w22.heap.size 66 [.int .i64 0, .slice none 0 0] ∧ Cel w_ w25.heap.size 66 [.int .i64 0, .slice none 0 0] ∧ Cel w_ w28.heap.size 66 [.int .i64 0, .slice none 0 0] ∧ Cel w_ w31.heap.size 66 [.int .i64 (-1), .slice none 0 0, .int .i64 1, .slice none 0 0, .int .i64 4, .slice A2 2 C2, .int .i64 0, .slice A9 9 C9] ∧ wl1.heap.size ≤ w_.heap.size) 100000 21 ⟨BL.e0 e18, b1.e0 e18, O.e0 e18, D256.e0 e18, D4.e0 e18, D6.e0 e18, D2.e0 e18, D9.e0 e18, b4.e0 e18, PO.e0 e18, b6.e0 e18, b8.e0 e18, b10.e0 e18, b12.e0 e18, b14.e0 e18, b16.e0 e18, b18.e0 e18, b134.e0 e18, Nat.le_refl _⟩ ?_
        clear BL b1 O D256 D4 D6 D2 D9 b4 PO b6 b8 b10 b12 b14 b16 b18 b134
        clear e18
        intro w44
        rintro ⟨BL, b1, O, D256, D4, D6, D2, D9, b4, PO, b6, b8, b10, b12, b14, b16, b18, b134, z4⟩
        refine zv 0 163 (.agg #[.int .i64 0, .slice none 0 0]) (fun _ _ => .of) ⟨BL, b1, O, D256, D4, D6, D2, D9, b4, PO, b6, b8, b10, b12, b14, b16, b18, b134, by omega⟩ ?_
        simp only [List.set_cons_zero, List.set_cons_succ]
        refine zo1 1 rfl ?_
        refine xCall 164 47 #[.agg #[.int .i64 0, .slice none 0 0]] (by kernel_rfl) ?_
        refine (mright_any 0 none 0 0 w44).mono ?_
        rintro en w45 ⟨he, hb1⟩
        rw [show mright 0 0 = true from rfl] at he
        subst he
        have e19 := belE0 hb1
        have ze19 := e19.size
        replace BL := BL.e0 e19
        replace b1 := b1.e0 e19
        replace O := O.e0 e19
        replace D256 := D256.e0 e19
        replace D4 := D4.e0 e19
        replace D6 := D6.e0 e19
        replace D2 := D2.e0 e19
        replace D9 := D9.e0 e19
        replace b4 := b4.e0 e19
        replace PO := PO.e0 e19
        replace b6 := b6.e0 e19
        replace b8 := b8.e0 e19
        replace b10 := b10.e0 e19
        replace b12 := b12.e0 e19
        replace b14 := b14.e0 e19
        replace b16 := b16.e0 e19
        replace b18 := b18.e0 e19
        replace b134 := b134.e0 e19
        clear e19
        refine ⟨.bool true, rfl, ?_⟩
        refine ze 1 ⟨BL, b1, O, D256, D4, D6, D2, D9, b4, PO, b6, b8, b10, b12, b14, b16, b18, b134, by omega⟩ ?_
        simp only [List.set_cons_zero, List.set_cons_succ]
        refine zv 2 165 (.bool true) (fun _ _ => .of) ⟨BL, b1, O, D256, D4, D6, D2, D9, b4, PO, b6, b8, b10, b12, b14, b16, b18, b134, by omega⟩ ?_
        simp only [List.set_cons_zero, List.set_cons_succ]
        refine zv 3 166 (.agg #[.int .i64 ((255 : Nat) : Int), .slice pA 8 pC]) (fun _ ⟨BL, b1, O, D256, D4, D6, D2, D9, b4, PO, b6, b8, b10, b12, b14, b16, b18, b134, z4⟩ => Val.cel 66 _ rfl 0 2 (by kernel_rfl) b6 _ Try.underlying66 rfl (by kernel_rfl) (by simp) [.int .i64 ((255 : Nat) : Int), .slice pA 8 pC] rfl) ⟨BL, b1, O, D256, D4, D6, D2, D9, b4, PO, b6, b8, b10, b12, b14, b16, b18, b134, by omega⟩ ?_
        simp only [List.set_cons_zero, List.set_cons_succ]
        refine zo1 4 rfl ?_
        refine xCall 167 47 #[.agg #[.int .i64 ((255 : Nat) : Int), .slice pA 8 pC]] (by kernel_rfl) ?_
        refine (mright_any ((255 : Nat) : Int) pA 8 pC w45).mono ?_
        rintro en w46 ⟨he, hb1⟩
        rw [show mright 8 ((255 : Nat) : Int) = true from rfl] at he
        subst he
        have e20 := belE0 hb1
        have ze20 := e20.size
        replace BL := BL.e0 e20
        replace b1 := b1.e0 e20
        replace O := O.e0 e20
        replace D256 := D256.e0 e20
        replace D4 := D4.e0 e20
        replace D6 := D6.e0 e20
        replace D2 := D2.e0 e20
        replace D9 := D9.e0 e20
        replace b4 := b4.e0 e20
        replace PO := PO.e0 e20
        replace b6 := b6.e0 e20
        replace b8 := b8.e0 e20
        replace b10 := b10.e0 e20
        replace b12 := b12.e0 e20
        replace b14 := b14.e0 e20
        replace b16 := b16.e0 e20
        replace b18 := b18.e0 e20
        replace b134 := b134.e0 e20
        clear e20
        refine ⟨.bool true, rfl, ?_⟩
        refine ze 4 ⟨BL, b1, O, D256, D4, D6, D2, D9, b4, PO, b6, b8, b10, b12, b14, b16, b18, b134, by omega⟩ ?_
        simp only [List.set_cons_zero, List.set_cons_succ]
        refine zv 5 168 (.bool true) (fun _ _ => .of) ⟨BL, b1, O, D256, D4, D6, D2, D9, b4, PO, b6, b8, b10, b12, b14, b16, b18, b134, by omega⟩ ?_
        simp only [List.set_cons_zero, List.set_cons_succ]
        refine zv 6 169 (.bool true) (fun _ _ => .of) ⟨BL, b1, O, D256, D4, D6, D2, D9, b4, PO, b6, b8, b10, b12, b14, b16, b18, b134, by omega⟩ ?_
        simp only [List.set_cons_zero, List.set_cons_succ]
        refine zv 7 170 (.slice (some ⟨w3.heap.size, 0, none⟩) 512 512) (fun _ _ => .of) ⟨BL, b1, O, D256, D4, D6, D2, D9, b4, PO, b6, b8, b10, b12, b14, b16, b18, b134, by omega⟩ ?_
        simp only [List.set_cons_zero, List.set_cons_succ]
        refine zv 8 171 (elemE 32 (.slice (some ⟨w3.heap.size, 0, none⟩) 512 512) 1) (fun _ ⟨BL, b1, O, D256, D4, D6, D2, D9, b4, PO, b6, b8, b10, b12, b14, b16, b18, b134, z4⟩ => Val.ixE 63 (.tmp 170) _ rfl (.slice (some ⟨w3.heap.size, 0, none⟩) 512 512) 1 (by kernel_rfl) (by kernel_rfl) O.se Try.underlying63 (by kernel_rfl) (by simp only [nnd_len]; omega)) ⟨BL, b1, O, D256, D4, D6, D2, D9, b4, PO, b6, b8, b10, b12, b14, b16, b18, b134, by omega⟩ ?_
        simp only [List.set_cons_zero, List.set_cons_succ]
        refine zv 9 172 (.agg (cellsOf .u8 (nn (M.getD 1 [])))) (fun _ ⟨BL, b1, O, D256, D4, D6, D2, D9, b4, PO, b6, b8, b10, b12, b14, b16, b18, b134, z4⟩ => Val.ldGN 37 _ rfl (.slice (some ⟨w3.heap.size, 0, none⟩) 512 512) 1 (by kernel_rfl) O.se _ Try.underlying37 rfl (by kernel_rfl) (by simp only [nnd_len]; omega)) ⟨BL, b1, O, D256, D4, D6, D2, D9, b4, PO, b6, b8, b10, b12, b14, b16, b18, b134, by omega⟩ ?_
        simp only [List.set_cons_zero, List.set_cons_succ]
        refine zv 10 173 (.slice (some ⟨w3.heap.size, 0, none⟩) 512 512) (fun _ _ => .of) ⟨BL, b1, O, D256, D4, D6, D2, D9, b4, PO, b6, b8, b10, b12, b14, b16, b18, b134, by omega⟩ ?_
        simp only [List.set_cons_zero, List.set_cons_succ]
        refine zv 11 174 (elemE 32 (.slice (some ⟨w3.heap.size, 0, none⟩) 512 512) 2) (fun _ ⟨BL, b1, O, D256, D4, D6, D2, D9, b4, PO, b6, b8, b10, b12, b14, b16, b18, b134, z4⟩ => Val.ixE 63 (.tmp 173) _ rfl (.slice (some ⟨w3.heap.size, 0, none⟩) 512 512) 2 (by kernel_rfl) (by kernel_rfl) O.se Try.underlying63 (by kernel_rfl) (by simp only [nnd_len]; omega)) ⟨BL, b1, O, D256, D4, D6, D2, D9, b4, PO, b6, b8, b10, b12, b14, b16, b18, b134, by omega⟩ ?_
        simp only [List.set_cons_zero, List.set_cons_succ]
        refine zv 12 175 (.agg (cellsOf .u8 (nn (M.getD 2 [])))) (fun _ ⟨BL, b1, O, D256, D4, D6, D2, D9, b4, PO, b6, b8, b10, b12, b14, b16, b18, b134, z4⟩ => Val.ldGN 37 _ rfl (.slice (some ⟨w3.heap.size, 0, none⟩) 512 512) 2 (by kernel_rfl) O.se _ Try.underlying37 rfl (by kernel_rfl) (by simp only [nnd_len]; omega)) ⟨BL, b1, O, D256, D4, D6, D2, D9, b4, PO, b6, b8, b10, b12, b14, b16, b18, b134, by omega⟩ ?_
        simp only [List.set_cons_zero, List.set_cons_succ]
        refine zv 14 177 (.agg (cellsOf .u8 (nn (List.replicate 32 0)))) (fun _ _ => .of) ⟨BL, b1, O, D256, D4, D6, D2, D9, b4, PO, b6, b8, b10, b12, b14, b16, b18, b134, by omega⟩ ?_
        simp only [List.set_cons_zero, List.set_cons_succ]
        refine zo1 13 rfl ?_
        refine xCall 176 40 #[.pointer none, .agg (cellsOf .u8 (nn (M.getD 1 []))), .agg (cellsOf .u8 (nn (M.getD 2 [])))] (by kernel_rfl) ?_
        refine (mnode_nil (M.getD 1 []) (M.getD 2 []) (fe_getDN hM32 (by omega)) (fe_getDN hM32 (by omega)) w46).mono ?_
        rintro en w47 ⟨rfl, hb1⟩
        have e21 := belE0 hb1
        have ze21 := e21.size
        replace BL := BL.e0 e21
        replace b1 := b1.e0 e21
        replace O := O.e0 e21
        replace D256 := D256.e0 e21
        replace D4 := D4.e0 e21
        replace D6 := D6.e0 e21
        replace D2 := D2.e0 e21
        replace D9 := D9.e0 e21
        replace b4 := b4.e0 e21
        replace PO := PO.e0 e21
        replace b6 := b6.e0 e21
        replace b8 := b8.e0 e21
        replace b10 := b10.e0 e21
        replace b12 := b12.e0 e21
        replace b14 := b14.e0 e21
        replace b16 := b16.e0 e21
        replace b18 := b18.e0 e21
        replace b134 := b134.e0 e21
        clear e21
        refine ⟨.agg (cellsOf .u8 (nn (List.replicate 32 0))), rfl, ?_⟩
        refine ze 13 ⟨BL, b1, O, D256, D4, D6, D2, D9, b4, PO, b6, b8, b10, b12, b14, b16, b18, b134, by omega⟩ ?_
        simp only [List.set_cons_zero, List.set_cons_succ]
        refine zv 15 178 (.bool true) (fun _ ⟨BL, b1, O, D256, D4, D6, D2, D9, b4, PO, b6, b8, b10, b12, b14, b16, b18, b134, z4⟩ => Val.eqA .eql 37 _ (.tmp 176) (.tmp 177) rfl Try.underlying37 Try.underlying5 (by kernel_rfl) (by kernel_rfl) (nn (List.replicate 32 0)) (nn (List.replicate 32 0)) (by kernel_rfl) (by kernel_rfl) (by rw [nn_len]; exact (by simp)) (by rw [nn_len]; exact (by simp)) (.inl rfl) true (by simp)) ⟨BL, b1, O, D256, D4, D6, D2, D9, b4, PO, b6, b8, b10, b12, b14, b16, b18, b134, by omega⟩ ?_
        simp only [List.set_cons_zero, List.set_cons_succ]
        refine zv 16 179 (.bool true) (fun _ _ => .of) ⟨BL, b1, O, D256, D4, D6, D2, D9, b4, PO, b6, b8, b10, b12, b14, b16, b18, b134, by omega⟩ ?_
        simp only [List.set_cons_zero, List.set_cons_succ]
        refine zv 17 180 (.bool true) (fun _ _ => .of) ⟨BL, b1, O, D256, D4, D6, D2, D9, b4, PO, b6, b8, b10, b12, b14, b16, b18, b134, by omega⟩ ?_
        simp only [List.set_cons_zero, List.set_cons_succ]
        refine zo1 18 rfl ?_
        refine xCall 181 41 #[] (by kernel_rfl) ?_
        refine (awake10 w47).mono ?_
        rintro en w48 ⟨rfl, hb1⟩
        have e22 := belE0 hb1
        have ze22 := e22.size
        replace BL := BL.e0 e22
        replace b1 := b1.e0 e22
        replace O := O.e0 e22
        replace D256 := D256.e0 e22
        replace D4 := D4.e0 e22
        replace D6 := D6.e0 e22
        replace D2 := D2.e0 e22
        replace D9 := D9.e0 e22
        replace b4 := b4.e0 e22
        replace PO := PO.e0 e22
        replace b6 := b6.e0 e22
        replace b8 := b8.e0 e22
        replace b10 := b10.e0 e22
        replace b12 := b12.e0 e22
        replace b14 := b14.e0 e22
        replace b16 := b16.e0 e22
        replace b18 := b18.e0 e22
        replace b134 := b134.e0 e22
        clear e22
        refine ⟨.bool true, rfl, ?_⟩
        refine ze 18 ⟨BL, b1, O, D256, D4, D6, D2, D9, b4, PO, b6, b8, b10, b12, b14, b16, b18, b134, by omega⟩ ?_
        simp only [List.set_cons_zero, List.set_cons_succ]
        refine zv 19 182 (.bool true) (fun _ _ => .of) ⟨BL, b1, O, D256, D4, D6, D2, D9, b4, PO, b6, b8, b10, b12, b14, b16, b18, b134, by omega⟩ ?_
        simp only [List.set_cons_zero, List.set_cons_succ]
        refine zv 20 0 (.bool true) (fun _ _ => .of) ⟨BL, b1, O, D256, D4, D6, D2, D9, b4, PO, b6, b8, b10, b12, b14, b16, b18, b134, by omega⟩ ?_
        simp only [List.set_cons_zero, List.set_cons_succ]
        refine zd (by kernel_rfl) ?_ _
        refine hK29 _ _ ?_
        refine wp_ret ?_
        (try simp only [Exit.then, Exit.inBlock])
        refine bodyPost_ret (v := .bool true) rT rfl ?_
        exact ⟨rfl, BL.b⟩
    · skip
      refine xAlloc 8 37 ((nn (List.replicate 32 0)).map (Value.int .u8)) rfl (by kernel_rfl) ?_
      intro w49 n15
      have zn15 := n15.z
      have b8 := n15.c
      replace b8 : Blk .u8 w49 w12.heap.size 37 (nn (List.replicate 32 0)) := b8
      replace BL := BL.e0 n15.e
      replace b1 := b1.e0 n15.e
      replace O := O.e0 n15.e
      replace D256 := D256.e0 n15.e
      replace D4 := D4.e0 n15.e
      replace D6 := D6.e0 n15.e
      replace D2 := D2.e0 n15.e
      replace D9 := D9.e0 n15.e
      replace b4 := b4.e0 n15.e
      replace PO := PO.e0 n15.e
      replace b6 := b6.e0 n15.e
      refine ze 8 ⟨BL, b1, O, D256, D4, D6, D2, D9, b4, PO, b6, by omega⟩ ?_
      simp only [List.set_cons_zero, List.set_cons_succ]
      refine zo1 4 rfl ?_
      refine xCall 58 43 #[.pointer (some ⟨w1.heap.size, 0, none⟩), .agg (cellsOf .u8 (nn (M.getD 255 []))), .agg #[.int .i64 ((255 : Nat) : Int), .slice pA 8 pC]] (by kernel_rfl) ?_
      have hcp := mclimb_path tabL 8 m256 255 hml256 (by omega)
      rw [hg255] at hcp
      have hP2 : SE .u8 32 w49 (.slice pA (mpath tabL 8 m256 255).length pC) (nnd (mpath tabL 8 m256 255)) := by rw [mpath_len]; exact PO.se
      have hcc := mclimb_any w1.heap.size tabL hTL w49 b1 (M.getD 255 []) (fe_getDN hM32 (by omega)) 255 pA pC (mpath tabL 8 m256 255) hP2 (mpath_lens tabL 8 m256 255 hml256 (by omega) h256l) (by rw [mpath_len]; omega) (by rw [mpath_len]; omega)
      rw [hcp, mpath_len] at hcc
      refine (hcc).mono ?_
      rintro en w50 ⟨rfl, hb1⟩
      have e23 := belE0 hb1
      have ze23 := e23.size
      replace BL := BL.e0 e23
      replace b1 := b1.e0 e23
      replace O := O.e0 e23
      replace D256 := D256.e0 e23
      replace D4 := D4.e0 e23
      replace D6 := D6.e0 e23
      replace D2 := D2.e0 e23
      replace D9 := D9.e0 e23
      replace b4 := b4.e0 e23
      replace PO := PO.e0 e23
      replace b6 := b6.e0 e23
      replace b8 := b8.e0 e23
      clear e23
      refine ⟨.tuple #[.agg (cellsOf .u8 (nn (mroot tabL 8 m256))), .int .i64 0], rfl, ?_⟩
      refine ze 4 ⟨BL, b1, O, D256, D4, D6, D2, D9, b4, PO, b6, by omega⟩ ?_
      simp only [List.set_cons_zero, List.set_cons_succ]
      refine zv 5 53 (.tuple #[.agg (cellsOf .u8 (nn (mroot tabL 8 m256))), .int .i64 0]) (fun _ _ => .of) ⟨BL, b1, O, D256, D4, D6, D2, D9, b4, PO, b6, by omega⟩ ?_
      simp only [List.set_cons_zero, List.set_cons_succ]
      refine zv 6 59 (.agg (cellsOf .u8 (nn (mroot tabL 8 m256)))) (fun _ _ => .of) ⟨BL, b1, O, D256, D4, D6, D2, D9, b4, PO, b6, by omega⟩ ?_
      simp only [List.set_cons_zero, List.set_cons_succ]
      refine zv 7 60 (.int .i64 0) (fun _ _ => .of) ⟨BL, b1, O, D256, D4, D6, D2, D9, b4, PO, b6, by omega⟩ ?_
      simp only [List.set_cons_zero, List.set_cons_succ]
      refine zo1 9 rfl ?_
      refine xStoreA 37 (.tmp 8) (.tmp 59) rfl .u8 w12.heap.size 37 (nn (List.replicate 32 0)) 0 (nn (mroot tabL 8 m256)) (by kernel_rfl) (by kernel_rfl) b8 (by rw [show (nn (mroot tabL 8 m256)).length = 32 by ((try simp only [nn_len, List.length_append, List.length_replicate]); try omega)]; kernel_rfl) (by (try simp only [nn_len, List.length_append, List.length_replicate]); try omega) (nn (mroot tabL 8 m256)) (over_whole _ _ (by (try simp only [nn_len, List.length_append, List.length_replicate]); try omega)) ?_
      intro w51 t13
      have zt13 := t13.z
      have BL_ := BL.ev t13.e (fun i h => show w.heap.size ≤ i by have h : i = w12.heap.size := h; omega)
      have b1_ := b1.ev t13.e (show ¬ (w1.heap.size = w12.heap.size) by omega)
      have O_ := O.ev t13.e (fun i hi => show ¬ (i = w12.heap.size) by have := hOb i hi; omega)
      have D256_ := D256.ev t13.e (fun i hi => show ¬ (i = w12.heap.size) by have := hdd256 i hi; omega)
      have D4_ := D4.ev t13.e (fun i hi => show ¬ (i = w12.heap.size) by have := hdd4 i hi; omega)
      have D6_ := D6.ev t13.e (fun i hi => show ¬ (i = w12.heap.size) by have := hdd6 i hi; omega)
      have D2_ := D2.ev t13.e (fun i hi => show ¬ (i = w12.heap.size) by have := hdd2 i hi; omega)
      have D9_ := D9.ev t13.e (fun i hi => show ¬ (i = w12.heap.size) by have := hdd9 i hi; omega)
      have b4_ := b4.ev t13.e (show ¬ (w6.heap.size = w12.heap.size) by omega)
      have PO_ := PO.ev t13.e (fun i hi => show ¬ (i = w12.heap.size) by have := lPO_1 i hi; omega)
      have b6_ := b6.ev t13.e (show ¬ (w9.heap.size = w12.heap.size) by omega)
      replace BL := BL_; clear BL_
      replace b1 := b1_; clear b1_
      replace O := O_; clear O_
      replace D256 := D256_; clear D256_
      replace D4 := D4_; clear D4_
      replace D6 := D6_; clear D6_
      replace D2 := D2_; clear D2_
      replace D9 := D9_; clear D9_
      replace b4 := b4_; clear b4_
      replace PO := PO_; clear PO_
      replace b6 := b6_; clear b6_
      replace b8 : Blk .u8 w51 w12.heap.size 37 (nn (mroot tabL 8 m256)) := t13.c
      clear t13
      refine ze 9 ⟨BL, b1, O, D256, D4, D6, D2, D9, b4, PO, b6, by omega⟩ ?_
      refine zv 10 9 (.int .i64 0) (fun _ _ => .of) ⟨BL, b1, O, D256, D4, D6, D2, D9, b4, PO, b6, by omega⟩ ?_
      simp only [List.set_cons_zero, List.set_cons_succ]
      refine zd (by kernel_rfl) ?_ _
      refine hK12 _ _ ?_
      refine wp_seq_k fun K30 hK30 => ?_
      refine cPlain ?_
      refine sv 62 (.slice (some ⟨w3.heap.size, 0, none⟩) 512 512) .of ?_
      simp only [List.set_cons_zero, List.set_cons_succ]
      refine xCall 63 45 #[.pointer (some ⟨w1.heap.size, 0, none⟩), .slice (some ⟨w3.heap.size, 0, none⟩) 512 512] (by kernel_rfl) ?_
      refine (mroot_no _ _ M w51 O.se (by omega) (by rw [hMl]; rfl)).mono ?_
      rintro en w52 ⟨rfl, hb1⟩
      have e24 := belE0 hb1
      have ze24 := e24.size
      replace BL := BL.e0 e24
      replace b1 := b1.e0 e24
      replace O := O.e0 e24
      replace D256 := D256.e0 e24
      replace D4 := D4.e0 e24
      replace D6 := D6.e0 e24
      replace D2 := D2.e0 e24
      replace D9 := D9.e0 e24
      replace b4 := b4.e0 e24
      replace PO := PO.e0 e24
      replace b6 := b6.e0 e24
      replace b8 := b8.e0 e24
      clear e24
      refine ⟨.tuple #[.agg (cellsOf .u8 (nn (List.replicate 32 0))), .int .i64 2], rfl, ?_⟩
      simp only [List.set_cons_zero, List.set_cons_succ]
      refine sv 61 (.tuple #[.agg (cellsOf .u8 (nn (List.replicate 32 0))), .int .i64 2]) .of ?_
      simp only [List.set_cons_zero, List.set_cons_succ]
      refine sv 64 (.agg (cellsOf .u8 (nn (List.replicate 32 0)))) .of ?_
      simp only [List.set_cons_zero, List.set_cons_succ]
      refine sv 65 (.int .i64 2) .of ?_
      simp only [List.set_cons_zero, List.set_cons_succ]
      refine xAlloc 10 37 ((nn (List.replicate 32 0)).map (Value.int .u8)) rfl (by kernel_rfl) ?_
      intro w53 n16
      have zn16 := n16.z
      have b10 := n16.c
      replace b10 : Blk .u8 w53 w52.heap.size 37 (nn (List.replicate 32 0)) := b10
      replace BL := BL.e0 n16.e
      replace b1 := b1.e0 n16.e
      replace O := O.e0 n16.e
      replace D256 := D256.e0 n16.e
      replace D4 := D4.e0 n16.e
      replace D6 := D6.e0 n16.e
      replace D2 := D2.e0 n16.e
      replace D9 := D9.e0 n16.e
      replace b4 := b4.e0 n16.e
      replace PO := PO.e0 n16.e
      replace b6 := b6.e0 n16.e
      replace b8 := b8.e0 n16.e
      simp only [List.set_cons_zero, List.set_cons_succ]
      refine xStoreA 37 (.tmp 10) (.tmp 64) rfl .u8 w52.heap.size 37 (nn (List.replicate 32 0)) 0 (nn (List.replicate 32 0)) (by kernel_rfl) (by kernel_rfl) b10 (by rw [show (nn (List.replicate 32 0)).length = 32 by ((try simp only [nn_len, List.length_append, List.length_replicate]); try omega)]; kernel_rfl) (by (try simp only [nn_len, List.length_append, List.length_replicate]); try omega) (nn (List.replicate 32 0)) (over_whole _ _ (by (try simp only [nn_len, List.length_append, List.length_replicate]); try omega)) ?_
      intro w54 t14
      have zt14 := t14.z
      have BL_ := BL.ev t14.e (fun i h => show w.heap.size ≤ i by have h : i = w52.heap.size := h; omega)
      have b1_ := b1.ev t14.e (show ¬ (w1.heap.size = w52.heap.size) by omega)
      have O_ := O.ev t14.e (fun i hi => show ¬ (i = w52.heap.size) by have := hOb i hi; omega)
      have D256_ := D256.ev t14.e (fun i hi => show ¬ (i = w52.heap.size) by have := hdd256 i hi; omega)
      have D4_ := D4.ev t14.e (fun i hi => show ¬ (i = w52.heap.size) by have := hdd4 i hi; omega)
      have D6_ := D6.ev t14.e (fun i hi => show ¬ (i = w52.heap.size) by have := hdd6 i hi; omega)
      have D2_ := D2.ev t14.e (fun i hi => show ¬ (i = w52.heap.size) by have := hdd2 i hi; omega)
      have D9_ := D9.ev t14.e (fun i hi => show ¬ (i = w52.heap.size) by have := hdd9 i hi; omega)
      have b4_ := b4.ev t14.e (show ¬ (w6.heap.size = w52.heap.size) by omega)
      have PO_ := PO.ev t14.e (fun i hi => show ¬ (i = w52.heap.size) by have := lPO_1 i hi; omega)
      have b6_ := b6.ev t14.e (show ¬ (w9.heap.size = w52.heap.size) by omega)
      have b8_ := b8.ev t14.e (show ¬ (w12.heap.size = w52.heap.size) by omega)
      replace BL := BL_; clear BL_
      replace b1 := b1_; clear b1_
      replace O := O_; clear O_
      replace D256 := D256_; clear D256_
      replace D4 := D4_; clear D4_
      replace D6 := D6_; clear D6_
      replace D2 := D2_; clear D2_
      replace D9 := D9_; clear D9_
      replace b4 := b4_; clear b4_
      replace PO := PO_; clear PO_
      replace b6 := b6_; clear b6_
      replace b8 := b8_; clear b8_
      replace b10 : Blk .u8 w54 w52.heap.size 37 (nn (List.replicate 32 0)) := t14.c
      clear t14
      refine sv 11 (.int .i64 2) .of ?_
      simp only [List.set_cons_zero, List.set_cons_succ]
      refine wpList_nil ?_
      refine hK30 _ _ ?_
      refine wp_seq_k fun K31 hK31 => ?_
      refine cPlain ?_
      refine sv 67 (.slice (some ⟨w3.heap.size, 0, none⟩) 512 512) .of ?_
      simp only [List.set_cons_zero, List.set_cons_succ]
      refine xCall 68 46 #[.pointer (some ⟨w1.heap.size, 0, none⟩), .slice (some ⟨w3.heap.size, 0, none⟩) 512 512, .int .i64 0] (by kernel_rfl) ?_
      refine (mpath_no _ _ M 0 w54 O.se (by omega) (by omega) (by rw [hMl]; rfl)).mono ?_
      rintro en w55 ⟨rfl, hb1⟩
      have e25 := belE0 hb1
      have ze25 := e25.size
      replace BL := BL.e0 e25
      replace b1 := b1.e0 e25
      replace O := O.e0 e25
      replace D256 := D256.e0 e25
      replace D4 := D4.e0 e25
      replace D6 := D6.e0 e25
      replace D2 := D2.e0 e25
      replace D9 := D9.e0 e25
      replace b4 := b4.e0 e25
      replace PO := PO.e0 e25
      replace b6 := b6.e0 e25
      replace b8 := b8.e0 e25
      replace b10 := b10.e0 e25
      clear e25
      refine ⟨.tuple #[.agg #[.int .i64 0, .slice none 0 0], .int .i64 2], rfl, ?_⟩
      simp only [List.set_cons_zero, List.set_cons_succ]
      refine sv 66 (.tuple #[.agg #[.int .i64 0, .slice none 0 0], .int .i64 2]) .of ?_
      simp only [List.set_cons_zero, List.set_cons_succ]
      refine sv 69 (.agg #[.int .i64 0, .slice none 0 0]) .of ?_
      simp only [List.set_cons_zero, List.set_cons_succ]
      refine sv 70 (.int .i64 2) .of ?_
      simp only [List.set_cons_zero, List.set_cons_succ]
      refine xAlloc 12 66 [.int .i64 0, .slice none 0 0] rfl (by kernel_rfl) ?_
      intro w56 n17
      have zn17 := n17.z
      have b12 := n17.c
      replace BL := BL.e0 n17.e
      replace b1 := b1.e0 n17.e
      replace O := O.e0 n17.e
      replace D256 := D256.e0 n17.e
      replace D4 := D4.e0 n17.e
      replace D6 := D6.e0 n17.e
      replace D2 := D2.e0 n17.e
      replace D9 := D9.e0 n17.e
      replace b4 := b4.e0 n17.e
      replace PO := PO.e0 n17.e
      replace b6 := b6.e0 n17.e
      replace b8 := b8.e0 n17.e
      replace b10 := b10.e0 n17.e
      simp only [List.set_cons_zero, List.set_cons_succ]
      refine xStoreR 66 (.tmp 12) (.tmp 69) rfl w55.heap.size 66 [.int .i64 0, .slice none 0 0] 0 [.int .i64 0, .slice none 0 0] (by kernel_rfl) (by kernel_rfl) b12 (by kernel_rfl) (by simp) rfl [.int .i64 0, .slice none 0 0] rfl ?_
      intro w57 t15
      have zt15 := t15.z
      have BL_ := BL.ev t15.e (fun i h => show w.heap.size ≤ i by have h : i = w55.heap.size := h; omega)
      have b1_ := b1.ev t15.e (show ¬ (w1.heap.size = w55.heap.size) by omega)
      have O_ := O.ev t15.e (fun i hi => show ¬ (i = w55.heap.size) by have := hOb i hi; omega)
      have D256_ := D256.ev t15.e (fun i hi => show ¬ (i = w55.heap.size) by have := hdd256 i hi; omega)
      have D4_ := D4.ev t15.e (fun i hi => show ¬ (i = w55.heap.size) by have := hdd4 i hi; omega)
      have D6_ := D6.ev t15.e (fun i hi => show ¬ (i = w55.heap.size) by have := hdd6 i hi; omega)
      have D2_ := D2.ev t15.e (fun i hi => show ¬ (i = w55.heap.size) by have := hdd2 i hi; omega)
      have D9_ := D9.ev t15.e (fun i hi => show ¬ (i = w55.heap.size) by have := hdd9 i hi; omega)
      have b4_ := b4.ev t15.e (show ¬ (w6.heap.size = w55.heap.size) by omega)
      have PO_ := PO.ev t15.e (fun i hi => show ¬ (i = w55.heap.size) by have := lPO_1 i hi; omega)
      have b6_ := b6.ev t15.e (show ¬ (w9.heap.size = w55.heap.size) by omega)
      have b8_ := b8.ev t15.e (show ¬ (w12.heap.size = w55.heap.size) by omega)
      have b10_ := b10.ev t15.e (show ¬ (w52.heap.size = w55.heap.size) by omega)
      replace BL := BL_; clear BL_
      replace b1 := b1_; clear b1_
      replace O := O_; clear O_
      replace D256 := D256_; clear D256_
      replace D4 := D4_; clear D4_
      replace D6 := D6_; clear D6_
      replace D2 := D2_; clear D2_
      replace D9 := D9_; clear D9_
      replace b4 := b4_; clear b4_
      replace PO := PO_; clear PO_
      replace b6 := b6_; clear b6_
      replace b8 := b8_; clear b8_
      replace b10 := b10_; clear b10_
      replace b12 : Cel w57 w55.heap.size 66 [.int .i64 0, .slice none 0 0] := t15.c
      clear t15
      refine sv 13 (.int .i64 2) .of ?_
      simp only [List.set_cons_zero, List.set_cons_succ]
      refine wpList_nil ?_
      refine hK31 _ _ ?_
      refine wp_seq_k fun K32 hK32 => ?_
      refine cPlain ?_
      refine sv 72 (.slice (some ⟨w3.heap.size, 0, none⟩) 512 512) .of ?_
      simp only [List.set_cons_zero, List.set_cons_succ]
      refine sv 73 (.slice A4 4 C4) (Val.as (Val.slcE 63 (.tmp 72) none (some _) rfl (.slice (some ⟨w3.heap.size, 0, none⟩) 512 512) (by kernel_rfl) O.se 0 4 (.inr ⟨rfl, rfl⟩) (.inl (by kernel_rfl)) (Nat.zero_le _) (by rw [nnd_len]; omega) Try.underlying63 (by kernel_rfl)) hk4) ?_
      simp only [List.set_cons_zero, List.set_cons_succ]
      refine xCall 74 46 #[.pointer (some ⟨w1.heap.size, 0, none⟩), .slice A4 4 C4, .int .i64 4] (by kernel_rfl) ?_
      refine (mpath_bad _ _ m4 (4) w57 D4 (by omega)).mono ?_
      rintro en w58 ⟨rfl, hb1⟩
      have e26 := belE0 hb1
      have ze26 := e26.size
      replace BL := BL.e0 e26
      replace b1 := b1.e0 e26
      replace O := O.e0 e26
      replace D256 := D256.e0 e26
      replace D4 := D4.e0 e26
      replace D6 := D6.e0 e26
      replace D2 := D2.e0 e26
      replace D9 := D9.e0 e26
      replace b4 := b4.e0 e26
      replace PO := PO.e0 e26
      replace b6 := b6.e0 e26
      replace b8 := b8.e0 e26
      replace b10 := b10.e0 e26
      replace b12 := b12.e0 e26
      clear e26
      refine ⟨.tuple #[.agg #[.int .i64 0, .slice none 0 0], .int .i64 2], rfl, ?_⟩
      simp only [List.set_cons_zero, List.set_cons_succ]
      refine sv 71 (.tuple #[.agg #[.int .i64 0, .slice none 0 0], .int .i64 2]) .of ?_
      simp only [List.set_cons_zero, List.set_cons_succ]
      refine sv 75 (.agg #[.int .i64 0, .slice none 0 0]) .of ?_
      simp only [List.set_cons_zero, List.set_cons_succ]
      refine sv 76 (.int .i64 2) .of ?_
      simp only [List.set_cons_zero, List.set_cons_succ]
      refine xAlloc 14 66 [.int .i64 0, .slice none 0 0] rfl (by kernel_rfl) ?_
      intro w59 n18
      have zn18 := n18.z
      have b14 := n18.c
      replace BL := BL.e0 n18.e
      replace b1 := b1.e0 n18.e
      replace O := O.e0 n18.e
      replace D256 := D256.e0 n18.e
      replace D4 := D4.e0 n18.e
      replace D6 := D6.e0 n18.e
      replace D2 := D2.e0 n18.e
      replace D9 := D9.e0 n18.e
      replace b4 := b4.e0 n18.e
      replace PO := PO.e0 n18.e
      replace b6 := b6.e0 n18.e
      replace b8 := b8.e0 n18.e
      replace b10 := b10.e0 n18.e
      replace b12 := b12.e0 n18.e
      simp only [List.set_cons_zero, List.set_cons_succ]
      refine xStoreR 66 (.tmp 14) (.tmp 75) rfl w58.heap.size 66 [.int .i64 0, .slice none 0 0] 0 [.int .i64 0, .slice none 0 0] (by kernel_rfl) (by kernel_rfl) b14 (by kernel_rfl) (by simp) rfl [.int .i64 0, .slice none 0 0] rfl ?_
      intro w60 t16
      have zt16 := t16.z
      have BL_ := BL.ev t16.e (fun i h => show w.heap.size ≤ i by have h : i = w58.heap.size := h; omega)
      have b1_ := b1.ev t16.e (show ¬ (w1.heap.size = w58.heap.size) by omega)
      have O_ := O.ev t16.e (fun i hi => show ¬ (i = w58.heap.size) by have := hOb i hi; omega)
      have D256_ := D256.ev t16.e (fun i hi => show ¬ (i = w58.heap.size) by have := hdd256 i hi; omega)
      have D4_ := D4.ev t16.e (fun i hi => show ¬ (i = w58.heap.size) by have := hdd4 i hi; omega)
      have D6_ := D6.ev t16.e (fun i hi => show ¬ (i = w58.heap.size) by have := hdd6 i hi; omega)
      have D2_ := D2.ev t16.e (fun i hi => show ¬ (i = w58.heap.size) by have := hdd2 i hi; omega)
      have D9_ := D9.ev t16.e (fun i hi => show ¬ (i = w58.heap.size) by have := hdd9 i hi; omega)
      have b4_ := b4.ev t16.e (show ¬ (w6.heap.size = w58.heap.size) by omega)
      have PO_ := PO.ev t16.e (fun i hi => show ¬ (i = w58.heap.size) by have := lPO_1 i hi; omega)
      have b6_ := b6.ev t16.e (show ¬ (w9.heap.size = w58.heap.size) by omega)
      have b8_ := b8.ev t16.e (show ¬ (w12.heap.size = w58.heap.size) by omega)
      have b10_ := b10.ev t16.e (show ¬ (w52.heap.size = w58.heap.size) by omega)
      have b12_ := b12.ev t16.e (show ¬ (w55.heap.size = w58.heap.size) by omega)
      replace BL := BL_; clear BL_
      replace b1 := b1_; clear b1_
      replace O := O_; clear O_
      replace D256 := D256_; clear D256_
      replace D4 := D4_; clear D4_
      replace D6 := D6_; clear D6_
      replace D2 := D2_; clear D2_
      replace D9 := D9_; clear D9_
      replace b4 := b4_; clear b4_
      replace PO := PO_; clear PO_
      replace b6 := b6_; clear b6_
      replace b8 := b8_; clear b8_
      replace b10 := b10_; clear b10_
      replace b12 := b12_; clear b12_
      replace b14 : Cel w60 w58.heap.size 66 [.int .i64 0, .slice none 0 0] := t16.c
      clear t16
      refine sv 15 (.int .i64 2) .of ?_
      simp only [List.set_cons_zero, List.set_cons_succ]
      refine wpList_nil ?_
      refine hK32 _ _ ?_
      refine wp_seq_k fun K33 hK33 => ?_
      refine cPlain ?_
      refine sv 78 (.slice (some ⟨w3.heap.size, 0, none⟩) 512 512) .of ?_
      simp only [List.set_cons_zero, List.set_cons_succ]
      refine sv 79 (.slice A4 4 C4) (Val.as (Val.slcE 63 (.tmp 78) none (some _) rfl (.slice (some ⟨w3.heap.size, 0, none⟩) 512 512) (by kernel_rfl) O.se 0 4 (.inr ⟨rfl, rfl⟩) (.inl (by kernel_rfl)) (Nat.zero_le _) (by rw [nnd_len]; omega) Try.underlying63 (by kernel_rfl)) hk4) ?_
      simp only [List.set_cons_zero, List.set_cons_succ]
      refine xCall 80 46 #[.pointer (some ⟨w1.heap.size, 0, none⟩), .slice A4 4 C4, .int .i64 (-1)] (by kernel_rfl) ?_
      refine (mpath_bad _ _ m4 (-1) w60 D4 (by omega)).mono ?_
      rintro en w61 ⟨rfl, hb1⟩
      have e27 := belE0 hb1
      have ze27 := e27.size
      replace BL := BL.e0 e27
      replace b1 := b1.e0 e27
      replace O := O.e0 e27
      replace D256 := D256.e0 e27
      replace D4 := D4.e0 e27
      replace D6 := D6.e0 e27
      replace D2 := D2.e0 e27
      replace D9 := D9.e0 e27
      replace b4 := b4.e0 e27
      replace PO := PO.e0 e27
      replace b6 := b6.e0 e27
      replace b8 := b8.e0 e27
      replace b10 := b10.e0 e27
      replace b12 := b12.e0 e27
      replace b14 := b14.e0 e27
      clear e27
      refine ⟨.tuple #[.agg #[.int .i64 0, .slice none 0 0], .int .i64 2], rfl, ?_⟩
      simp only [List.set_cons_zero, List.set_cons_succ]
      refine sv 77 (.tuple #[.agg #[.int .i64 0, .slice none 0 0], .int .i64 2]) .of ?_
      simp only [List.set_cons_zero, List.set_cons_succ]
      refine sv 81 (.agg #[.int .i64 0, .slice none 0 0]) .of ?_
      simp only [List.set_cons_zero, List.set_cons_succ]
      refine sv 82 (.int .i64 2) .of ?_
      simp only [List.set_cons_zero, List.set_cons_succ]
      refine xAlloc 16 66 [.int .i64 0, .slice none 0 0] rfl (by kernel_rfl) ?_
      intro w62 n19
      have zn19 := n19.z
      have b16 := n19.c
      replace BL := BL.e0 n19.e
      replace b1 := b1.e0 n19.e
      replace O := O.e0 n19.e
      replace D256 := D256.e0 n19.e
      replace D4 := D4.e0 n19.e
      replace D6 := D6.e0 n19.e
      replace D2 := D2.e0 n19.e
      replace D9 := D9.e0 n19.e
      replace b4 := b4.e0 n19.e
      replace PO := PO.e0 n19.e
      replace b6 := b6.e0 n19.e
      replace b8 := b8.e0 n19.e
      replace b10 := b10.e0 n19.e
      replace b12 := b12.e0 n19.e
      replace b14 := b14.e0 n19.e
      simp only [List.set_cons_zero, List.set_cons_succ]
      refine xStoreR 66 (.tmp 16) (.tmp 81) rfl w61.heap.size 66 [.int .i64 0, .slice none 0 0] 0 [.int .i64 0, .slice none 0 0] (by kernel_rfl) (by kernel_rfl) b16 (by kernel_rfl) (by simp) rfl [.int .i64 0, .slice none 0 0] rfl ?_
      intro w63 t17
      have zt17 := t17.z
      have BL_ := BL.ev t17.e (fun i h => show w.heap.size ≤ i by have h : i = w61.heap.size := h; omega)
      have b1_ := b1.ev t17.e (show ¬ (w1.heap.size = w61.heap.size) by omega)
      have O_ := O.ev t17.e (fun i hi => show ¬ (i = w61.heap.size) by have := hOb i hi; omega)
      have D256_ := D256.ev t17.e (fun i hi => show ¬ (i = w61.heap.size) by have := hdd256 i hi; omega)
      have D4_ := D4.ev t17.e (fun i hi => show ¬ (i = w61.heap.size) by have := hdd4 i hi; omega)
      have D6_ := D6.ev t17.e (fun i hi => show ¬ (i = w61.heap.size) by have := hdd6 i hi; omega)
      have D2_ := D2.ev t17.e (fun i hi => show ¬ (i = w61.heap.size) by have := hdd2 i hi; omega)
      have D9_ := D9.ev t17.e (fun i hi => show ¬ (i = w61.heap.size) by have := hdd9 i hi; omega)
      have b4_ := b4.ev t17.e (show ¬ (w6.heap.size = w61.heap.size) by omega)
      have PO_ := PO.ev t17.e (fun i hi => show ¬ (i = w61.heap.size) by have := lPO_1 i hi; omega)
      have b6_ := b6.ev t17.e (show ¬ (w9.heap.size = w61.heap.size) by omega)
      have b8_ := b8.ev t17.e (show ¬ (w12.heap.size = w61.heap.size) by omega)
      have b10_ := b10.ev t17.e (show ¬ (w52.heap.size = w61.heap.size) by omega)
      have b12_ := b12.ev t17.e (show ¬ (w55.heap.size = w61.heap.size) by omega)
      have b14_ := b14.ev t17.e (show ¬ (w58.heap.size = w61.heap.size) by omega)
      replace BL := BL_; clear BL_
      replace b1 := b1_; clear b1_
      replace O := O_; clear O_
      replace D256 := D256_; clear D256_
      replace D4 := D4_; clear D4_
      replace D6 := D6_; clear D6_
      replace D2 := D2_; clear D2_
      replace D9 := D9_; clear D9_
      replace b4 := b4_; clear b4_
      replace PO := PO_; clear PO_
      replace b6 := b6_; clear b6_
      replace b8 := b8_; clear b8_
      replace b10 := b10_; clear b10_
      replace b12 := b12_; clear b12_
      replace b14 := b14_; clear b14_
      replace b16 : Cel w63 w61.heap.size 66 [.int .i64 0, .slice none 0 0] := t17.c
      clear t17
      refine sv 17 (.int .i64 2) .of ?_
      simp only [List.set_cons_zero, List.set_cons_succ]
      refine wpList_nil ?_
      refine hK33 _ _ ?_
      refine wp_seq_k fun K34 hK34 => ?_
      refine cPlain ?_
      refine sv 84 (.slice (some ⟨w3.heap.size, 0, none⟩) 512 512) .of ?_
      simp only [List.set_cons_zero, List.set_cons_succ]
      refine sv 85 (.slice A6 6 C6) (Val.as (Val.slcE 63 (.tmp 84) none (some _) rfl (.slice (some ⟨w3.heap.size, 0, none⟩) 512 512) (by kernel_rfl) O.se 0 6 (.inr ⟨rfl, rfl⟩) (.inl (by kernel_rfl)) (Nat.zero_le _) (by rw [nnd_len]; omega) Try.underlying63 (by kernel_rfl)) hk6) ?_
      simp only [List.set_cons_zero, List.set_cons_succ]
      refine xCall 86 46 #[.pointer (some ⟨w1.heap.size, 0, none⟩), .slice A6 6 C6, .int .i64 1] (by kernel_rfl) ?_
      refine (mpath_no _ _ m6 1 w63 D6 (by omega) (by omega) (by rw [hml6]; rfl)).mono ?_
      rintro en w64 ⟨rfl, hb1⟩
      have e28 := belE0 hb1
      have ze28 := e28.size
      replace BL := BL.e0 e28
      replace b1 := b1.e0 e28
      replace O := O.e0 e28
      replace D256 := D256.e0 e28
      replace D4 := D4.e0 e28
      replace D6 := D6.e0 e28
      replace D2 := D2.e0 e28
      replace D9 := D9.e0 e28
      replace b4 := b4.e0 e28
      replace PO := PO.e0 e28
      replace b6 := b6.e0 e28
      replace b8 := b8.e0 e28
      replace b10 := b10.e0 e28
      replace b12 := b12.e0 e28
      replace b14 := b14.e0 e28
      replace b16 := b16.e0 e28
      clear e28
      refine ⟨.tuple #[.agg #[.int .i64 0, .slice none 0 0], .int .i64 2], rfl, ?_⟩
      simp only [List.set_cons_zero, List.set_cons_succ]
      refine sv 83 (.tuple #[.agg #[.int .i64 0, .slice none 0 0], .int .i64 2]) .of ?_
      simp only [List.set_cons_zero, List.set_cons_succ]
      refine sv 87 (.agg #[.int .i64 0, .slice none 0 0]) .of ?_
      simp only [List.set_cons_zero, List.set_cons_succ]
      refine sv 88 (.int .i64 2) .of ?_
      simp only [List.set_cons_zero, List.set_cons_succ]
      refine xAlloc 18 66 [.int .i64 0, .slice none 0 0] rfl (by kernel_rfl) ?_
      intro w65 n20
      have zn20 := n20.z
      have b18 := n20.c
      replace BL := BL.e0 n20.e
      replace b1 := b1.e0 n20.e
      replace O := O.e0 n20.e
      replace D256 := D256.e0 n20.e
      replace D4 := D4.e0 n20.e
      replace D6 := D6.e0 n20.e
      replace D2 := D2.e0 n20.e
      replace D9 := D9.e0 n20.e
      replace b4 := b4.e0 n20.e
      replace PO := PO.e0 n20.e
      replace b6 := b6.e0 n20.e
      replace b8 := b8.e0 n20.e
      replace b10 := b10.e0 n20.e
      replace b12 := b12.e0 n20.e
      replace b14 := b14.e0 n20.e
      replace b16 := b16.e0 n20.e
      simp only [List.set_cons_zero, List.set_cons_succ]
      refine xStoreR 66 (.tmp 18) (.tmp 87) rfl w64.heap.size 66 [.int .i64 0, .slice none 0 0] 0 [.int .i64 0, .slice none 0 0] (by kernel_rfl) (by kernel_rfl) b18 (by kernel_rfl) (by simp) rfl [.int .i64 0, .slice none 0 0] rfl ?_
      intro w66 t18
      have zt18 := t18.z
      have BL_ := BL.ev t18.e (fun i h => show w.heap.size ≤ i by have h : i = w64.heap.size := h; omega)
      have b1_ := b1.ev t18.e (show ¬ (w1.heap.size = w64.heap.size) by omega)
      have O_ := O.ev t18.e (fun i hi => show ¬ (i = w64.heap.size) by have := hOb i hi; omega)
      have D256_ := D256.ev t18.e (fun i hi => show ¬ (i = w64.heap.size) by have := hdd256 i hi; omega)
      have D4_ := D4.ev t18.e (fun i hi => show ¬ (i = w64.heap.size) by have := hdd4 i hi; omega)
      have D6_ := D6.ev t18.e (fun i hi => show ¬ (i = w64.heap.size) by have := hdd6 i hi; omega)
      have D2_ := D2.ev t18.e (fun i hi => show ¬ (i = w64.heap.size) by have := hdd2 i hi; omega)
      have D9_ := D9.ev t18.e (fun i hi => show ¬ (i = w64.heap.size) by have := hdd9 i hi; omega)
      have b4_ := b4.ev t18.e (show ¬ (w6.heap.size = w64.heap.size) by omega)
      have PO_ := PO.ev t18.e (fun i hi => show ¬ (i = w64.heap.size) by have := lPO_1 i hi; omega)
      have b6_ := b6.ev t18.e (show ¬ (w9.heap.size = w64.heap.size) by omega)
      have b8_ := b8.ev t18.e (show ¬ (w12.heap.size = w64.heap.size) by omega)
      have b10_ := b10.ev t18.e (show ¬ (w52.heap.size = w64.heap.size) by omega)
      have b12_ := b12.ev t18.e (show ¬ (w55.heap.size = w64.heap.size) by omega)
      have b14_ := b14.ev t18.e (show ¬ (w58.heap.size = w64.heap.size) by omega)
      have b16_ := b16.ev t18.e (show ¬ (w61.heap.size = w64.heap.size) by omega)
      replace BL := BL_; clear BL_
      replace b1 := b1_; clear b1_
      replace O := O_; clear O_
      replace D256 := D256_; clear D256_
      replace D4 := D4_; clear D4_
      replace D6 := D6_; clear D6_
      replace D2 := D2_; clear D2_
      replace D9 := D9_; clear D9_
      replace b4 := b4_; clear b4_
      replace PO := PO_; clear PO_
      replace b6 := b6_; clear b6_
      replace b8 := b8_; clear b8_
      replace b10 := b10_; clear b10_
      replace b12 := b12_; clear b12_
      replace b14 := b14_; clear b14_
      replace b16 := b16_; clear b16_
      replace b18 : Cel w66 w64.heap.size 66 [.int .i64 0, .slice none 0 0] := t18.c
      clear t18
      refine sv 19 (.int .i64 2) .of ?_
      simp only [List.set_cons_zero, List.set_cons_succ]
      refine wpList_nil ?_
      refine hK34 _ _ ?_
      refine wp_seq_k fun K35 hK35 => ?_
      refine wp_seq_k fun K36 hK36 => ?_
      refine cPlain ?_
      refine sv 89 (.int .i64 0) .of ?_
      simp only [List.set_cons_zero, List.set_cons_succ]
      refine sv 90 (.int .i64 0) .of ?_
      simp only [List.set_cons_zero, List.set_cons_succ]
      refine sv 91 (.int .i64 (0 + 0)) (Val.add 67 _ (.tmp 89) (.tmp 90) rfl 0 0 (by kernel_rfl) (by kernel_rfl) (by omega)) ?_
      simp only [List.set_cons_zero, List.set_cons_succ]
      refine sv 92 (.int .i64 0) .of ?_
      simp only [List.set_cons_zero, List.set_cons_succ]
      refine sv 93 (.int .i64 ((0 + 0) + 0)) (Val.add 67 _ (.tmp 91) (.tmp 92) rfl (0 + 0) 0 (by kernel_rfl) (by kernel_rfl) (by omega)) ?_
      simp only [List.set_cons_zero, List.set_cons_succ]
      refine sv 94 (.bool false) .of ?_
      simp only [List.set_cons_zero, List.set_cons_succ]
      refine sv 95 (.bool false) .of ?_
      simp only [List.set_cons_zero, List.set_cons_succ]
      refine sv 96 (.agg (cellsOf .u8 (nn (mroot tabL 8 m256)))) (Val.blk 37 _ rfl 0 32 (by kernel_rfl) b8 _ Try.underlying37 rfl (by kernel_rfl) (by (try simp only [nn_len, List.length_append, List.length_replicate]); try omega) _ (seg_all' _ (by (try simp only [nn_len, List.length_append, List.length_replicate]); try omega))) ?_
      simp only [List.set_cons_zero, List.set_cons_succ]
      refine sv 97 (.agg (cellsOf .u8 (nn (mroot tabL 8 m256)))) (Val.blk 37 _ rfl 0 32 (by kernel_rfl) b4 _ Try.underlying37 rfl (by kernel_rfl) (by (try simp only [nn_len, List.length_append, List.length_replicate]); try omega) _ (seg_all' _ (by (try simp only [nn_len, List.length_append, List.length_replicate]); try omega))) ?_
      simp only [List.set_cons_zero, List.set_cons_succ]
      refine sv 98 (.bool false) (Val.eqA .neq 37 _ (.tmp 96) (.tmp 97) rfl Try.underlying37 Try.underlying5 (by kernel_rfl) (by kernel_rfl) (nn (mroot tabL 8 m256)) (nn (mroot tabL 8 m256)) (by kernel_rfl) (by kernel_rfl) (by rw [nn_len]; exact hrl) (by rw [nn_len]; exact hrl) (.inr rfl) false (neq_nnN _)) ?_
      simp only [List.set_cons_zero, List.set_cons_succ]
      refine sv 99 (.bool false) .of ?_
      simp only [List.set_cons_zero, List.set_cons_succ]
      refine sv 100 (.bool false) .of ?_
      simp only [List.set_cons_zero, List.set_cons_succ]
      refine sv 101 (.pointer (some ⟨w9.heap.size, 1, none⟩)) .of ?_
      simp only [List.set_cons_zero, List.set_cons_succ]
      refine sv 102 (.slice pA 8 pC) (Val.cel1 63 _ rfl w9.heap.size 1 _ (by kernel_rfl) (fun _ => (by kernel_rfl)) b6 rfl) ?_
      simp only [List.set_cons_zero, List.set_cons_succ]
      refine sv 103 (.int .i64 (8 : Int)) .of ?_
      simp only [List.set_cons_zero, List.set_cons_succ]
      refine sv 104 (.bool false) .of ?_
      simp only [List.set_cons_zero, List.set_cons_succ]
      refine sv 105 (.bool false) .of ?_
      simp only [List.set_cons_zero, List.set_cons_succ]
      refine sv 106 (.bool false) .of ?_
      simp only [List.set_cons_zero, List.set_cons_succ]
      refine sv 107 (.int .i64 2) .of ?_
      simp only [List.set_cons_zero, List.set_cons_succ]
      refine sv 108 (.bool false) (Val.cmp .neq 3 _ (.tmp 107) _ rfl .i64 2 2 (by kernel_rfl) (by kernel_rfl) (by simp) _ rfl) ?_
      simp only [List.set_cons_zero, List.set_cons_succ]
      refine sv 109 (.bool false) .of ?_
      simp only [List.set_cons_zero, List.set_cons_succ]
      refine sv 110 (.bool false) .of ?_
      simp only [List.set_cons_zero, List.set_cons_succ]
      refine sv 111 (.int .i64 2) .of ?_
      simp only [List.set_cons_zero, List.set_cons_succ]
      refine sv 112 (.bool false) (Val.cmp .neq 3 _ (.tmp 111) _ rfl .i64 2 2 (by kernel_rfl) (by kernel_rfl) (by simp) _ rfl) ?_
      simp only [List.set_cons_zero, List.set_cons_succ]
      refine sv 113 (.bool false) .of ?_
      simp only [List.set_cons_zero, List.set_cons_succ]
      refine sv 114 (.bool false) .of ?_
      simp only [List.set_cons_zero, List.set_cons_succ]
      refine sv 115 (.int .i64 2) .of ?_
      simp only [List.set_cons_zero, List.set_cons_succ]
      refine sv 116 (.bool false) (Val.cmp .neq 3 _ (.tmp 115) _ rfl .i64 2 2 (by kernel_rfl) (by kernel_rfl) (by simp) _ rfl) ?_
      simp only [List.set_cons_zero, List.set_cons_succ]
      refine sv 117 (.bool false) .of ?_
      simp only [List.set_cons_zero, List.set_cons_succ]
      refine sv 118 (.bool false) .of ?_
      simp only [List.set_cons_zero, List.set_cons_succ]
      refine sv 119 (.int .i64 2) .of ?_
      simp only [List.set_cons_zero, List.set_cons_succ]
      refine sv 120 (.bool false) (Val.cmp .neq 3 _ (.tmp 119) _ rfl .i64 2 2 (by kernel_rfl) (by kernel_rfl) (by simp) _ rfl) ?_
      simp only [List.set_cons_zero, List.set_cons_succ]
      refine sv 121 (.bool false) .of ?_
      simp only [List.set_cons_zero, List.set_cons_succ]
      refine sv 122 (.bool false) .of ?_
      simp only [List.set_cons_zero, List.set_cons_succ]
      refine sv 123 (.int .i64 2) .of ?_
      simp only [List.set_cons_zero, List.set_cons_succ]
      refine sv 124 (.bool false) (Val.cmp .neq 3 _ (.tmp 123) _ rfl .i64 2 2 (by kernel_rfl) (by kernel_rfl) (by simp) _ rfl) ?_
      simp only [List.set_cons_zero, List.set_cons_succ]
      refine sv 125 (.bool false) .of ?_
      simp only [List.set_cons_zero, List.set_cons_succ]
      refine wpList_nil ?_
      refine hK36 _ _ ?_
      refine cF ?_
      refine wp_skip ?_
      refine hK35 _ _ ?_
      refine wp_seq_k fun K37 hK37 => ?_
      refine wp_seq_k fun K38 hK38 => ?_
      have e29 := drew_e0 w66
      refine zg (fun w_ => Bl w.heap.size w w_ ∧ Blk .u32 w_ w1.heap.size 26 (nn tabL) ∧ OwnE 37 .u8 32 w3.heap.size w_ (.slice (some ⟨w3.heap.size, 0, none⟩) 512 512) (nnd M) ∧ SE .u8 32 w_ (.slice A256 256 C256) (nnd m256) ∧ SE .u8 32 w_ (.slice A4 4 C4) (nnd m4) ∧ SE .u8 32 w_ (.slice A6 6 C6) (nnd m6) ∧ SE .u8 32 w_ (.slice A2 2 C2) (nnd m2) ∧ SE .u8 32 w_ (.slice A9 9 C9) (nnd m9) ∧ Blk .u8 w_ w6.heap.size 37 (nn (mroot tabL 8 m256)) ∧ OwnE 37 .u8 32 w8.heap.size w_ (.slice pA 8 pC) (nnd (mpath tabL 8 m256 255)) ∧ Cel w_ w9.heap.size 66 [.int .i64 ((255 : Nat) : Int), .slice pA 8 pC] ∧ Blk .u8 w_ w12.heap.size 37 (nn (mroot tabL 8 m256)) ∧ Blk .u8 w_ w52.heap.size 37 (nn (List.replicate 32 0)) ∧ Cel w_ w55.heap.size 66 [.int .i64 0, .slice none 0 0] ∧ Cel w_ w58.heap.size 66 [.int .i64 0, .slice none 0 0] ∧ Cel w_ w61.heap.size 66 [.int .i64 0, .slice none 0 0] ∧ Cel w_ w64.heap.size 66 [.int .i64 0, .slice none 0 0] ∧ w66.heap.size ≤ w_.heap.size) (fun w_ => Bl w.heap.size w w_ ∧ Blk .u32 w_ w1.heap.size 26 (nn tabL) ∧ OwnE 37 .u8 32 w3.heap.size w_ (.slice (some ⟨w3.heap.size, 0, none⟩) 512 512) (nnd M) ∧ SE .u8 32 w_ (.slice A256 256 C256) (nnd m256) ∧ SE .u8 32 w_ (.slice A4 4 C4) (nnd m4) ∧ SE .u8 32 w_ (.slice A6 6 C6) (nnd m6) ∧ SE .u8 32 w_ (.slice A2 2 C2) (nnd m2) ∧ SE .u8 32 w_ (.slice A9 9 C9) (nnd m9) ∧ Blk .u8 w_ w6.heap.size 37 (nn (mroot tabL 8 m256)) ∧ OwnE 37 .u8 32 w8.heap.size w_ (.slice pA 8 pC) (nnd (mpath tabL 8 m256 255)) ∧ Cel w_ w9.heap.size 66 [.int .i64 ((255 : Nat) : Int), .slice pA 8 pC] ∧ Blk .u8 w_ w12.heap.size 37 (nn (mroot tabL 8 m256)) ∧ Blk .u8 w_ w52.heap.size 37 (nn (List.replicate 32 0)) ∧ Cel w_ w55.heap.size 66 [.int .i64 0, .slice none 0 0] ∧ Cel w_ w58.heap.size 66 [.int .i64 0, .slice none 0 0] ∧ Cel w_ w61.heap.size 66 [.int .i64 0, .slice none 0 0] ∧ Cel w_ w64.heap.size 66 [.int .i64 0, .slice none 0 0] ∧ w66.heap.size ≤ w_.heap.size) 100000 11 ⟨BL.e0 e29, b1.e0 e29, O.e0 e29, D256.e0 e29, D4.e0 e29, D6.e0 e29, D2.e0 e29, D9.e0 e29, b4.e0 e29, PO.e0 e29, b6.e0 e29, b8.e0 e29, b10.e0 e29, b12.e0 e29, b14.e0 e29, b16.e0 e29, b18.e0 e29, Nat.le_refl _⟩ ?_
      clear BL b1 O D256 D4 D6 D2 D9 b4 PO b6 b8 b10 b12 b14 b16 b18
      clear e29
      intro w67
      rintro ⟨BL, b1, O, D256, D4, D6, D2, D9, b4, PO, b6, b8, b10, b12, b14, b16, b18, z5⟩
      refine zv 0 126 (.agg #[.int .i64 (-1), .slice none 0 0]) (fun _ _ => .of) ⟨BL, b1, O, D256, D4, D6, D2, D9, b4, PO, b6, b8, b10, b12, b14, b16, b18, by omega⟩ ?_
      simp only [List.set_cons_zero, List.set_cons_succ]
      refine zv 1 127 (.agg #[.int .i64 1, .slice none 0 0]) (fun _ _ => .of) ⟨BL, b1, O, D256, D4, D6, D2, D9, b4, PO, b6, b8, b10, b12, b14, b16, b18, by omega⟩ ?_
      simp only [List.set_cons_zero, List.set_cons_succ]
      refine zv 2 128 (.slice (some ⟨w3.heap.size, 0, none⟩) 512 512) (fun _ _ => .of) ⟨BL, b1, O, D256, D4, D6, D2, D9, b4, PO, b6, b8, b10, b12, b14, b16, b18, by omega⟩ ?_
      simp only [List.set_cons_zero, List.set_cons_succ]
      refine zv 3 129 (.slice A2 2 C2) (fun _ ⟨BL, b1, O, D256, D4, D6, D2, D9, b4, PO, b6, b8, b10, b12, b14, b16, b18, z5⟩ => Val.as (Val.slcE 63 (.tmp 128) none (some _) rfl (.slice (some ⟨w3.heap.size, 0, none⟩) 512 512) (by kernel_rfl) O.se 0 2 (.inr ⟨rfl, rfl⟩) (.inl (by kernel_rfl)) (Nat.zero_le _) (by rw [nnd_len]; omega) Try.underlying63 (by kernel_rfl)) hk2) ⟨BL, b1, O, D256, D4, D6, D2, D9, b4, PO, b6, b8, b10, b12, b14, b16, b18, by omega⟩ ?_
      simp only [List.set_cons_zero, List.set_cons_succ]
      refine zv 4 130 (.agg #[.int .i64 4, .slice A2 2 C2]) (fun _ _ => .of) ⟨BL, b1, O, D256, D4, D6, D2, D9, b4, PO, b6, b8, b10, b12, b14, b16, b18, by omega⟩ ?_
      simp only [List.set_cons_zero, List.set_cons_succ]
      refine zv 5 131 (.slice (some ⟨w3.heap.size, 0, none⟩) 512 512) (fun _ _ => .of) ⟨BL, b1, O, D256, D4, D6, D2, D9, b4, PO, b6, b8, b10, b12, b14, b16, b18, by omega⟩ ?_
      simp only [List.set_cons_zero, List.set_cons_succ]
      refine zv 6 132 (.slice A9 9 C9) (fun _ ⟨BL, b1, O, D256, D4, D6, D2, D9, b4, PO, b6, b8, b10, b12, b14, b16, b18, z5⟩ => Val.as (Val.slcE 63 (.tmp 131) none (some _) rfl (.slice (some ⟨w3.heap.size, 0, none⟩) 512 512) (by kernel_rfl) O.se 0 9 (.inr ⟨rfl, rfl⟩) (.inl (by kernel_rfl)) (Nat.zero_le _) (by rw [nnd_len]; omega) Try.underlying63 (by kernel_rfl)) hk9) ⟨BL, b1, O, D256, D4, D6, D2, D9, b4, PO, b6, b8, b10, b12, b14, b16, b18, by omega⟩ ?_
      simp only [List.set_cons_zero, List.set_cons_succ]
      refine zv 7 133 (.agg #[.int .i64 0, .slice A9 9 C9]) (fun _ _ => .of) ⟨BL, b1, O, D256, D4, D6, D2, D9, b4, PO, b6, b8, b10, b12, b14, b16, b18, by omega⟩ ?_
      simp only [List.set_cons_zero, List.set_cons_succ]
      refine zv 10 136 (.int .i64 0) (fun _ _ => .of) ⟨BL, b1, O, D256, D4, D6, D2, D9, b4, PO, b6, b8, b10, b12, b14, b16, b18, by omega⟩ ?_
      simp only [List.set_cons_zero, List.set_cons_succ]
      refine zo1 8 rfl ?_
      refine xLit 134 80 66 4 _ #[(0, .agg #[.int .i64 (-1), .slice none 0 0]), (1, .agg #[.int .i64 1, .slice none 0 0]), (2, .agg #[.int .i64 4, .slice A2 2 C2]), (3, .agg #[.int .i64 0, .slice A9 9 C9])] [.int .i64 (-1), .slice none 0 0, .int .i64 1, .slice none 0 0, .int .i64 4, .slice A2 2 C2, .int .i64 0, .slice A9 9 C9] rfl (by kernel_rfl) (by kernel_rfl) ?_
      intro w68 n21
      have zn21 := n21.z
      have b134 := n21.c
      replace BL := BL.e0 n21.e
      replace b1 := b1.e0 n21.e
      replace O := O.e0 n21.e
      replace D256 := D256.e0 n21.e
      replace D4 := D4.e0 n21.e
      replace D6 := D6.e0 n21.e
      replace D2 := D2.e0 n21.e
      replace D9 := D9.e0 n21.e
      replace b4 := b4.e0 n21.e
      replace PO := PO.e0 n21.e
      replace b6 := b6.e0 n21.e
      replace b8 := b8.e0 n21.e
      replace b10 := b10.e0 n21.e
      replace b12 := b12.e0 n21.e
      replace b14 := b14.e0 n21.e
      replace b16 := b16.e0 n21.e
      replace b18 := b18.e0 n21.e
      refine ze 8 ⟨BL, b1, O, D256, D4, D6, D2, D9, b4, PO, b6, b8, b10, b12, b14, b16, b18, by omega⟩ ?_
      simp only [List.set_cons_zero, List.set_cons_succ]
      refine zv 9 135 (.int .i64 (4 : Int)) (fun _ _ => .of) ⟨BL, b1, O, D256, D4, D6, D2, D9, b4, PO, b6, b8, b10, b12, b14, b16, b18, by omega⟩ ?_
      simp only [List.set_cons_zero, List.set_cons_succ]
      refine zd (by kernel_rfl) ?_ _
      refine hK38 _ _ ?_
      refine wp_block ?_
      refine cLoop (fun N_ A_ w_ => ∃ (c : Nat), (N_ = 4 - c ∧ (c ≤ 4) ∧ (∃ s3 : Nat → Value, A_ = ⟨[(s3 0), .pointer (some ⟨w1.heap.size, 0, none⟩), .slice (some ⟨w3.heap.size, 0, none⟩) 512 512, (s1 3), .pointer (some ⟨w6.heap.size, 0, none⟩), .int .i64 0, .pointer (some ⟨w9.heap.size, 0, none⟩), .int .i64 0, .pointer (some ⟨w12.heap.size, 0, none⟩), .int .i64 0, .pointer (some ⟨w52.heap.size, 0, none⟩), .int .i64 2, .pointer (some ⟨w55.heap.size, 0, none⟩), .int .i64 2, .pointer (some ⟨w58.heap.size, 0, none⟩), .int .i64 2, .pointer (some ⟨w61.heap.size, 0, none⟩), .int .i64 2, .pointer (some ⟨w64.heap.size, 0, none⟩), .int .i64 2, (s3 20), (s3 21), (s3 22), (s3 23), .agg (cellsOf .u32 (nn tabL)), .slice (some ⟨w3.heap.size, 0, none⟩) 512 512, .slice (some ⟨w3.heap.size, 0, none⟩) 512 512, .int .i64 (512 : Int), .int .i64 ((i : Nat) : Int), .bool (decide (((i : Nat) : Int) < (512 : Int))), (s1 30), (s1 31), (s1 32), (s1 33), (s1 34), (s1 35), (s1 36), (s1 37), (s1 38), (s1 39), (s1 40), .tuple #[.agg (cellsOf .u8 (nn (mroot tabL 8 m256))), .int .i64 0], .slice (some ⟨w3.heap.size, 0, none⟩) 512 512, .slice A256 256 C256, .tuple #[.agg (cellsOf .u8 (nn (mroot tabL 8 m256))), .int .i64 0], .agg (cellsOf .u8 (nn (mroot tabL 8 m256))), .int .i64 0, .tuple #[.agg #[.int .i64 ((255 : Nat) : Int), .slice pA 8 pC], .int .i64 0], .slice (some ⟨w3.heap.size, 0, none⟩) 512 512, .slice A256 256 C256, .tuple #[.agg #[.int .i64 ((255 : Nat) : Int), .slice pA 8 pC], .int .i64 0], .agg #[.int .i64 ((255 : Nat) : Int), .slice pA 8 pC], .int .i64 0, .tuple #[.agg (cellsOf .u8 (nn (mroot tabL 8 m256))), .int .i64 0], .slice (some ⟨w3.heap.size, 0, none⟩) 512 512, elemE 32 (.slice (some ⟨w3.heap.size, 0, none⟩) 512 512) 255, .agg (cellsOf .u8 (nn (M.getD 255 []))), .agg #[.int .i64 ((255 : Nat) : Int), .slice pA 8 pC], .tuple #[.agg (cellsOf .u8 (nn (mroot tabL 8 m256))), .int .i64 0], .agg (cellsOf .u8 (nn (mroot tabL 8 m256))), .int .i64 0, .tuple #[.agg (cellsOf .u8 (nn (List.replicate 32 0))), .int .i64 2], .slice (some ⟨w3.heap.size, 0, none⟩) 512 512, .tuple #[.agg (cellsOf .u8 (nn (List.replicate 32 0))), .int .i64 2], .agg (cellsOf .u8 (nn (List.replicate 32 0))), .int .i64 2, .tuple #[.agg #[.int .i64 0, .slice none 0 0], .int .i64 2], .slice (some ⟨w3.heap.size, 0, none⟩) 512 512, .tuple #[.agg #[.int .i64 0, .slice none 0 0], .int .i64 2], .agg #[.int .i64 0, .slice none 0 0], .int .i64 2, .tuple #[.agg #[.int .i64 0, .slice none 0 0], .int .i64 2], .slice (some ⟨w3.heap.size, 0, none⟩) 512 512, .slice A4 4 C4, .tuple #[.agg #[.int .i64 0, .slice none 0 0], .int .i64 2], .agg #[.int .i64 0, .slice none 0 0], .int .i64 2, .tuple #[.agg #[.int .i64 0, .slice none 0 0], .int .i64 2], .slice (some ⟨w3.heap.size, 0, none⟩) 512 512, .slice A4 4 C4, .tuple #[.agg #[.int .i64 0, .slice none 0 0], .int .i64 2], .agg #[.int .i64 0, .slice none 0 0], .int .i64 2, .tuple #[.agg #[.int .i64 0, .slice none 0 0], .int .i64 2], .slice (some ⟨w3.heap.size, 0, none⟩) 512 512, .slice A6 6 C6, .tuple #[.agg #[.int .i64 0, .slice none 0 0], .int .i64 2], .agg #[.int .i64 0, .slice none 0 0], .int .i64 2, .int .i64 0, .int .i64 0, .int .i64 (0 + 0), .int .i64 0, .int .i64 ((0 + 0) + 0), .bool false, .bool false, .agg (cellsOf .u8 (nn (mroot tabL 8 m256))), .agg (cellsOf .u8 (nn (mroot tabL 8 m256))), .bool false, .bool false, .bool false, .pointer (some ⟨w9.heap.size, 1, none⟩), .slice pA 8 pC, .int .i64 (8 : Int), .bool false, .bool false, .bool false, .int .i64 2, .bool false, .bool false, .bool false, .int .i64 2, .bool false, .bool false, .bool false, .int .i64 2, .bool false, .bool false, .bool false, .int .i64 2, .bool false, .bool false, .bool false, .int .i64 2, .bool false, .bool false, .agg #[.int .i64 (-1), .slice none 0 0], .agg #[.int .i64 1, .slice none 0 0], .slice (some ⟨w3.heap.size, 0, none⟩) 512 512, .slice A2 2 C2, .agg #[.int .i64 4, .slice A2 2 C2], .slice (some ⟨w3.heap.size, 0, none⟩) 512 512, .slice A9 9 C9, .agg #[.int .i64 0, .slice A9 9 C9], .slice (some ⟨w67.heap.size, 0, none⟩) 4 4, .int .i64 (4 : Int), .int .i64 ((c : Nat) : Int), (s3 137), (s3 138), (s3 139), (s3 140), (s3 141), (s3 142), (s3 143), (s3 144), (s3 145), (s3 146), (s3 147), (s3 148), (s3 149), (s3 150), (s3 151), (s3 152), (s3 153), (s3 154), (s3 155), (s3 156), (s3 157), (s3 158), (s3 159), (s3 160), (s3 161), (s3 162), undef, undef, undef, undef, undef, undef, undef, undef, undef, undef, undef, undef, undef, undef, undef, undef, undef, undef, undef, undef].toArray, []⟩) ∧ Bl w.heap.size w w_ ∧ Blk .u32 w_ w1.heap.size 26 (nn tabL) ∧ OwnE 37 .u8 32 w3.heap.size w_ (.slice (some ⟨w3.heap.size, 0, none⟩) 512 512) (nnd M) ∧ SE .u8 32 w_ (.slice A256 256 C256) (nnd m256) ∧ SE .u8 32 w_ (.slice A4 4 C4) (nnd m4) ∧ SE .u8 32 w_ (.slice A6 6 C6) (nnd m6) ∧ SE .u8 32 w_ (.slice A2 2 C2) (nnd m2) ∧ SE .u8 32 w_ (.slice A9 9 C9) (nnd m9) ∧ Blk .u8 w_ w6.heap.size 37 (nn (mroot tabL 8 m256)) ∧ OwnE 37 .u8 32 w8.heap.size w_ (.slice pA 8 pC) (nnd (mpath tabL 8 m256 255)) ∧ Cel w_ w9.heap.size 66 [.int .i64 ((255 : Nat) : Int), .slice pA 8 pC] ∧ Blk .u8 w_ w12.heap.size 37 (nn (mroot tabL 8 m256)) ∧ Blk .u8 w_ w52.heap.size 37 (nn (List.replicate 32 0)) ∧ Cel w_ w55.heap.size 66 [.int .i64 0, .slice none 0 0] ∧ Cel w_ w58.heap.size 66 [.int .i64 0, .slice none 0 0] ∧ Cel w_ w61.heap.size 66 [.int .i64 0, .slice none 0 0] ∧ Cel w_ w64.heap.size 66 [.int .i64 0, .slice none 0 0] ∧ Cel w_ w67.heap.size 66 [.int .i64 (-1), .slice none 0 0, .int .i64 1, .slice none 0 0, .int .i64 4, .slice A2 2 C2, .int .i64 0, .slice A9 9 C9] ∧ w68.heap.size ≤ w_.heap.size)) _ ⟨0, rfl, (Nat.zero_le _), cutE, BL, b1, O, D256, D4, D6, D2, D9, b4, PO, b6, b8, b10, b12, b14, b16, b18, b134, Nat.le_refl _⟩ ?_
      clear BL b1 O D256 D4 D6 D2 D9 b4 PO b6 b8 b10 b12 b14 b16 b18 b134
      rintro n_ a_ wl1 ⟨c, rfl, hc1_0, ⟨s3, rfl⟩, BL, b1, O, D256, D4, D6, D2, D9, b4, PO, b6, b8, b10, b12, b14, b16, b18, b134, zl1⟩
      have lO_4 := O.ge
      have lPO_3 := PO.ge
      refine wp_seq_k fun K39 hK39 => ?_
      refine cPlain ?_
      refine sv 137 (.bool (decide (((c : Nat) : Int) < (4 : Int)))) (Val.cmp .lss 3 _ (.tmp 136) (.tmp 135) rfl .i64 ((c : Nat) : Int) (4 : Int) (by kernel_rfl) (by kernel_rfl) (by simp) _ rfl) ?_
      simp only [List.set_cons_zero, List.set_cons_succ]
      refine wpList_nil ?_
      refine hK39 _ _ ?_
      refine wp_seq_k fun K40 hK40 => ?_
      refine cDec (((c : Nat) : Int) < (4 : Int)) (by kernel_rfl) (fun c137 => ?_) (fun c137 => ?_)
      · skip
        refine wp_skip ?_
        refine hK40 _ _ ?_
        refine wp_seq_k fun K41 hK41 => ?_
        refine wp_block ?_
        refine wp_seq_k fun K42 hK42 => ?_
        obtain ⟨pl, qA, qN, qC, hq1, hq2⟩ : ∃ (pl : Int) (A : Option Addr) (n C : Nat), segV (0 + c * 2) 2 [.int .i64 (-1), .slice none 0 0, .int .i64 1, .slice none 0 0, .int .i64 4, .slice A2 2 C2, .int .i64 0, .slice A9 9 C9] = [.int .i64 pl, .slice A n C] ∧ mright n pl = false := by
          have hi4 : c = 0 ∨ c = 1 ∨ c = 2 ∨ c = 3 := by omega
          rcases hi4 with rfl | rfl | rfl | rfl
          · exact ⟨_, _, _, _, rfl, rfl⟩
          · exact ⟨_, _, _, _, rfl, rfl⟩
          · exact ⟨_, _, _, _, rfl, rfl⟩
          · exact ⟨_, _, _, _, rfl, rfl⟩
        refine cPlain ?_
        refine sv 138 (.int .i64 ((c : Nat) : Int)) .of ?_
        simp only [List.set_cons_zero, List.set_cons_succ]
        refine sv 139 (.pointer (some ⟨w67.heap.size, 0 + c * 2, none⟩)) (Val.idxS 80 (.tmp 134) (.tmp 136) rfl w67.heap.size 0 4 4 c (by kernel_rfl) (by kernel_rfl) 2 Try.underlying80 (by kernel_rfl) (by omega)) ?_
        simp only [List.set_cons_zero, List.set_cons_succ]
        refine sv 140 (.agg #[.int .i64 pl, .slice qA qN qC]) (Val.cel 66 _ rfl (0 + c * 2) 2 (by kernel_rfl) b134 _ Try.underlying66 rfl (by kernel_rfl) (by simp only [List.length_cons, List.length_nil]; omega) [.int .i64 pl, .slice qA qN qC] hq1) ?_
        simp only [List.set_cons_zero, List.set_cons_succ]
        refine xAlloc 21 66 [.int .i64 0, .slice none 0 0] rfl (by kernel_rfl) ?_
        intro w69 n22
        have zn22 := n22.z
        have b21 := n22.c
        replace BL := BL.e0 n22.e
        replace b1 := b1.e0 n22.e
        replace O := O.e0 n22.e
        replace D256 := D256.e0 n22.e
        replace D4 := D4.e0 n22.e
        replace D6 := D6.e0 n22.e
        replace D2 := D2.e0 n22.e
        replace D9 := D9.e0 n22.e
        replace b4 := b4.e0 n22.e
        replace PO := PO.e0 n22.e
        replace b6 := b6.e0 n22.e
        replace b8 := b8.e0 n22.e
        replace b10 := b10.e0 n22.e
        replace b12 := b12.e0 n22.e
        replace b14 := b14.e0 n22.e
        replace b16 := b16.e0 n22.e
        replace b18 := b18.e0 n22.e
        replace b134 := b134.e0 n22.e
        simp only [List.set_cons_zero, List.set_cons_succ]
        refine sv 20 (.int .i64 ((c : Nat) : Int)) .of ?_
        simp only [List.set_cons_zero, List.set_cons_succ]
        refine xStoreR 66 (.tmp 21) (.tmp 140) rfl wl1.heap.size 66 [.int .i64 0, .slice none 0 0] 0 [.int .i64 pl, .slice qA qN qC] (by kernel_rfl) (by kernel_rfl) b21 (by kernel_rfl) (by simp) rfl [.int .i64 pl, .slice qA qN qC] rfl ?_
        intro w70 t19
        have zt19 := t19.z
        have BL_ := BL.ev t19.e (fun i h => show w.heap.size ≤ i by have h : i = wl1.heap.size := h; omega)
        have b1_ := b1.ev t19.e (show ¬ (w1.heap.size = wl1.heap.size) by omega)
        have O_ := O.ev t19.e (fun i hi => show ¬ (i = wl1.heap.size) by have := lO_4 i hi; omega)
        have D256_ := D256.ev t19.e (fun i hi => show ¬ (i = wl1.heap.size) by have := hdd256 i hi; omega)
        have D4_ := D4.ev t19.e (fun i hi => show ¬ (i = wl1.heap.size) by have := hdd4 i hi; omega)
        have D6_ := D6.ev t19.e (fun i hi => show ¬ (i = wl1.heap.size) by have := hdd6 i hi; omega)
        have D2_ := D2.ev t19.e (fun i hi => show ¬ (i = wl1.heap.size) by have := hdd2 i hi; omega)
        have D9_ := D9.ev t19.e (fun i hi => show ¬ (i = wl1.heap.size) by have := hdd9 i hi; omega)
        have b4_ := b4.ev t19.e (show ¬ (w6.heap.size = wl1.heap.size) by omega)
        have PO_ := PO.ev t19.e (fun i hi => show ¬ (i = wl1.heap.size) by have := lPO_3 i hi; omega)
        have b6_ := b6.ev t19.e (show ¬ (w9.heap.size = wl1.heap.size) by omega)
        have b8_ := b8.ev t19.e (show ¬ (w12.heap.size = wl1.heap.size) by omega)
        have b10_ := b10.ev t19.e (show ¬ (w52.heap.size = wl1.heap.size) by omega)
        have b12_ := b12.ev t19.e (show ¬ (w55.heap.size = wl1.heap.size) by omega)
        have b14_ := b14.ev t19.e (show ¬ (w58.heap.size = wl1.heap.size) by omega)
        have b16_ := b16.ev t19.e (show ¬ (w61.heap.size = wl1.heap.size) by omega)
        have b18_ := b18.ev t19.e (show ¬ (w64.heap.size = wl1.heap.size) by omega)
        have b134_ := b134.ev t19.e (show ¬ (w67.heap.size = wl1.heap.size) by omega)
        replace BL := BL_; clear BL_
        replace b1 := b1_; clear b1_
        replace O := O_; clear O_
        replace D256 := D256_; clear D256_
        replace D4 := D4_; clear D4_
        replace D6 := D6_; clear D6_
        replace D2 := D2_; clear D2_
        replace D9 := D9_; clear D9_
        replace b4 := b4_; clear b4_
        replace PO := PO_; clear PO_
        replace b6 := b6_; clear b6_
        replace b8 := b8_; clear b8_
        replace b10 := b10_; clear b10_
        replace b12 := b12_; clear b12_
        replace b14 := b14_; clear b14_
        replace b16 := b16_; clear b16_
        replace b18 := b18_; clear b18_
        replace b134 := b134_; clear b134_
        replace b21 : Cel w70 wl1.heap.size 66 [.int .i64 pl, .slice qA qN qC] := t19.c
        clear t19
        refine wpList_nil ?_
        refine hK42 _ _ ?_
        refine wp_seq_k fun K43 hK43 => ?_
        have e30 := drew_e0 w70
        refine zg (fun w_ => Bl w.heap.size w w_ ∧ Blk .u32 w_ w1.heap.size 26 (nn tabL) ∧ OwnE 37 .u8 32 w3.heap.size w_ (.slice (some ⟨w3.heap.size, 0, none⟩) 512 512) (nnd M) ∧ SE .u8 32 w_ (.slice A256 256 C256) (nnd m256) ∧ SE .u8 32 w_ (.slice A4 4 C4) (nnd m4) ∧ SE .u8 32 w_ (.slice A6 6 C6) (nnd m6) ∧ SE .u8 32 w_ (.slice A2 2 C2) (nnd m2) ∧ SE .u8 32 w_ (.slice A9 9 C9) (nnd m9) ∧ Blk .u8 w_ w6.heap.size 37 (nn (mroot tabL 8 m256)) ∧ OwnE 37 .u8 32 w8.heap.size w_ (.slice pA 8 pC) (nnd (mpath tabL 8 m256 255)) ∧ Cel w_ w9.heap.size 66 [.int .i64 ((255 : Nat) : Int), .slice pA 8 pC] ∧ Blk .u8 w_ w12.heap.size 37 (nn (mroot tabL 8 m256)) ∧ Blk .u8 w_ w52.heap.size 37 (nn (List.replicate 32 0)) ∧ Cel w_ w55.heap.size 66 [.int .i64 0, .slice none 0 0] ∧ Cel w_ w58.heap.size 66 [.int .i64 0, .slice none 0 0] ∧ Cel w_ w61.heap.size 66 [.int .i64 0, .slice none 0 0] ∧ Cel w_ w64.heap.size 66 [.int .i64 0, .slice none 0 0] ∧ Cel w_ w67.heap.size 66 [.int .i64 (-1), .slice none 0 0, .int .i64 1, .slice none 0 0, .int .i64 4, .slice A2 2 C2, .int .i64 0, .slice A9 9 C9] ∧ Cel w_ wl1.heap.size 66 [.int .i64 pl, .slice qA qN qC] ∧ w70.heap.size ≤ w_.heap.size) (fun w_ => Bl w.heap.size w w_ ∧ Blk .u32 w_ w1.heap.size 26 (nn tabL) ∧ OwnE 37 .u8 32 w3.heap.size w_ (.slice (some ⟨w3.heap.size, 0, none⟩) 512 512) (nnd M) ∧ SE .u8 32 w_ (.slice A256 256 C256) (nnd m256) ∧ SE .u8 32 w_ (.slice A4 4 C4) (nnd m4) ∧ SE .u8 32 w_ (.slice A6 6 C6) (nnd m6) ∧ SE .u8 32 w_ (.slice A2 2 C2) (nnd m2) ∧ SE .u8 32 w_ (.slice A9 9 C9) (nnd m9) ∧ Blk .u8 w_ w6.heap.size 37 (nn (mroot tabL 8 m256)) ∧ OwnE 37 .u8 32 w8.heap.size w_ (.slice pA 8 pC) (nnd (mpath tabL 8 m256 255)) ∧ Cel w_ w9.heap.size 66 [.int .i64 ((255 : Nat) : Int), .slice pA 8 pC] ∧ Blk .u8 w_ w12.heap.size 37 (nn (mroot tabL 8 m256)) ∧ Blk .u8 w_ w52.heap.size 37 (nn (List.replicate 32 0)) ∧ Cel w_ w55.heap.size 66 [.int .i64 0, .slice none 0 0] ∧ Cel w_ w58.heap.size 66 [.int .i64 0, .slice none 0 0] ∧ Cel w_ w61.heap.size 66 [.int .i64 0, .slice none 0 0] ∧ Cel w_ w64.heap.size 66 [.int .i64 0, .slice none 0 0] ∧ Cel w_ w67.heap.size 66 [.int .i64 (-1), .slice none 0 0, .int .i64 1, .slice none 0 0, .int .i64 4, .slice A2 2 C2, .int .i64 0, .slice A9 9 C9] ∧ Cel w_ wl1.heap.size 66 [.int .i64 pl, .slice qA qN qC] ∧ w70.heap.size ≤ w_.heap.size) 100000 11 ⟨BL.e0 e30, b1.e0 e30, O.e0 e30, D256.e0 e30, D4.e0 e30, D6.e0 e30, D2.e0 e30, D9.e0 e30, b4.e0 e30, PO.e0 e30, b6.e0 e30, b8.e0 e30, b10.e0 e30, b12.e0 e30, b14.e0 e30, b16.e0 e30, b18.e0 e30, b134.e0 e30, b21.e0 e30, Nat.le_refl _⟩ ?_
        clear BL b1 O D256 D4 D6 D2 D9 b4 PO b6 b8 b10 b12 b14 b16 b18 b134 b21
        clear e30
        intro w71
        rintro ⟨BL, b1, O, D256, D4, D6, D2, D9, b4, PO, b6, b8, b10, b12, b14, b16, b18, b134, b21, z6⟩
        refine zv 0 142 (.slice (some ⟨w3.heap.size, 0, none⟩) 512 512) (fun _ _ => .of) ⟨BL, b1, O, D256, D4, D6, D2, D9, b4, PO, b6, b8, b10, b12, b14, b16, b18, b134, b21, by omega⟩ ?_
        simp only [List.set_cons_zero, List.set_cons_succ]
        refine zv 1 143 (elemE 32 (.slice (some ⟨w3.heap.size, 0, none⟩) 512 512) 0) (fun _ ⟨BL, b1, O, D256, D4, D6, D2, D9, b4, PO, b6, b8, b10, b12, b14, b16, b18, b134, b21, z6⟩ => Val.ixE 63 (.tmp 142) _ rfl (.slice (some ⟨w3.heap.size, 0, none⟩) 512 512) 0 (by kernel_rfl) (by kernel_rfl) O.se Try.underlying63 (by kernel_rfl) (by simp only [nnd_len]; omega)) ⟨BL, b1, O, D256, D4, D6, D2, D9, b4, PO, b6, b8, b10, b12, b14, b16, b18, b134, b21, by omega⟩ ?_
        simp only [List.set_cons_zero, List.set_cons_succ]
        refine zv 2 144 (.agg (cellsOf .u8 (nn (M.getD 0 [])))) (fun _ ⟨BL, b1, O, D256, D4, D6, D2, D9, b4, PO, b6, b8, b10, b12, b14, b16, b18, b134, b21, z6⟩ => Val.ldGN 37 _ rfl (.slice (some ⟨w3.heap.size, 0, none⟩) 512 512) 0 (by kernel_rfl) O.se _ Try.underlying37 rfl (by kernel_rfl) (by simp only [nnd_len]; omega)) ⟨BL, b1, O, D256, D4, D6, D2, D9, b4, PO, b6, b8, b10, b12, b14, b16, b18, b134, b21, by omega⟩ ?_
        simp only [List.set_cons_zero, List.set_cons_succ]
        refine zv 3 145 (.agg #[.int .i64 pl, .slice qA qN qC]) (fun _ ⟨BL, b1, O, D256, D4, D6, D2, D9, b4, PO, b6, b8, b10, b12, b14, b16, b18, b134, b21, z6⟩ => Val.cel 66 _ rfl 0 2 (by kernel_rfl) b21 _ Try.underlying66 rfl (by kernel_rfl) (by simp) [.int .i64 pl, .slice qA qN qC] rfl) ⟨BL, b1, O, D256, D4, D6, D2, D9, b4, PO, b6, b8, b10, b12, b14, b16, b18, b134, b21, by omega⟩ ?_
        simp only [List.set_cons_zero, List.set_cons_succ]
        refine zo2 4 8 rfl rfl ?_ ?_
        · skip
          refine xCall 146 43 #[.pointer (some ⟨w1.heap.size, 0, none⟩), .agg (cellsOf .u8 (nn (M.getD 0 []))), .agg #[.int .i64 pl, .slice qA qN qC]] (by kernel_rfl) ?_
          refine (mclimb_no _ (M.getD 0 []) (fe_getDN hM32 (by omega)) pl qA qN qC w71 hq2).mono ?_
          rintro en w72 ⟨rfl, hb1⟩
          have e31 := belE0 hb1
          have ze31 := e31.size
          replace BL := BL.e0 e31
          replace b1 := b1.e0 e31
          replace O := O.e0 e31
          replace D256 := D256.e0 e31
          replace D4 := D4.e0 e31
          replace D6 := D6.e0 e31
          replace D2 := D2.e0 e31
          replace D9 := D9.e0 e31
          replace b4 := b4.e0 e31
          replace PO := PO.e0 e31
          replace b6 := b6.e0 e31
          replace b8 := b8.e0 e31
          replace b10 := b10.e0 e31
          replace b12 := b12.e0 e31
          replace b14 := b14.e0 e31
          replace b16 := b16.e0 e31
          replace b18 := b18.e0 e31
          replace b134 := b134.e0 e31
          replace b21 := b21.e0 e31
          clear e31
          refine ⟨.tuple #[.agg (cellsOf .u8 (nn (List.replicate 32 0))), .int .i64 2], rfl, ?_⟩
          refine ze 4 ⟨BL, b1, O, D256, D4, D6, D2, D9, b4, PO, b6, b8, b10, b12, b14, b16, b18, b134, b21, by omega⟩ ?_
          simp only [List.set_cons_zero, List.set_cons_succ]
          refine zv 5 141 (.tuple #[.agg (cellsOf .u8 (nn (List.replicate 32 0))), .int .i64 2]) (fun _ _ => .of) ⟨BL, b1, O, D256, D4, D6, D2, D9, b4, PO, b6, b8, b10, b12, b14, b16, b18, b134, b21, by omega⟩ ?_
          simp only [List.set_cons_zero, List.set_cons_succ]
          refine zv 6 147 (.agg (cellsOf .u8 (nn (List.replicate 32 0)))) (fun _ _ => .of) ⟨BL, b1, O, D256, D4, D6, D2, D9, b4, PO, b6, b8, b10, b12, b14, b16, b18, b134, b21, by omega⟩ ?_
          simp only [List.set_cons_zero, List.set_cons_succ]
          refine zv 7 148 (.int .i64 2) (fun _ _ => .of) ⟨BL, b1, O, D256, D4, D6, D2, D9, b4, PO, b6, b8, b10, b12, b14, b16, b18, b134, b21, by omega⟩ ?_
          simp only [List.set_cons_zero, List.set_cons_succ]
          refine zo1 8 rfl ?_
          refine xAlloc 22 37 ((nn (List.replicate 32 0)).map (Value.int .u8)) rfl (by kernel_rfl) ?_
          intro w73 n23
          have zn23 := n23.z
          have b22 := n23.c
          replace b22 : Blk .u8 w73 w72.heap.size 37 (nn (List.replicate 32 0)) := b22
          replace BL := BL.e0 n23.e
          replace b1 := b1.e0 n23.e
          replace O := O.e0 n23.e
          replace D256 := D256.e0 n23.e
          replace D4 := D4.e0 n23.e
          replace D6 := D6.e0 n23.e
          replace D2 := D2.e0 n23.e
          replace D9 := D9.e0 n23.e
          replace b4 := b4.e0 n23.e
          replace PO := PO.e0 n23.e
          replace b6 := b6.e0 n23.e
          replace b8 := b8.e0 n23.e
          replace b10 := b10.e0 n23.e
          replace b12 := b12.e0 n23.e
          replace b14 := b14.e0 n23.e
          replace b16 := b16.e0 n23.e
          replace b18 := b18.e0 n23.e
          replace b134 := b134.e0 n23.e
          replace b21 := b21.e0 n23.e
          refine ze 8 ⟨BL, b1, O, D256, D4, D6, D2, D9, b4, PO, b6, b8, b10, b12, b14, b16, b18, b134, b21, by omega⟩ ?_
          simp only [List.set_cons_zero, List.set_cons_succ]
          refine zo1 9 rfl ?_
          refine xStoreA 37 (.tmp 22) (.tmp 147) rfl .u8 w72.heap.size 37 (nn (List.replicate 32 0)) 0 (nn (List.replicate 32 0)) (by kernel_rfl) (by kernel_rfl) b22 (by rw [show (nn (List.replicate 32 0)).length = 32 by ((try simp only [nn_len, List.length_append, List.length_replicate]); try omega)]; kernel_rfl) (by (try simp only [nn_len, List.length_append, List.length_replicate]); try omega) (nn (List.replicate 32 0)) (over_whole _ _ (by (try simp only [nn_len, List.length_append, List.length_replicate]); try omega)) ?_
          intro w74 t20
          have zt20 := t20.z
          have BL_ := BL.ev t20.e (fun i h => show w.heap.size ≤ i by have h : i = w72.heap.size := h; omega)
          have b1_ := b1.ev t20.e (show ¬ (w1.heap.size = w72.heap.size) by omega)
          have O_ := O.ev t20.e (fun i hi => show ¬ (i = w72.heap.size) by have := lO_4 i hi; omega)
          have D256_ := D256.ev t20.e (fun i hi => show ¬ (i = w72.heap.size) by have := hdd256 i hi; omega)
          have D4_ := D4.ev t20.e (fun i hi => show ¬ (i = w72.heap.size) by have := hdd4 i hi; omega)
          have D6_ := D6.ev t20.e (fun i hi => show ¬ (i = w72.heap.size) by have := hdd6 i hi; omega)
          have D2_ := D2.ev t20.e (fun i hi => show ¬ (i = w72.heap.size) by have := hdd2 i hi; omega)
          have D9_ := D9.ev t20.e (fun i hi => show ¬ (i = w72.heap.size) by have := hdd9 i hi; omega)
          have b4_ := b4.ev t20.e (show ¬ (w6.heap.size = w72.heap.size) by omega)
          have PO_ := PO.ev t20.e (fun i hi => show ¬ (i = w72.heap.size) by have := lPO_3 i hi; omega)
          have b6_ := b6.ev t20.e (show ¬ (w9.heap.size = w72.heap.size) by omega)
          have b8_ := b8.ev t20.e (show ¬ (w12.heap.size = w72.heap.size) by omega)
          have b10_ := b10.ev t20.e (show ¬ (w52.heap.size = w72.heap.size) by omega)
          have b12_ := b12.ev t20.e (show ¬ (w55.heap.size = w72.heap.size) by omega)
          have b14_ := b14.ev t20.e (show ¬ (w58.heap.size = w72.heap.size) by omega)
          have b16_ := b16.ev t20.e (show ¬ (w61.heap.size = w72.heap.size) by omega)
          have b18_ := b18.ev t20.e (show ¬ (w64.heap.size = w72.heap.size) by omega)
          have b134_ := b134.ev t20.e (show ¬ (w67.heap.size = w72.heap.size) by omega)
          have b21_ := b21.ev t20.e (show ¬ (wl1.heap.size = w72.heap.size) by omega)
          replace BL := BL_; clear BL_
          replace b1 := b1_; clear b1_
          replace O := O_; clear O_
          replace D256 := D256_; clear D256_
          replace D4 := D4_; clear D4_
          replace D6 := D6_; clear D6_
          replace D2 := D2_; clear D2_
          replace D9 := D9_; clear D9_
          replace b4 := b4_; clear b4_
          replace PO := PO_; clear PO_
          replace b6 := b6_; clear b6_
          replace b8 := b8_; clear b8_
          replace b10 := b10_; clear b10_
          replace b12 := b12_; clear b12_
          replace b14 := b14_; clear b14_
          replace b16 := b16_; clear b16_
          replace b18 := b18_; clear b18_
          replace b134 := b134_; clear b134_
          replace b21 := b21_; clear b21_
          replace b22 : Blk .u8 w74 w72.heap.size 37 (nn (List.replicate 32 0)) := t20.c
          clear t20
          refine ze 9 ⟨BL, b1, O, D256, D4, D6, D2, D9, b4, PO, b6, b8, b10, b12, b14, b16, b18, b134, b21, by omega⟩ ?_
          refine zv 10 23 (.int .i64 2) (fun _ _ => .of) ⟨BL, b1, O, D256, D4, D6, D2, D9, b4, PO, b6, b8, b10, b12, b14, b16, b18, b134, b21, by omega⟩ ?_
          simp only [List.set_cons_zero, List.set_cons_succ]
          refine zd (by kernel_rfl) ?_ _
          refine hK43 _ _ ?_
          refine wp_seq_k fun K44 hK44 => ?_
          refine cPlain ?_
          refine sv 149 (.agg #[.int .i64 pl, .slice qA qN qC]) (Val.cel 66 _ rfl 0 2 (by kernel_rfl) b21 _ Try.underlying66 rfl (by kernel_rfl) (by simp) [.int .i64 pl, .slice qA qN qC] rfl) ?_
          simp only [List.set_cons_zero, List.set_cons_succ]
          refine xCall 150 47 #[.agg #[.int .i64 pl, .slice qA qN qC]] (by kernel_rfl) ?_
          refine (mright_any pl qA qN qC w74).mono ?_
          rintro en w75 ⟨he, hb1⟩
          rw [hq2] at he
          subst he
          have e32 := belE0 hb1
          have ze32 := e32.size
          replace BL := BL.e0 e32
          replace b1 := b1.e0 e32
          replace O := O.e0 e32
          replace D256 := D256.e0 e32
          replace D4 := D4.e0 e32
          replace D6 := D6.e0 e32
          replace D2 := D2.e0 e32
          replace D9 := D9.e0 e32
          replace b4 := b4.e0 e32
          replace PO := PO.e0 e32
          replace b6 := b6.e0 e32
          replace b8 := b8.e0 e32
          replace b10 := b10.e0 e32
          replace b12 := b12.e0 e32
          replace b14 := b14.e0 e32
          replace b16 := b16.e0 e32
          replace b18 := b18.e0 e32
          replace b134 := b134.e0 e32
          replace b21 := b21.e0 e32
          replace b22 := b22.e0 e32
          clear e32
          refine ⟨.bool false, rfl, ?_⟩
          simp only [List.set_cons_zero, List.set_cons_succ]
          refine sv 151 (.bool false) .of ?_
          simp only [List.set_cons_zero, List.set_cons_succ]
          refine sv 152 (.agg (cellsOf .u8 (nn (List.replicate 32 0)))) (Val.blk 37 _ rfl 0 32 (by kernel_rfl) b22 _ Try.underlying37 rfl (by kernel_rfl) (by (try simp only [nn_len, List.length_append, List.length_replicate]); try omega) _ (seg_all' _ (by (try simp only [nn_len, List.length_append, List.length_replicate]); try omega))) ?_
          simp only [List.set_cons_zero, List.set_cons_succ]
          refine sv 153 (.agg (cellsOf .u8 (nn (List.replicate 32 0)))) .of ?_
          simp only [List.set_cons_zero, List.set_cons_succ]
          refine sv 154 (.bool false) (Val.eqA .neq 37 _ (.tmp 152) (.tmp 153) rfl Try.underlying37 Try.underlying5 (by kernel_rfl) (by kernel_rfl) (nn (List.replicate 32 0)) (nn (List.replicate 32 0)) (by kernel_rfl) (by kernel_rfl) (by rw [nn_len]; exact (by simp)) (by rw [nn_len]; exact (by simp)) (.inr rfl) false (neq_nnN _)) ?_
          simp only [List.set_cons_zero, List.set_cons_succ]
          refine sv 155 (.bool false) .of ?_
          simp only [List.set_cons_zero, List.set_cons_succ]
          refine sv 156 (.bool false) .of ?_
          simp only [List.set_cons_zero, List.set_cons_succ]
          refine sv 157 (.int .i64 2) .of ?_
          simp only [List.set_cons_zero, List.set_cons_succ]
          refine sv 158 (.bool false) (Val.cmp .neq 3 _ (.tmp 157) _ rfl .i64 2 2 (by kernel_rfl) (by kernel_rfl) (by simp) _ rfl) ?_
          simp only [List.set_cons_zero, List.set_cons_succ]
          refine sv 159 (.bool false) .of ?_
          simp only [List.set_cons_zero, List.set_cons_succ]
          refine wpList_nil ?_
          refine hK44 _ _ ?_
          refine cF ?_
          refine wp_skip ?_
          refine hK41 _ _ ?_
          refine cPlain ?_
          refine sv 162 (.int .i64 ((c + 1 : Nat) : Int)) (Val.as (Val.add 3 _ (.tmp 136) _ rfl ((c : Nat) : Int) 1 (by kernel_rfl) (by kernel_rfl) (by omega)) (congrArg (Value.int .i64) (by omega))) ?_
          simp only [List.set_cons_zero, List.set_cons_succ]
          refine sv 136 (.int .i64 ((c + 1 : Nat) : Int)) .of ?_
          simp only [List.set_cons_zero, List.set_cons_succ]
          refine wpList_nil ?_
          refine ⟨_, ?_, c + 1, rfl, by omega, cutE, BL, b1, O, D256, D4, D6, D2, D9, b4, PO, b6, b8, b10, b12, b14, b16, b18, b134, by omega⟩
          omega
        · skip
          refine xAlloc 22 37 ((nn (List.replicate 32 0)).map (Value.int .u8)) rfl (by kernel_rfl) ?_
          intro w76 n24
          have zn24 := n24.z
          have b22 := n24.c
          replace b22 : Blk .u8 w76 w71.heap.size 37 (nn (List.replicate 32 0)) := b22
          replace BL := BL.e0 n24.e
          replace b1 := b1.e0 n24.e
          replace O := O.e0 n24.e
          replace D256 := D256.e0 n24.e
          replace D4 := D4.e0 n24.e
          replace D6 := D6.e0 n24.e
          replace D2 := D2.e0 n24.e
          replace D9 := D9.e0 n24.e
          replace b4 := b4.e0 n24.e
          replace PO := PO.e0 n24.e
          replace b6 := b6.e0 n24.e
          replace b8 := b8.e0 n24.e
          replace b10 := b10.e0 n24.e
          replace b12 := b12.e0 n24.e
          replace b14 := b14.e0 n24.e
          replace b16 := b16.e0 n24.e
          replace b18 := b18.e0 n24.e
          replace b134 := b134.e0 n24.e
          replace b21 := b21.e0 n24.e
          refine ze 8 ⟨BL, b1, O, D256, D4, D6, D2, D9, b4, PO, b6, b8, b10, b12, b14, b16, b18, b134, b21, by omega⟩ ?_
          simp only [List.set_cons_zero, List.set_cons_succ]
          refine zo1 4 rfl ?_
          refine xCall 146 43 #[.pointer (some ⟨w1.heap.size, 0, none⟩), .agg (cellsOf .u8 (nn (M.getD 0 []))), .agg #[.int .i64 pl, .slice qA qN qC]] (by kernel_rfl) ?_
          refine (mclimb_no _ (M.getD 0 []) (fe_getDN hM32 (by omega)) pl qA qN qC w76 hq2).mono ?_
          rintro en w77 ⟨rfl, hb1⟩
          have e33 := belE0 hb1
          have ze33 := e33.size
          replace BL := BL.e0 e33
          replace b1 := b1.e0 e33
          replace O := O.e0 e33
          replace D256 := D256.e0 e33
          replace D4 := D4.e0 e33
          replace D6 := D6.e0 e33
          replace D2 := D2.e0 e33
          replace D9 := D9.e0 e33
          replace b4 := b4.e0 e33
          replace PO := PO.e0 e33
          replace b6 := b6.e0 e33
          replace b8 := b8.e0 e33
          replace b10 := b10.e0 e33
          replace b12 := b12.e0 e33
          replace b14 := b14.e0 e33
          replace b16 := b16.e0 e33
          replace b18 := b18.e0 e33
          replace b134 := b134.e0 e33
          replace b21 := b21.e0 e33
          replace b22 := b22.e0 e33
          clear e33
          refine ⟨.tuple #[.agg (cellsOf .u8 (nn (List.replicate 32 0))), .int .i64 2], rfl, ?_⟩
          refine ze 4 ⟨BL, b1, O, D256, D4, D6, D2, D9, b4, PO, b6, b8, b10, b12, b14, b16, b18, b134, b21, by omega⟩ ?_
          simp only [List.set_cons_zero, List.set_cons_succ]
          refine zv 5 141 (.tuple #[.agg (cellsOf .u8 (nn (List.replicate 32 0))), .int .i64 2]) (fun _ _ => .of) ⟨BL, b1, O, D256, D4, D6, D2, D9, b4, PO, b6, b8, b10, b12, b14, b16, b18, b134, b21, by omega⟩ ?_
          simp only [List.set_cons_zero, List.set_cons_succ]
          refine zv 6 147 (.agg (cellsOf .u8 (nn (List.replicate 32 0)))) (fun _ _ => .of) ⟨BL, b1, O, D256, D4, D6, D2, D9, b4, PO, b6, b8, b10, b12, b14, b16, b18, b134, b21, by omega⟩ ?_
          simp only [List.set_cons_zero, List.set_cons_succ]
          refine zv 7 148 (.int .i64 2) (fun _ _ => .of) ⟨BL, b1, O, D256, D4, D6, D2, D9, b4, PO, b6, b8, b10, b12, b14, b16, b18, b134, b21, by omega⟩ ?_
          simp only [List.set_cons_zero, List.set_cons_succ]
          refine zo1 9 rfl ?_
          refine xStoreA 37 (.tmp 22) (.tmp 147) rfl .u8 w71.heap.size 37 (nn (List.replicate 32 0)) 0 (nn (List.replicate 32 0)) (by kernel_rfl) (by kernel_rfl) b22 (by rw [show (nn (List.replicate 32 0)).length = 32 by ((try simp only [nn_len, List.length_append, List.length_replicate]); try omega)]; kernel_rfl) (by (try simp only [nn_len, List.length_append, List.length_replicate]); try omega) (nn (List.replicate 32 0)) (over_whole _ _ (by (try simp only [nn_len, List.length_append, List.length_replicate]); try omega)) ?_
          intro w78 t21
          have zt21 := t21.z
          have BL_ := BL.ev t21.e (fun i h => show w.heap.size ≤ i by have h : i = w71.heap.size := h; omega)
          have b1_ := b1.ev t21.e (show ¬ (w1.heap.size = w71.heap.size) by omega)
          have O_ := O.ev t21.e (fun i hi => show ¬ (i = w71.heap.size) by have := lO_4 i hi; omega)
          have D256_ := D256.ev t21.e (fun i hi => show ¬ (i = w71.heap.size) by have := hdd256 i hi; omega)
          have D4_ := D4.ev t21.e (fun i hi => show ¬ (i = w71.heap.size) by have := hdd4 i hi; omega)
          have D6_ := D6.ev t21.e (fun i hi => show ¬ (i = w71.heap.size) by have := hdd6 i hi; omega)
          have D2_ := D2.ev t21.e (fun i hi => show ¬ (i = w71.heap.size) by have := hdd2 i hi; omega)
          have D9_ := D9.ev t21.e (fun i hi => show ¬ (i = w71.heap.size) by have := hdd9 i hi; omega)
          have b4_ := b4.ev t21.e (show ¬ (w6.heap.size = w71.heap.size) by omega)
          have PO_ := PO.ev t21.e (fun i hi => show ¬ (i = w71.heap.size) by have := lPO_3 i hi; omega)
          have b6_ := b6.ev t21.e (show ¬ (w9.heap.size = w71.heap.size) by omega)
          have b8_ := b8.ev t21.e (show ¬ (w12.heap.size = w71.heap.size) by omega)
          have b10_ := b10.ev t21.e (show ¬ (w52.heap.size = w71.heap.size) by omega)
          have b12_ := b12.ev t21.e (show ¬ (w55.heap.size = w71.heap.size) by omega)
          have b14_ := b14.ev t21.e (show ¬ (w58.heap.size = w71.heap.size) by omega)
          have b16_ := b16.ev t21.e (show ¬ (w61.heap.size = w71.heap.size) by omega)
          have b18_ := b18.ev t21.e (show ¬ (w64.heap.size = w71.heap.size) by omega)
          have b134_ := b134.ev t21.e (show ¬ (w67.heap.size = w71.heap.size) by omega)
          have b21_ := b21.ev t21.e (show ¬ (wl1.heap.size = w71.heap.size) by omega)
          replace BL := BL_; clear BL_
          replace b1 := b1_; clear b1_
          replace O := O_; clear O_
          replace D256 := D256_; clear D256_
          replace D4 := D4_; clear D4_
          replace D6 := D6_; clear D6_
          replace D2 := D2_; clear D2_
          replace D9 := D9_; clear D9_
          replace b4 := b4_; clear b4_
          replace PO := PO_; clear PO_
          replace b6 := b6_; clear b6_
          replace b8 := b8_; clear b8_
          replace b10 := b10_; clear b10_
          replace b12 := b12_; clear b12_
          replace b14 := b14_; clear b14_
          replace b16 := b16_; clear b16_
          replace b18 := b18_; clear b18_
          replace b134 := b134_; clear b134_
          replace b21 := b21_; clear b21_
          replace b22 : Blk .u8 w78 w71.heap.size 37 (nn (List.replicate 32 0)) := t21.c
          clear t21
          refine ze 9 ⟨BL, b1, O, D256, D4, D6, D2, D9, b4, PO, b6, b8, b10, b12, b14, b16, b18, b134, b21, by omega⟩ ?_
          refine zv 10 23 (.int .i64 2) (fun _ _ => .of) ⟨BL, b1, O, D256, D4, D6, D2, D9, b4, PO, b6, b8, b10, b12, b14, b16, b18, b134, b21, by omega⟩ ?_
          simp only [List.set_cons_zero, List.set_cons_succ]
          refine zd (by kernel_rfl) ?_ _
          refine hK43 _ _ ?_
          refine wp_seq_k fun K45 hK45 => ?_
          refine cPlain ?_
          refine sv 149 (.agg #[.int .i64 pl, .slice qA qN qC]) (Val.cel 66 _ rfl 0 2 (by kernel_rfl) b21 _ Try.underlying66 rfl (by kernel_rfl) (by simp) [.int .i64 pl, .slice qA qN qC] rfl) ?_
          simp only [List.set_cons_zero, List.set_cons_succ]
          refine xCall 150 47 #[.agg #[.int .i64 pl, .slice qA qN qC]] (by kernel_rfl) ?_
          refine (mright_any pl qA qN qC w78).mono ?_
          rintro en w79 ⟨he, hb1⟩
          rw [hq2] at he
          subst he
          have e34 := belE0 hb1
          have ze34 := e34.size
          replace BL := BL.e0 e34
          replace b1 := b1.e0 e34
          replace O := O.e0 e34
          replace D256 := D256.e0 e34
          replace D4 := D4.e0 e34
          replace D6 := D6.e0 e34
          replace D2 := D2.e0 e34
          replace D9 := D9.e0 e34
          replace b4 := b4.e0 e34
          replace PO := PO.e0 e34
          replace b6 := b6.e0 e34
          replace b8 := b8.e0 e34
          replace b10 := b10.e0 e34
          replace b12 := b12.e0 e34
          replace b14 := b14.e0 e34
          replace b16 := b16.e0 e34
          replace b18 := b18.e0 e34
          replace b134 := b134.e0 e34
          replace b21 := b21.e0 e34
          replace b22 := b22.e0 e34
          clear e34
          refine ⟨.bool false, rfl, ?_⟩
          simp only [List.set_cons_zero, List.set_cons_succ]
          refine sv 151 (.bool false) .of ?_
          simp only [List.set_cons_zero, List.set_cons_succ]
          refine sv 152 (.agg (cellsOf .u8 (nn (List.replicate 32 0)))) (Val.blk 37 _ rfl 0 32 (by kernel_rfl) b22 _ Try.underlying37 rfl (by kernel_rfl) (by (try simp only [nn_len, List.length_append, List.length_replicate]); try omega) _ (seg_all' _ (by (try simp only [nn_len, List.length_append, List.length_replicate]); try omega))) ?_
          simp only [List.set_cons_zero, List.set_cons_succ]
          refine sv 153 (.agg (cellsOf .u8 (nn (List.replicate 32 0)))) .of ?_
          simp only [List.set_cons_zero, List.set_cons_succ]
          refine sv 154 (.bool false) (Val.eqA .neq 37 _ (.tmp 152) (.tmp 153) rfl Try.underlying37 Try.underlying5 (by kernel_rfl) (by kernel_rfl) (nn (List.replicate 32 0)) (nn (List.replicate 32 0)) (by kernel_rfl) (by kernel_rfl) (by rw [nn_len]; exact (by simp)) (by rw [nn_len]; exact (by simp)) (.inr rfl) false (neq_nnN _)) ?_
          simp only [List.set_cons_zero, List.set_cons_succ]
          refine sv 155 (.bool false) .of ?_
          simp only [List.set_cons_zero, List.set_cons_succ]
          refine sv 156 (.bool false) .of ?_
          simp only [List.set_cons_zero, List.set_cons_succ]
          refine sv 157 (.int .i64 2) .of ?_
          simp only [List.set_cons_zero, List.set_cons_succ]
          refine sv 158 (.bool false) (Val.cmp .neq 3 _ (.tmp 157) _ rfl .i64 2 2 (by kernel_rfl) (by kernel_rfl) (by simp) _ rfl) ?_
          simp only [List.set_cons_zero, List.set_cons_succ]
          refine sv 159 (.bool false) .of ?_
          simp only [List.set_cons_zero, List.set_cons_succ]
          refine wpList_nil ?_
          refine hK45 _ _ ?_
          refine cF ?_
          refine wp_skip ?_
          refine hK41 _ _ ?_
          refine cPlain ?_
          refine sv 162 (.int .i64 ((c + 1 : Nat) : Int)) (Val.as (Val.add 3 _ (.tmp 136) _ rfl ((c : Nat) : Int) 1 (by kernel_rfl) (by kernel_rfl) (by omega)) (congrArg (Value.int .i64) (by omega))) ?_
          simp only [List.set_cons_zero, List.set_cons_succ]
          refine sv 136 (.int .i64 ((c + 1 : Nat) : Int)) .of ?_
          simp only [List.set_cons_zero, List.set_cons_succ]
          refine wpList_nil ?_
          refine ⟨_, ?_, c + 1, rfl, by omega, cutE, BL, b1, O, D256, D4, D6, D2, D9, b4, PO, b6, b8, b10, b12, b14, b16, b18, b134, by omega⟩
          omega
      · skip
        refine wp_exit ?_
        simp only [Exit.then, Exit.inBlock, ↓reduceIte, Nat.reduceEqDiff]
        refine hK37 _ _ ?_
        refine wp_seq_k fun K46 hK46 => ?_
        have e35 := drew_e0 wl1
        refine zg (fun w_ => Bl w.heap.size w w_ ∧ Blk .u32 w_ w1.heap.size 26 (nn tabL) ∧ OwnE 37 .u8 32 w3.heap.size w_ (.slice (some ⟨w3.heap.size, 0, none⟩) 512 512) (nnd M) ∧ SE .u8 32 w_ (.slice A256 256 C256) (nnd m256) ∧ SE .u8 32 w_ (.slice A4 4 C4) (nnd m4) ∧ SE .u8 32 w_ (.slice A6 6 C6) (nnd m6) ∧ SE .u8 32 w_ (.slice A2 2 C2) (nnd m2) ∧ SE .u8 32 w_ (.slice A9 9 C9) (nnd m9) ∧ Blk .u8 w_ w6.heap.size 37 (nn (mroot tabL 8 m256)) ∧ OwnE 37 .u8 32 w8.heap.size w_ (.slice pA 8 pC) (nnd (mpath tabL 8 m256 255)) ∧ Cel w_ w9.heap.size 66 [.int .i64 ((255 : Nat) : Int), .slice pA 8 pC] ∧ Blk .u8 w_ w12.heap.size 37 (nn (mroot tabL 8 m256)) ∧ Blk .u8 w_ w52.heap.size 37 (nn (List.replicate 32 0)) ∧ Cel w_ w55.heap.size 66 [.int .i64 0, .slice none 0 0] ∧ Cel w_ w58.heap.size 66 [.int .i64 0, .slice none 0 0] ∧ Cel w_ w61.heap.size 66 [.int .i64 0, .slice none 0 0] ∧ Cel w_ w64.heap.size 66 [.int .i64 0, .slice none 0 0] ∧ Cel w_ w67.heap.size 66 [.int .i64 (-1), .slice none 0 0, .int .i64 1, .slice none 0 0, .int .i64 4, .slice A2 2 C2, .int .i64 0, .slice A9 9 C9] ∧ wl1.heap.size ≤ w_.heap.size) (fun w_ => Bl w.heap.size w w_ ∧ Blk .u32 w_ w1.heap.size 26 (nn tabL) ∧ OwnE 37 .u8 32 w3.heap.size w_ (.slice (some ⟨w3.heap.size, 0, none⟩) 512 512) (nnd M) ∧ SE .u8 32 w_ (.slice A256 256 C256) (nnd m256) ∧ SE .u8 32 w_ (.slice A4 4 C4) (nnd m4) ∧ SE .u8 32 w_ (.slice A6 6 C6) (nnd m6) ∧ SE .u8 32 w_ (.slice A2 2 C2) (nnd m2) ∧ SE .u8 32 w_ (.slice A9 9 C9) (nnd m9) ∧ Blk .u8 w_ w6.heap.size 37 (nn (mroot tabL 8 m256)) ∧ OwnE 37 .u8 32 w8.heap.size w_ (.slice pA 8 pC) (nnd (mpath tabL 8 m256 255)) ∧ Cel w_ w9.heap.size 66 [.int .i64 ((255 : Nat) : Int), .slice pA 8 pC] ∧ Blk .u8 w_ w12.heap.size 37 (nn (mroot tabL 8 m256)) ∧ Blk .u8 w_ w52.heap.size 37 (nn (List.replicate 32 0)) ∧ Cel w_ w55.heap.size 66 [.int .i64 0, .slice none 0 0] ∧ Cel w_ w58.heap.size 66 [.int .i64 0, .slice none 0 0] ∧ Cel w_ w61.heap.size 66 [.int .i64 0, .slice none 0 0] ∧ Cel w_ w64.heap.size 66 [.int .i64 0, .slice none 0 0] ∧ Cel w_ w67.heap.size 66 [.int .i64 (-1), .slice none 0 0, .int .i64 1, .slice none 0 0, .int .i64 4, .slice A2 2 C2, .int .i64 0, .slice A9 9 C9] ∧ wl1.heap.size ≤ w_.heap.size) 100000 21 ⟨BL.e0 e35, b1.e0 e35, O.e0 e35, D256.e0 e35, D4.e0 e35, D6.e0 e35, D2.e0 e35, D9.e0 e35, b4.e0 e35, PO.e0 e35, b6.e0 e35, b8.e0 e35, b10.e0 e35, b12.e0 e35, b14.e0 e35, b16.e0 e35, b18.e0 e35, b134.e0 e35, Nat.le_refl _⟩ ?_
        clear BL b1 O D256 D4 D6 D2 D9 b4 PO b6 b8 b10 b12 b14 b16 b18 b134
        clear e35
        intro w80
        rintro ⟨BL, b1, O, D256, D4, D6, D2, D9, b4, PO, b6, b8, b10, b12, b14, b16, b18, b134, z7⟩
        refine zv 0 163 (.agg #[.int .i64 0, .slice none 0 0]) (fun _ _ => .of) ⟨BL, b1, O, D256, D4, D6, D2, D9, b4, PO, b6, b8, b10, b12, b14, b16, b18, b134, by omega⟩ ?_
        simp only [List.set_cons_zero, List.set_cons_succ]
        refine zo1 1 rfl ?_
        refine xCall 164 47 #[.agg #[.int .i64 0, .slice none 0 0]] (by kernel_rfl) ?_
        refine (mright_any 0 none 0 0 w80).mono ?_
        rintro en w81 ⟨he, hb1⟩
        rw [show mright 0 0 = true from rfl] at he
        subst he
        have e36 := belE0 hb1
        have ze36 := e36.size
        replace BL := BL.e0 e36
        replace b1 := b1.e0 e36
        replace O := O.e0 e36
        replace D256 := D256.e0 e36
        replace D4 := D4.e0 e36
        replace D6 := D6.e0 e36
        replace D2 := D2.e0 e36
        replace D9 := D9.e0 e36
        replace b4 := b4.e0 e36
        replace PO := PO.e0 e36
        replace b6 := b6.e0 e36
        replace b8 := b8.e0 e36
        replace b10 := b10.e0 e36
        replace b12 := b12.e0 e36
        replace b14 := b14.e0 e36
        replace b16 := b16.e0 e36
        replace b18 := b18.e0 e36
        replace b134 := b134.e0 e36
        clear e36
        refine ⟨.bool true, rfl, ?_⟩
        refine ze 1 ⟨BL, b1, O, D256, D4, D6, D2, D9, b4, PO, b6, b8, b10, b12, b14, b16, b18, b134, by omega⟩ ?_
        simp only [List.set_cons_zero, List.set_cons_succ]
        refine zv 2 165 (.bool true) (fun _ _ => .of) ⟨BL, b1, O, D256, D4, D6, D2, D9, b4, PO, b6, b8, b10, b12, b14, b16, b18, b134, by omega⟩ ?_
        simp only [List.set_cons_zero, List.set_cons_succ]
        refine zv 3 166 (.agg #[.int .i64 ((255 : Nat) : Int), .slice pA 8 pC]) (fun _ ⟨BL, b1, O, D256, D4, D6, D2, D9, b4, PO, b6, b8, b10, b12, b14, b16, b18, b134, z7⟩ => Val.cel 66 _ rfl 0 2 (by kernel_rfl) b6 _ Try.underlying66 rfl (by kernel_rfl) (by simp) [.int .i64 ((255 : Nat) : Int), .slice pA 8 pC] rfl) ⟨BL, b1, O, D256, D4, D6, D2, D9, b4, PO, b6, b8, b10, b12, b14, b16, b18, b134, by omega⟩ ?_
        simp only [List.set_cons_zero, List.set_cons_succ]
        refine zo1 4 rfl ?_
        refine xCall 167 47 #[.agg #[.int .i64 ((255 : Nat) : Int), .slice pA 8 pC]] (by kernel_rfl) ?_
        refine (mright_any ((255 : Nat) : Int) pA 8 pC w81).mono ?_
        rintro en w82 ⟨he, hb1⟩
        rw [show mright 8 ((255 : Nat) : Int) = true from rfl] at he
        subst he
        have e37 := belE0 hb1
        have ze37 := e37.size
        replace BL := BL.e0 e37
        replace b1 := b1.e0 e37
        replace O := O.e0 e37
        replace D256 := D256.e0 e37
        replace D4 := D4.e0 e37
        replace D6 := D6.e0 e37
        replace D2 := D2.e0 e37
        replace D9 := D9.e0 e37
        replace b4 := b4.e0 e37
        replace PO := PO.e0 e37
        replace b6 := b6.e0 e37
        replace b8 := b8.e0 e37
        replace b10 := b10.e0 e37
        replace b12 := b12.e0 e37
        replace b14 := b14.e0 e37
        replace b16 := b16.e0 e37
        replace b18 := b18.e0 e37
        replace b134 := b134.e0 e37
        clear e37
        refine ⟨.bool true, rfl, ?_⟩
        refine ze 4 ⟨BL, b1, O, D256, D4, D6, D2, D9, b4, PO, b6, b8, b10, b12, b14, b16, b18, b134, by omega⟩ ?_
        simp only [List.set_cons_zero, List.set_cons_succ]
        refine zv 5 168 (.bool true) (fun _ _ => .of) ⟨BL, b1, O, D256, D4, D6, D2, D9, b4, PO, b6, b8, b10, b12, b14, b16, b18, b134, by omega⟩ ?_
        simp only [List.set_cons_zero, List.set_cons_succ]
        refine zv 6 169 (.bool true) (fun _ _ => .of) ⟨BL, b1, O, D256, D4, D6, D2, D9, b4, PO, b6, b8, b10, b12, b14, b16, b18, b134, by omega⟩ ?_
        simp only [List.set_cons_zero, List.set_cons_succ]
        refine zv 7 170 (.slice (some ⟨w3.heap.size, 0, none⟩) 512 512) (fun _ _ => .of) ⟨BL, b1, O, D256, D4, D6, D2, D9, b4, PO, b6, b8, b10, b12, b14, b16, b18, b134, by omega⟩ ?_
        simp only [List.set_cons_zero, List.set_cons_succ]
        refine zv 8 171 (elemE 32 (.slice (some ⟨w3.heap.size, 0, none⟩) 512 512) 1) (fun _ ⟨BL, b1, O, D256, D4, D6, D2, D9, b4, PO, b6, b8, b10, b12, b14, b16, b18, b134, z7⟩ => Val.ixE 63 (.tmp 170) _ rfl (.slice (some ⟨w3.heap.size, 0, none⟩) 512 512) 1 (by kernel_rfl) (by kernel_rfl) O.se Try.underlying63 (by kernel_rfl) (by simp only [nnd_len]; omega)) ⟨BL, b1, O, D256, D4, D6, D2, D9, b4, PO, b6, b8, b10, b12, b14, b16, b18, b134, by omega⟩ ?_
        simp only [List.set_cons_zero, List.set_cons_succ]
        refine zv 9 172 (.agg (cellsOf .u8 (nn (M.getD 1 [])))) (fun _ ⟨BL, b1, O, D256, D4, D6, D2, D9, b4, PO, b6, b8, b10, b12, b14, b16, b18, b134, z7⟩ => Val.ldGN 37 _ rfl (.slice (some ⟨w3.heap.size, 0, none⟩) 512 512) 1 (by kernel_rfl) O.se _ Try.underlying37 rfl (by kernel_rfl) (by simp only [nnd_len]; omega)) ⟨BL, b1, O, D256, D4, D6, D2, D9, b4, PO, b6, b8, b10, b12, b14, b16, b18, b134, by omega⟩ ?_
        simp only [List.set_cons_zero, List.set_cons_succ]
        refine zv 10 173 (.slice (some ⟨w3.heap.size, 0, none⟩) 512 512) (fun _ _ => .of) ⟨BL, b1, O, D256, D4, D6, D2, D9, b4, PO, b6, b8, b10, b12, b14, b16, b18, b134, by omega⟩ ?_
        simp only [List.set_cons_zero, List.set_cons_succ]
        refine zv 11 174 (elemE 32 (.slice (some ⟨w3.heap.size, 0, none⟩) 512 512) 2) (fun _ ⟨BL, b1, O, D256, D4, D6, D2, D9, b4, PO, b6, b8, b10, b12, b14, b16, b18, b134, z7⟩ => Val.ixE 63 (.tmp 173) _ rfl (.slice (some ⟨w3.heap.size, 0, none⟩) 512 512) 2 (by kernel_rfl) (by kernel_rfl) O.se Try.underlying63 (by kernel_rfl) (by simp only [nnd_len]; omega)) ⟨BL, b1, O, D256, D4, D6, D2, D9, b4, PO, b6, b8, b10, b12, b14, b16, b18, b134, by omega⟩ ?_
        simp only [List.set_cons_zero, List.set_cons_succ]
        refine zv 12 175 (.agg (cellsOf .u8 (nn (M.getD 2 [])))) (fun _ ⟨BL, b1, O, D256, D4, D6, D2, D9, b4, PO, b6, b8, b10, b12, b14, b16, b18, b134, z7⟩ => Val.ldGN 37 _ rfl (.slice (some ⟨w3.heap.size, 0, none⟩) 512 512) 2 (by kernel_rfl) O.se _ Try.underlying37 rfl (by kernel_rfl) (by simp only [nnd_len]; omega)) ⟨BL, b1, O, D256, D4, D6, D2, D9, b4, PO, b6, b8, b10, b12, b14, b16, b18, b134, by omega⟩ ?_
        simp only [List.set_cons_zero, List.set_cons_succ]
        refine zv 14 177 (.agg (cellsOf .u8 (nn (List.replicate 32 0)))) (fun _ _ => .of) ⟨BL, b1, O, D256, D4, D6, D2, D9, b4, PO, b6, b8, b10, b12, b14, b16, b18, b134, by omega⟩ ?_
        simp only [List.set_cons_zero, List.set_cons_succ]
        refine zo1 13 rfl ?_
        refine xCall 176 40 #[.pointer none, .agg (cellsOf .u8 (nn (M.getD 1 []))), .agg (cellsOf .u8 (nn (M.getD 2 [])))] (by kernel_rfl) ?_
        refine (mnode_nil (M.getD 1 []) (M.getD 2 []) (fe_getDN hM32 (by omega)) (fe_getDN hM32 (by omega)) w82).mono ?_
        rintro en w83 ⟨rfl, hb1⟩
        have e38 := belE0 hb1
        have ze38 := e38.size
        replace BL := BL.e0 e38
        replace b1 := b1.e0 e38
        replace O := O.e0 e38
        replace D256 := D256.e0 e38
        replace D4 := D4.e0 e38
        replace D6 := D6.e0 e38
        replace D2 := D2.e0 e38
        replace D9 := D9.e0 e38
        replace b4 := b4.e0 e38
        replace PO := PO.e0 e38
        replace b6 := b6.e0 e38
        replace b8 := b8.e0 e38
        replace b10 := b10.e0 e38
        replace b12 := b12.e0 e38
        replace b14 := b14.e0 e38
        replace b16 := b16.e0 e38
        replace b18 := b18.e0 e38
        replace b134 := b134.e0 e38
        clear e38
        refine ⟨.agg (cellsOf .u8 (nn (List.replicate 32 0))), rfl, ?_⟩
        refine ze 13 ⟨BL, b1, O, D256, D4, D6, D2, D9, b4, PO, b6, b8, b10, b12, b14, b16, b18, b134, by omega⟩ ?_
        simp only [List.set_cons_zero, List.set_cons_succ]
        refine zv 15 178 (.bool true) (fun _ ⟨BL, b1, O, D256, D4, D6, D2, D9, b4, PO, b6, b8, b10, b12, b14, b16, b18, b134, z7⟩ => Val.eqA .eql 37 _ (.tmp 176) (.tmp 177) rfl Try.underlying37 Try.underlying5 (by kernel_rfl) (by kernel_rfl) (nn (List.replicate 32 0)) (nn (List.replicate 32 0)) (by kernel_rfl) (by kernel_rfl) (by rw [nn_len]; exact (by simp)) (by rw [nn_len]; exact (by simp)) (.inl rfl) true (by simp)) ⟨BL, b1, O, D256, D4, D6, D2, D9, b4, PO, b6, b8, b10, b12, b14, b16, b18, b134, by omega⟩ ?_
        simp only [List.set_cons_zero, List.set_cons_succ]
        refine zv 16 179 (.bool true) (fun _ _ => .of) ⟨BL, b1, O, D256, D4, D6, D2, D9, b4, PO, b6, b8, b10, b12, b14, b16, b18, b134, by omega⟩ ?_
        simp only [List.set_cons_zero, List.set_cons_succ]
        refine zv 17 180 (.bool true) (fun _ _ => .of) ⟨BL, b1, O, D256, D4, D6, D2, D9, b4, PO, b6, b8, b10, b12, b14, b16, b18, b134, by omega⟩ ?_
        simp only [List.set_cons_zero, List.set_cons_succ]
        refine zo1 18 rfl ?_
        refine xCall 181 41 #[] (by kernel_rfl) ?_
        refine (awake10 w83).mono ?_
        rintro en w84 ⟨rfl, hb1⟩
        have e39 := belE0 hb1
        have ze39 := e39.size
        replace BL := BL.e0 e39
        replace b1 := b1.e0 e39
        replace O := O.e0 e39
        replace D256 := D256.e0 e39
        replace D4 := D4.e0 e39
        replace D6 := D6.e0 e39
        replace D2 := D2.e0 e39
        replace D9 := D9.e0 e39
        replace b4 := b4.e0 e39
        replace PO := PO.e0 e39
        replace b6 := b6.e0 e39
        replace b8 := b8.e0 e39
        replace b10 := b10.e0 e39
        replace b12 := b12.e0 e39
        replace b14 := b14.e0 e39
        replace b16 := b16.e0 e39
        replace b18 := b18.e0 e39
        replace b134 := b134.e0 e39
        clear e39
        refine ⟨.bool true, rfl, ?_⟩
        refine ze 18 ⟨BL, b1, O, D256, D4, D6, D2, D9, b4, PO, b6, b8, b10, b12, b14, b16, b18, b134, by omega⟩ ?_
        simp only [List.set_cons_zero, List.set_cons_succ]
        refine zv 19 182 (.bool true) (fun _ _ => .of) ⟨BL, b1, O, D256, D4, D6, D2, D9, b4, PO, b6, b8, b10, b12, b14, b16, b18, b134, by omega⟩ ?_
        simp only [List.set_cons_zero, List.set_cons_succ]
        refine zv 20 0 (.bool true) (fun _ _ => .of) ⟨BL, b1, O, D256, D4, D6, D2, D9, b4, PO, b6, b8, b10, b12, b14, b16, b18, b134, by omega⟩ ?_
        simp only [List.set_cons_zero, List.set_cons_succ]
        refine zd (by kernel_rfl) ?_ _
        refine hK46 _ _ ?_
        refine wp_ret ?_
        (try simp only [Exit.then, Exit.inBlock])
        refine bodyPost_ret (v := .bool true) rT rfl ?_
        exact ⟨rfl, BL.b⟩

theorem merkleNumbers_any (w : World) : Calls Try.prog 10 #[] w fun e w' => e = .returned (.bool true) ∧ Below w.heap.size w w' := merkleNumbers_walk w
end Go.Proofs.Yteaijjefbadnbaa
