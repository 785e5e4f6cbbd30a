/-
  MacNumbers: the walk.
-/
import Derived.Test.YteaijjefbadnbaaNilL
import Derived.Test.YteaijjefbadnbaaRef3
import Derived.Test.YteaijjefbadnbaaMacA
import Derived.Test.YteaijjefbadnbaaEqA
namespace Go.Proofs.Yteaijjefbadnbaa
open Go.RowKit
set_option linter.unusedVariables false
set_option linter.unusedSimpArgs false
set_option maxRecDepth 100000
attribute [local irreducible] wpList Code.wp wpAnyZ
theorem mac_long {tab key bs : List Nat} (h : ¬ key.length ≤ 64) : macN tab (ofN tab key) bs = macN tab key bs := by
  unfold macN turnedN keyN
  rw [if_neg h, if_pos (by rw [ofN_32]; omega)]
theorem tabL_b : ∀ x ∈ tabL, x < 4294967296 := by decide +kernel
theorem text00 : textN 0 [] = [75, 0, 0] := by kernel_rfl
theorem rep_b (n b : Nat) (h : b < 256) : ∀ x ∈ List.replicate n b, x < 256 := fun x hx => by rw [List.eq_of_mem_replicate hx]; exact h
attribute [local irreducible] macN ofN textN tabL

set_option maxHeartbeats 4000000 in
theorem macNumbers_walk (w : World) :
    Calls Try.prog 4 #[] w fun e w' => e = .returned (.bool true) ∧ Below w.heap.size w w' := by
  have BL := Bl.refl w
  have hTL := tabL_len
  have hml := macN_len tabL (List.replicate 65 170) [120]
  have hm4 := macN_len tabL (List.replicate 64 170) []
  have hol := ofN_32 tabL (List.replicate 65 170)
  go_enter Try.func4, Try.ntmps4
  refine wp_seq_k fun K1 hK1 => ?_
  refine cPlain ?_
  refine sv 0 (.bool false) .of ?_
  simp only [List.set_cons_zero, List.set_cons_succ]
  refine wpList_nil ?_
  refine hK1 _ _ ?_
  refine wp_seq_k fun K2 hK2 => ?_
  refine cPlain ?_
  refine xCall 5 13 #[] (by kernel_rfl) ?_
  refine (table_any w).mono ?_
  rintro en w1 ⟨he, hb1⟩
  rw [tableN_eq] at he
  subst he
  have e1 := belE0 hb1
  have ze1 := e1.size
  replace BL := BL.e0 e1
  clear e1
  refine ⟨.agg (cellsOf .u32 (nn tabL)), rfl, ?_⟩
  simp only [List.set_cons_zero, List.set_cons_succ]
  refine xAlloc 1 26 ((nn (List.replicate 72 0)).map (Value.int .u32)) rfl (by kernel_rfl) ?_
  intro w2 n1
  have zn1 := n1.z
  have b1 := n1.c
  replace b1 : Blk .u32 w2 w1.heap.size 26 (nn (List.replicate 72 0)) := b1
  replace BL := BL.e0 n1.e
  simp only [List.set_cons_zero, List.set_cons_succ]
  refine xStoreA 26 (.tmp 1) (.tmp 5) rfl .u32 w1.heap.size 26 (nn (List.replicate 72 0)) 0 (nn tabL) (by kernel_rfl) (by kernel_rfl) b1 (by rw [show (nn tabL).length = 72 by ((try simp only [nn_len, List.length_cons, List.length_nil, List.length_set, List.length_replicate]); try omega)]; kernel_rfl) (by (try simp only [nn_len, List.length_cons, List.length_nil, List.length_set, List.length_replicate]); try omega) (nn tabL) (over_whole _ _ (by (try simp only [nn_len, List.length_cons, List.length_nil, List.length_set, List.length_replicate]); try omega)) ?_
  intro w3 t1
  have zt1 := t1.z
  have BL_ := BL.ev t1.e (fun i h => show w.heap.size ≤ i by have h : i = w1.heap.size := h; omega)
  replace BL := BL_; clear BL_
  replace b1 : Blk .u32 w3 w1.heap.size 26 (nn tabL) := t1.c
  clear t1
  refine wpList_nil ?_
  refine hK2 _ _ ?_
  refine wp_seq_k fun K3 hK3 => ?_
  refine cPlain ?_
  refine xCall 6 24 #[.int .u8 170, .int .i64 65] (by kernel_rfl) ?_
  refine (ofb_any 170 65 (by omega) (by omega) w3).mono ?_
  rintro en w4 ⟨ua, rfl, hO, hb1⟩
  have e2 := belE0 hb1
  have ze2 := e2.size
  replace BL := BL.e0 e2
  replace b1 := b1.e0 e2
  clear e2
  have Oua : Own 5 .u8 w3.heap.size w4 ua (nn (List.replicate 65 170)) := hO
  have lOua_1 := Oua.ge
  refine ⟨ua, rfl, ?_⟩
  simp only [List.set_cons_zero, List.set_cons_succ]
  refine sv 2 (ua) .of ?_
  simp only [List.set_cons_zero, List.set_cons_succ]
  refine wpList_nil ?_
  refine hK3 _ _ ?_
  refine wp_seq_k fun K4 hK4 => ?_
  refine cPlain ?_
  refine sv 7 (ua) .of ?_
  simp only [List.set_cons_zero, List.set_cons_succ]
  refine xCall 8 20 #[.pointer (some ⟨w1.heap.size, 0, none⟩), ua] (by kernel_rfl) ?_
  refine (of_any w1.heap.size tabL (List.replicate 65 170) ua hTL w4 b1 Oua.sl (by simp)).mono ?_
  rintro en w5 ⟨rfl, hb1⟩
  have e3 := belE0 hb1
  have ze3 := e3.size
  replace BL := BL.e0 e3
  replace b1 := b1.e0 e3
  replace Oua := Oua.e0 e3
  clear e3
  refine ⟨.agg (cellsOf .u8 (nn (ofN tabL (List.replicate 65 170)))), rfl, ?_⟩
  simp only [List.set_cons_zero, List.set_cons_succ]
  refine xAlloc 3 37 ((nn (List.replicate 32 0)).map (Value.int .u8)) rfl (by kernel_rfl) ?_
  intro w6 n2
  have zn2 := n2.z
  have b3 := n2.c
  replace b3 : Blk .u8 w6 w5.heap.size 37 (nn (List.replicate 32 0)) := b3
  replace BL := BL.e0 n2.e
  replace b1 := b1.e0 n2.e
  replace Oua := Oua.e0 n2.e
  simp only [List.set_cons_zero, List.set_cons_succ]
  refine xStoreA 37 (.tmp 3) (.tmp 8) rfl .u8 w5.heap.size 37 (nn (List.replicate 32 0)) 0 (nn (ofN tabL (List.replicate 65 170))) (by kernel_rfl) (by kernel_rfl) b3 (by rw [show (nn (ofN tabL (List.replicate 65 170))).length = 32 by ((try simp only [nn_len, List.length_cons, List.length_nil, List.length_set, List.length_replicate]); try omega)]; kernel_rfl) (by (try simp only [nn_len, List.length_cons, List.length_nil, List.length_set, List.length_replicate]); try omega) (nn (ofN tabL (List.replicate 65 170))) (over_whole _ _ (by (try simp only [nn_len, List.length_cons, List.length_nil, List.length_set, List.length_replicate]); try omega)) ?_
  intro w7 t2
  have zt2 := t2.z
  have BL_ := BL.ev t2.e (fun i h => show w.heap.size ≤ i by have h : i = w5.heap.size := h; omega)
  have b1_ := b1.ev t2.e (show ¬ (w1.heap.size = w5.heap.size) by omega)
  have Oua_ := Oua.ev t2.e (fun i hi => show ¬ (i = w5.heap.size) by have := lOua_1 i hi; omega)
  replace BL := BL_; clear BL_
  replace b1 := b1_; clear b1_
  replace Oua := Oua_; clear Oua_
  replace b3 : Blk .u8 w7 w5.heap.size 37 (nn (ofN tabL (List.replicate 65 170))) := t2.c
  clear t2
  refine wpList_nil ?_
  refine hK4 _ _ ?_
  refine wp_seq_k fun K5 hK5 => ?_
  have e4 := drew_e0 w7
  refine zg (fun w_ => Bl w.heap.size w w_ ∧ Blk .u32 w_ w1.heap.size 26 (nn tabL) ∧ Own 5 .u8 w3.heap.size w_ ua (nn (List.replicate 65 170)) ∧ Blk .u8 w_ w5.heap.size 37 (nn (ofN tabL (List.replicate 65 170))) ∧ w7.heap.size ≤ w_.heap.size) (fun w_ => Bl w.heap.size w w_ ∧ Blk .u32 w_ w1.heap.size 26 (nn tabL) ∧ Own 5 .u8 w3.heap.size w_ ua (nn (List.replicate 65 170)) ∧ Blk .u8 w_ w5.heap.size 37 (nn (ofN tabL (List.replicate 65 170))) ∧ w7.heap.size ≤ w_.heap.size) 100000 18 ⟨BL.e0 e4, b1.e0 e4, Oua.e0 e4, b3.e0 e4, Nat.le_refl _⟩ ?_
  clear BL b1 Oua b3
  clear e4
  intro w8
  rintro ⟨BL, b1, Oua, b3, z1⟩
  refine zv 0 9 (ua) (fun _ _ => .of) ⟨BL, b1, Oua, b3, by omega⟩ ?_
  simp only [List.set_cons_zero, List.set_cons_succ]
  refine zv 4 13 (.slice (some ⟨w5.heap.size, 0, none⟩) 32 32) (fun _ _ => .of) ⟨BL, b1, Oua, b3, by omega⟩ ?_
  simp only [List.set_cons_zero, List.set_cons_succ]
  refine zo2 1 5 rfl rfl ?_ ?_
  · skip
    refine xLit 10 30 5 1 _ #[(0, .int .u8 120)] [.int .u8 120] rfl (by kernel_rfl) (by kernel_rfl) ?_
    intro w9 n3
    have zn3 := n3.z
    have b10 := n3.c
    replace b10 : Blk .u8 w9 w8.heap.size 5 [120] := b10
    replace BL := BL.e0 n3.e
    replace b1 := b1.e0 n3.e
    replace Oua := Oua.e0 n3.e
    replace b3 := b3.e0 n3.e
    have sb10 : SL .u8 w9 (.slice (some ⟨w8.heap.size, 0, none⟩) 1 1) [120] := SL.ofBlk b10 rfl (by unfold maxLen; omega)
    have lb10 : ∀ i, Value.ownBlock (.slice (some ⟨w8.heap.size, 0, none⟩) 1 1) = some i → w8.heap.size ≤ i ∧ i < w9.heap.size := ownB_lit (by omega)
    refine ze 1 ⟨BL, b1, Oua, b3, by omega⟩ ?_
    simp only [List.set_cons_zero, List.set_cons_succ]
    refine zo2 2 5 rfl rfl ?_ ?_
    · skip
      refine xMark 11 30 5 (.tmp 10) rfl Try.underlying30 Try.underlying5 w8.heap.size 1 [120] (by kernel_rfl) b10 rfl (by unfold maxLen; omega) ?_
      intro w10 b10m e5 ze5
      have BL_ := BL.ev e5 (fun i h => show w.heap.size ≤ i by have h : i = w8.heap.size := h; omega)
      have b1_ := b1.ev e5 (show ¬ (w1.heap.size = w8.heap.size) by omega)
      have Oua_ := Oua.ev e5 (fun i hi => show ¬ (i = w8.heap.size) by have := lOua_1 i hi; omega)
      have b3_ := b3.ev e5 (show ¬ (w5.heap.size = w8.heap.size) by omega)
      replace BL := BL_; clear BL_
      replace b1 := b1_; clear b1_
      replace Oua := Oua_; clear Oua_
      replace b3 := b3_; clear b3_
      replace sb10 := b10m; clear b10m b10 e5
      refine ze 2 ⟨BL, b1, Oua, b3, by omega⟩ ?_
      simp only [List.set_cons_zero, List.set_cons_succ]
      refine zo2 3 5 rfl rfl ?_ ?_
      · skip
        refine xCall 12 25 #[.pointer (some ⟨w1.heap.size, 0, none⟩), ua, .slice (some ⟨w8.heap.size, 0, none⟩) 1 1] (by kernel_rfl) ?_
        refine (mac_any w1.heap.size tabL hTL w10 b1 (List.replicate 65 170) [120] _ _ Oua.sl (by simp) sb10 (by simp)).mono ?_
        rintro en w11 ⟨rfl, hb1⟩
        have e6 := belE0 hb1
        have ze6 := e6.size
        replace BL := BL.e0 e6
        replace b1 := b1.e0 e6
        replace Oua := Oua.e0 e6
        replace b3 := b3.e0 e6
        replace sb10 := sb10.e0 e6
        clear e6
        refine ⟨.agg (cellsOf .u8 (nn (macN tabL (List.replicate 65 170) [120]))), rfl, ?_⟩
        refine ze 3 ⟨BL, b1, Oua, b3, by omega⟩ ?_
        simp only [List.set_cons_zero, List.set_cons_succ]
        refine zo1 5 rfl ?_
        refine xLit 14 30 5 1 _ #[(0, .int .u8 120)] [.int .u8 120] rfl (by kernel_rfl) (by kernel_rfl) ?_
        intro w12 n4
        have zn4 := n4.z
        have b14 := n4.c
        replace b14 : Blk .u8 w12 w11.heap.size 5 [120] := b14
        replace BL := BL.e0 n4.e
        replace b1 := b1.e0 n4.e
        replace Oua := Oua.e0 n4.e
        replace b3 := b3.e0 n4.e
        replace sb10 := sb10.e0 n4.e
        have sb14 : SL .u8 w12 (.slice (some ⟨w11.heap.size, 0, none⟩) 1 1) [120] := SL.ofBlk b14 rfl (by unfold maxLen; omega)
        have lb14 : ∀ i, Value.ownBlock (.slice (some ⟨w11.heap.size, 0, none⟩) 1 1) = some i → w11.heap.size ≤ i ∧ i < w12.heap.size := ownB_lit (by omega)
        refine ze 5 ⟨BL, b1, Oua, b3, by omega⟩ ?_
        simp only [List.set_cons_zero, List.set_cons_succ]
        refine zo1 6 rfl ?_
        refine xMark 15 30 5 (.tmp 14) rfl Try.underlying30 Try.underlying5 w11.heap.size 1 [120] (by kernel_rfl) b14 rfl (by unfold maxLen; omega) ?_
        intro w13 b14m e7 ze7
        have BL_ := BL.ev e7 (fun i h => show w.heap.size ≤ i by have h : i = w11.heap.size := h; omega)
        have b1_ := b1.ev e7 (show ¬ (w1.heap.size = w11.heap.size) by omega)
        have Oua_ := Oua.ev e7 (fun i hi => show ¬ (i = w11.heap.size) by have := lOua_1 i hi; omega)
        have b3_ := b3.ev e7 (show ¬ (w5.heap.size = w11.heap.size) by omega)
        have sb10_ := sb10.ev e7 (fun i hi => show ¬ (i = w11.heap.size) by have := lb10 i hi; omega)
        replace BL := BL_; clear BL_
        replace b1 := b1_; clear b1_
        replace Oua := Oua_; clear Oua_
        replace b3 := b3_; clear b3_
        replace sb10 := sb10_; clear sb10_
        replace sb14 := b14m; clear b14m b14 e7
        refine ze 6 ⟨BL, b1, Oua, b3, by omega⟩ ?_
        simp only [List.set_cons_zero, List.set_cons_succ]
        refine zo1 7 rfl ?_
        refine xCall 16 25 #[.pointer (some ⟨w1.heap.size, 0, none⟩), .slice (some ⟨w5.heap.size, 0, none⟩) 32 32, .slice (some ⟨w11.heap.size, 0, none⟩) 1 1] (by kernel_rfl) ?_
        refine (mac_any w1.heap.size tabL hTL w13 b1 (ofN tabL (List.replicate 65 170)) [120] _ _ (SL.ofBlk b3 (by rw [nn_len]; exact hol) (by unfold maxLen; omega)) (by omega) sb14 (by simp)).mono ?_
        rintro en w14 ⟨he, hb1⟩
        rw [mac_long (by simp)] at he
        subst he
        have e8 := belE0 hb1
        have ze8 := e8.size
        replace BL := BL.e0 e8
        replace b1 := b1.e0 e8
        replace Oua := Oua.e0 e8
        replace b3 := b3.e0 e8
        replace sb10 := sb10.e0 e8
        replace sb14 := sb14.e0 e8
        clear e8
        refine ⟨.agg (cellsOf .u8 (nn (macN tabL (List.replicate 65 170) [120]))), rfl, ?_⟩
        refine ze 7 ⟨BL, b1, Oua, b3, by omega⟩ ?_
        simp only [List.set_cons_zero, List.set_cons_succ]
        refine zv 8 17 (.bool true) (fun _ ⟨BL, b1, Oua, b3, z1⟩ => Val.eqA .eql 37 _ (.tmp 12) (.tmp 16) rfl Try.underlying37 Try.underlying5 (by kernel_rfl) (by kernel_rfl) (nn (macN tabL (List.replicate 65 170) [120])) (nn (macN tabL (List.replicate 65 170) [120])) (by kernel_rfl) (by kernel_rfl) (by rw [nn_len]; exact hml) (by rw [nn_len]; exact hml) (.inl rfl) true (by simp)) ⟨BL, b1, Oua, b3, by omega⟩ ?_
        simp only [List.set_cons_zero, List.set_cons_succ]
        refine zv 9 18 (.bool true) (fun _ _ => .of) ⟨BL, b1, Oua, b3, by omega⟩ ?_
        simp only [List.set_cons_zero, List.set_cons_succ]
        refine zv 12 21 (.agg (cellsOf .u32 (nn tabL))) (fun _ ⟨BL, b1, Oua, b3, z1⟩ => Val.blk 26 _ rfl 0 72 (by kernel_rfl) b1 _ Try.underlying26 rfl (by kernel_rfl) (by (try simp only [nn_len, List.length_cons, List.length_nil, List.length_set, List.length_replicate]); try omega) _ (seg_all' _ (by (try simp only [nn_len, List.length_cons, List.length_nil, List.length_set, List.length_replicate]); try omega))) ⟨BL, b1, Oua, b3, by omega⟩ ?_
        simp only [List.set_cons_zero, List.set_cons_succ]
        refine zo1 10 rfl ?_
        refine xCall 19 24 #[.int .u8 170, .int .i64 64] (by kernel_rfl) ?_
        refine (ofb_any 170 64 (by omega) (by omega) w14).mono ?_
        rintro en w15 ⟨ub, rfl, hO, hb1⟩
        have e9 := belE0 hb1
        have ze9 := e9.size
        replace BL := BL.e0 e9
        replace b1 := b1.e0 e9
        replace Oua := Oua.e0 e9
        replace b3 := b3.e0 e9
        replace sb10 := sb10.e0 e9
        replace sb14 := sb14.e0 e9
        clear e9
        have Oub : Own 5 .u8 w14.heap.size w15 ub (nn (List.replicate 64 170)) := hO
        have lOub_1 := Oub.ge
        refine ⟨ub, rfl, ?_⟩
        refine ze 10 ⟨BL, b1, Oua, b3, by omega⟩ ?_
        simp only [List.set_cons_zero, List.set_cons_succ]
        refine zo1 11 rfl ?_
        refine xCall 20 25 #[.pointer (some ⟨w1.heap.size, 0, none⟩), ub, .slice none 0 0] (by kernel_rfl) ?_
        refine (mac_any w1.heap.size tabL hTL w15 b1 (List.replicate 64 170) [] _ _ Oub.sl (by simp) (SL.nil _ _) (by simp)).mono ?_
        rintro en w16 ⟨rfl, hb1⟩
        have e10 := belE0 hb1
        have ze10 := e10.size
        replace BL := BL.e0 e10
        replace b1 := b1.e0 e10
        replace Oua := Oua.e0 e10
        replace b3 := b3.e0 e10
        replace sb10 := sb10.e0 e10
        replace sb14 := sb14.e0 e10
        replace Oub := Oub.e0 e10
        clear e10
        refine ⟨.agg (cellsOf .u8 (nn (macN tabL (List.replicate 64 170) []))), rfl, ?_⟩
        refine ze 11 ⟨BL, b1, Oua, b3, by omega⟩ ?_
        simp only [List.set_cons_zero, List.set_cons_succ]
        refine zo1 13 rfl ?_
        refine xCall 22 24 #[.int .u8 170, .int .i64 64] (by kernel_rfl) ?_
        refine (ofb_any 170 64 (by omega) (by omega) w16).mono ?_
        rintro en w17 ⟨uc, rfl, hO, hb1⟩
        have e11 := belE0 hb1
        have ze11 := e11.size
        replace BL := BL.e0 e11
        replace b1 := b1.e0 e11
        replace Oua := Oua.e0 e11
        replace b3 := b3.e0 e11
        replace sb10 := sb10.e0 e11
        replace sb14 := sb14.e0 e11
        replace Oub := Oub.e0 e11
        clear e11
        have Ouc : Own 5 .u8 w16.heap.size w17 uc (nn (List.replicate 64 170)) := hO
        have lOuc_1 := Ouc.ge
        refine ⟨uc, rfl, ?_⟩
        refine ze 13 ⟨BL, b1, Oua, b3, by omega⟩ ?_
        simp only [List.set_cons_zero, List.set_cons_succ]
        refine zo1 14 rfl ?_
        refine xCall 23 26 #[.agg (cellsOf .u32 (nn tabL)), uc, .slice none 0 0] (by kernel_rfl) ?_
        refine (rmac_any tabL hTL tabL_b w17 (List.replicate 64 170) [] _ _ (rep_b 64 170 (by omega)) (by simp) Ouc.sl (by simp) (SL.nil _ _) (by simp)).mono ?_
        rintro en w18 ⟨rfl, hb1⟩
        have e12 := belE0 hb1
        have ze12 := e12.size
        replace BL := BL.e0 e12
        replace b1 := b1.e0 e12
        replace Oua := Oua.e0 e12
        replace b3 := b3.e0 e12
        replace sb10 := sb10.e0 e12
        replace sb14 := sb14.e0 e12
        replace Oub := Oub.e0 e12
        replace Ouc := Ouc.e0 e12
        clear e12
        refine ⟨.agg (cellsOf .u8 (nn (macN tabL (List.replicate 64 170) []))), rfl, ?_⟩
        refine ze 14 ⟨BL, b1, Oua, b3, by omega⟩ ?_
        simp only [List.set_cons_zero, List.set_cons_succ]
        refine zv 15 24 (.bool true) (fun _ ⟨BL, b1, Oua, b3, z1⟩ => Val.eqA .eql 37 _ (.tmp 20) (.tmp 23) rfl Try.underlying37 Try.underlying5 (by kernel_rfl) (by kernel_rfl) (nn (macN tabL (List.replicate 64 170) [])) (nn (macN tabL (List.replicate 64 170) [])) (by kernel_rfl) (by kernel_rfl) (by rw [nn_len]; exact hm4) (by rw [nn_len]; exact hm4) (.inl rfl) true (by simp)) ⟨BL, b1, Oua, b3, by omega⟩ ?_
        simp only [List.set_cons_zero, List.set_cons_succ]
        refine zv 16 25 (.bool true) (fun _ _ => .of) ⟨BL, b1, Oua, b3, by omega⟩ ?_
        simp only [List.set_cons_zero, List.set_cons_succ]
        refine zv 17 4 (.bool true) (fun _ _ => .of) ⟨BL, b1, Oua, b3, by omega⟩ ?_
        simp only [List.set_cons_zero, List.set_cons_succ]
        refine zd (by kernel_rfl) ?_ _
        refine hK5 _ _ ?_
        refine wp_seq_k fun K6 hK6 => ?_
        refine cPlain ?_
        refine sv 26 (.bool true) .of ?_
        simp only [List.set_cons_zero, List.set_cons_succ]
        refine sv 27 (.bool true) .of ?_
        simp only [List.set_cons_zero, List.set_cons_succ]
        refine xCall 28 25 #[.pointer none, .slice none 0 0, .slice none 0 0] (by kernel_rfl) ?_
        refine (mac_nil [] _ _ w18 (SL.nil _ _) (by simp)).mono ?_
        rintro en w19 ⟨rfl, hb1⟩
        have e13 := belE0 hb1
        have ze13 := e13.size
        replace BL := BL.e0 e13
        replace b1 := b1.e0 e13
        replace Oua := Oua.e0 e13
        replace b3 := b3.e0 e13
        replace sb10 := sb10.e0 e13
        replace sb14 := sb14.e0 e13
        replace Oub := Oub.e0 e13
        replace Ouc := Ouc.e0 e13
        clear e13
        refine ⟨.agg (cellsOf .u8 (nn (List.replicate 32 0))), rfl, ?_⟩
        simp only [List.set_cons_zero, List.set_cons_succ]
        refine sv 29 (.agg (cellsOf .u8 (nn (List.replicate 32 0)))) .of ?_
        simp only [List.set_cons_zero, List.set_cons_succ]
        refine sv 30 (.bool true) (Val.eqA .eql 37 _ (.tmp 28) (.tmp 29) rfl Try.underlying37 Try.underlying5 (by kernel_rfl) (by kernel_rfl) (nn (List.replicate 32 0)) (nn (List.replicate 32 0)) (by kernel_rfl) (by kernel_rfl) (by rw [nn_len]; rfl) (by rw [nn_len]; rfl) (.inl rfl) true (by simp)) ?_
        simp only [List.set_cons_zero, List.set_cons_succ]
        refine sv 31 (.bool true) .of ?_
        simp only [List.set_cons_zero, List.set_cons_succ]
        refine sv 32 (.bool true) .of ?_
        simp only [List.set_cons_zero, List.set_cons_succ]
        refine xCall 33 27 #[.pointer none, .int .u8 1, .slice none 0 0] (by kernel_rfl) ?_
        refine (tagged_nil 1 _ [] [] w19 (.inl ⟨rfl, rfl⟩) trivial (by simp [blobsB])).mono ?_
        rintro en w20 ⟨rfl, hb1⟩
        have e14 := belE0 hb1
        have ze14 := e14.size
        replace BL := BL.e0 e14
        replace b1 := b1.e0 e14
        replace Oua := Oua.e0 e14
        replace b3 := b3.e0 e14
        replace sb10 := sb10.e0 e14
        replace sb14 := sb14.e0 e14
        replace Oub := Oub.e0 e14
        replace Ouc := Ouc.e0 e14
        clear e14
        refine ⟨.agg (cellsOf .u8 (nn (List.replicate 32 0))), rfl, ?_⟩
        simp only [List.set_cons_zero, List.set_cons_succ]
        refine sv 34 (.agg (cellsOf .u8 (nn (List.replicate 32 0)))) .of ?_
        simp only [List.set_cons_zero, List.set_cons_succ]
        refine sv 35 (.bool true) (Val.eqA .eql 37 _ (.tmp 33) (.tmp 34) rfl Try.underlying37 Try.underlying5 (by kernel_rfl) (by kernel_rfl) (nn (List.replicate 32 0)) (nn (List.replicate 32 0)) (by kernel_rfl) (by kernel_rfl) (by rw [nn_len]; rfl) (by rw [nn_len]; rfl) (.inl rfl) true (by simp)) ?_
        simp only [List.set_cons_zero, List.set_cons_succ]
        refine sv 36 (.bool true) .of ?_
        simp only [List.set_cons_zero, List.set_cons_succ]
        refine sv 37 (.bool true) .of ?_
        simp only [List.set_cons_zero, List.set_cons_succ]
        refine xCall 38 29 #[.int .u8 0, .slice none 0 0] (by kernel_rfl) ?_
        refine (mactext_any ((0 : Nat) : Int) _ [] (([] : List (List Nat)).map nn) w20 (.inl ⟨rfl, rfl⟩) w20.heap.size (by omega) trivial (by simp [blobsB])).mono ?_
        rintro en w21 ⟨u, rfl, hO, hb1⟩
        replace hO := hO.cast ((textN_nn 0 []).symm.trans (congrArg nn text00))
        have e15 := belE0 hb1
        have ze15 := e15.size
        replace BL := BL.e0 e15
        replace b1 := b1.e0 e15
        replace Oua := Oua.e0 e15
        replace b3 := b3.e0 e15
        replace sb10 := sb10.e0 e15
        replace sb14 := sb14.e0 e15
        replace Oub := Oub.e0 e15
        replace Ouc := Ouc.e0 e15
        clear e15
        have U : Own 5 .u8 w20.heap.size w21 u (nn [75, 0, 0]) := hO
        have lU_1 := U.ge
        refine ⟨u, rfl, ?_⟩
        simp only [List.set_cons_zero, List.set_cons_succ]
        refine xLit 39 30 5 3 _ #[(0, .int .u8 75), (1, .int .u8 0), (2, .int .u8 0)] [.int .u8 75, .int .u8 0, .int .u8 0] rfl (by kernel_rfl) (by kernel_rfl) ?_
        intro w22 n5
        have zn5 := n5.z
        have b39 := n5.c
        replace b39 : Blk .u8 w22 w21.heap.size 5 [75, 0, 0] := b39
        replace BL := BL.e0 n5.e
        replace b1 := b1.e0 n5.e
        replace Oua := Oua.e0 n5.e
        replace b3 := b3.e0 n5.e
        replace sb10 := sb10.e0 n5.e
        replace sb14 := sb14.e0 n5.e
        replace Oub := Oub.e0 n5.e
        replace Ouc := Ouc.e0 n5.e
        replace U := U.e0 n5.e
        have sb39 : SL .u8 w22 (.slice (some ⟨w21.heap.size, 0, none⟩) 3 3) [75, 0, 0] := SL.ofBlk b39 rfl (by unfold maxLen; omega)
        have lb39 : ∀ i, Value.ownBlock (.slice (some ⟨w21.heap.size, 0, none⟩) 3 3) = some i → w21.heap.size ≤ i ∧ i < w22.heap.size := ownB_lit (by omega)
        simp only [List.set_cons_zero, List.set_cons_succ]
        refine xCall 40 28 #[u, .slice (some ⟨w21.heap.size, 0, none⟩) 3 3] (by kernel_rfl) ?_
        refine (same_any _ _ (nn [75, 0, 0]) (nn [75, 0, 0]) w22 U.sl sb39 (bytes_nn (by decide)) (bytes_nn (by decide))).mono ?_
        rintro en w23 ⟨he, hw⟩
        rw [decide_eq_true rfl] at he
        subst he
        obtain rfl := (hw.symm).symm
        refine ⟨.bool true, rfl, ?_⟩
        simp only [List.set_cons_zero, List.set_cons_succ]
        refine sv 41 (.bool true) .of ?_
        simp only [List.set_cons_zero, List.set_cons_succ]
        refine sv 42 (.bool true) .of ?_
        simp only [List.set_cons_zero, List.set_cons_succ]
        refine xLit 43 30 5 0 _ #[] [] rfl (by kernel_rfl) (by kernel_rfl) ?_
        intro w24 n6
        have zn6 := n6.z
        have b43 := n6.c
        replace b43 : Blk .u8 w24 w22.heap.size 5 [] := b43
        replace BL := BL.e0 n6.e
        replace b1 := b1.e0 n6.e
        replace Oua := Oua.e0 n6.e
        replace b3 := b3.e0 n6.e
        replace sb10 := sb10.e0 n6.e
        replace sb14 := sb14.e0 n6.e
        replace Oub := Oub.e0 n6.e
        replace Ouc := Ouc.e0 n6.e
        replace U := U.e0 n6.e
        replace b39 := b39.e0 n6.e
        replace sb39 := sb39.e0 n6.e
        have sb43 : SL .u8 w24 (.slice (some ⟨w22.heap.size, 0, none⟩) 0 0) [] := SL.ofBlk b43 rfl (by unfold maxLen; omega)
        have lb43 : ∀ i, Value.ownBlock (.slice (some ⟨w22.heap.size, 0, none⟩) 0 0) = some i → w22.heap.size ≤ i ∧ i < w24.heap.size := ownB_lit (by omega)
        simp only [List.set_cons_zero, List.set_cons_succ]
        refine xCall 44 30 #[.slice none 0 0, .slice (some ⟨w22.heap.size, 0, none⟩) 0 0] (by kernel_rfl) ?_
        refine (macsame_any _ _ [] [] w24 (SL.nil _ _) sb43 (by decide) (by decide) (by simp) (by simp)).mono ?_
        rintro en w25 ⟨rfl, hb1⟩
        have e16 := belE0 hb1
        have ze16 := e16.size
        replace BL := BL.e0 e16
        replace b1 := b1.e0 e16
        replace Oua := Oua.e0 e16
        replace b3 := b3.e0 e16
        replace sb10 := sb10.e0 e16
        replace sb14 := sb14.e0 e16
        replace Oub := Oub.e0 e16
        replace Ouc := Ouc.e0 e16
        replace U := U.e0 e16
        replace b39 := b39.e0 e16
        replace sb39 := sb39.e0 e16
        replace b43 := b43.e0 e16
        replace sb43 := sb43.e0 e16
        clear e16
        refine ⟨.bool true, rfl, ?_⟩
        simp only [List.set_cons_zero, List.set_cons_succ]
        refine sv 45 (.bool true) .of ?_
        simp only [List.set_cons_zero, List.set_cons_succ]
        refine sv 46 (.bool true) .of ?_
        simp only [List.set_cons_zero, List.set_cons_succ]
        refine xLit 47 30 5 1 _ #[(0, .int .u8 0)] [.int .u8 0] rfl (by kernel_rfl) (by kernel_rfl) ?_
        intro w26 n7
        have zn7 := n7.z
        have b47 := n7.c
        replace b47 : Blk .u8 w26 w25.heap.size 5 [0] := b47
        replace BL := BL.e0 n7.e
        replace b1 := b1.e0 n7.e
        replace Oua := Oua.e0 n7.e
        replace b3 := b3.e0 n7.e
        replace sb10 := sb10.e0 n7.e
        replace sb14 := sb14.e0 n7.e
        replace Oub := Oub.e0 n7.e
        replace Ouc := Ouc.e0 n7.e
        replace U := U.e0 n7.e
        replace b39 := b39.e0 n7.e
        replace sb39 := sb39.e0 n7.e
        replace b43 := b43.e0 n7.e
        replace sb43 := sb43.e0 n7.e
        have sb47 : SL .u8 w26 (.slice (some ⟨w25.heap.size, 0, none⟩) 1 1) [0] := SL.ofBlk b47 rfl (by unfold maxLen; omega)
        have lb47 : ∀ i, Value.ownBlock (.slice (some ⟨w25.heap.size, 0, none⟩) 1 1) = some i → w25.heap.size ≤ i ∧ i < w26.heap.size := ownB_lit (by omega)
        simp only [List.set_cons_zero, List.set_cons_succ]
        refine xCall 48 30 #[.slice none 0 0, .slice (some ⟨w25.heap.size, 0, none⟩) 1 1] (by kernel_rfl) ?_
        refine (macsame_any _ _ [] [0] w26 (SL.nil _ _) sb47 (by decide) (by decide) (by simp) (by simp)).mono ?_
        rintro en w27 ⟨rfl, hb1⟩
        have e17 := belE0 hb1
        have ze17 := e17.size
        replace BL := BL.e0 e17
        replace b1 := b1.e0 e17
        replace Oua := Oua.e0 e17
        replace b3 := b3.e0 e17
        replace sb10 := sb10.e0 e17
        replace sb14 := sb14.e0 e17
        replace Oub := Oub.e0 e17
        replace Ouc := Ouc.e0 e17
        replace U := U.e0 e17
        replace b39 := b39.e0 e17
        replace sb39 := sb39.e0 e17
        replace b43 := b43.e0 e17
        replace sb43 := sb43.e0 e17
        replace b47 := b47.e0 e17
        replace sb47 := sb47.e0 e17
        clear e17
        refine ⟨.bool false, rfl, ?_⟩
        simp only [List.set_cons_zero, List.set_cons_succ]
        refine sv 49 (.bool true) .of ?_
        simp only [List.set_cons_zero, List.set_cons_succ]
        refine sv 50 (.bool true) .of ?_
        simp only [List.set_cons_zero, List.set_cons_succ]
        refine sv 51 (.bool true) .of ?_
        simp only [List.set_cons_zero, List.set_cons_succ]
        refine xCall 52 31 #[] (by kernel_rfl) ?_
        refine (awake03_any w27).mono ?_
        rintro en w28 ⟨rfl, hb1⟩
        have e18 := belE0 hb1
        have ze18 := e18.size
        replace BL := BL.e0 e18
        replace b1 := b1.e0 e18
        replace Oua := Oua.e0 e18
        replace b3 := b3.e0 e18
        replace sb10 := sb10.e0 e18
        replace sb14 := sb14.e0 e18
        replace Oub := Oub.e0 e18
        replace Ouc := Ouc.e0 e18
        replace U := U.e0 e18
        replace b39 := b39.e0 e18
        replace sb39 := sb39.e0 e18
        replace b43 := b43.e0 e18
        replace sb43 := sb43.e0 e18
        replace b47 := b47.e0 e18
        replace sb47 := sb47.e0 e18
        clear e18
        refine ⟨.bool true, rfl, ?_⟩
        simp only [List.set_cons_zero, List.set_cons_succ]
        refine sv 53 (.bool true) .of ?_
        simp only [List.set_cons_zero, List.set_cons_succ]
        refine sv 0 (.bool true) .of ?_
        simp only [List.set_cons_zero, List.set_cons_succ]
        refine wpList_nil ?_
        refine hK6 _ _ ?_
        refine wp_ret ?_
        (try simp only [Exit.then, Exit.inBlock])
        refine bodyPost_ret (v := .bool true) rT rfl ?_
        exact ⟨rfl, BL.b⟩
      · skip
        refine xLit 14 30 5 1 _ #[(0, .int .u8 120)] [.int .u8 120] rfl (by kernel_rfl) (by kernel_rfl) ?_
        intro w29 n8
        have zn8 := n8.z
        have b14 := n8.c
        replace b14 : Blk .u8 w29 w10.heap.size 5 [120] := b14
        replace BL := BL.e0 n8.e
        replace b1 := b1.e0 n8.e
        replace Oua := Oua.e0 n8.e
        replace b3 := b3.e0 n8.e
        replace sb10 := sb10.e0 n8.e
        have sb14 : SL .u8 w29 (.slice (some ⟨w10.heap.size, 0, none⟩) 1 1) [120] := SL.ofBlk b14 rfl (by unfold maxLen; omega)
        have lb14 : ∀ i, Value.ownBlock (.slice (some ⟨w10.heap.size, 0, none⟩) 1 1) = some i → w10.heap.size ≤ i ∧ i < w29.heap.size := ownB_lit (by omega)
        refine ze 5 ⟨BL, b1, Oua, b3, by omega⟩ ?_
        simp only [List.set_cons_zero, List.set_cons_succ]
        refine zo2 3 6 rfl rfl ?_ ?_
        · skip
          refine xCall 12 25 #[.pointer (some ⟨w1.heap.size, 0, none⟩), ua, .slice (some ⟨w8.heap.size, 0, none⟩) 1 1] (by kernel_rfl) ?_
          refine (mac_any w1.heap.size tabL hTL w29 b1 (List.replicate 65 170) [120] _ _ Oua.sl (by simp) sb10 (by simp)).mono ?_
          rintro en w30 ⟨rfl, hb1⟩
          have e19 := belE0 hb1
          have ze19 := e19.size
          replace BL := BL.e0 e19
          replace b1 := b1.e0 e19
          replace Oua := Oua.e0 e19
          replace b3 := b3.e0 e19
          replace sb10 := sb10.e0 e19
          replace b14 := b14.e0 e19
          replace sb14 := sb14.e0 e19
          clear e19
          refine ⟨.agg (cellsOf .u8 (nn (macN tabL (List.replicate 65 170) [120]))), rfl, ?_⟩
          refine ze 3 ⟨BL, b1, Oua, b3, by omega⟩ ?_
          simp only [List.set_cons_zero, List.set_cons_succ]
          refine zo1 6 rfl ?_
          refine xMark 15 30 5 (.tmp 14) rfl Try.underlying30 Try.underlying5 w10.heap.size 1 [120] (by kernel_rfl) b14 rfl (by unfold maxLen; omega) ?_
          intro w31 b14m e20 ze20
          have BL_ := BL.ev e20 (fun i h => show w.heap.size ≤ i by have h : i = w10.heap.size := h; omega)
          have b1_ := b1.ev e20 (show ¬ (w1.heap.size = w10.heap.size) by omega)
          have Oua_ := Oua.ev e20 (fun i hi => show ¬ (i = w10.heap.size) by have := lOua_1 i hi; omega)
          have b3_ := b3.ev e20 (show ¬ (w5.heap.size = w10.heap.size) by omega)
          have sb10_ := sb10.ev e20 (fun i hi => show ¬ (i = w10.heap.size) by have := lb10 i hi; omega)
          replace BL := BL_; clear BL_
          replace b1 := b1_; clear b1_
          replace Oua := Oua_; clear Oua_
          replace b3 := b3_; clear b3_
          replace sb10 := sb10_; clear sb10_
          replace sb14 := b14m; clear b14m b14 e20
          refine ze 6 ⟨BL, b1, Oua, b3, by omega⟩ ?_
          simp only [List.set_cons_zero, List.set_cons_succ]
          refine zo1 7 rfl ?_
          refine xCall 16 25 #[.pointer (some ⟨w1.heap.size, 0, none⟩), .slice (some ⟨w5.heap.size, 0, none⟩) 32 32, .slice (some ⟨w10.heap.size, 0, none⟩) 1 1] (by kernel_rfl) ?_
          refine (mac_any w1.heap.size tabL hTL w31 b1 (ofN tabL (List.replicate 65 170)) [120] _ _ (SL.ofBlk b3 (by rw [nn_len]; exact hol) (by unfold maxLen; omega)) (by omega) sb14 (by simp)).mono ?_
          rintro en w32 ⟨he, hb1⟩
          rw [mac_long (by simp)] at he
          subst he
          have e21 := belE0 hb1
          have ze21 := e21.size
          replace BL := BL.e0 e21
          replace b1 := b1.e0 e21
          replace Oua := Oua.e0 e21
          replace b3 := b3.e0 e21
          replace sb10 := sb10.e0 e21
          replace sb14 := sb14.e0 e21
          clear e21
          refine ⟨.agg (cellsOf .u8 (nn (macN tabL (List.replicate 65 170) [120]))), rfl, ?_⟩
          refine ze 7 ⟨BL, b1, Oua, b3, by omega⟩ ?_
          simp only [List.set_cons_zero, List.set_cons_succ]
          refine zv 8 17 (.bool true) (fun _ ⟨BL, b1, Oua, b3, z1⟩ => Val.eqA .eql 37 _ (.tmp 12) (.tmp 16) rfl Try.underlying37 Try.underlying5 (by kernel_rfl) (by kernel_rfl) (nn (macN tabL (List.replicate 65 170) [120])) (nn (macN tabL (List.replicate 65 170) [120])) (by kernel_rfl) (by kernel_rfl) (by rw [nn_len]; exact hml) (by rw [nn_len]; exact hml) (.inl rfl) true (by simp)) ⟨BL, b1, Oua, b3, by omega⟩ ?_
          simp only [List.set_cons_zero, List.set_cons_succ]
          refine zv 9 18 (.bool true) (fun _ _ => .of) ⟨BL, b1, Oua, b3, by omega⟩ ?_
          simp only [List.set_cons_zero, List.set_cons_succ]
          refine zv 12 21 (.agg (cellsOf .u32 (nn tabL))) (fun _ ⟨BL, b1, Oua, b3, z1⟩ => Val.blk 26 _ rfl 0 72 (by kernel_rfl) b1 _ Try.underlying26 rfl (by kernel_rfl) (by (try simp only [nn_len, List.length_cons, List.length_nil, List.length_set, List.length_replicate]); try omega) _ (seg_all' _ (by (try simp only [nn_len, List.length_cons, List.length_nil, List.length_set, List.length_replicate]); try omega))) ⟨BL, b1, Oua, b3, by omega⟩ ?_
          simp only [List.set_cons_zero, List.set_cons_succ]
          refine zo1 10 rfl ?_
          refine xCall 19 24 #[.int .u8 170, .int .i64 64] (by kernel_rfl) ?_
          refine (ofb_any 170 64 (by omega) (by omega) w32).mono ?_
          rintro en w33 ⟨ub, rfl, hO, hb1⟩
          have e22 := belE0 hb1
          have ze22 := e22.size
          replace BL := BL.e0 e22
          replace b1 := b1.e0 e22
          replace Oua := Oua.e0 e22
          replace b3 := b3.e0 e22
          replace sb10 := sb10.e0 e22
          replace sb14 := sb14.e0 e22
          clear e22
          have Oub : Own 5 .u8 w32.heap.size w33 ub (nn (List.replicate 64 170)) := hO
          have lOub_2 := Oub.ge
          refine ⟨ub, rfl, ?_⟩
          refine ze 10 ⟨BL, b1, Oua, b3, by omega⟩ ?_
          simp only [List.set_cons_zero, List.set_cons_succ]
          refine zo1 11 rfl ?_
          refine xCall 20 25 #[.pointer (some ⟨w1.heap.size, 0, none⟩), ub, .slice none 0 0] (by kernel_rfl) ?_
          refine (mac_any w1.heap.size tabL hTL w33 b1 (List.replicate 64 170) [] _ _ Oub.sl (by simp) (SL.nil _ _) (by simp)).mono ?_
          rintro en w34 ⟨rfl, hb1⟩
          have e23 := belE0 hb1
          have ze23 := e23.size
          replace BL := BL.e0 e23
          replace b1 := b1.e0 e23
          replace Oua := Oua.e0 e23
          replace b3 := b3.e0 e23
          replace sb10 := sb10.e0 e23
          replace sb14 := sb14.e0 e23
          replace Oub := Oub.e0 e23
          clear e23
          refine ⟨.agg (cellsOf .u8 (nn (macN tabL (List.replicate 64 170) []))), rfl, ?_⟩
          refine ze 11 ⟨BL, b1, Oua, b3, by omega⟩ ?_
          simp only [List.set_cons_zero, List.set_cons_succ]
          refine zo1 13 rfl ?_
          refine xCall 22 24 #[.int .u8 170, .int .i64 64] (by kernel_rfl) ?_
          refine (ofb_any 170 64 (by omega) (by omega) w34).mono ?_
          rintro en w35 ⟨uc, rfl, hO, hb1⟩
          have e24 := belE0 hb1
          have ze24 := e24.size
          replace BL := BL.e0 e24
          replace b1 := b1.e0 e24
          replace Oua := Oua.e0 e24
          replace b3 := b3.e0 e24
          replace sb10 := sb10.e0 e24
          replace sb14 := sb14.e0 e24
          replace Oub := Oub.e0 e24
          clear e24
          have Ouc : Own 5 .u8 w34.heap.size w35 uc (nn (List.replicate 64 170)) := hO
          have lOuc_2 := Ouc.ge
          refine ⟨uc, rfl, ?_⟩
          refine ze 13 ⟨BL, b1, Oua, b3, by omega⟩ ?_
          simp only [List.set_cons_zero, List.set_cons_succ]
          refine zo1 14 rfl ?_
          refine xCall 23 26 #[.agg (cellsOf .u32 (nn tabL)), uc, .slice none 0 0] (by kernel_rfl) ?_
          refine (rmac_any tabL hTL tabL_b w35 (List.replicate 64 170) [] _ _ (rep_b 64 170 (by omega)) (by simp) Ouc.sl (by simp) (SL.nil _ _) (by simp)).mono ?_
          rintro en w36 ⟨rfl, hb1⟩
          have e25 := belE0 hb1
          have ze25 := e25.size
          replace BL := BL.e0 e25
          replace b1 := b1.e0 e25
          replace Oua := Oua.e0 e25
          replace b3 := b3.e0 e25
          replace sb10 := sb10.e0 e25
          replace sb14 := sb14.e0 e25
          replace Oub := Oub.e0 e25
          replace Ouc := Ouc.e0 e25
          clear e25
          refine ⟨.agg (cellsOf .u8 (nn (macN tabL (List.replicate 64 170) []))), rfl, ?_⟩
          refine ze 14 ⟨BL, b1, Oua, b3, by omega⟩ ?_
          simp only [List.set_cons_zero, List.set_cons_succ]
          refine zv 15 24 (.bool true) (fun _ ⟨BL, b1, Oua, b3, z1⟩ => Val.eqA .eql 37 _ (.tmp 20) (.tmp 23) rfl Try.underlying37 Try.underlying5 (by kernel_rfl) (by kernel_rfl) (nn (macN tabL (List.replicate 64 170) [])) (nn (macN tabL (List.replicate 64 170) [])) (by kernel_rfl) (by kernel_rfl) (by rw [nn_len]; exact hm4) (by rw [nn_len]; exact hm4) (.inl rfl) true (by simp)) ⟨BL, b1, Oua, b3, by omega⟩ ?_
          simp only [List.set_cons_zero, List.set_cons_succ]
          refine zv 16 25 (.bool true) (fun _ _ => .of) ⟨BL, b1, Oua, b3, by omega⟩ ?_
          simp only [List.set_cons_zero, List.set_cons_succ]
          refine zv 17 4 (.bool true) (fun _ _ => .of) ⟨BL, b1, Oua, b3, by omega⟩ ?_
          simp only [List.set_cons_zero, List.set_cons_succ]
          refine zd (by kernel_rfl) ?_ _
          refine hK5 _ _ ?_
          refine wp_seq_k fun K7 hK7 => ?_
          refine cPlain ?_
          refine sv 26 (.bool true) .of ?_
          simp only [List.set_cons_zero, List.set_cons_succ]
          refine sv 27 (.bool true) .of ?_
          simp only [List.set_cons_zero, List.set_cons_succ]
          refine xCall 28 25 #[.pointer none, .slice none 0 0, .slice none 0 0] (by kernel_rfl) ?_
          refine (mac_nil [] _ _ w36 (SL.nil _ _) (by simp)).mono ?_
          rintro en w37 ⟨rfl, hb1⟩
          have e26 := belE0 hb1
          have ze26 := e26.size
          replace BL := BL.e0 e26
          replace b1 := b1.e0 e26
          replace Oua := Oua.e0 e26
          replace b3 := b3.e0 e26
          replace sb10 := sb10.e0 e26
          replace sb14 := sb14.e0 e26
          replace Oub := Oub.e0 e26
          replace Ouc := Ouc.e0 e26
          clear e26
          refine ⟨.agg (cellsOf .u8 (nn (List.replicate 32 0))), rfl, ?_⟩
          simp only [List.set_cons_zero, List.set_cons_succ]
          refine sv 29 (.agg (cellsOf .u8 (nn (List.replicate 32 0)))) .of ?_
          simp only [List.set_cons_zero, List.set_cons_succ]
          refine sv 30 (.bool true) (Val.eqA .eql 37 _ (.tmp 28) (.tmp 29) rfl Try.underlying37 Try.underlying5 (by kernel_rfl) (by kernel_rfl) (nn (List.replicate 32 0)) (nn (List.replicate 32 0)) (by kernel_rfl) (by kernel_rfl) (by rw [nn_len]; rfl) (by rw [nn_len]; rfl) (.inl rfl) true (by simp)) ?_
          simp only [List.set_cons_zero, List.set_cons_succ]
          refine sv 31 (.bool true) .of ?_
          simp only [List.set_cons_zero, List.set_cons_succ]
          refine sv 32 (.bool true) .of ?_
          simp only [List.set_cons_zero, List.set_cons_succ]
          refine xCall 33 27 #[.pointer none, .int .u8 1, .slice none 0 0] (by kernel_rfl) ?_
          refine (tagged_nil 1 _ [] [] w37 (.inl ⟨rfl, rfl⟩) trivial (by simp [blobsB])).mono ?_
          rintro en w38 ⟨rfl, hb1⟩
          have e27 := belE0 hb1
          have ze27 := e27.size
          replace BL := BL.e0 e27
          replace b1 := b1.e0 e27
          replace Oua := Oua.e0 e27
          replace b3 := b3.e0 e27
          replace sb10 := sb10.e0 e27
          replace sb14 := sb14.e0 e27
          replace Oub := Oub.e0 e27
          replace Ouc := Ouc.e0 e27
          clear e27
          refine ⟨.agg (cellsOf .u8 (nn (List.replicate 32 0))), rfl, ?_⟩
          simp only [List.set_cons_zero, List.set_cons_succ]
          refine sv 34 (.agg (cellsOf .u8 (nn (List.replicate 32 0)))) .of ?_
          simp only [List.set_cons_zero, List.set_cons_succ]
          refine sv 35 (.bool true) (Val.eqA .eql 37 _ (.tmp 33) (.tmp 34) rfl Try.underlying37 Try.underlying5 (by kernel_rfl) (by kernel_rfl) (nn (List.replicate 32 0)) (nn (List.replicate 32 0)) (by kernel_rfl) (by kernel_rfl) (by rw [nn_len]; rfl) (by rw [nn_len]; rfl) (.inl rfl) true (by simp)) ?_
          simp only [List.set_cons_zero, List.set_cons_succ]
          refine sv 36 (.bool true) .of ?_
          simp only [List.set_cons_zero, List.set_cons_succ]
          refine sv 37 (.bool true) .of ?_
          simp only [List.set_cons_zero, List.set_cons_succ]
          refine xCall 38 29 #[.int .u8 0, .slice none 0 0] (by kernel_rfl) ?_
          refine (mactext_any ((0 : Nat) : Int) _ [] (([] : List (List Nat)).map nn) w38 (.inl ⟨rfl, rfl⟩) w38.heap.size (by omega) trivial (by simp [blobsB])).mono ?_
          rintro en w39 ⟨u, rfl, hO, hb1⟩
          replace hO := hO.cast ((textN_nn 0 []).symm.trans (congrArg nn text00))
          have e28 := belE0 hb1
          have ze28 := e28.size
          replace BL := BL.e0 e28
          replace b1 := b1.e0 e28
          replace Oua := Oua.e0 e28
          replace b3 := b3.e0 e28
          replace sb10 := sb10.e0 e28
          replace sb14 := sb14.e0 e28
          replace Oub := Oub.e0 e28
          replace Ouc := Ouc.e0 e28
          clear e28
          have U : Own 5 .u8 w38.heap.size w39 u (nn [75, 0, 0]) := hO
          have lU_2 := U.ge
          refine ⟨u, rfl, ?_⟩
          simp only [List.set_cons_zero, List.set_cons_succ]
          refine xLit 39 30 5 3 _ #[(0, .int .u8 75), (1, .int .u8 0), (2, .int .u8 0)] [.int .u8 75, .int .u8 0, .int .u8 0] rfl (by kernel_rfl) (by kernel_rfl) ?_
          intro w40 n9
          have zn9 := n9.z
          have b39 := n9.c
          replace b39 : Blk .u8 w40 w39.heap.size 5 [75, 0, 0] := b39
          replace BL := BL.e0 n9.e
          replace b1 := b1.e0 n9.e
          replace Oua := Oua.e0 n9.e
          replace b3 := b3.e0 n9.e
          replace sb10 := sb10.e0 n9.e
          replace sb14 := sb14.e0 n9.e
          replace Oub := Oub.e0 n9.e
          replace Ouc := Ouc.e0 n9.e
          replace U := U.e0 n9.e
          have sb39 : SL .u8 w40 (.slice (some ⟨w39.heap.size, 0, none⟩) 3 3) [75, 0, 0] := SL.ofBlk b39 rfl (by unfold maxLen; omega)
          have lb39 : ∀ i, Value.ownBlock (.slice (some ⟨w39.heap.size, 0, none⟩) 3 3) = some i → w39.heap.size ≤ i ∧ i < w40.heap.size := ownB_lit (by omega)
          simp only [List.set_cons_zero, List.set_cons_succ]
          refine xCall 40 28 #[u, .slice (some ⟨w39.heap.size, 0, none⟩) 3 3] (by kernel_rfl) ?_
          refine (same_any _ _ (nn [75, 0, 0]) (nn [75, 0, 0]) w40 U.sl sb39 (bytes_nn (by decide)) (bytes_nn (by decide))).mono ?_
          rintro en w41 ⟨he, hw⟩
          rw [decide_eq_true rfl] at he
          subst he
          obtain rfl := (hw.symm).symm
          refine ⟨.bool true, rfl, ?_⟩
          simp only [List.set_cons_zero, List.set_cons_succ]
          refine sv 41 (.bool true) .of ?_
          simp only [List.set_cons_zero, List.set_cons_succ]
          refine sv 42 (.bool true) .of ?_
          simp only [List.set_cons_zero, List.set_cons_succ]
          refine xLit 43 30 5 0 _ #[] [] rfl (by kernel_rfl) (by kernel_rfl) ?_
          intro w42 n10
          have zn10 := n10.z
          have b43 := n10.c
          replace b43 : Blk .u8 w42 w40.heap.size 5 [] := b43
          replace BL := BL.e0 n10.e
          replace b1 := b1.e0 n10.e
          replace Oua := Oua.e0 n10.e
          replace b3 := b3.e0 n10.e
          replace sb10 := sb10.e0 n10.e
          replace sb14 := sb14.e0 n10.e
          replace Oub := Oub.e0 n10.e
          replace Ouc := Ouc.e0 n10.e
          replace U := U.e0 n10.e
          replace b39 := b39.e0 n10.e
          replace sb39 := sb39.e0 n10.e
          have sb43 : SL .u8 w42 (.slice (some ⟨w40.heap.size, 0, none⟩) 0 0) [] := SL.ofBlk b43 rfl (by unfold maxLen; omega)
          have lb43 : ∀ i, Value.ownBlock (.slice (some ⟨w40.heap.size, 0, none⟩) 0 0) = some i → w40.heap.size ≤ i ∧ i < w42.heap.size := ownB_lit (by omega)
          simp only [List.set_cons_zero, List.set_cons_succ]
          refine xCall 44 30 #[.slice none 0 0, .slice (some ⟨w40.heap.size, 0, none⟩) 0 0] (by kernel_rfl) ?_
          refine (macsame_any _ _ [] [] w42 (SL.nil _ _) sb43 (by decide) (by decide) (by simp) (by simp)).mono ?_
          rintro en w43 ⟨rfl, hb1⟩
          have e29 := belE0 hb1
          have ze29 := e29.size
          replace BL := BL.e0 e29
          replace b1 := b1.e0 e29
          replace Oua := Oua.e0 e29
          replace b3 := b3.e0 e29
          replace sb10 := sb10.e0 e29
          replace sb14 := sb14.e0 e29
          replace Oub := Oub.e0 e29
          replace Ouc := Ouc.e0 e29
          replace U := U.e0 e29
          replace b39 := b39.e0 e29
          replace sb39 := sb39.e0 e29
          replace b43 := b43.e0 e29
          replace sb43 := sb43.e0 e29
          clear e29
          refine ⟨.bool true, rfl, ?_⟩
          simp only [List.set_cons_zero, List.set_cons_succ]
          refine sv 45 (.bool true) .of ?_
          simp only [List.set_cons_zero, List.set_cons_succ]
          refine sv 46 (.bool true) .of ?_
          simp only [List.set_cons_zero, List.set_cons_succ]
          refine xLit 47 30 5 1 _ #[(0, .int .u8 0)] [.int .u8 0] rfl (by kernel_rfl) (by kernel_rfl) ?_
          intro w44 n11
          have zn11 := n11.z
          have b47 := n11.c
          replace b47 : Blk .u8 w44 w43.heap.size 5 [0] := b47
          replace BL := BL.e0 n11.e
          replace b1 := b1.e0 n11.e
          replace Oua := Oua.e0 n11.e
          replace b3 := b3.e0 n11.e
          replace sb10 := sb10.e0 n11.e
          replace sb14 := sb14.e0 n11.e
          replace Oub := Oub.e0 n11.e
          replace Ouc := Ouc.e0 n11.e
          replace U := U.e0 n11.e
          replace b39 := b39.e0 n11.e
          replace sb39 := sb39.e0 n11.e
          replace b43 := b43.e0 n11.e
          replace sb43 := sb43.e0 n11.e
          have sb47 : SL .u8 w44 (.slice (some ⟨w43.heap.size, 0, none⟩) 1 1) [0] := SL.ofBlk b47 rfl (by unfold maxLen; omega)
          have lb47 : ∀ i, Value.ownBlock (.slice (some ⟨w43.heap.size, 0, none⟩) 1 1) = some i → w43.heap.size ≤ i ∧ i < w44.heap.size := ownB_lit (by omega)
          simp only [List.set_cons_zero, List.set_cons_succ]
          refine xCall 48 30 #[.slice none 0 0, .slice (some ⟨w43.heap.size, 0, none⟩) 1 1] (by kernel_rfl) ?_
          refine (macsame_any _ _ [] [0] w44 (SL.nil _ _) sb47 (by decide) (by decide) (by simp) (by simp)).mono ?_
          rintro en w45 ⟨rfl, hb1⟩
          have e30 := belE0 hb1
          have ze30 := e30.size
          replace BL := BL.e0 e30
          replace b1 := b1.e0 e30
          replace Oua := Oua.e0 e30
          replace b3 := b3.e0 e30
          replace sb10 := sb10.e0 e30
          replace sb14 := sb14.e0 e30
          replace Oub := Oub.e0 e30
          replace Ouc := Ouc.e0 e30
          replace U := U.e0 e30
          replace b39 := b39.e0 e30
          replace sb39 := sb39.e0 e30
          replace b43 := b43.e0 e30
          replace sb43 := sb43.e0 e30
          replace b47 := b47.e0 e30
          replace sb47 := sb47.e0 e30
          clear e30
          refine ⟨.bool false, rfl, ?_⟩
          simp only [List.set_cons_zero, List.set_cons_succ]
          refine sv 49 (.bool true) .of ?_
          simp only [List.set_cons_zero, List.set_cons_succ]
          refine sv 50 (.bool true) .of ?_
          simp only [List.set_cons_zero, List.set_cons_succ]
          refine sv 51 (.bool true) .of ?_
          simp only [List.set_cons_zero, List.set_cons_succ]
          refine xCall 52 31 #[] (by kernel_rfl) ?_
          refine (awake03_any w45).mono ?_
          rintro en w46 ⟨rfl, hb1⟩
          have e31 := belE0 hb1
          have ze31 := e31.size
          replace BL := BL.e0 e31
          replace b1 := b1.e0 e31
          replace Oua := Oua.e0 e31
          replace b3 := b3.e0 e31
          replace sb10 := sb10.e0 e31
          replace sb14 := sb14.e0 e31
          replace Oub := Oub.e0 e31
          replace Ouc := Ouc.e0 e31
          replace U := U.e0 e31
          replace b39 := b39.e0 e31
          replace sb39 := sb39.e0 e31
          replace b43 := b43.e0 e31
          replace sb43 := sb43.e0 e31
          replace b47 := b47.e0 e31
          replace sb47 := sb47.e0 e31
          clear e31
          refine ⟨.bool true, rfl, ?_⟩
          simp only [List.set_cons_zero, List.set_cons_succ]
          refine sv 53 (.bool true) .of ?_
          simp only [List.set_cons_zero, List.set_cons_succ]
          refine sv 0 (.bool true) .of ?_
          simp only [List.set_cons_zero, List.set_cons_succ]
          refine wpList_nil ?_
          refine hK7 _ _ ?_
          refine wp_ret ?_
          (try simp only [Exit.then, Exit.inBlock])
          refine bodyPost_ret (v := .bool true) rT rfl ?_
          exact ⟨rfl, BL.b⟩
        · skip
          refine xMark 15 30 5 (.tmp 14) rfl Try.underlying30 Try.underlying5 w10.heap.size 1 [120] (by kernel_rfl) b14 rfl (by unfold maxLen; omega) ?_
          intro w47 b14m e32 ze32
          have BL_ := BL.ev e32 (fun i h => show w.heap.size ≤ i by have h : i = w10.heap.size := h; omega)
          have b1_ := b1.ev e32 (show ¬ (w1.heap.size = w10.heap.size) by omega)
          have Oua_ := Oua.ev e32 (fun i hi => show ¬ (i = w10.heap.size) by have := lOua_1 i hi; omega)
          have b3_ := b3.ev e32 (show ¬ (w5.heap.size = w10.heap.size) by omega)
          have sb10_ := sb10.ev e32 (fun i hi => show ¬ (i = w10.heap.size) by have := lb10 i hi; omega)
          replace BL := BL_; clear BL_
          replace b1 := b1_; clear b1_
          replace Oua := Oua_; clear Oua_
          replace b3 := b3_; clear b3_
          replace sb10 := sb10_; clear sb10_
          replace sb14 := b14m; clear b14m b14 e32
          refine ze 6 ⟨BL, b1, Oua, b3, by omega⟩ ?_
          simp only [List.set_cons_zero, List.set_cons_succ]
          refine zo1 3 rfl ?_
          refine xCall 12 25 #[.pointer (some ⟨w1.heap.size, 0, none⟩), ua, .slice (some ⟨w8.heap.size, 0, none⟩) 1 1] (by kernel_rfl) ?_
          refine (mac_any w1.heap.size tabL hTL w47 b1 (List.replicate 65 170) [120] _ _ Oua.sl (by simp) sb10 (by simp)).mono ?_
          rintro en w48 ⟨rfl, hb1⟩
          have e33 := belE0 hb1
          have ze33 := e33.size
          replace BL := BL.e0 e33
          replace b1 := b1.e0 e33
          replace Oua := Oua.e0 e33
          replace b3 := b3.e0 e33
          replace sb10 := sb10.e0 e33
          replace sb14 := sb14.e0 e33
          clear e33
          refine ⟨.agg (cellsOf .u8 (nn (macN tabL (List.replicate 65 170) [120]))), rfl, ?_⟩
          refine ze 3 ⟨BL, b1, Oua, b3, by omega⟩ ?_
          simp only [List.set_cons_zero, List.set_cons_succ]
          refine zo1 7 rfl ?_
          refine xCall 16 25 #[.pointer (some ⟨w1.heap.size, 0, none⟩), .slice (some ⟨w5.heap.size, 0, none⟩) 32 32, .slice (some ⟨w10.heap.size, 0, none⟩) 1 1] (by kernel_rfl) ?_
          refine (mac_any w1.heap.size tabL hTL w48 b1 (ofN tabL (List.replicate 65 170)) [120] _ _ (SL.ofBlk b3 (by rw [nn_len]; exact hol) (by unfold maxLen; omega)) (by omega) sb14 (by simp)).mono ?_
          rintro en w49 ⟨he, hb1⟩
          rw [mac_long (by simp)] at he
          subst he
          have e34 := belE0 hb1
          have ze34 := e34.size
          replace BL := BL.e0 e34
          replace b1 := b1.e0 e34
          replace Oua := Oua.e0 e34
          replace b3 := b3.e0 e34
          replace sb10 := sb10.e0 e34
          replace sb14 := sb14.e0 e34
          clear e34
          refine ⟨.agg (cellsOf .u8 (nn (macN tabL (List.replicate 65 170) [120]))), rfl, ?_⟩
          refine ze 7 ⟨BL, b1, Oua, b3, by omega⟩ ?_
          simp only [List.set_cons_zero, List.set_cons_succ]
          refine zv 8 17 (.bool true) (fun _ ⟨BL, b1, Oua, b3, z1⟩ => Val.eqA .eql 37 _ (.tmp 12) (.tmp 16) rfl Try.underlying37 Try.underlying5 (by kernel_rfl) (by kernel_rfl) (nn (macN tabL (List.replicate 65 170) [120])) (nn (macN tabL (List.replicate 65 170) [120])) (by kernel_rfl) (by kernel_rfl) (by rw [nn_len]; exact hml) (by rw [nn_len]; exact hml) (.inl rfl) true (by simp)) ⟨BL, b1, Oua, b3, by omega⟩ ?_
          simp only [List.set_cons_zero, List.set_cons_succ]
          refine zv 9 18 (.bool true) (fun _ _ => .of) ⟨BL, b1, Oua, b3, by omega⟩ ?_
          simp only [List.set_cons_zero, List.set_cons_succ]
          refine zv 12 21 (.agg (cellsOf .u32 (nn tabL))) (fun _ ⟨BL, b1, Oua, b3, z1⟩ => Val.blk 26 _ rfl 0 72 (by kernel_rfl) b1 _ Try.underlying26 rfl (by kernel_rfl) (by (try simp only [nn_len, List.length_cons, List.length_nil, List.length_set, List.length_replicate]); try omega) _ (seg_all' _ (by (try simp only [nn_len, List.length_cons, List.length_nil, List.length_set, List.length_replicate]); try omega))) ⟨BL, b1, Oua, b3, by omega⟩ ?_
          simp only [List.set_cons_zero, List.set_cons_succ]
          refine zo1 10 rfl ?_
          refine xCall 19 24 #[.int .u8 170, .int .i64 64] (by kernel_rfl) ?_
          refine (ofb_any 170 64 (by omega) (by omega) w49).mono ?_
          rintro en w50 ⟨ub, rfl, hO, hb1⟩
          have e35 := belE0 hb1
          have ze35 := e35.size
          replace BL := BL.e0 e35
          replace b1 := b1.e0 e35
          replace Oua := Oua.e0 e35
          replace b3 := b3.e0 e35
          replace sb10 := sb10.e0 e35
          replace sb14 := sb14.e0 e35
          clear e35
          have Oub : Own 5 .u8 w49.heap.size w50 ub (nn (List.replicate 64 170)) := hO
          have lOub_3 := Oub.ge
          refine ⟨ub, rfl, ?_⟩
          refine ze 10 ⟨BL, b1, Oua, b3, by omega⟩ ?_
          simp only [List.set_cons_zero, List.set_cons_succ]
          refine zo1 11 rfl ?_
          refine xCall 20 25 #[.pointer (some ⟨w1.heap.size, 0, none⟩), ub, .slice none 0 0] (by kernel_rfl) ?_
          refine (mac_any w1.heap.size tabL hTL w50 b1 (List.replicate 64 170) [] _ _ Oub.sl (by simp) (SL.nil _ _) (by simp)).mono ?_
          rintro en w51 ⟨rfl, hb1⟩
          have e36 := belE0 hb1
          have ze36 := e36.size
          replace BL := BL.e0 e36
          replace b1 := b1.e0 e36
          replace Oua := Oua.e0 e36
          replace b3 := b3.e0 e36
          replace sb10 := sb10.e0 e36
          replace sb14 := sb14.e0 e36
          replace Oub := Oub.e0 e36
          clear e36
          refine ⟨.agg (cellsOf .u8 (nn (macN tabL (List.replicate 64 170) []))), rfl, ?_⟩
          refine ze 11 ⟨BL, b1, Oua, b3, by omega⟩ ?_
          simp only [List.set_cons_zero, List.set_cons_succ]
          refine zo1 13 rfl ?_
          refine xCall 22 24 #[.int .u8 170, .int .i64 64] (by kernel_rfl) ?_
          refine (ofb_any 170 64 (by omega) (by omega) w51).mono ?_
          rintro en w52 ⟨uc, rfl, hO, hb1⟩
          have e37 := belE0 hb1
          have ze37 := e37.size
          replace BL := BL.e0 e37
          replace b1 := b1.e0 e37
          replace Oua := Oua.e0 e37
          replace b3 := b3.e0 e37
          replace sb10 := sb10.e0 e37
          replace sb14 := sb14.e0 e37
          replace Oub := Oub.e0 e37
          clear e37
          have Ouc : Own 5 .u8 w51.heap.size w52 uc (nn (List.replicate 64 170)) := hO
          have lOuc_3 := Ouc.ge
          refine ⟨uc, rfl, ?_⟩
          refine ze 13 ⟨BL, b1, Oua, b3, by omega⟩ ?_
          simp only [List.set_cons_zero, List.set_cons_succ]
          refine zo1 14 rfl ?_
          refine xCall 23 26 #[.agg (cellsOf .u32 (nn tabL)), uc, .slice none 0 0] (by kernel_rfl) ?_
          refine (rmac_any tabL hTL tabL_b w52 (List.replicate 64 170) [] _ _ (rep_b 64 170 (by omega)) (by simp) Ouc.sl (by simp) (SL.nil _ _) (by simp)).mono ?_
          rintro en w53 ⟨rfl, hb1⟩
          have e38 := belE0 hb1
          have ze38 := e38.size
          replace BL := BL.e0 e38
          replace b1 := b1.e0 e38
          replace Oua := Oua.e0 e38
          replace b3 := b3.e0 e38
          replace sb10 := sb10.e0 e38
          replace sb14 := sb14.e0 e38
          replace Oub := Oub.e0 e38
          replace Ouc := Ouc.e0 e38
          clear e38
          refine ⟨.agg (cellsOf .u8 (nn (macN tabL (List.replicate 64 170) []))), rfl, ?_⟩
          refine ze 14 ⟨BL, b1, Oua, b3, by omega⟩ ?_
          simp only [List.set_cons_zero, List.set_cons_succ]
          refine zv 15 24 (.bool true) (fun _ ⟨BL, b1, Oua, b3, z1⟩ => Val.eqA .eql 37 _ (.tmp 20) (.tmp 23) rfl Try.underlying37 Try.underlying5 (by kernel_rfl) (by kernel_rfl) (nn (macN tabL (List.replicate 64 170) [])) (nn (macN tabL (List.replicate 64 170) [])) (by kernel_rfl) (by kernel_rfl) (by rw [nn_len]; exact hm4) (by rw [nn_len]; exact hm4) (.inl rfl) true (by simp)) ⟨BL, b1, Oua, b3, by omega⟩ ?_
          simp only [List.set_cons_zero, List.set_cons_succ]
          refine zv 16 25 (.bool true) (fun _ _ => .of) ⟨BL, b1, Oua, b3, by omega⟩ ?_
          simp only [List.set_cons_zero, List.set_cons_succ]
          refine zv 17 4 (.bool true) (fun _ _ => .of) ⟨BL, b1, Oua, b3, by omega⟩ ?_
          simp only [List.set_cons_zero, List.set_cons_succ]
          refine zd (by kernel_rfl) ?_ _
          refine hK5 _ _ ?_
          refine wp_seq_k fun K8 hK8 => ?_
          refine cPlain ?_
          refine sv 26 (.bool true) .of ?_
          simp only [List.set_cons_zero, List.set_cons_succ]
          refine sv 27 (.bool true) .of ?_
          simp only [List.set_cons_zero, List.set_cons_succ]
          refine xCall 28 25 #[.pointer none, .slice none 0 0, .slice none 0 0] (by kernel_rfl) ?_
          refine (mac_nil [] _ _ w53 (SL.nil _ _) (by simp)).mono ?_
          rintro en w54 ⟨rfl, hb1⟩
          have e39 := belE0 hb1
          have ze39 := e39.size
          replace BL := BL.e0 e39
          replace b1 := b1.e0 e39
          replace Oua := Oua.e0 e39
          replace b3 := b3.e0 e39
          replace sb10 := sb10.e0 e39
          replace sb14 := sb14.e0 e39
          replace Oub := Oub.e0 e39
          replace Ouc := Ouc.e0 e39
          clear e39
          refine ⟨.agg (cellsOf .u8 (nn (List.replicate 32 0))), rfl, ?_⟩
          simp only [List.set_cons_zero, List.set_cons_succ]
          refine sv 29 (.agg (cellsOf .u8 (nn (List.replicate 32 0)))) .of ?_
          simp only [List.set_cons_zero, List.set_cons_succ]
          refine sv 30 (.bool true) (Val.eqA .eql 37 _ (.tmp 28) (.tmp 29) rfl Try.underlying37 Try.underlying5 (by kernel_rfl) (by kernel_rfl) (nn (List.replicate 32 0)) (nn (List.replicate 32 0)) (by kernel_rfl) (by kernel_rfl) (by rw [nn_len]; rfl) (by rw [nn_len]; rfl) (.inl rfl) true (by simp)) ?_
          simp only [List.set_cons_zero, List.set_cons_succ]
          refine sv 31 (.bool true) .of ?_
          simp only [List.set_cons_zero, List.set_cons_succ]
          refine sv 32 (.bool true) .of ?_
          simp only [List.set_cons_zero, List.set_cons_succ]
          refine xCall 33 27 #[.pointer none, .int .u8 1, .slice none 0 0] (by kernel_rfl) ?_
          refine (tagged_nil 1 _ [] [] w54 (.inl ⟨rfl, rfl⟩) trivial (by simp [blobsB])).mono ?_
          rintro en w55 ⟨rfl, hb1⟩
          have e40 := belE0 hb1
          have ze40 := e40.size
          replace BL := BL.e0 e40
          replace b1 := b1.e0 e40
          replace Oua := Oua.e0 e40
          replace b3 := b3.e0 e40
          replace sb10 := sb10.e0 e40
          replace sb14 := sb14.e0 e40
          replace Oub := Oub.e0 e40
          replace Ouc := Ouc.e0 e40
          clear e40
          refine ⟨.agg (cellsOf .u8 (nn (List.replicate 32 0))), rfl, ?_⟩
          simp only [List.set_cons_zero, List.set_cons_succ]
          refine sv 34 (.agg (cellsOf .u8 (nn (List.replicate 32 0)))) .of ?_
          simp only [List.set_cons_zero, List.set_cons_succ]
          refine sv 35 (.bool true) (Val.eqA .eql 37 _ (.tmp 33) (.tmp 34) rfl Try.underlying37 Try.underlying5 (by kernel_rfl) (by kernel_rfl) (nn (List.replicate 32 0)) (nn (List.replicate 32 0)) (by kernel_rfl) (by kernel_rfl) (by rw [nn_len]; rfl) (by rw [nn_len]; rfl) (.inl rfl) true (by simp)) ?_
          simp only [List.set_cons_zero, List.set_cons_succ]
          refine sv 36 (.bool true) .of ?_
          simp only [List.set_cons_zero, List.set_cons_succ]
          refine sv 37 (.bool true) .of ?_
          simp only [List.set_cons_zero, List.set_cons_succ]
          refine xCall 38 29 #[.int .u8 0, .slice none 0 0] (by kernel_rfl) ?_
          refine (mactext_any ((0 : Nat) : Int) _ [] (([] : List (List Nat)).map nn) w55 (.inl ⟨rfl, rfl⟩) w55.heap.size (by omega) trivial (by simp [blobsB])).mono ?_
          rintro en w56 ⟨u, rfl, hO, hb1⟩
          replace hO := hO.cast ((textN_nn 0 []).symm.trans (congrArg nn text00))
          have e41 := belE0 hb1
          have ze41 := e41.size
          replace BL := BL.e0 e41
          replace b1 := b1.e0 e41
          replace Oua := Oua.e0 e41
          replace b3 := b3.e0 e41
          replace sb10 := sb10.e0 e41
          replace sb14 := sb14.e0 e41
          replace Oub := Oub.e0 e41
          replace Ouc := Ouc.e0 e41
          clear e41
          have U : Own 5 .u8 w55.heap.size w56 u (nn [75, 0, 0]) := hO
          have lU_3 := U.ge
          refine ⟨u, rfl, ?_⟩
          simp only [List.set_cons_zero, List.set_cons_succ]
          refine xLit 39 30 5 3 _ #[(0, .int .u8 75), (1, .int .u8 0), (2, .int .u8 0)] [.int .u8 75, .int .u8 0, .int .u8 0] rfl (by kernel_rfl) (by kernel_rfl) ?_
          intro w57 n12
          have zn12 := n12.z
          have b39 := n12.c
          replace b39 : Blk .u8 w57 w56.heap.size 5 [75, 0, 0] := b39
          replace BL := BL.e0 n12.e
          replace b1 := b1.e0 n12.e
          replace Oua := Oua.e0 n12.e
          replace b3 := b3.e0 n12.e
          replace sb10 := sb10.e0 n12.e
          replace sb14 := sb14.e0 n12.e
          replace Oub := Oub.e0 n12.e
          replace Ouc := Ouc.e0 n12.e
          replace U := U.e0 n12.e
          have sb39 : SL .u8 w57 (.slice (some ⟨w56.heap.size, 0, none⟩) 3 3) [75, 0, 0] := SL.ofBlk b39 rfl (by unfold maxLen; omega)
          have lb39 : ∀ i, Value.ownBlock (.slice (some ⟨w56.heap.size, 0, none⟩) 3 3) = some i → w56.heap.size ≤ i ∧ i < w57.heap.size := ownB_lit (by omega)
          simp only [List.set_cons_zero, List.set_cons_succ]
          refine xCall 40 28 #[u, .slice (some ⟨w56.heap.size, 0, none⟩) 3 3] (by kernel_rfl) ?_
          refine (same_any _ _ (nn [75, 0, 0]) (nn [75, 0, 0]) w57 U.sl sb39 (bytes_nn (by decide)) (bytes_nn (by decide))).mono ?_
          rintro en w58 ⟨he, hw⟩
          rw [decide_eq_true rfl] at he
          subst he
          obtain rfl := (hw.symm).symm
          refine ⟨.bool true, rfl, ?_⟩
          simp only [List.set_cons_zero, List.set_cons_succ]
          refine sv 41 (.bool true) .of ?_
          simp only [List.set_cons_zero, List.set_cons_succ]
          refine sv 42 (.bool true) .of ?_
          simp only [List.set_cons_zero, List.set_cons_succ]
          refine xLit 43 30 5 0 _ #[] [] rfl (by kernel_rfl) (by kernel_rfl) ?_
          intro w59 n13
          have zn13 := n13.z
          have b43 := n13.c
          replace b43 : Blk .u8 w59 w57.heap.size 5 [] := b43
          replace BL := BL.e0 n13.e
          replace b1 := b1.e0 n13.e
          replace Oua := Oua.e0 n13.e
          replace b3 := b3.e0 n13.e
          replace sb10 := sb10.e0 n13.e
          replace sb14 := sb14.e0 n13.e
          replace Oub := Oub.e0 n13.e
          replace Ouc := Ouc.e0 n13.e
          replace U := U.e0 n13.e
          replace b39 := b39.e0 n13.e
          replace sb39 := sb39.e0 n13.e
          have sb43 : SL .u8 w59 (.slice (some ⟨w57.heap.size, 0, none⟩) 0 0) [] := SL.ofBlk b43 rfl (by unfold maxLen; omega)
          have lb43 : ∀ i, Value.ownBlock (.slice (some ⟨w57.heap.size, 0, none⟩) 0 0) = some i → w57.heap.size ≤ i ∧ i < w59.heap.size := ownB_lit (by omega)
          simp only [List.set_cons_zero, List.set_cons_succ]
          refine xCall 44 30 #[.slice none 0 0, .slice (some ⟨w57.heap.size, 0, none⟩) 0 0] (by kernel_rfl) ?_
          refine (macsame_any _ _ [] [] w59 (SL.nil _ _) sb43 (by decide) (by decide) (by simp) (by simp)).mono ?_
          rintro en w60 ⟨rfl, hb1⟩
          have e42 := belE0 hb1
          have ze42 := e42.size
          replace BL := BL.e0 e42
          replace b1 := b1.e0 e42
          replace Oua := Oua.e0 e42
          replace b3 := b3.e0 e42
          replace sb10 := sb10.e0 e42
          replace sb14 := sb14.e0 e42
          replace Oub := Oub.e0 e42
          replace Ouc := Ouc.e0 e42
          replace U := U.e0 e42
          replace b39 := b39.e0 e42
          replace sb39 := sb39.e0 e42
          replace b43 := b43.e0 e42
          replace sb43 := sb43.e0 e42
          clear e42
          refine ⟨.bool true, rfl, ?_⟩
          simp only [List.set_cons_zero, List.set_cons_succ]
          refine sv 45 (.bool true) .of ?_
          simp only [List.set_cons_zero, List.set_cons_succ]
          refine sv 46 (.bool true) .of ?_
          simp only [List.set_cons_zero, List.set_cons_succ]
          refine xLit 47 30 5 1 _ #[(0, .int .u8 0)] [.int .u8 0] rfl (by kernel_rfl) (by kernel_rfl) ?_
          intro w61 n14
          have zn14 := n14.z
          have b47 := n14.c
          replace b47 : Blk .u8 w61 w60.heap.size 5 [0] := b47
          replace BL := BL.e0 n14.e
          replace b1 := b1.e0 n14.e
          replace Oua := Oua.e0 n14.e
          replace b3 := b3.e0 n14.e
          replace sb10 := sb10.e0 n14.e
          replace sb14 := sb14.e0 n14.e
          replace Oub := Oub.e0 n14.e
          replace Ouc := Ouc.e0 n14.e
          replace U := U.e0 n14.e
          replace b39 := b39.e0 n14.e
          replace sb39 := sb39.e0 n14.e
          replace b43 := b43.e0 n14.e
          replace sb43 := sb43.e0 n14.e
          have sb47 : SL .u8 w61 (.slice (some ⟨w60.heap.size, 0, none⟩) 1 1) [0] := SL.ofBlk b47 rfl (by unfold maxLen; omega)
          have lb47 : ∀ i, Value.ownBlock (.slice (some ⟨w60.heap.size, 0, none⟩) 1 1) = some i → w60.heap.size ≤ i ∧ i < w61.heap.size := ownB_lit (by omega)
          simp only [List.set_cons_zero, List.set_cons_succ]
          refine xCall 48 30 #[.slice none 0 0, .slice (some ⟨w60.heap.size, 0, none⟩) 1 1] (by kernel_rfl) ?_
          refine (macsame_any _ _ [] [0] w61 (SL.nil _ _) sb47 (by decide) (by decide) (by simp) (by simp)).mono ?_
          rintro en w62 ⟨rfl, hb1⟩
          have e43 := belE0 hb1
          have ze43 := e43.size
          replace BL := BL.e0 e43
          replace b1 := b1.e0 e43
          replace Oua := Oua.e0 e43
          replace b3 := b3.e0 e43
          replace sb10 := sb10.e0 e43
          replace sb14 := sb14.e0 e43
          replace Oub := Oub.e0 e43
          replace Ouc := Ouc.e0 e43
          replace U := U.e0 e43
          replace b39 := b39.e0 e43
          replace sb39 := sb39.e0 e43
          replace b43 := b43.e0 e43
          replace sb43 := sb43.e0 e43
          replace b47 := b47.e0 e43
          replace sb47 := sb47.e0 e43
          clear e43
          refine ⟨.bool false, rfl, ?_⟩
          simp only [List.set_cons_zero, List.set_cons_succ]
          refine sv 49 (.bool true) .of ?_
          simp only [List.set_cons_zero, List.set_cons_succ]
          refine sv 50 (.bool true) .of ?_
          simp only [List.set_cons_zero, List.set_cons_succ]
          refine sv 51 (.bool true) .of ?_
          simp only [List.set_cons_zero, List.set_cons_succ]
          refine xCall 52 31 #[] (by kernel_rfl) ?_
          refine (awake03_any w62).mono ?_
          rintro en w63 ⟨rfl, hb1⟩
          have e44 := belE0 hb1
          have ze44 := e44.size
          replace BL := BL.e0 e44
          replace b1 := b1.e0 e44
          replace Oua := Oua.e0 e44
          replace b3 := b3.e0 e44
          replace sb10 := sb10.e0 e44
          replace sb14 := sb14.e0 e44
          replace Oub := Oub.e0 e44
          replace Ouc := Ouc.e0 e44
          replace U := U.e0 e44
          replace b39 := b39.e0 e44
          replace sb39 := sb39.e0 e44
          replace b43 := b43.e0 e44
          replace sb43 := sb43.e0 e44
          replace b47 := b47.e0 e44
          replace sb47 := sb47.e0 e44
          clear e44
          refine ⟨.bool true, rfl, ?_⟩
          simp only [List.set_cons_zero, List.set_cons_succ]
          refine sv 53 (.bool true) .of ?_
          simp only [List.set_cons_zero, List.set_cons_succ]
          refine sv 0 (.bool true) .of ?_
          simp only [List.set_cons_zero, List.set_cons_succ]
          refine wpList_nil ?_
          refine hK8 _ _ ?_
          refine wp_ret ?_
          (try simp only [Exit.then, Exit.inBlock])
          refine bodyPost_ret (v := .bool true) rT rfl ?_
          exact ⟨rfl, BL.b⟩
    · skip
      refine xLit 14 30 5 1 _ #[(0, .int .u8 120)] [.int .u8 120] rfl (by kernel_rfl) (by kernel_rfl) ?_
      intro w64 n15
      have zn15 := n15.z
      have b14 := n15.c
      replace b14 : Blk .u8 w64 w9.heap.size 5 [120] := b14
      replace BL := BL.e0 n15.e
      replace b1 := b1.e0 n15.e
      replace Oua := Oua.e0 n15.e
      replace b3 := b3.e0 n15.e
      replace b10 := b10.e0 n15.e
      replace sb10 := sb10.e0 n15.e
      have sb14 : SL .u8 w64 (.slice (some ⟨w9.heap.size, 0, none⟩) 1 1) [120] := SL.ofBlk b14 rfl (by unfold maxLen; omega)
      have lb14 : ∀ i, Value.ownBlock (.slice (some ⟨w9.heap.size, 0, none⟩) 1 1) = some i → w9.heap.size ≤ i ∧ i < w64.heap.size := ownB_lit (by omega)
      refine ze 5 ⟨BL, b1, Oua, b3, by omega⟩ ?_
      simp only [List.set_cons_zero, List.set_cons_succ]
      refine zo2 2 6 rfl rfl ?_ ?_
      · skip
        refine xMark 11 30 5 (.tmp 10) rfl Try.underlying30 Try.underlying5 w8.heap.size 1 [120] (by kernel_rfl) b10 rfl (by unfold maxLen; omega) ?_
        intro w65 b10m e45 ze45
        have BL_ := BL.ev e45 (fun i h => show w.heap.size ≤ i by have h : i = w8.heap.size := h; omega)
        have b1_ := b1.ev e45 (show ¬ (w1.heap.size = w8.heap.size) by omega)
        have Oua_ := Oua.ev e45 (fun i hi => show ¬ (i = w8.heap.size) by have := lOua_1 i hi; omega)
        have b3_ := b3.ev e45 (show ¬ (w5.heap.size = w8.heap.size) by omega)
        have b14_ := b14.ev e45 (show ¬ (w9.heap.size = w8.heap.size) by omega)
        have sb14_ := sb14.ev e45 (fun i hi => show ¬ (i = w8.heap.size) by have := lb14 i hi; omega)
        replace BL := BL_; clear BL_
        replace b1 := b1_; clear b1_
        replace Oua := Oua_; clear Oua_
        replace b3 := b3_; clear b3_
        replace b14 := b14_; clear b14_
        replace sb14 := sb14_; clear sb14_
        replace sb10 := b10m; clear b10m b10 e45
        refine ze 2 ⟨BL, b1, Oua, b3, by omega⟩ ?_
        simp only [List.set_cons_zero, List.set_cons_succ]
        refine zo2 3 6 rfl rfl ?_ ?_
        · skip
          refine xCall 12 25 #[.pointer (some ⟨w1.heap.size, 0, none⟩), ua, .slice (some ⟨w8.heap.size, 0, none⟩) 1 1] (by kernel_rfl) ?_
          refine (mac_any w1.heap.size tabL hTL w65 b1 (List.replicate 65 170) [120] _ _ Oua.sl (by simp) sb10 (by simp)).mono ?_
          rintro en w66 ⟨rfl, hb1⟩
          have e46 := belE0 hb1
          have ze46 := e46.size
          replace BL := BL.e0 e46
          replace b1 := b1.e0 e46
          replace Oua := Oua.e0 e46
          replace b3 := b3.e0 e46
          replace b14 := b14.e0 e46
          replace sb14 := sb14.e0 e46
          replace sb10 := sb10.e0 e46
          clear e46
          refine ⟨.agg (cellsOf .u8 (nn (macN tabL (List.replicate 65 170) [120]))), rfl, ?_⟩
          refine ze 3 ⟨BL, b1, Oua, b3, by omega⟩ ?_
          simp only [List.set_cons_zero, List.set_cons_succ]
          refine zo1 6 rfl ?_
          refine xMark 15 30 5 (.tmp 14) rfl Try.underlying30 Try.underlying5 w9.heap.size 1 [120] (by kernel_rfl) b14 rfl (by unfold maxLen; omega) ?_
          intro w67 b14m e47 ze47
          have BL_ := BL.ev e47 (fun i h => show w.heap.size ≤ i by have h : i = w9.heap.size := h; omega)
          have b1_ := b1.ev e47 (show ¬ (w1.heap.size = w9.heap.size) by omega)
          have Oua_ := Oua.ev e47 (fun i hi => show ¬ (i = w9.heap.size) by have := lOua_1 i hi; omega)
          have b3_ := b3.ev e47 (show ¬ (w5.heap.size = w9.heap.size) by omega)
          have sb10_ := sb10.ev e47 (fun i hi => show ¬ (i = w9.heap.size) by have := lb10 i hi; omega)
          replace BL := BL_; clear BL_
          replace b1 := b1_; clear b1_
          replace Oua := Oua_; clear Oua_
          replace b3 := b3_; clear b3_
          replace sb10 := sb10_; clear sb10_
          replace sb14 := b14m; clear b14m b14 e47
          refine ze 6 ⟨BL, b1, Oua, b3, by omega⟩ ?_
          simp only [List.set_cons_zero, List.set_cons_succ]
          refine zo1 7 rfl ?_
          refine xCall 16 25 #[.pointer (some ⟨w1.heap.size, 0, none⟩), .slice (some ⟨w5.heap.size, 0, none⟩) 32 32, .slice (some ⟨w9.heap.size, 0, none⟩) 1 1] (by kernel_rfl) ?_
          refine (mac_any w1.heap.size tabL hTL w67 b1 (ofN tabL (List.replicate 65 170)) [120] _ _ (SL.ofBlk b3 (by rw [nn_len]; exact hol) (by unfold maxLen; omega)) (by omega) sb14 (by simp)).mono ?_
          rintro en w68 ⟨he, hb1⟩
          rw [mac_long (by simp)] at he
          subst he
          have e48 := belE0 hb1
          have ze48 := e48.size
          replace BL := BL.e0 e48
          replace b1 := b1.e0 e48
          replace Oua := Oua.e0 e48
          replace b3 := b3.e0 e48
          replace sb10 := sb10.e0 e48
          replace sb14 := sb14.e0 e48
          clear e48
          refine ⟨.agg (cellsOf .u8 (nn (macN tabL (List.replicate 65 170) [120]))), rfl, ?_⟩
          refine ze 7 ⟨BL, b1, Oua, b3, by omega⟩ ?_
          simp only [List.set_cons_zero, List.set_cons_succ]
          refine zv 8 17 (.bool true) (fun _ ⟨BL, b1, Oua, b3, z1⟩ => Val.eqA .eql 37 _ (.tmp 12) (.tmp 16) rfl Try.underlying37 Try.underlying5 (by kernel_rfl) (by kernel_rfl) (nn (macN tabL (List.replicate 65 170) [120])) (nn (macN tabL (List.replicate 65 170) [120])) (by kernel_rfl) (by kernel_rfl) (by rw [nn_len]; exact hml) (by rw [nn_len]; exact hml) (.inl rfl) true (by simp)) ⟨BL, b1, Oua, b3, by omega⟩ ?_
          simp only [List.set_cons_zero, List.set_cons_succ]
          refine zv 9 18 (.bool true) (fun _ _ => .of) ⟨BL, b1, Oua, b3, by omega⟩ ?_
          simp only [List.set_cons_zero, List.set_cons_succ]
          refine zv 12 21 (.agg (cellsOf .u32 (nn tabL))) (fun _ ⟨BL, b1, Oua, b3, z1⟩ => Val.blk 26 _ rfl 0 72 (by kernel_rfl) b1 _ Try.underlying26 rfl (by kernel_rfl) (by (try simp only [nn_len, List.length_cons, List.length_nil, List.length_set, List.length_replicate]); try omega) _ (seg_all' _ (by (try simp only [nn_len, List.length_cons, List.length_nil, List.length_set, List.length_replicate]); try omega))) ⟨BL, b1, Oua, b3, by omega⟩ ?_
          simp only [List.set_cons_zero, List.set_cons_succ]
          refine zo1 10 rfl ?_
          refine xCall 19 24 #[.int .u8 170, .int .i64 64] (by kernel_rfl) ?_
          refine (ofb_any 170 64 (by omega) (by omega) w68).mono ?_
          rintro en w69 ⟨ub, rfl, hO, hb1⟩
          have e49 := belE0 hb1
          have ze49 := e49.size
          replace BL := BL.e0 e49
          replace b1 := b1.e0 e49
          replace Oua := Oua.e0 e49
          replace b3 := b3.e0 e49
          replace sb10 := sb10.e0 e49
          replace sb14 := sb14.e0 e49
          clear e49
          have Oub : Own 5 .u8 w68.heap.size w69 ub (nn (List.replicate 64 170)) := hO
          have lOub_4 := Oub.ge
          refine ⟨ub, rfl, ?_⟩
          refine ze 10 ⟨BL, b1, Oua, b3, by omega⟩ ?_
          simp only [List.set_cons_zero, List.set_cons_succ]
          refine zo1 11 rfl ?_
          refine xCall 20 25 #[.pointer (some ⟨w1.heap.size, 0, none⟩), ub, .slice none 0 0] (by kernel_rfl) ?_
          refine (mac_any w1.heap.size tabL hTL w69 b1 (List.replicate 64 170) [] _ _ Oub.sl (by simp) (SL.nil _ _) (by simp)).mono ?_
          rintro en w70 ⟨rfl, hb1⟩
          have e50 := belE0 hb1
          have ze50 := e50.size
          replace BL := BL.e0 e50
          replace b1 := b1.e0 e50
          replace Oua := Oua.e0 e50
          replace b3 := b3.e0 e50
          replace sb10 := sb10.e0 e50
          replace sb14 := sb14.e0 e50
          replace Oub := Oub.e0 e50
          clear e50
          refine ⟨.agg (cellsOf .u8 (nn (macN tabL (List.replicate 64 170) []))), rfl, ?_⟩
          refine ze 11 ⟨BL, b1, Oua, b3, by omega⟩ ?_
          simp only [List.set_cons_zero, List.set_cons_succ]
          refine zo1 13 rfl ?_
          refine xCall 22 24 #[.int .u8 170, .int .i64 64] (by kernel_rfl) ?_
          refine (ofb_any 170 64 (by omega) (by omega) w70).mono ?_
          rintro en w71 ⟨uc, rfl, hO, hb1⟩
          have e51 := belE0 hb1
          have ze51 := e51.size
          replace BL := BL.e0 e51
          replace b1 := b1.e0 e51
          replace Oua := Oua.e0 e51
          replace b3 := b3.e0 e51
          replace sb10 := sb10.e0 e51
          replace sb14 := sb14.e0 e51
          replace Oub := Oub.e0 e51
          clear e51
          have Ouc : Own 5 .u8 w70.heap.size w71 uc (nn (List.replicate 64 170)) := hO
          have lOuc_4 := Ouc.ge
          refine ⟨uc, rfl, ?_⟩
          refine ze 13 ⟨BL, b1, Oua, b3, by omega⟩ ?_
          simp only [List.set_cons_zero, List.set_cons_succ]
          refine zo1 14 rfl ?_
          refine xCall 23 26 #[.agg (cellsOf .u32 (nn tabL)), uc, .slice none 0 0] (by kernel_rfl) ?_
          refine (rmac_any tabL hTL tabL_b w71 (List.replicate 64 170) [] _ _ (rep_b 64 170 (by omega)) (by simp) Ouc.sl (by simp) (SL.nil _ _) (by simp)).mono ?_
          rintro en w72 ⟨rfl, hb1⟩
          have e52 := belE0 hb1
          have ze52 := e52.size
          replace BL := BL.e0 e52
          replace b1 := b1.e0 e52
          replace Oua := Oua.e0 e52
          replace b3 := b3.e0 e52
          replace sb10 := sb10.e0 e52
          replace sb14 := sb14.e0 e52
          replace Oub := Oub.e0 e52
          replace Ouc := Ouc.e0 e52
          clear e52
          refine ⟨.agg (cellsOf .u8 (nn (macN tabL (List.replicate 64 170) []))), rfl, ?_⟩
          refine ze 14 ⟨BL, b1, Oua, b3, by omega⟩ ?_
          simp only [List.set_cons_zero, List.set_cons_succ]
          refine zv 15 24 (.bool true) (fun _ ⟨BL, b1, Oua, b3, z1⟩ => Val.eqA .eql 37 _ (.tmp 20) (.tmp 23) rfl Try.underlying37 Try.underlying5 (by kernel_rfl) (by kernel_rfl) (nn (macN tabL (List.replicate 64 170) [])) (nn (macN tabL (List.replicate 64 170) [])) (by kernel_rfl) (by kernel_rfl) (by rw [nn_len]; exact hm4) (by rw [nn_len]; exact hm4) (.inl rfl) true (by simp)) ⟨BL, b1, Oua, b3, by omega⟩ ?_
          simp only [List.set_cons_zero, List.set_cons_succ]
          refine zv 16 25 (.bool true) (fun _ _ => .of) ⟨BL, b1, Oua, b3, by omega⟩ ?_
          simp only [List.set_cons_zero, List.set_cons_succ]
          refine zv 17 4 (.bool true) (fun _ _ => .of) ⟨BL, b1, Oua, b3, by omega⟩ ?_
          simp only [List.set_cons_zero, List.set_cons_succ]
          refine zd (by kernel_rfl) ?_ _
          refine hK5 _ _ ?_
          refine wp_seq_k fun K9 hK9 => ?_
          refine cPlain ?_
          refine sv 26 (.bool true) .of ?_
          simp only [List.set_cons_zero, List.set_cons_succ]
          refine sv 27 (.bool true) .of ?_
          simp only [List.set_cons_zero, List.set_cons_succ]
          refine xCall 28 25 #[.pointer none, .slice none 0 0, .slice none 0 0] (by kernel_rfl) ?_
          refine (mac_nil [] _ _ w72 (SL.nil _ _) (by simp)).mono ?_
          rintro en w73 ⟨rfl, hb1⟩
          have e53 := belE0 hb1
          have ze53 := e53.size
          replace BL := BL.e0 e53
          replace b1 := b1.e0 e53
          replace Oua := Oua.e0 e53
          replace b3 := b3.e0 e53
          replace sb10 := sb10.e0 e53
          replace sb14 := sb14.e0 e53
          replace Oub := Oub.e0 e53
          replace Ouc := Ouc.e0 e53
          clear e53
          refine ⟨.agg (cellsOf .u8 (nn (List.replicate 32 0))), rfl, ?_⟩
          simp only [List.set_cons_zero, List.set_cons_succ]
          refine sv 29 (.agg (cellsOf .u8 (nn (List.replicate 32 0)))) .of ?_
          simp only [List.set_cons_zero, List.set_cons_succ]
          refine sv 30 (.bool true) (Val.eqA .eql 37 _ (.tmp 28) (.tmp 29) rfl Try.underlying37 Try.underlying5 (by kernel_rfl) (by kernel_rfl) (nn (List.replicate 32 0)) (nn (List.replicate 32 0)) (by kernel_rfl) (by kernel_rfl) (by rw [nn_len]; rfl) (by rw [nn_len]; rfl) (.inl rfl) true (by simp)) ?_
          simp only [List.set_cons_zero, List.set_cons_succ]
          refine sv 31 (.bool true) .of ?_
          simp only [List.set_cons_zero, List.set_cons_succ]
          refine sv 32 (.bool true) .of ?_
          simp only [List.set_cons_zero, List.set_cons_succ]
          refine xCall 33 27 #[.pointer none, .int .u8 1, .slice none 0 0] (by kernel_rfl) ?_
          refine (tagged_nil 1 _ [] [] w73 (.inl ⟨rfl, rfl⟩) trivial (by simp [blobsB])).mono ?_
          rintro en w74 ⟨rfl, hb1⟩
          have e54 := belE0 hb1
          have ze54 := e54.size
          replace BL := BL.e0 e54
          replace b1 := b1.e0 e54
          replace Oua := Oua.e0 e54
          replace b3 := b3.e0 e54
          replace sb10 := sb10.e0 e54
          replace sb14 := sb14.e0 e54
          replace Oub := Oub.e0 e54
          replace Ouc := Ouc.e0 e54
          clear e54
          refine ⟨.agg (cellsOf .u8 (nn (List.replicate 32 0))), rfl, ?_⟩
          simp only [List.set_cons_zero, List.set_cons_succ]
          refine sv 34 (.agg (cellsOf .u8 (nn (List.replicate 32 0)))) .of ?_
          simp only [List.set_cons_zero, List.set_cons_succ]
          refine sv 35 (.bool true) (Val.eqA .eql 37 _ (.tmp 33) (.tmp 34) rfl Try.underlying37 Try.underlying5 (by kernel_rfl) (by kernel_rfl) (nn (List.replicate 32 0)) (nn (List.replicate 32 0)) (by kernel_rfl) (by kernel_rfl) (by rw [nn_len]; rfl) (by rw [nn_len]; rfl) (.inl rfl) true (by simp)) ?_
          simp only [List.set_cons_zero, List.set_cons_succ]
          refine sv 36 (.bool true) .of ?_
          simp only [List.set_cons_zero, List.set_cons_succ]
          refine sv 37 (.bool true) .of ?_
          simp only [List.set_cons_zero, List.set_cons_succ]
          refine xCall 38 29 #[.int .u8 0, .slice none 0 0] (by kernel_rfl) ?_
          refine (mactext_any ((0 : Nat) : Int) _ [] (([] : List (List Nat)).map nn) w74 (.inl ⟨rfl, rfl⟩) w74.heap.size (by omega) trivial (by simp [blobsB])).mono ?_
          rintro en w75 ⟨u, rfl, hO, hb1⟩
          replace hO := hO.cast ((textN_nn 0 []).symm.trans (congrArg nn text00))
          have e55 := belE0 hb1
          have ze55 := e55.size
          replace BL := BL.e0 e55
          replace b1 := b1.e0 e55
          replace Oua := Oua.e0 e55
          replace b3 := b3.e0 e55
          replace sb10 := sb10.e0 e55
          replace sb14 := sb14.e0 e55
          replace Oub := Oub.e0 e55
          replace Ouc := Ouc.e0 e55
          clear e55
          have U : Own 5 .u8 w74.heap.size w75 u (nn [75, 0, 0]) := hO
          have lU_4 := U.ge
          refine ⟨u, rfl, ?_⟩
          simp only [List.set_cons_zero, List.set_cons_succ]
          refine xLit 39 30 5 3 _ #[(0, .int .u8 75), (1, .int .u8 0), (2, .int .u8 0)] [.int .u8 75, .int .u8 0, .int .u8 0] rfl (by kernel_rfl) (by kernel_rfl) ?_
          intro w76 n16
          have zn16 := n16.z
          have b39 := n16.c
          replace b39 : Blk .u8 w76 w75.heap.size 5 [75, 0, 0] := b39
          replace BL := BL.e0 n16.e
          replace b1 := b1.e0 n16.e
          replace Oua := Oua.e0 n16.e
          replace b3 := b3.e0 n16.e
          replace sb10 := sb10.e0 n16.e
          replace sb14 := sb14.e0 n16.e
          replace Oub := Oub.e0 n16.e
          replace Ouc := Ouc.e0 n16.e
          replace U := U.e0 n16.e
          have sb39 : SL .u8 w76 (.slice (some ⟨w75.heap.size, 0, none⟩) 3 3) [75, 0, 0] := SL.ofBlk b39 rfl (by unfold maxLen; omega)
          have lb39 : ∀ i, Value.ownBlock (.slice (some ⟨w75.heap.size, 0, none⟩) 3 3) = some i → w75.heap.size ≤ i ∧ i < w76.heap.size := ownB_lit (by omega)
          simp only [List.set_cons_zero, List.set_cons_succ]
          refine xCall 40 28 #[u, .slice (some ⟨w75.heap.size, 0, none⟩) 3 3] (by kernel_rfl) ?_
          refine (same_any _ _ (nn [75, 0, 0]) (nn [75, 0, 0]) w76 U.sl sb39 (bytes_nn (by decide)) (bytes_nn (by decide))).mono ?_
          rintro en w77 ⟨he, hw⟩
          rw [decide_eq_true rfl] at he
          subst he
          obtain rfl := (hw.symm).symm
          refine ⟨.bool true, rfl, ?_⟩
          simp only [List.set_cons_zero, List.set_cons_succ]
          refine sv 41 (.bool true) .of ?_
          simp only [List.set_cons_zero, List.set_cons_succ]
          refine sv 42 (.bool true) .of ?_
          simp only [List.set_cons_zero, List.set_cons_succ]
          refine xLit 43 30 5 0 _ #[] [] rfl (by kernel_rfl) (by kernel_rfl) ?_
          intro w78 n17
          have zn17 := n17.z
          have b43 := n17.c
          replace b43 : Blk .u8 w78 w76.heap.size 5 [] := b43
          replace BL := BL.e0 n17.e
          replace b1 := b1.e0 n17.e
          replace Oua := Oua.e0 n17.e
          replace b3 := b3.e0 n17.e
          replace sb10 := sb10.e0 n17.e
          replace sb14 := sb14.e0 n17.e
          replace Oub := Oub.e0 n17.e
          replace Ouc := Ouc.e0 n17.e
          replace U := U.e0 n17.e
          replace b39 := b39.e0 n17.e
          replace sb39 := sb39.e0 n17.e
          have sb43 : SL .u8 w78 (.slice (some ⟨w76.heap.size, 0, none⟩) 0 0) [] := SL.ofBlk b43 rfl (by unfold maxLen; omega)
          have lb43 : ∀ i, Value.ownBlock (.slice (some ⟨w76.heap.size, 0, none⟩) 0 0) = some i → w76.heap.size ≤ i ∧ i < w78.heap.size := ownB_lit (by omega)
          simp only [List.set_cons_zero, List.set_cons_succ]
          refine xCall 44 30 #[.slice none 0 0, .slice (some ⟨w76.heap.size, 0, none⟩) 0 0] (by kernel_rfl) ?_
          refine (macsame_any _ _ [] [] w78 (SL.nil _ _) sb43 (by decide) (by decide) (by simp) (by simp)).mono ?_
          rintro en w79 ⟨rfl, hb1⟩
          have e56 := belE0 hb1
          have ze56 := e56.size
          replace BL := BL.e0 e56
          replace b1 := b1.e0 e56
          replace Oua := Oua.e0 e56
          replace b3 := b3.e0 e56
          replace sb10 := sb10.e0 e56
          replace sb14 := sb14.e0 e56
          replace Oub := Oub.e0 e56
          replace Ouc := Ouc.e0 e56
          replace U := U.e0 e56
          replace b39 := b39.e0 e56
          replace sb39 := sb39.e0 e56
          replace b43 := b43.e0 e56
          replace sb43 := sb43.e0 e56
          clear e56
          refine ⟨.bool true, rfl, ?_⟩
          simp only [List.set_cons_zero, List.set_cons_succ]
          refine sv 45 (.bool true) .of ?_
          simp only [List.set_cons_zero, List.set_cons_succ]
          refine sv 46 (.bool true) .of ?_
          simp only [List.set_cons_zero, List.set_cons_succ]
          refine xLit 47 30 5 1 _ #[(0, .int .u8 0)] [.int .u8 0] rfl (by kernel_rfl) (by kernel_rfl) ?_
          intro w80 n18
          have zn18 := n18.z
          have b47 := n18.c
          replace b47 : Blk .u8 w80 w79.heap.size 5 [0] := b47
          replace BL := BL.e0 n18.e
          replace b1 := b1.e0 n18.e
          replace Oua := Oua.e0 n18.e
          replace b3 := b3.e0 n18.e
          replace sb10 := sb10.e0 n18.e
          replace sb14 := sb14.e0 n18.e
          replace Oub := Oub.e0 n18.e
          replace Ouc := Ouc.e0 n18.e
          replace U := U.e0 n18.e
          replace b39 := b39.e0 n18.e
          replace sb39 := sb39.e0 n18.e
          replace b43 := b43.e0 n18.e
          replace sb43 := sb43.e0 n18.e
          have sb47 : SL .u8 w80 (.slice (some ⟨w79.heap.size, 0, none⟩) 1 1) [0] := SL.ofBlk b47 rfl (by unfold maxLen; omega)
          have lb47 : ∀ i, Value.ownBlock (.slice (some ⟨w79.heap.size, 0, none⟩) 1 1) = some i → w79.heap.size ≤ i ∧ i < w80.heap.size := ownB_lit (by omega)
          simp only [List.set_cons_zero, List.set_cons_succ]
          refine xCall 48 30 #[.slice none 0 0, .slice (some ⟨w79.heap.size, 0, none⟩) 1 1] (by kernel_rfl) ?_
          refine (macsame_any _ _ [] [0] w80 (SL.nil _ _) sb47 (by decide) (by decide) (by simp) (by simp)).mono ?_
          rintro en w81 ⟨rfl, hb1⟩
          have e57 := belE0 hb1
          have ze57 := e57.size
          replace BL := BL.e0 e57
          replace b1 := b1.e0 e57
          replace Oua := Oua.e0 e57
          replace b3 := b3.e0 e57
          replace sb10 := sb10.e0 e57
          replace sb14 := sb14.e0 e57
          replace Oub := Oub.e0 e57
          replace Ouc := Ouc.e0 e57
          replace U := U.e0 e57
          replace b39 := b39.e0 e57
          replace sb39 := sb39.e0 e57
          replace b43 := b43.e0 e57
          replace sb43 := sb43.e0 e57
          replace b47 := b47.e0 e57
          replace sb47 := sb47.e0 e57
          clear e57
          refine ⟨.bool false, rfl, ?_⟩
          simp only [List.set_cons_zero, List.set_cons_succ]
          refine sv 49 (.bool true) .of ?_
          simp only [List.set_cons_zero, List.set_cons_succ]
          refine sv 50 (.bool true) .of ?_
          simp only [List.set_cons_zero, List.set_cons_succ]
          refine sv 51 (.bool true) .of ?_
          simp only [List.set_cons_zero, List.set_cons_succ]
          refine xCall 52 31 #[] (by kernel_rfl) ?_
          refine (awake03_any w81).mono ?_
          rintro en w82 ⟨rfl, hb1⟩
          have e58 := belE0 hb1
          have ze58 := e58.size
          replace BL := BL.e0 e58
          replace b1 := b1.e0 e58
          replace Oua := Oua.e0 e58
          replace b3 := b3.e0 e58
          replace sb10 := sb10.e0 e58
          replace sb14 := sb14.e0 e58
          replace Oub := Oub.e0 e58
          replace Ouc := Ouc.e0 e58
          replace U := U.e0 e58
          replace b39 := b39.e0 e58
          replace sb39 := sb39.e0 e58
          replace b43 := b43.e0 e58
          replace sb43 := sb43.e0 e58
          replace b47 := b47.e0 e58
          replace sb47 := sb47.e0 e58
          clear e58
          refine ⟨.bool true, rfl, ?_⟩
          simp only [List.set_cons_zero, List.set_cons_succ]
          refine sv 53 (.bool true) .of ?_
          simp only [List.set_cons_zero, List.set_cons_succ]
          refine sv 0 (.bool true) .of ?_
          simp only [List.set_cons_zero, List.set_cons_succ]
          refine wpList_nil ?_
          refine hK9 _ _ ?_
          refine wp_ret ?_
          (try simp only [Exit.then, Exit.inBlock])
          refine bodyPost_ret (v := .bool true) rT rfl ?_
          exact ⟨rfl, BL.b⟩
        · skip
          refine xMark 15 30 5 (.tmp 14) rfl Try.underlying30 Try.underlying5 w9.heap.size 1 [120] (by kernel_rfl) b14 rfl (by unfold maxLen; omega) ?_
          intro w83 b14m e59 ze59
          have BL_ := BL.ev e59 (fun i h => show w.heap.size ≤ i by have h : i = w9.heap.size := h; omega)
          have b1_ := b1.ev e59 (show ¬ (w1.heap.size = w9.heap.size) by omega)
          have Oua_ := Oua.ev e59 (fun i hi => show ¬ (i = w9.heap.size) by have := lOua_1 i hi; omega)
          have b3_ := b3.ev e59 (show ¬ (w5.heap.size = w9.heap.size) by omega)
          have sb10_ := sb10.ev e59 (fun i hi => show ¬ (i = w9.heap.size) by have := lb10 i hi; omega)
          replace BL := BL_; clear BL_
          replace b1 := b1_; clear b1_
          replace Oua := Oua_; clear Oua_
          replace b3 := b3_; clear b3_
          replace sb10 := sb10_; clear sb10_
          replace sb14 := b14m; clear b14m b14 e59
          refine ze 6 ⟨BL, b1, Oua, b3, by omega⟩ ?_
          simp only [List.set_cons_zero, List.set_cons_succ]
          refine zo1 3 rfl ?_
          refine xCall 12 25 #[.pointer (some ⟨w1.heap.size, 0, none⟩), ua, .slice (some ⟨w8.heap.size, 0, none⟩) 1 1] (by kernel_rfl) ?_
          refine (mac_any w1.heap.size tabL hTL w83 b1 (List.replicate 65 170) [120] _ _ Oua.sl (by simp) sb10 (by simp)).mono ?_
          rintro en w84 ⟨rfl, hb1⟩
          have e60 := belE0 hb1
          have ze60 := e60.size
          replace BL := BL.e0 e60
          replace b1 := b1.e0 e60
          replace Oua := Oua.e0 e60
          replace b3 := b3.e0 e60
          replace sb10 := sb10.e0 e60
          replace sb14 := sb14.e0 e60
          clear e60
          refine ⟨.agg (cellsOf .u8 (nn (macN tabL (List.replicate 65 170) [120]))), rfl, ?_⟩
          refine ze 3 ⟨BL, b1, Oua, b3, by omega⟩ ?_
          simp only [List.set_cons_zero, List.set_cons_succ]
          refine zo1 7 rfl ?_
          refine xCall 16 25 #[.pointer (some ⟨w1.heap.size, 0, none⟩), .slice (some ⟨w5.heap.size, 0, none⟩) 32 32, .slice (some ⟨w9.heap.size, 0, none⟩) 1 1] (by kernel_rfl) ?_
          refine (mac_any w1.heap.size tabL hTL w84 b1 (ofN tabL (List.replicate 65 170)) [120] _ _ (SL.ofBlk b3 (by rw [nn_len]; exact hol) (by unfold maxLen; omega)) (by omega) sb14 (by simp)).mono ?_
          rintro en w85 ⟨he, hb1⟩
          rw [mac_long (by simp)] at he
          subst he
          have e61 := belE0 hb1
          have ze61 := e61.size
          replace BL := BL.e0 e61
          replace b1 := b1.e0 e61
          replace Oua := Oua.e0 e61
          replace b3 := b3.e0 e61
          replace sb10 := sb10.e0 e61
          replace sb14 := sb14.e0 e61
          clear e61
          refine ⟨.agg (cellsOf .u8 (nn (macN tabL (List.replicate 65 170) [120]))), rfl, ?_⟩
          refine ze 7 ⟨BL, b1, Oua, b3, by omega⟩ ?_
          simp only [List.set_cons_zero, List.set_cons_succ]
          refine zv 8 17 (.bool true) (fun _ ⟨BL, b1, Oua, b3, z1⟩ => Val.eqA .eql 37 _ (.tmp 12) (.tmp 16) rfl Try.underlying37 Try.underlying5 (by kernel_rfl) (by kernel_rfl) (nn (macN tabL (List.replicate 65 170) [120])) (nn (macN tabL (List.replicate 65 170) [120])) (by kernel_rfl) (by kernel_rfl) (by rw [nn_len]; exact hml) (by rw [nn_len]; exact hml) (.inl rfl) true (by simp)) ⟨BL, b1, Oua, b3, by omega⟩ ?_
          simp only [List.set_cons_zero, List.set_cons_succ]
          refine zv 9 18 (.bool true) (fun _ _ => .of) ⟨BL, b1, Oua, b3, by omega⟩ ?_
          simp only [List.set_cons_zero, List.set_cons_succ]
          refine zv 12 21 (.agg (cellsOf .u32 (nn tabL))) (fun _ ⟨BL, b1, Oua, b3, z1⟩ => Val.blk 26 _ rfl 0 72 (by kernel_rfl) b1 _ Try.underlying26 rfl (by kernel_rfl) (by (try simp only [nn_len, List.length_cons, List.length_nil, List.length_set, List.length_replicate]); try omega) _ (seg_all' _ (by (try simp only [nn_len, List.length_cons, List.length_nil, List.length_set, List.length_replicate]); try omega))) ⟨BL, b1, Oua, b3, by omega⟩ ?_
          simp only [List.set_cons_zero, List.set_cons_succ]
          refine zo1 10 rfl ?_
          refine xCall 19 24 #[.int .u8 170, .int .i64 64] (by kernel_rfl) ?_
          refine (ofb_any 170 64 (by omega) (by omega) w85).mono ?_
          rintro en w86 ⟨ub, rfl, hO, hb1⟩
          have e62 := belE0 hb1
          have ze62 := e62.size
          replace BL := BL.e0 e62
          replace b1 := b1.e0 e62
          replace Oua := Oua.e0 e62
          replace b3 := b3.e0 e62
          replace sb10 := sb10.e0 e62
          replace sb14 := sb14.e0 e62
          clear e62
          have Oub : Own 5 .u8 w85.heap.size w86 ub (nn (List.replicate 64 170)) := hO
          have lOub_5 := Oub.ge
          refine ⟨ub, rfl, ?_⟩
          refine ze 10 ⟨BL, b1, Oua, b3, by omega⟩ ?_
          simp only [List.set_cons_zero, List.set_cons_succ]
          refine zo1 11 rfl ?_
          refine xCall 20 25 #[.pointer (some ⟨w1.heap.size, 0, none⟩), ub, .slice none 0 0] (by kernel_rfl) ?_
          refine (mac_any w1.heap.size tabL hTL w86 b1 (List.replicate 64 170) [] _ _ Oub.sl (by simp) (SL.nil _ _) (by simp)).mono ?_
          rintro en w87 ⟨rfl, hb1⟩
          have e63 := belE0 hb1
          have ze63 := e63.size
          replace BL := BL.e0 e63
          replace b1 := b1.e0 e63
          replace Oua := Oua.e0 e63
          replace b3 := b3.e0 e63
          replace sb10 := sb10.e0 e63
          replace sb14 := sb14.e0 e63
          replace Oub := Oub.e0 e63
          clear e63
          refine ⟨.agg (cellsOf .u8 (nn (macN tabL (List.replicate 64 170) []))), rfl, ?_⟩
          refine ze 11 ⟨BL, b1, Oua, b3, by omega⟩ ?_
          simp only [List.set_cons_zero, List.set_cons_succ]
          refine zo1 13 rfl ?_
          refine xCall 22 24 #[.int .u8 170, .int .i64 64] (by kernel_rfl) ?_
          refine (ofb_any 170 64 (by omega) (by omega) w87).mono ?_
          rintro en w88 ⟨uc, rfl, hO, hb1⟩
          have e64 := belE0 hb1
          have ze64 := e64.size
          replace BL := BL.e0 e64
          replace b1 := b1.e0 e64
          replace Oua := Oua.e0 e64
          replace b3 := b3.e0 e64
          replace sb10 := sb10.e0 e64
          replace sb14 := sb14.e0 e64
          replace Oub := Oub.e0 e64
          clear e64
          have Ouc : Own 5 .u8 w87.heap.size w88 uc (nn (List.replicate 64 170)) := hO
          have lOuc_5 := Ouc.ge
          refine ⟨uc, rfl, ?_⟩
          refine ze 13 ⟨BL, b1, Oua, b3, by omega⟩ ?_
          simp only [List.set_cons_zero, List.set_cons_succ]
          refine zo1 14 rfl ?_
          refine xCall 23 26 #[.agg (cellsOf .u32 (nn tabL)), uc, .slice none 0 0] (by kernel_rfl) ?_
          refine (rmac_any tabL hTL tabL_b w88 (List.replicate 64 170) [] _ _ (rep_b 64 170 (by omega)) (by simp) Ouc.sl (by simp) (SL.nil _ _) (by simp)).mono ?_
          rintro en w89 ⟨rfl, hb1⟩
          have e65 := belE0 hb1
          have ze65 := e65.size
          replace BL := BL.e0 e65
          replace b1 := b1.e0 e65
          replace Oua := Oua.e0 e65
          replace b3 := b3.e0 e65
          replace sb10 := sb10.e0 e65
          replace sb14 := sb14.e0 e65
          replace Oub := Oub.e0 e65
          replace Ouc := Ouc.e0 e65
          clear e65
          refine ⟨.agg (cellsOf .u8 (nn (macN tabL (List.replicate 64 170) []))), rfl, ?_⟩
          refine ze 14 ⟨BL, b1, Oua, b3, by omega⟩ ?_
          simp only [List.set_cons_zero, List.set_cons_succ]
          refine zv 15 24 (.bool true) (fun _ ⟨BL, b1, Oua, b3, z1⟩ => Val.eqA .eql 37 _ (.tmp 20) (.tmp 23) rfl Try.underlying37 Try.underlying5 (by kernel_rfl) (by kernel_rfl) (nn (macN tabL (List.replicate 64 170) [])) (nn (macN tabL (List.replicate 64 170) [])) (by kernel_rfl) (by kernel_rfl) (by rw [nn_len]; exact hm4) (by rw [nn_len]; exact hm4) (.inl rfl) true (by simp)) ⟨BL, b1, Oua, b3, by omega⟩ ?_
          simp only [List.set_cons_zero, List.set_cons_succ]
          refine zv 16 25 (.bool true) (fun _ _ => .of) ⟨BL, b1, Oua, b3, by omega⟩ ?_
          simp only [List.set_cons_zero, List.set_cons_succ]
          refine zv 17 4 (.bool true) (fun _ _ => .of) ⟨BL, b1, Oua, b3, by omega⟩ ?_
          simp only [List.set_cons_zero, List.set_cons_succ]
          refine zd (by kernel_rfl) ?_ _
          refine hK5 _ _ ?_
          refine wp_seq_k fun K10 hK10 => ?_
          refine cPlain ?_
          refine sv 26 (.bool true) .of ?_
          simp only [List.set_cons_zero, List.set_cons_succ]
          refine sv 27 (.bool true) .of ?_
          simp only [List.set_cons_zero, List.set_cons_succ]
          refine xCall 28 25 #[.pointer none, .slice none 0 0, .slice none 0 0] (by kernel_rfl) ?_
          refine (mac_nil [] _ _ w89 (SL.nil _ _) (by simp)).mono ?_
          rintro en w90 ⟨rfl, hb1⟩
          have e66 := belE0 hb1
          have ze66 := e66.size
          replace BL := BL.e0 e66
          replace b1 := b1.e0 e66
          replace Oua := Oua.e0 e66
          replace b3 := b3.e0 e66
          replace sb10 := sb10.e0 e66
          replace sb14 := sb14.e0 e66
          replace Oub := Oub.e0 e66
          replace Ouc := Ouc.e0 e66
          clear e66
          refine ⟨.agg (cellsOf .u8 (nn (List.replicate 32 0))), rfl, ?_⟩
          simp only [List.set_cons_zero, List.set_cons_succ]
          refine sv 29 (.agg (cellsOf .u8 (nn (List.replicate 32 0)))) .of ?_
          simp only [List.set_cons_zero, List.set_cons_succ]
          refine sv 30 (.bool true) (Val.eqA .eql 37 _ (.tmp 28) (.tmp 29) rfl Try.underlying37 Try.underlying5 (by kernel_rfl) (by kernel_rfl) (nn (List.replicate 32 0)) (nn (List.replicate 32 0)) (by kernel_rfl) (by kernel_rfl) (by rw [nn_len]; rfl) (by rw [nn_len]; rfl) (.inl rfl) true (by simp)) ?_
          simp only [List.set_cons_zero, List.set_cons_succ]
          refine sv 31 (.bool true) .of ?_
          simp only [List.set_cons_zero, List.set_cons_succ]
          refine sv 32 (.bool true) .of ?_
          simp only [List.set_cons_zero, List.set_cons_succ]
          refine xCall 33 27 #[.pointer none, .int .u8 1, .slice none 0 0] (by kernel_rfl) ?_
          refine (tagged_nil 1 _ [] [] w90 (.inl ⟨rfl, rfl⟩) trivial (by simp [blobsB])).mono ?_
          rintro en w91 ⟨rfl, hb1⟩
          have e67 := belE0 hb1
          have ze67 := e67.size
          replace BL := BL.e0 e67
          replace b1 := b1.e0 e67
          replace Oua := Oua.e0 e67
          replace b3 := b3.e0 e67
          replace sb10 := sb10.e0 e67
          replace sb14 := sb14.e0 e67
          replace Oub := Oub.e0 e67
          replace Ouc := Ouc.e0 e67
          clear e67
          refine ⟨.agg (cellsOf .u8 (nn (List.replicate 32 0))), rfl, ?_⟩
          simp only [List.set_cons_zero, List.set_cons_succ]
          refine sv 34 (.agg (cellsOf .u8 (nn (List.replicate 32 0)))) .of ?_
          simp only [List.set_cons_zero, List.set_cons_succ]
          refine sv 35 (.bool true) (Val.eqA .eql 37 _ (.tmp 33) (.tmp 34) rfl Try.underlying37 Try.underlying5 (by kernel_rfl) (by kernel_rfl) (nn (List.replicate 32 0)) (nn (List.replicate 32 0)) (by kernel_rfl) (by kernel_rfl) (by rw [nn_len]; rfl) (by rw [nn_len]; rfl) (.inl rfl) true (by simp)) ?_
          simp only [List.set_cons_zero, List.set_cons_succ]
          refine sv 36 (.bool true) .of ?_
          simp only [List.set_cons_zero, List.set_cons_succ]
          refine sv 37 (.bool true) .of ?_
          simp only [List.set_cons_zero, List.set_cons_succ]
          refine xCall 38 29 #[.int .u8 0, .slice none 0 0] (by kernel_rfl) ?_
          refine (mactext_any ((0 : Nat) : Int) _ [] (([] : List (List Nat)).map nn) w91 (.inl ⟨rfl, rfl⟩) w91.heap.size (by omega) trivial (by simp [blobsB])).mono ?_
          rintro en w92 ⟨u, rfl, hO, hb1⟩
          replace hO := hO.cast ((textN_nn 0 []).symm.trans (congrArg nn text00))
          have e68 := belE0 hb1
          have ze68 := e68.size
          replace BL := BL.e0 e68
          replace b1 := b1.e0 e68
          replace Oua := Oua.e0 e68
          replace b3 := b3.e0 e68
          replace sb10 := sb10.e0 e68
          replace sb14 := sb14.e0 e68
          replace Oub := Oub.e0 e68
          replace Ouc := Ouc.e0 e68
          clear e68
          have U : Own 5 .u8 w91.heap.size w92 u (nn [75, 0, 0]) := hO
          have lU_5 := U.ge
          refine ⟨u, rfl, ?_⟩
          simp only [List.set_cons_zero, List.set_cons_succ]
          refine xLit 39 30 5 3 _ #[(0, .int .u8 75), (1, .int .u8 0), (2, .int .u8 0)] [.int .u8 75, .int .u8 0, .int .u8 0] rfl (by kernel_rfl) (by kernel_rfl) ?_
          intro w93 n19
          have zn19 := n19.z
          have b39 := n19.c
          replace b39 : Blk .u8 w93 w92.heap.size 5 [75, 0, 0] := b39
          replace BL := BL.e0 n19.e
          replace b1 := b1.e0 n19.e
          replace Oua := Oua.e0 n19.e
          replace b3 := b3.e0 n19.e
          replace sb10 := sb10.e0 n19.e
          replace sb14 := sb14.e0 n19.e
          replace Oub := Oub.e0 n19.e
          replace Ouc := Ouc.e0 n19.e
          replace U := U.e0 n19.e
          have sb39 : SL .u8 w93 (.slice (some ⟨w92.heap.size, 0, none⟩) 3 3) [75, 0, 0] := SL.ofBlk b39 rfl (by unfold maxLen; omega)
          have lb39 : ∀ i, Value.ownBlock (.slice (some ⟨w92.heap.size, 0, none⟩) 3 3) = some i → w92.heap.size ≤ i ∧ i < w93.heap.size := ownB_lit (by omega)
          simp only [List.set_cons_zero, List.set_cons_succ]
          refine xCall 40 28 #[u, .slice (some ⟨w92.heap.size, 0, none⟩) 3 3] (by kernel_rfl) ?_
          refine (same_any _ _ (nn [75, 0, 0]) (nn [75, 0, 0]) w93 U.sl sb39 (bytes_nn (by decide)) (bytes_nn (by decide))).mono ?_
          rintro en w94 ⟨he, hw⟩
          rw [decide_eq_true rfl] at he
          subst he
          obtain rfl := (hw.symm).symm
          refine ⟨.bool true, rfl, ?_⟩
          simp only [List.set_cons_zero, List.set_cons_succ]
          refine sv 41 (.bool true) .of ?_
          simp only [List.set_cons_zero, List.set_cons_succ]
          refine sv 42 (.bool true) .of ?_
          simp only [List.set_cons_zero, List.set_cons_succ]
          refine xLit 43 30 5 0 _ #[] [] rfl (by kernel_rfl) (by kernel_rfl) ?_
          intro w95 n20
          have zn20 := n20.z
          have b43 := n20.c
          replace b43 : Blk .u8 w95 w93.heap.size 5 [] := b43
          replace BL := BL.e0 n20.e
          replace b1 := b1.e0 n20.e
          replace Oua := Oua.e0 n20.e
          replace b3 := b3.e0 n20.e
          replace sb10 := sb10.e0 n20.e
          replace sb14 := sb14.e0 n20.e
          replace Oub := Oub.e0 n20.e
          replace Ouc := Ouc.e0 n20.e
          replace U := U.e0 n20.e
          replace b39 := b39.e0 n20.e
          replace sb39 := sb39.e0 n20.e
          have sb43 : SL .u8 w95 (.slice (some ⟨w93.heap.size, 0, none⟩) 0 0) [] := SL.ofBlk b43 rfl (by unfold maxLen; omega)
          have lb43 : ∀ i, Value.ownBlock (.slice (some ⟨w93.heap.size, 0, none⟩) 0 0) = some i → w93.heap.size ≤ i ∧ i < w95.heap.size := ownB_lit (by omega)
          simp only [List.set_cons_zero, List.set_cons_succ]
          refine xCall 44 30 #[.slice none 0 0, .slice (some ⟨w93.heap.size, 0, none⟩) 0 0] (by kernel_rfl) ?_
          refine (macsame_any _ _ [] [] w95 (SL.nil _ _) sb43 (by decide) (by decide) (by simp) (by simp)).mono ?_
          rintro en w96 ⟨rfl, hb1⟩
          have e69 := belE0 hb1
          have ze69 := e69.size
          replace BL := BL.e0 e69
          replace b1 := b1.e0 e69
          replace Oua := Oua.e0 e69
          replace b3 := b3.e0 e69
          replace sb10 := sb10.e0 e69
          replace sb14 := sb14.e0 e69
          replace Oub := Oub.e0 e69
          replace Ouc := Ouc.e0 e69
          replace U := U.e0 e69
          replace b39 := b39.e0 e69
          replace sb39 := sb39.e0 e69
          replace b43 := b43.e0 e69
          replace sb43 := sb43.e0 e69
          clear e69
          refine ⟨.bool true, rfl, ?_⟩
          simp only [List.set_cons_zero, List.set_cons_succ]
          refine sv 45 (.bool true) .of ?_
          simp only [List.set_cons_zero, List.set_cons_succ]
          refine sv 46 (.bool true) .of ?_
          simp only [List.set_cons_zero, List.set_cons_succ]
          refine xLit 47 30 5 1 _ #[(0, .int .u8 0)] [.int .u8 0] rfl (by kernel_rfl) (by kernel_rfl) ?_
          intro w97 n21
          have zn21 := n21.z
          have b47 := n21.c
          replace b47 : Blk .u8 w97 w96.heap.size 5 [0] := b47
          replace BL := BL.e0 n21.e
          replace b1 := b1.e0 n21.e
          replace Oua := Oua.e0 n21.e
          replace b3 := b3.e0 n21.e
          replace sb10 := sb10.e0 n21.e
          replace sb14 := sb14.e0 n21.e
          replace Oub := Oub.e0 n21.e
          replace Ouc := Ouc.e0 n21.e
          replace U := U.e0 n21.e
          replace b39 := b39.e0 n21.e
          replace sb39 := sb39.e0 n21.e
          replace b43 := b43.e0 n21.e
          replace sb43 := sb43.e0 n21.e
          have sb47 : SL .u8 w97 (.slice (some ⟨w96.heap.size, 0, none⟩) 1 1) [0] := SL.ofBlk b47 rfl (by unfold maxLen; omega)
          have lb47 : ∀ i, Value.ownBlock (.slice (some ⟨w96.heap.size, 0, none⟩) 1 1) = some i → w96.heap.size ≤ i ∧ i < w97.heap.size := ownB_lit (by omega)
          simp only [List.set_cons_zero, List.set_cons_succ]
          refine xCall 48 30 #[.slice none 0 0, .slice (some ⟨w96.heap.size, 0, none⟩) 1 1] (by kernel_rfl) ?_
          refine (macsame_any _ _ [] [0] w97 (SL.nil _ _) sb47 (by decide) (by decide) (by simp) (by simp)).mono ?_
          rintro en w98 ⟨rfl, hb1⟩
          have e70 := belE0 hb1
          have ze70 := e70.size
          replace BL := BL.e0 e70
          replace b1 := b1.e0 e70
          replace Oua := Oua.e0 e70
          replace b3 := b3.e0 e70
          replace sb10 := sb10.e0 e70
          replace sb14 := sb14.e0 e70
          replace Oub := Oub.e0 e70
          replace Ouc := Ouc.e0 e70
          replace U := U.e0 e70
          replace b39 := b39.e0 e70
          replace sb39 := sb39.e0 e70
          replace b43 := b43.e0 e70
          replace sb43 := sb43.e0 e70
          replace b47 := b47.e0 e70
          replace sb47 := sb47.e0 e70
          clear e70
          refine ⟨.bool false, rfl, ?_⟩
          simp only [List.set_cons_zero, List.set_cons_succ]
          refine sv 49 (.bool true) .of ?_
          simp only [List.set_cons_zero, List.set_cons_succ]
          refine sv 50 (.bool true) .of ?_
          simp only [List.set_cons_zero, List.set_cons_succ]
          refine sv 51 (.bool true) .of ?_
          simp only [List.set_cons_zero, List.set_cons_succ]
          refine xCall 52 31 #[] (by kernel_rfl) ?_
          refine (awake03_any w98).mono ?_
          rintro en w99 ⟨rfl, hb1⟩
          have e71 := belE0 hb1
          have ze71 := e71.size
          replace BL := BL.e0 e71
          replace b1 := b1.e0 e71
          replace Oua := Oua.e0 e71
          replace b3 := b3.e0 e71
          replace sb10 := sb10.e0 e71
          replace sb14 := sb14.e0 e71
          replace Oub := Oub.e0 e71
          replace Ouc := Ouc.e0 e71
          replace U := U.e0 e71
          replace b39 := b39.e0 e71
          replace sb39 := sb39.e0 e71
          replace b43 := b43.e0 e71
          replace sb43 := sb43.e0 e71
          replace b47 := b47.e0 e71
          replace sb47 := sb47.e0 e71
          clear e71
          refine ⟨.bool true, rfl, ?_⟩
          simp only [List.set_cons_zero, List.set_cons_succ]
          refine sv 53 (.bool true) .of ?_
          simp only [List.set_cons_zero, List.set_cons_succ]
          refine sv 0 (.bool true) .of ?_
          simp only [List.set_cons_zero, List.set_cons_succ]
          refine wpList_nil ?_
          refine hK10 _ _ ?_
          refine wp_ret ?_
          (try simp only [Exit.then, Exit.inBlock])
          refine bodyPost_ret (v := .bool true) rT rfl ?_
          exact ⟨rfl, BL.b⟩
      · skip
        refine xMark 15 30 5 (.tmp 14) rfl Try.underlying30 Try.underlying5 w9.heap.size 1 [120] (by kernel_rfl) b14 rfl (by unfold maxLen; omega) ?_
        intro w100 b14m e72 ze72
        have BL_ := BL.ev e72 (fun i h => show w.heap.size ≤ i by have h : i = w9.heap.size := h; omega)
        have b1_ := b1.ev e72 (show ¬ (w1.heap.size = w9.heap.size) by omega)
        have Oua_ := Oua.ev e72 (fun i hi => show ¬ (i = w9.heap.size) by have := lOua_1 i hi; omega)
        have b3_ := b3.ev e72 (show ¬ (w5.heap.size = w9.heap.size) by omega)
        have b10_ := b10.ev e72 (show ¬ (w8.heap.size = w9.heap.size) by omega)
        have sb10_ := sb10.ev e72 (fun i hi => show ¬ (i = w9.heap.size) by have := lb10 i hi; omega)
        replace BL := BL_; clear BL_
        replace b1 := b1_; clear b1_
        replace Oua := Oua_; clear Oua_
        replace b3 := b3_; clear b3_
        replace b10 := b10_; clear b10_
        replace sb10 := sb10_; clear sb10_
        replace sb14 := b14m; clear b14m b14 e72
        refine ze 6 ⟨BL, b1, Oua, b3, by omega⟩ ?_
        simp only [List.set_cons_zero, List.set_cons_succ]
        refine zo1 2 rfl ?_
        refine xMark 11 30 5 (.tmp 10) rfl Try.underlying30 Try.underlying5 w8.heap.size 1 [120] (by kernel_rfl) b10 rfl (by unfold maxLen; omega) ?_
        intro w101 b10m e73 ze73
        have BL_ := BL.ev e73 (fun i h => show w.heap.size ≤ i by have h : i = w8.heap.size := h; omega)
        have b1_ := b1.ev e73 (show ¬ (w1.heap.size = w8.heap.size) by omega)
        have Oua_ := Oua.ev e73 (fun i hi => show ¬ (i = w8.heap.size) by have := lOua_1 i hi; omega)
        have b3_ := b3.ev e73 (show ¬ (w5.heap.size = w8.heap.size) by omega)
        have sb14_ := sb14.ev e73 (fun i hi => show ¬ (i = w8.heap.size) by have := lb14 i hi; omega)
        replace BL := BL_; clear BL_
        replace b1 := b1_; clear b1_
        replace Oua := Oua_; clear Oua_
        replace b3 := b3_; clear b3_
        replace sb14 := sb14_; clear sb14_
        replace sb10 := b10m; clear b10m b10 e73
        refine ze 2 ⟨BL, b1, Oua, b3, by omega⟩ ?_
        simp only [List.set_cons_zero, List.set_cons_succ]
        refine zo1 3 rfl ?_
        refine xCall 12 25 #[.pointer (some ⟨w1.heap.size, 0, none⟩), ua, .slice (some ⟨w8.heap.size, 0, none⟩) 1 1] (by kernel_rfl) ?_
        refine (mac_any w1.heap.size tabL hTL w101 b1 (List.replicate 65 170) [120] _ _ Oua.sl (by simp) sb10 (by simp)).mono ?_
        rintro en w102 ⟨rfl, hb1⟩
        have e74 := belE0 hb1
        have ze74 := e74.size
        replace BL := BL.e0 e74
        replace b1 := b1.e0 e74
        replace Oua := Oua.e0 e74
        replace b3 := b3.e0 e74
        replace sb14 := sb14.e0 e74
        replace sb10 := sb10.e0 e74
        clear e74
        refine ⟨.agg (cellsOf .u8 (nn (macN tabL (List.replicate 65 170) [120]))), rfl, ?_⟩
        refine ze 3 ⟨BL, b1, Oua, b3, by omega⟩ ?_
        simp only [List.set_cons_zero, List.set_cons_succ]
        refine zo1 7 rfl ?_
        refine xCall 16 25 #[.pointer (some ⟨w1.heap.size, 0, none⟩), .slice (some ⟨w5.heap.size, 0, none⟩) 32 32, .slice (some ⟨w9.heap.size, 0, none⟩) 1 1] (by kernel_rfl) ?_
        refine (mac_any w1.heap.size tabL hTL w102 b1 (ofN tabL (List.replicate 65 170)) [120] _ _ (SL.ofBlk b3 (by rw [nn_len]; exact hol) (by unfold maxLen; omega)) (by omega) sb14 (by simp)).mono ?_
        rintro en w103 ⟨he, hb1⟩
        rw [mac_long (by simp)] at he
        subst he
        have e75 := belE0 hb1
        have ze75 := e75.size
        replace BL := BL.e0 e75
        replace b1 := b1.e0 e75
        replace Oua := Oua.e0 e75
        replace b3 := b3.e0 e75
        replace sb14 := sb14.e0 e75
        replace sb10 := sb10.e0 e75
        clear e75
        refine ⟨.agg (cellsOf .u8 (nn (macN tabL (List.replicate 65 170) [120]))), rfl, ?_⟩
        refine ze 7 ⟨BL, b1, Oua, b3, by omega⟩ ?_
        simp only [List.set_cons_zero, List.set_cons_succ]
        refine zv 8 17 (.bool true) (fun _ ⟨BL, b1, Oua, b3, z1⟩ => Val.eqA .eql 37 _ (.tmp 12) (.tmp 16) rfl Try.underlying37 Try.underlying5 (by kernel_rfl) (by kernel_rfl) (nn (macN tabL (List.replicate 65 170) [120])) (nn (macN tabL (List.replicate 65 170) [120])) (by kernel_rfl) (by kernel_rfl) (by rw [nn_len]; exact hml) (by rw [nn_len]; exact hml) (.inl rfl) true (by simp)) ⟨BL, b1, Oua, b3, by omega⟩ ?_
        simp only [List.set_cons_zero, List.set_cons_succ]
        refine zv 9 18 (.bool true) (fun _ _ => .of) ⟨BL, b1, Oua, b3, by omega⟩ ?_
        simp only [List.set_cons_zero, List.set_cons_succ]
        refine zv 12 21 (.agg (cellsOf .u32 (nn tabL))) (fun _ ⟨BL, b1, Oua, b3, z1⟩ => Val.blk 26 _ rfl 0 72 (by kernel_rfl) b1 _ Try.underlying26 rfl (by kernel_rfl) (by (try simp only [nn_len, List.length_cons, List.length_nil, List.length_set, List.length_replicate]); try omega) _ (seg_all' _ (by (try simp only [nn_len, List.length_cons, List.length_nil, List.length_set, List.length_replicate]); try omega))) ⟨BL, b1, Oua, b3, by omega⟩ ?_
        simp only [List.set_cons_zero, List.set_cons_succ]
        refine zo1 10 rfl ?_
        refine xCall 19 24 #[.int .u8 170, .int .i64 64] (by kernel_rfl) ?_
        refine (ofb_any 170 64 (by omega) (by omega) w103).mono ?_
        rintro en w104 ⟨ub, rfl, hO, hb1⟩
        have e76 := belE0 hb1
        have ze76 := e76.size
        replace BL := BL.e0 e76
        replace b1 := b1.e0 e76
        replace Oua := Oua.e0 e76
        replace b3 := b3.e0 e76
        replace sb14 := sb14.e0 e76
        replace sb10 := sb10.e0 e76
        clear e76
        have Oub : Own 5 .u8 w103.heap.size w104 ub (nn (List.replicate 64 170)) := hO
        have lOub_6 := Oub.ge
        refine ⟨ub, rfl, ?_⟩
        refine ze 10 ⟨BL, b1, Oua, b3, by omega⟩ ?_
        simp only [List.set_cons_zero, List.set_cons_succ]
        refine zo1 11 rfl ?_
        refine xCall 20 25 #[.pointer (some ⟨w1.heap.size, 0, none⟩), ub, .slice none 0 0] (by kernel_rfl) ?_
        refine (mac_any w1.heap.size tabL hTL w104 b1 (List.replicate 64 170) [] _ _ Oub.sl (by simp) (SL.nil _ _) (by simp)).mono ?_
        rintro en w105 ⟨rfl, hb1⟩
        have e77 := belE0 hb1
        have ze77 := e77.size
        replace BL := BL.e0 e77
        replace b1 := b1.e0 e77
        replace Oua := Oua.e0 e77
        replace b3 := b3.e0 e77
        replace sb14 := sb14.e0 e77
        replace sb10 := sb10.e0 e77
        replace Oub := Oub.e0 e77
        clear e77
        refine ⟨.agg (cellsOf .u8 (nn (macN tabL (List.replicate 64 170) []))), rfl, ?_⟩
        refine ze 11 ⟨BL, b1, Oua, b3, by omega⟩ ?_
        simp only [List.set_cons_zero, List.set_cons_succ]
        refine zo1 13 rfl ?_
        refine xCall 22 24 #[.int .u8 170, .int .i64 64] (by kernel_rfl) ?_
        refine (ofb_any 170 64 (by omega) (by omega) w105).mono ?_
        rintro en w106 ⟨uc, rfl, hO, hb1⟩
        have e78 := belE0 hb1
        have ze78 := e78.size
        replace BL := BL.e0 e78
        replace b1 := b1.e0 e78
        replace Oua := Oua.e0 e78
        replace b3 := b3.e0 e78
        replace sb14 := sb14.e0 e78
        replace sb10 := sb10.e0 e78
        replace Oub := Oub.e0 e78
        clear e78
        have Ouc : Own 5 .u8 w105.heap.size w106 uc (nn (List.replicate 64 170)) := hO
        have lOuc_6 := Ouc.ge
        refine ⟨uc, rfl, ?_⟩
        refine ze 13 ⟨BL, b1, Oua, b3, by omega⟩ ?_
        simp only [List.set_cons_zero, List.set_cons_succ]
        refine zo1 14 rfl ?_
        refine xCall 23 26 #[.agg (cellsOf .u32 (nn tabL)), uc, .slice none 0 0] (by kernel_rfl) ?_
        refine (rmac_any tabL hTL tabL_b w106 (List.replicate 64 170) [] _ _ (rep_b 64 170 (by omega)) (by simp) Ouc.sl (by simp) (SL.nil _ _) (by simp)).mono ?_
        rintro en w107 ⟨rfl, hb1⟩
        have e79 := belE0 hb1
        have ze79 := e79.size
        replace BL := BL.e0 e79
        replace b1 := b1.e0 e79
        replace Oua := Oua.e0 e79
        replace b3 := b3.e0 e79
        replace sb14 := sb14.e0 e79
        replace sb10 := sb10.e0 e79
        replace Oub := Oub.e0 e79
        replace Ouc := Ouc.e0 e79
        clear e79
        refine ⟨.agg (cellsOf .u8 (nn (macN tabL (List.replicate 64 170) []))), rfl, ?_⟩
        refine ze 14 ⟨BL, b1, Oua, b3, by omega⟩ ?_
        simp only [List.set_cons_zero, List.set_cons_succ]
        refine zv 15 24 (.bool true) (fun _ ⟨BL, b1, Oua, b3, z1⟩ => Val.eqA .eql 37 _ (.tmp 20) (.tmp 23) rfl Try.underlying37 Try.underlying5 (by kernel_rfl) (by kernel_rfl) (nn (macN tabL (List.replicate 64 170) [])) (nn (macN tabL (List.replicate 64 170) [])) (by kernel_rfl) (by kernel_rfl) (by rw [nn_len]; exact hm4) (by rw [nn_len]; exact hm4) (.inl rfl) true (by simp)) ⟨BL, b1, Oua, b3, by omega⟩ ?_
        simp only [List.set_cons_zero, List.set_cons_succ]
        refine zv 16 25 (.bool true) (fun _ _ => .of) ⟨BL, b1, Oua, b3, by omega⟩ ?_
        simp only [List.set_cons_zero, List.set_cons_succ]
        refine zv 17 4 (.bool true) (fun _ _ => .of) ⟨BL, b1, Oua, b3, by omega⟩ ?_
        simp only [List.set_cons_zero, List.set_cons_succ]
        refine zd (by kernel_rfl) ?_ _
        refine hK5 _ _ ?_
        refine wp_seq_k fun K11 hK11 => ?_
        refine cPlain ?_
        refine sv 26 (.bool true) .of ?_
        simp only [List.set_cons_zero, List.set_cons_succ]
        refine sv 27 (.bool true) .of ?_
        simp only [List.set_cons_zero, List.set_cons_succ]
        refine xCall 28 25 #[.pointer none, .slice none 0 0, .slice none 0 0] (by kernel_rfl) ?_
        refine (mac_nil [] _ _ w107 (SL.nil _ _) (by simp)).mono ?_
        rintro en w108 ⟨rfl, hb1⟩
        have e80 := belE0 hb1
        have ze80 := e80.size
        replace BL := BL.e0 e80
        replace b1 := b1.e0 e80
        replace Oua := Oua.e0 e80
        replace b3 := b3.e0 e80
        replace sb14 := sb14.e0 e80
        replace sb10 := sb10.e0 e80
        replace Oub := Oub.e0 e80
        replace Ouc := Ouc.e0 e80
        clear e80
        refine ⟨.agg (cellsOf .u8 (nn (List.replicate 32 0))), rfl, ?_⟩
        simp only [List.set_cons_zero, List.set_cons_succ]
        refine sv 29 (.agg (cellsOf .u8 (nn (List.replicate 32 0)))) .of ?_
        simp only [List.set_cons_zero, List.set_cons_succ]
        refine sv 30 (.bool true) (Val.eqA .eql 37 _ (.tmp 28) (.tmp 29) rfl Try.underlying37 Try.underlying5 (by kernel_rfl) (by kernel_rfl) (nn (List.replicate 32 0)) (nn (List.replicate 32 0)) (by kernel_rfl) (by kernel_rfl) (by rw [nn_len]; rfl) (by rw [nn_len]; rfl) (.inl rfl) true (by simp)) ?_
        simp only [List.set_cons_zero, List.set_cons_succ]
        refine sv 31 (.bool true) .of ?_
        simp only [List.set_cons_zero, List.set_cons_succ]
        refine sv 32 (.bool true) .of ?_
        simp only [List.set_cons_zero, List.set_cons_succ]
        refine xCall 33 27 #[.pointer none, .int .u8 1, .slice none 0 0] (by kernel_rfl) ?_
        refine (tagged_nil 1 _ [] [] w108 (.inl ⟨rfl, rfl⟩) trivial (by simp [blobsB])).mono ?_
        rintro en w109 ⟨rfl, hb1⟩
        have e81 := belE0 hb1
        have ze81 := e81.size
        replace BL := BL.e0 e81
        replace b1 := b1.e0 e81
        replace Oua := Oua.e0 e81
        replace b3 := b3.e0 e81
        replace sb14 := sb14.e0 e81
        replace sb10 := sb10.e0 e81
        replace Oub := Oub.e0 e81
        replace Ouc := Ouc.e0 e81
        clear e81
        refine ⟨.agg (cellsOf .u8 (nn (List.replicate 32 0))), rfl, ?_⟩
        simp only [List.set_cons_zero, List.set_cons_succ]
        refine sv 34 (.agg (cellsOf .u8 (nn (List.replicate 32 0)))) .of ?_
        simp only [List.set_cons_zero, List.set_cons_succ]
        refine sv 35 (.bool true) (Val.eqA .eql 37 _ (.tmp 33) (.tmp 34) rfl Try.underlying37 Try.underlying5 (by kernel_rfl) (by kernel_rfl) (nn (List.replicate 32 0)) (nn (List.replicate 32 0)) (by kernel_rfl) (by kernel_rfl) (by rw [nn_len]; rfl) (by rw [nn_len]; rfl) (.inl rfl) true (by simp)) ?_
        simp only [List.set_cons_zero, List.set_cons_succ]
        refine sv 36 (.bool true) .of ?_
        simp only [List.set_cons_zero, List.set_cons_succ]
        refine sv 37 (.bool true) .of ?_
        simp only [List.set_cons_zero, List.set_cons_succ]
        refine xCall 38 29 #[.int .u8 0, .slice none 0 0] (by kernel_rfl) ?_
        refine (mactext_any ((0 : Nat) : Int) _ [] (([] : List (List Nat)).map nn) w109 (.inl ⟨rfl, rfl⟩) w109.heap.size (by omega) trivial (by simp [blobsB])).mono ?_
        rintro en w110 ⟨u, rfl, hO, hb1⟩
        replace hO := hO.cast ((textN_nn 0 []).symm.trans (congrArg nn text00))
        have e82 := belE0 hb1
        have ze82 := e82.size
        replace BL := BL.e0 e82
        replace b1 := b1.e0 e82
        replace Oua := Oua.e0 e82
        replace b3 := b3.e0 e82
        replace sb14 := sb14.e0 e82
        replace sb10 := sb10.e0 e82
        replace Oub := Oub.e0 e82
        replace Ouc := Ouc.e0 e82
        clear e82
        have U : Own 5 .u8 w109.heap.size w110 u (nn [75, 0, 0]) := hO
        have lU_6 := U.ge
        refine ⟨u, rfl, ?_⟩
        simp only [List.set_cons_zero, List.set_cons_succ]
        refine xLit 39 30 5 3 _ #[(0, .int .u8 75), (1, .int .u8 0), (2, .int .u8 0)] [.int .u8 75, .int .u8 0, .int .u8 0] rfl (by kernel_rfl) (by kernel_rfl) ?_
        intro w111 n22
        have zn22 := n22.z
        have b39 := n22.c
        replace b39 : Blk .u8 w111 w110.heap.size 5 [75, 0, 0] := b39
        replace BL := BL.e0 n22.e
        replace b1 := b1.e0 n22.e
        replace Oua := Oua.e0 n22.e
        replace b3 := b3.e0 n22.e
        replace sb14 := sb14.e0 n22.e
        replace sb10 := sb10.e0 n22.e
        replace Oub := Oub.e0 n22.e
        replace Ouc := Ouc.e0 n22.e
        replace U := U.e0 n22.e
        have sb39 : SL .u8 w111 (.slice (some ⟨w110.heap.size, 0, none⟩) 3 3) [75, 0, 0] := SL.ofBlk b39 rfl (by unfold maxLen; omega)
        have lb39 : ∀ i, Value.ownBlock (.slice (some ⟨w110.heap.size, 0, none⟩) 3 3) = some i → w110.heap.size ≤ i ∧ i < w111.heap.size := ownB_lit (by omega)
        simp only [List.set_cons_zero, List.set_cons_succ]
        refine xCall 40 28 #[u, .slice (some ⟨w110.heap.size, 0, none⟩) 3 3] (by kernel_rfl) ?_
        refine (same_any _ _ (nn [75, 0, 0]) (nn [75, 0, 0]) w111 U.sl sb39 (bytes_nn (by decide)) (bytes_nn (by decide))).mono ?_
        rintro en w112 ⟨he, hw⟩
        rw [decide_eq_true rfl] at he
        subst he
        obtain rfl := (hw.symm).symm
        refine ⟨.bool true, rfl, ?_⟩
        simp only [List.set_cons_zero, List.set_cons_succ]
        refine sv 41 (.bool true) .of ?_
        simp only [List.set_cons_zero, List.set_cons_succ]
        refine sv 42 (.bool true) .of ?_
        simp only [List.set_cons_zero, List.set_cons_succ]
        refine xLit 43 30 5 0 _ #[] [] rfl (by kernel_rfl) (by kernel_rfl) ?_
        intro w113 n23
        have zn23 := n23.z
        have b43 := n23.c
        replace b43 : Blk .u8 w113 w111.heap.size 5 [] := b43
        replace BL := BL.e0 n23.e
        replace b1 := b1.e0 n23.e
        replace Oua := Oua.e0 n23.e
        replace b3 := b3.e0 n23.e
        replace sb14 := sb14.e0 n23.e
        replace sb10 := sb10.e0 n23.e
        replace Oub := Oub.e0 n23.e
        replace Ouc := Ouc.e0 n23.e
        replace U := U.e0 n23.e
        replace b39 := b39.e0 n23.e
        replace sb39 := sb39.e0 n23.e
        have sb43 : SL .u8 w113 (.slice (some ⟨w111.heap.size, 0, none⟩) 0 0) [] := SL.ofBlk b43 rfl (by unfold maxLen; omega)
        have lb43 : ∀ i, Value.ownBlock (.slice (some ⟨w111.heap.size, 0, none⟩) 0 0) = some i → w111.heap.size ≤ i ∧ i < w113.heap.size := ownB_lit (by omega)
        simp only [List.set_cons_zero, List.set_cons_succ]
        refine xCall 44 30 #[.slice none 0 0, .slice (some ⟨w111.heap.size, 0, none⟩) 0 0] (by kernel_rfl) ?_
        refine (macsame_any _ _ [] [] w113 (SL.nil _ _) sb43 (by decide) (by decide) (by simp) (by simp)).mono ?_
        rintro en w114 ⟨rfl, hb1⟩
        have e83 := belE0 hb1
        have ze83 := e83.size
        replace BL := BL.e0 e83
        replace b1 := b1.e0 e83
        replace Oua := Oua.e0 e83
        replace b3 := b3.e0 e83
        replace sb14 := sb14.e0 e83
        replace sb10 := sb10.e0 e83
        replace Oub := Oub.e0 e83
        replace Ouc := Ouc.e0 e83
        replace U := U.e0 e83
        replace b39 := b39.e0 e83
        replace sb39 := sb39.e0 e83
        replace b43 := b43.e0 e83
        replace sb43 := sb43.e0 e83
        clear e83
        refine ⟨.bool true, rfl, ?_⟩
        simp only [List.set_cons_zero, List.set_cons_succ]
        refine sv 45 (.bool true) .of ?_
        simp only [List.set_cons_zero, List.set_cons_succ]
        refine sv 46 (.bool true) .of ?_
        simp only [List.set_cons_zero, List.set_cons_succ]
        refine xLit 47 30 5 1 _ #[(0, .int .u8 0)] [.int .u8 0] rfl (by kernel_rfl) (by kernel_rfl) ?_
        intro w115 n24
        have zn24 := n24.z
        have b47 := n24.c
        replace b47 : Blk .u8 w115 w114.heap.size 5 [0] := b47
        replace BL := BL.e0 n24.e
        replace b1 := b1.e0 n24.e
        replace Oua := Oua.e0 n24.e
        replace b3 := b3.e0 n24.e
        replace sb14 := sb14.e0 n24.e
        replace sb10 := sb10.e0 n24.e
        replace Oub := Oub.e0 n24.e
        replace Ouc := Ouc.e0 n24.e
        replace U := U.e0 n24.e
        replace b39 := b39.e0 n24.e
        replace sb39 := sb39.e0 n24.e
        replace b43 := b43.e0 n24.e
        replace sb43 := sb43.e0 n24.e
        have sb47 : SL .u8 w115 (.slice (some ⟨w114.heap.size, 0, none⟩) 1 1) [0] := SL.ofBlk b47 rfl (by unfold maxLen; omega)
        have lb47 : ∀ i, Value.ownBlock (.slice (some ⟨w114.heap.size, 0, none⟩) 1 1) = some i → w114.heap.size ≤ i ∧ i < w115.heap.size := ownB_lit (by omega)
        simp only [List.set_cons_zero, List.set_cons_succ]
        refine xCall 48 30 #[.slice none 0 0, .slice (some ⟨w114.heap.size, 0, none⟩) 1 1] (by kernel_rfl) ?_
        refine (macsame_any _ _ [] [0] w115 (SL.nil _ _) sb47 (by decide) (by decide) (by simp) (by simp)).mono ?_
        rintro en w116 ⟨rfl, hb1⟩
        have e84 := belE0 hb1
        have ze84 := e84.size
        replace BL := BL.e0 e84
        replace b1 := b1.e0 e84
        replace Oua := Oua.e0 e84
        replace b3 := b3.e0 e84
        replace sb14 := sb14.e0 e84
        replace sb10 := sb10.e0 e84
        replace Oub := Oub.e0 e84
        replace Ouc := Ouc.e0 e84
        replace U := U.e0 e84
        replace b39 := b39.e0 e84
        replace sb39 := sb39.e0 e84
        replace b43 := b43.e0 e84
        replace sb43 := sb43.e0 e84
        replace b47 := b47.e0 e84
        replace sb47 := sb47.e0 e84
        clear e84
        refine ⟨.bool false, rfl, ?_⟩
        simp only [List.set_cons_zero, List.set_cons_succ]
        refine sv 49 (.bool true) .of ?_
        simp only [List.set_cons_zero, List.set_cons_succ]
        refine sv 50 (.bool true) .of ?_
        simp only [List.set_cons_zero, List.set_cons_succ]
        refine sv 51 (.bool true) .of ?_
        simp only [List.set_cons_zero, List.set_cons_succ]
        refine xCall 52 31 #[] (by kernel_rfl) ?_
        refine (awake03_any w116).mono ?_
        rintro en w117 ⟨rfl, hb1⟩
        have e85 := belE0 hb1
        have ze85 := e85.size
        replace BL := BL.e0 e85
        replace b1 := b1.e0 e85
        replace Oua := Oua.e0 e85
        replace b3 := b3.e0 e85
        replace sb14 := sb14.e0 e85
        replace sb10 := sb10.e0 e85
        replace Oub := Oub.e0 e85
        replace Ouc := Ouc.e0 e85
        replace U := U.e0 e85
        replace b39 := b39.e0 e85
        replace sb39 := sb39.e0 e85
        replace b43 := b43.e0 e85
        replace sb43 := sb43.e0 e85
        replace b47 := b47.e0 e85
        replace sb47 := sb47.e0 e85
        clear e85
        refine ⟨.bool true, rfl, ?_⟩
        simp only [List.set_cons_zero, List.set_cons_succ]
        refine sv 53 (.bool true) .of ?_
        simp only [List.set_cons_zero, List.set_cons_succ]
        refine sv 0 (.bool true) .of ?_
        simp only [List.set_cons_zero, List.set_cons_succ]
        refine wpList_nil ?_
        refine hK11 _ _ ?_
        refine wp_ret ?_
        (try simp only [Exit.then, Exit.inBlock])
        refine bodyPost_ret (v := .bool true) rT rfl ?_
        exact ⟨rfl, BL.b⟩
  · skip
    refine xLit 14 30 5 1 _ #[(0, .int .u8 120)] [.int .u8 120] rfl (by kernel_rfl) (by kernel_rfl) ?_
    intro w118 n25
    have zn25 := n25.z
    have b14 := n25.c
    replace b14 : Blk .u8 w118 w8.heap.size 5 [120] := b14
    replace BL := BL.e0 n25.e
    replace b1 := b1.e0 n25.e
    replace Oua := Oua.e0 n25.e
    replace b3 := b3.e0 n25.e
    have sb14 : SL .u8 w118 (.slice (some ⟨w8.heap.size, 0, none⟩) 1 1) [120] := SL.ofBlk b14 rfl (by unfold maxLen; omega)
    have lb14 : ∀ i, Value.ownBlock (.slice (some ⟨w8.heap.size, 0, none⟩) 1 1) = some i → w8.heap.size ≤ i ∧ i < w118.heap.size := ownB_lit (by omega)
    refine ze 5 ⟨BL, b1, Oua, b3, by omega⟩ ?_
    simp only [List.set_cons_zero, List.set_cons_succ]
    refine zo2 1 6 rfl rfl ?_ ?_
    · skip
      refine xLit 10 30 5 1 _ #[(0, .int .u8 120)] [.int .u8 120] rfl (by kernel_rfl) (by kernel_rfl) ?_
      intro w119 n26
      have zn26 := n26.z
      have b10 := n26.c
      replace b10 : Blk .u8 w119 w118.heap.size 5 [120] := b10
      replace BL := BL.e0 n26.e
      replace b1 := b1.e0 n26.e
      replace Oua := Oua.e0 n26.e
      replace b3 := b3.e0 n26.e
      replace b14 := b14.e0 n26.e
      replace sb14 := sb14.e0 n26.e
      have sb10 : SL .u8 w119 (.slice (some ⟨w118.heap.size, 0, none⟩) 1 1) [120] := SL.ofBlk b10 rfl (by unfold maxLen; omega)
      have lb10 : ∀ i, Value.ownBlock (.slice (some ⟨w118.heap.size, 0, none⟩) 1 1) = some i → w118.heap.size ≤ i ∧ i < w119.heap.size := ownB_lit (by omega)
      refine ze 1 ⟨BL, b1, Oua, b3, by omega⟩ ?_
      simp only [List.set_cons_zero, List.set_cons_succ]
      refine zo2 2 6 rfl rfl ?_ ?_
      · skip
        refine xMark 11 30 5 (.tmp 10) rfl Try.underlying30 Try.underlying5 w118.heap.size 1 [120] (by kernel_rfl) b10 rfl (by unfold maxLen; omega) ?_
        intro w120 b10m e86 ze86
        have BL_ := BL.ev e86 (fun i h => show w.heap.size ≤ i by have h : i = w118.heap.size := h; omega)
        have b1_ := b1.ev e86 (show ¬ (w1.heap.size = w118.heap.size) by omega)
        have Oua_ := Oua.ev e86 (fun i hi => show ¬ (i = w118.heap.size) by have := lOua_1 i hi; omega)
        have b3_ := b3.ev e86 (show ¬ (w5.heap.size = w118.heap.size) by omega)
        have b14_ := b14.ev e86 (show ¬ (w8.heap.size = w118.heap.size) by omega)
        have sb14_ := sb14.ev e86 (fun i hi => show ¬ (i = w118.heap.size) by have := lb14 i hi; omega)
        replace BL := BL_; clear BL_
        replace b1 := b1_; clear b1_
        replace Oua := Oua_; clear Oua_
        replace b3 := b3_; clear b3_
        replace b14 := b14_; clear b14_
        replace sb14 := sb14_; clear sb14_
        replace sb10 := b10m; clear b10m b10 e86
        refine ze 2 ⟨BL, b1, Oua, b3, by omega⟩ ?_
        simp only [List.set_cons_zero, List.set_cons_succ]
        refine zo2 3 6 rfl rfl ?_ ?_
        · skip
          refine xCall 12 25 #[.pointer (some ⟨w1.heap.size, 0, none⟩), ua, .slice (some ⟨w118.heap.size, 0, none⟩) 1 1] (by kernel_rfl) ?_
          refine (mac_any w1.heap.size tabL hTL w120 b1 (List.replicate 65 170) [120] _ _ Oua.sl (by simp) sb10 (by simp)).mono ?_
          rintro en w121 ⟨rfl, hb1⟩
          have e87 := belE0 hb1
          have ze87 := e87.size
          replace BL := BL.e0 e87
          replace b1 := b1.e0 e87
          replace Oua := Oua.e0 e87
          replace b3 := b3.e0 e87
          replace b14 := b14.e0 e87
          replace sb14 := sb14.e0 e87
          replace sb10 := sb10.e0 e87
          clear e87
          refine ⟨.agg (cellsOf .u8 (nn (macN tabL (List.replicate 65 170) [120]))), rfl, ?_⟩
          refine ze 3 ⟨BL, b1, Oua, b3, by omega⟩ ?_
          simp only [List.set_cons_zero, List.set_cons_succ]
          refine zo1 6 rfl ?_
          refine xMark 15 30 5 (.tmp 14) rfl Try.underlying30 Try.underlying5 w8.heap.size 1 [120] (by kernel_rfl) b14 rfl (by unfold maxLen; omega) ?_
          intro w122 b14m e88 ze88
          have BL_ := BL.ev e88 (fun i h => show w.heap.size ≤ i by have h : i = w8.heap.size := h; omega)
          have b1_ := b1.ev e88 (show ¬ (w1.heap.size = w8.heap.size) by omega)
          have Oua_ := Oua.ev e88 (fun i hi => show ¬ (i = w8.heap.size) by have := lOua_1 i hi; omega)
          have b3_ := b3.ev e88 (show ¬ (w5.heap.size = w8.heap.size) by omega)
          have sb10_ := sb10.ev e88 (fun i hi => show ¬ (i = w8.heap.size) by have := lb10 i hi; omega)
          replace BL := BL_; clear BL_
          replace b1 := b1_; clear b1_
          replace Oua := Oua_; clear Oua_
          replace b3 := b3_; clear b3_
          replace sb10 := sb10_; clear sb10_
          replace sb14 := b14m; clear b14m b14 e88
          refine ze 6 ⟨BL, b1, Oua, b3, by omega⟩ ?_
          simp only [List.set_cons_zero, List.set_cons_succ]
          refine zo1 7 rfl ?_
          refine xCall 16 25 #[.pointer (some ⟨w1.heap.size, 0, none⟩), .slice (some ⟨w5.heap.size, 0, none⟩) 32 32, .slice (some ⟨w8.heap.size, 0, none⟩) 1 1] (by kernel_rfl) ?_
          refine (mac_any w1.heap.size tabL hTL w122 b1 (ofN tabL (List.replicate 65 170)) [120] _ _ (SL.ofBlk b3 (by rw [nn_len]; exact hol) (by unfold maxLen; omega)) (by omega) sb14 (by simp)).mono ?_
          rintro en w123 ⟨he, hb1⟩
          rw [mac_long (by simp)] at he
          subst he
          have e89 := belE0 hb1
          have ze89 := e89.size
          replace BL := BL.e0 e89
          replace b1 := b1.e0 e89
          replace Oua := Oua.e0 e89
          replace b3 := b3.e0 e89
          replace sb10 := sb10.e0 e89
          replace sb14 := sb14.e0 e89
          clear e89
          refine ⟨.agg (cellsOf .u8 (nn (macN tabL (List.replicate 65 170) [120]))), rfl, ?_⟩
          refine ze 7 ⟨BL, b1, Oua, b3, by omega⟩ ?_
          simp only [List.set_cons_zero, List.set_cons_succ]
          refine zv 8 17 (.bool true) (fun _ ⟨BL, b1, Oua, b3, z1⟩ => Val.eqA .eql 37 _ (.tmp 12) (.tmp 16) rfl Try.underlying37 Try.underlying5 (by kernel_rfl) (by kernel_rfl) (nn (macN tabL (List.replicate 65 170) [120])) (nn (macN tabL (List.replicate 65 170) [120])) (by kernel_rfl) (by kernel_rfl) (by rw [nn_len]; exact hml) (by rw [nn_len]; exact hml) (.inl rfl) true (by simp)) ⟨BL, b1, Oua, b3, by omega⟩ ?_
          simp only [List.set_cons_zero, List.set_cons_succ]
          refine zv 9 18 (.bool true) (fun _ _ => .of) ⟨BL, b1, Oua, b3, by omega⟩ ?_
          simp only [List.set_cons_zero, List.set_cons_succ]
          refine zv 12 21 (.agg (cellsOf .u32 (nn tabL))) (fun _ ⟨BL, b1, Oua, b3, z1⟩ => Val.blk 26 _ rfl 0 72 (by kernel_rfl) b1 _ Try.underlying26 rfl (by kernel_rfl) (by (try simp only [nn_len, List.length_cons, List.length_nil, List.length_set, List.length_replicate]); try omega) _ (seg_all' _ (by (try simp only [nn_len, List.length_cons, List.length_nil, List.length_set, List.length_replicate]); try omega))) ⟨BL, b1, Oua, b3, by omega⟩ ?_
          simp only [List.set_cons_zero, List.set_cons_succ]
          refine zo1 10 rfl ?_
          refine xCall 19 24 #[.int .u8 170, .int .i64 64] (by kernel_rfl) ?_
          refine (ofb_any 170 64 (by omega) (by omega) w123).mono ?_
          rintro en w124 ⟨ub, rfl, hO, hb1⟩
          have e90 := belE0 hb1
          have ze90 := e90.size
          replace BL := BL.e0 e90
          replace b1 := b1.e0 e90
          replace Oua := Oua.e0 e90
          replace b3 := b3.e0 e90
          replace sb10 := sb10.e0 e90
          replace sb14 := sb14.e0 e90
          clear e90
          have Oub : Own 5 .u8 w123.heap.size w124 ub (nn (List.replicate 64 170)) := hO
          have lOub_7 := Oub.ge
          refine ⟨ub, rfl, ?_⟩
          refine ze 10 ⟨BL, b1, Oua, b3, by omega⟩ ?_
          simp only [List.set_cons_zero, List.set_cons_succ]
          refine zo1 11 rfl ?_
          refine xCall 20 25 #[.pointer (some ⟨w1.heap.size, 0, none⟩), ub, .slice none 0 0] (by kernel_rfl) ?_
          refine (mac_any w1.heap.size tabL hTL w124 b1 (List.replicate 64 170) [] _ _ Oub.sl (by simp) (SL.nil _ _) (by simp)).mono ?_
          rintro en w125 ⟨rfl, hb1⟩
          have e91 := belE0 hb1
          have ze91 := e91.size
          replace BL := BL.e0 e91
          replace b1 := b1.e0 e91
          replace Oua := Oua.e0 e91
          replace b3 := b3.e0 e91
          replace sb10 := sb10.e0 e91
          replace sb14 := sb14.e0 e91
          replace Oub := Oub.e0 e91
          clear e91
          refine ⟨.agg (cellsOf .u8 (nn (macN tabL (List.replicate 64 170) []))), rfl, ?_⟩
          refine ze 11 ⟨BL, b1, Oua, b3, by omega⟩ ?_
          simp only [List.set_cons_zero, List.set_cons_succ]
          refine zo1 13 rfl ?_
          refine xCall 22 24 #[.int .u8 170, .int .i64 64] (by kernel_rfl) ?_
          refine (ofb_any 170 64 (by omega) (by omega) w125).mono ?_
          rintro en w126 ⟨uc, rfl, hO, hb1⟩
          have e92 := belE0 hb1
          have ze92 := e92.size
          replace BL := BL.e0 e92
          replace b1 := b1.e0 e92
          replace Oua := Oua.e0 e92
          replace b3 := b3.e0 e92
          replace sb10 := sb10.e0 e92
          replace sb14 := sb14.e0 e92
          replace Oub := Oub.e0 e92
          clear e92
          have Ouc : Own 5 .u8 w125.heap.size w126 uc (nn (List.replicate 64 170)) := hO
          have lOuc_7 := Ouc.ge
          refine ⟨uc, rfl, ?_⟩
          refine ze 13 ⟨BL, b1, Oua, b3, by omega⟩ ?_
          simp only [List.set_cons_zero, List.set_cons_succ]
          refine zo1 14 rfl ?_
          refine xCall 23 26 #[.agg (cellsOf .u32 (nn tabL)), uc, .slice none 0 0] (by kernel_rfl) ?_
          refine (rmac_any tabL hTL tabL_b w126 (List.replicate 64 170) [] _ _ (rep_b 64 170 (by omega)) (by simp) Ouc.sl (by simp) (SL.nil _ _) (by simp)).mono ?_
          rintro en w127 ⟨rfl, hb1⟩
          have e93 := belE0 hb1
          have ze93 := e93.size
          replace BL := BL.e0 e93
          replace b1 := b1.e0 e93
          replace Oua := Oua.e0 e93
          replace b3 := b3.e0 e93
          replace sb10 := sb10.e0 e93
          replace sb14 := sb14.e0 e93
          replace Oub := Oub.e0 e93
          replace Ouc := Ouc.e0 e93
          clear e93
          refine ⟨.agg (cellsOf .u8 (nn (macN tabL (List.replicate 64 170) []))), rfl, ?_⟩
          refine ze 14 ⟨BL, b1, Oua, b3, by omega⟩ ?_
          simp only [List.set_cons_zero, List.set_cons_succ]
          refine zv 15 24 (.bool true) (fun _ ⟨BL, b1, Oua, b3, z1⟩ => Val.eqA .eql 37 _ (.tmp 20) (.tmp 23) rfl Try.underlying37 Try.underlying5 (by kernel_rfl) (by kernel_rfl) (nn (macN tabL (List.replicate 64 170) [])) (nn (macN tabL (List.replicate 64 170) [])) (by kernel_rfl) (by kernel_rfl) (by rw [nn_len]; exact hm4) (by rw [nn_len]; exact hm4) (.inl rfl) true (by simp)) ⟨BL, b1, Oua, b3, by omega⟩ ?_
          simp only [List.set_cons_zero, List.set_cons_succ]
          refine zv 16 25 (.bool true) (fun _ _ => .of) ⟨BL, b1, Oua, b3, by omega⟩ ?_
          simp only [List.set_cons_zero, List.set_cons_succ]
          refine zv 17 4 (.bool true) (fun _ _ => .of) ⟨BL, b1, Oua, b3, by omega⟩ ?_
          simp only [List.set_cons_zero, List.set_cons_succ]
          refine zd (by kernel_rfl) ?_ _
          refine hK5 _ _ ?_
          refine wp_seq_k fun K12 hK12 => ?_
          refine cPlain ?_
          refine sv 26 (.bool true) .of ?_
          simp only [List.set_cons_zero, List.set_cons_succ]
          refine sv 27 (.bool true) .of ?_
          simp only [List.set_cons_zero, List.set_cons_succ]
          refine xCall 28 25 #[.pointer none, .slice none 0 0, .slice none 0 0] (by kernel_rfl) ?_
          refine (mac_nil [] _ _ w127 (SL.nil _ _) (by simp)).mono ?_
          rintro en w128 ⟨rfl, hb1⟩
          have e94 := belE0 hb1
          have ze94 := e94.size
          replace BL := BL.e0 e94
          replace b1 := b1.e0 e94
          replace Oua := Oua.e0 e94
          replace b3 := b3.e0 e94
          replace sb10 := sb10.e0 e94
          replace sb14 := sb14.e0 e94
          replace Oub := Oub.e0 e94
          replace Ouc := Ouc.e0 e94
          clear e94
          refine ⟨.agg (cellsOf .u8 (nn (List.replicate 32 0))), rfl, ?_⟩
          simp only [List.set_cons_zero, List.set_cons_succ]
          refine sv 29 (.agg (cellsOf .u8 (nn (List.replicate 32 0)))) .of ?_
          simp only [List.set_cons_zero, List.set_cons_succ]
          refine sv 30 (.bool true) (Val.eqA .eql 37 _ (.tmp 28) (.tmp 29) rfl Try.underlying37 Try.underlying5 (by kernel_rfl) (by kernel_rfl) (nn (List.replicate 32 0)) (nn (List.replicate 32 0)) (by kernel_rfl) (by kernel_rfl) (by rw [nn_len]; rfl) (by rw [nn_len]; rfl) (.inl rfl) true (by simp)) ?_
          simp only [List.set_cons_zero, List.set_cons_succ]
          refine sv 31 (.bool true) .of ?_
          simp only [List.set_cons_zero, List.set_cons_succ]
          refine sv 32 (.bool true) .of ?_
          simp only [List.set_cons_zero, List.set_cons_succ]
          refine xCall 33 27 #[.pointer none, .int .u8 1, .slice none 0 0] (by kernel_rfl) ?_
          refine (tagged_nil 1 _ [] [] w128 (.inl ⟨rfl, rfl⟩) trivial (by simp [blobsB])).mono ?_
          rintro en w129 ⟨rfl, hb1⟩
          have e95 := belE0 hb1
          have ze95 := e95.size
          replace BL := BL.e0 e95
          replace b1 := b1.e0 e95
          replace Oua := Oua.e0 e95
          replace b3 := b3.e0 e95
          replace sb10 := sb10.e0 e95
          replace sb14 := sb14.e0 e95
          replace Oub := Oub.e0 e95
          replace Ouc := Ouc.e0 e95
          clear e95
          refine ⟨.agg (cellsOf .u8 (nn (List.replicate 32 0))), rfl, ?_⟩
          simp only [List.set_cons_zero, List.set_cons_succ]
          refine sv 34 (.agg (cellsOf .u8 (nn (List.replicate 32 0)))) .of ?_
          simp only [List.set_cons_zero, List.set_cons_succ]
          refine sv 35 (.bool true) (Val.eqA .eql 37 _ (.tmp 33) (.tmp 34) rfl Try.underlying37 Try.underlying5 (by kernel_rfl) (by kernel_rfl) (nn (List.replicate 32 0)) (nn (List.replicate 32 0)) (by kernel_rfl) (by kernel_rfl) (by rw [nn_len]; rfl) (by rw [nn_len]; rfl) (.inl rfl) true (by simp)) ?_
          simp only [List.set_cons_zero, List.set_cons_succ]
          refine sv 36 (.bool true) .of ?_
          simp only [List.set_cons_zero, List.set_cons_succ]
          refine sv 37 (.bool true) .of ?_
          simp only [List.set_cons_zero, List.set_cons_succ]
          refine xCall 38 29 #[.int .u8 0, .slice none 0 0] (by kernel_rfl) ?_
          refine (mactext_any ((0 : Nat) : Int) _ [] (([] : List (List Nat)).map nn) w129 (.inl ⟨rfl, rfl⟩) w129.heap.size (by omega) trivial (by simp [blobsB])).mono ?_
          rintro en w130 ⟨u, rfl, hO, hb1⟩
          replace hO := hO.cast ((textN_nn 0 []).symm.trans (congrArg nn text00))
          have e96 := belE0 hb1
          have ze96 := e96.size
          replace BL := BL.e0 e96
          replace b1 := b1.e0 e96
          replace Oua := Oua.e0 e96
          replace b3 := b3.e0 e96
          replace sb10 := sb10.e0 e96
          replace sb14 := sb14.e0 e96
          replace Oub := Oub.e0 e96
          replace Ouc := Ouc.e0 e96
          clear e96
          have U : Own 5 .u8 w129.heap.size w130 u (nn [75, 0, 0]) := hO
          have lU_7 := U.ge
          refine ⟨u, rfl, ?_⟩
          simp only [List.set_cons_zero, List.set_cons_succ]
          refine xLit 39 30 5 3 _ #[(0, .int .u8 75), (1, .int .u8 0), (2, .int .u8 0)] [.int .u8 75, .int .u8 0, .int .u8 0] rfl (by kernel_rfl) (by kernel_rfl) ?_
          intro w131 n27
          have zn27 := n27.z
          have b39 := n27.c
          replace b39 : Blk .u8 w131 w130.heap.size 5 [75, 0, 0] := b39
          replace BL := BL.e0 n27.e
          replace b1 := b1.e0 n27.e
          replace Oua := Oua.e0 n27.e
          replace b3 := b3.e0 n27.e
          replace sb10 := sb10.e0 n27.e
          replace sb14 := sb14.e0 n27.e
          replace Oub := Oub.e0 n27.e
          replace Ouc := Ouc.e0 n27.e
          replace U := U.e0 n27.e
          have sb39 : SL .u8 w131 (.slice (some ⟨w130.heap.size, 0, none⟩) 3 3) [75, 0, 0] := SL.ofBlk b39 rfl (by unfold maxLen; omega)
          have lb39 : ∀ i, Value.ownBlock (.slice (some ⟨w130.heap.size, 0, none⟩) 3 3) = some i → w130.heap.size ≤ i ∧ i < w131.heap.size := ownB_lit (by omega)
          simp only [List.set_cons_zero, List.set_cons_succ]
          refine xCall 40 28 #[u, .slice (some ⟨w130.heap.size, 0, none⟩) 3 3] (by kernel_rfl) ?_
          refine (same_any _ _ (nn [75, 0, 0]) (nn [75, 0, 0]) w131 U.sl sb39 (bytes_nn (by decide)) (bytes_nn (by decide))).mono ?_
          rintro en w132 ⟨he, hw⟩
          rw [decide_eq_true rfl] at he
          subst he
          obtain rfl := (hw.symm).symm
          refine ⟨.bool true, rfl, ?_⟩
          simp only [List.set_cons_zero, List.set_cons_succ]
          refine sv 41 (.bool true) .of ?_
          simp only [List.set_cons_zero, List.set_cons_succ]
          refine sv 42 (.bool true) .of ?_
          simp only [List.set_cons_zero, List.set_cons_succ]
          refine xLit 43 30 5 0 _ #[] [] rfl (by kernel_rfl) (by kernel_rfl) ?_
          intro w133 n28
          have zn28 := n28.z
          have b43 := n28.c
          replace b43 : Blk .u8 w133 w131.heap.size 5 [] := b43
          replace BL := BL.e0 n28.e
          replace b1 := b1.e0 n28.e
          replace Oua := Oua.e0 n28.e
          replace b3 := b3.e0 n28.e
          replace sb10 := sb10.e0 n28.e
          replace sb14 := sb14.e0 n28.e
          replace Oub := Oub.e0 n28.e
          replace Ouc := Ouc.e0 n28.e
          replace U := U.e0 n28.e
          replace b39 := b39.e0 n28.e
          replace sb39 := sb39.e0 n28.e
          have sb43 : SL .u8 w133 (.slice (some ⟨w131.heap.size, 0, none⟩) 0 0) [] := SL.ofBlk b43 rfl (by unfold maxLen; omega)
          have lb43 : ∀ i, Value.ownBlock (.slice (some ⟨w131.heap.size, 0, none⟩) 0 0) = some i → w131.heap.size ≤ i ∧ i < w133.heap.size := ownB_lit (by omega)
          simp only [List.set_cons_zero, List.set_cons_succ]
          refine xCall 44 30 #[.slice none 0 0, .slice (some ⟨w131.heap.size, 0, none⟩) 0 0] (by kernel_rfl) ?_
          refine (macsame_any _ _ [] [] w133 (SL.nil _ _) sb43 (by decide) (by decide) (by simp) (by simp)).mono ?_
          rintro en w134 ⟨rfl, hb1⟩
          have e97 := belE0 hb1
          have ze97 := e97.size
          replace BL := BL.e0 e97
          replace b1 := b1.e0 e97
          replace Oua := Oua.e0 e97
          replace b3 := b3.e0 e97
          replace sb10 := sb10.e0 e97
          replace sb14 := sb14.e0 e97
          replace Oub := Oub.e0 e97
          replace Ouc := Ouc.e0 e97
          replace U := U.e0 e97
          replace b39 := b39.e0 e97
          replace sb39 := sb39.e0 e97
          replace b43 := b43.e0 e97
          replace sb43 := sb43.e0 e97
          clear e97
          refine ⟨.bool true, rfl, ?_⟩
          simp only [List.set_cons_zero, List.set_cons_succ]
          refine sv 45 (.bool true) .of ?_
          simp only [List.set_cons_zero, List.set_cons_succ]
          refine sv 46 (.bool true) .of ?_
          simp only [List.set_cons_zero, List.set_cons_succ]
          refine xLit 47 30 5 1 _ #[(0, .int .u8 0)] [.int .u8 0] rfl (by kernel_rfl) (by kernel_rfl) ?_
          intro w135 n29
          have zn29 := n29.z
          have b47 := n29.c
          replace b47 : Blk .u8 w135 w134.heap.size 5 [0] := b47
          replace BL := BL.e0 n29.e
          replace b1 := b1.e0 n29.e
          replace Oua := Oua.e0 n29.e
          replace b3 := b3.e0 n29.e
          replace sb10 := sb10.e0 n29.e
          replace sb14 := sb14.e0 n29.e
          replace Oub := Oub.e0 n29.e
          replace Ouc := Ouc.e0 n29.e
          replace U := U.e0 n29.e
          replace b39 := b39.e0 n29.e
          replace sb39 := sb39.e0 n29.e
          replace b43 := b43.e0 n29.e
          replace sb43 := sb43.e0 n29.e
          have sb47 : SL .u8 w135 (.slice (some ⟨w134.heap.size, 0, none⟩) 1 1) [0] := SL.ofBlk b47 rfl (by unfold maxLen; omega)
          have lb47 : ∀ i, Value.ownBlock (.slice (some ⟨w134.heap.size, 0, none⟩) 1 1) = some i → w134.heap.size ≤ i ∧ i < w135.heap.size := ownB_lit (by omega)
          simp only [List.set_cons_zero, List.set_cons_succ]
          refine xCall 48 30 #[.slice none 0 0, .slice (some ⟨w134.heap.size, 0, none⟩) 1 1] (by kernel_rfl) ?_
          refine (macsame_any _ _ [] [0] w135 (SL.nil _ _) sb47 (by decide) (by decide) (by simp) (by simp)).mono ?_
          rintro en w136 ⟨rfl, hb1⟩
          have e98 := belE0 hb1
          have ze98 := e98.size
          replace BL := BL.e0 e98
          replace b1 := b1.e0 e98
          replace Oua := Oua.e0 e98
          replace b3 := b3.e0 e98
          replace sb10 := sb10.e0 e98
          replace sb14 := sb14.e0 e98
          replace Oub := Oub.e0 e98
          replace Ouc := Ouc.e0 e98
          replace U := U.e0 e98
          replace b39 := b39.e0 e98
          replace sb39 := sb39.e0 e98
          replace b43 := b43.e0 e98
          replace sb43 := sb43.e0 e98
          replace b47 := b47.e0 e98
          replace sb47 := sb47.e0 e98
          clear e98
          refine ⟨.bool false, rfl, ?_⟩
          simp only [List.set_cons_zero, List.set_cons_succ]
          refine sv 49 (.bool true) .of ?_
          simp only [List.set_cons_zero, List.set_cons_succ]
          refine sv 50 (.bool true) .of ?_
          simp only [List.set_cons_zero, List.set_cons_succ]
          refine sv 51 (.bool true) .of ?_
          simp only [List.set_cons_zero, List.set_cons_succ]
          refine xCall 52 31 #[] (by kernel_rfl) ?_
          refine (awake03_any w136).mono ?_
          rintro en w137 ⟨rfl, hb1⟩
          have e99 := belE0 hb1
          have ze99 := e99.size
          replace BL := BL.e0 e99
          replace b1 := b1.e0 e99
          replace Oua := Oua.e0 e99
          replace b3 := b3.e0 e99
          replace sb10 := sb10.e0 e99
          replace sb14 := sb14.e0 e99
          replace Oub := Oub.e0 e99
          replace Ouc := Ouc.e0 e99
          replace U := U.e0 e99
          replace b39 := b39.e0 e99
          replace sb39 := sb39.e0 e99
          replace b43 := b43.e0 e99
          replace sb43 := sb43.e0 e99
          replace b47 := b47.e0 e99
          replace sb47 := sb47.e0 e99
          clear e99
          refine ⟨.bool true, rfl, ?_⟩
          simp only [List.set_cons_zero, List.set_cons_succ]
          refine sv 53 (.bool true) .of ?_
          simp only [List.set_cons_zero, List.set_cons_succ]
          refine sv 0 (.bool true) .of ?_
          simp only [List.set_cons_zero, List.set_cons_succ]
          refine wpList_nil ?_
          refine hK12 _ _ ?_
          refine wp_ret ?_
          (try simp only [Exit.then, Exit.inBlock])
          refine bodyPost_ret (v := .bool true) rT rfl ?_
          exact ⟨rfl, BL.b⟩
        · skip
          refine xMark 15 30 5 (.tmp 14) rfl Try.underlying30 Try.underlying5 w8.heap.size 1 [120] (by kernel_rfl) b14 rfl (by unfold maxLen; omega) ?_
          intro w138 b14m e100 ze100
          have BL_ := BL.ev e100 (fun i h => show w.heap.size ≤ i by have h : i = w8.heap.size := h; omega)
          have b1_ := b1.ev e100 (show ¬ (w1.heap.size = w8.heap.size) by omega)
          have Oua_ := Oua.ev e100 (fun i hi => show ¬ (i = w8.heap.size) by have := lOua_1 i hi; omega)
          have b3_ := b3.ev e100 (show ¬ (w5.heap.size = w8.heap.size) by omega)
          have sb10_ := sb10.ev e100 (fun i hi => show ¬ (i = w8.heap.size) by have := lb10 i hi; omega)
          replace BL := BL_; clear BL_
          replace b1 := b1_; clear b1_
          replace Oua := Oua_; clear Oua_
          replace b3 := b3_; clear b3_
          replace sb10 := sb10_; clear sb10_
          replace sb14 := b14m; clear b14m b14 e100
          refine ze 6 ⟨BL, b1, Oua, b3, by omega⟩ ?_
          simp only [List.set_cons_zero, List.set_cons_succ]
          refine zo1 3 rfl ?_
          refine xCall 12 25 #[.pointer (some ⟨w1.heap.size, 0, none⟩), ua, .slice (some ⟨w118.heap.size, 0, none⟩) 1 1] (by kernel_rfl) ?_
          refine (mac_any w1.heap.size tabL hTL w138 b1 (List.replicate 65 170) [120] _ _ Oua.sl (by simp) sb10 (by simp)).mono ?_
          rintro en w139 ⟨rfl, hb1⟩
          have e101 := belE0 hb1
          have ze101 := e101.size
          replace BL := BL.e0 e101
          replace b1 := b1.e0 e101
          replace Oua := Oua.e0 e101
          replace b3 := b3.e0 e101
          replace sb10 := sb10.e0 e101
          replace sb14 := sb14.e0 e101
          clear e101
          refine ⟨.agg (cellsOf .u8 (nn (macN tabL (List.replicate 65 170) [120]))), rfl, ?_⟩
          refine ze 3 ⟨BL, b1, Oua, b3, by omega⟩ ?_
          simp only [List.set_cons_zero, List.set_cons_succ]
          refine zo1 7 rfl ?_
          refine xCall 16 25 #[.pointer (some ⟨w1.heap.size, 0, none⟩), .slice (some ⟨w5.heap.size, 0, none⟩) 32 32, .slice (some ⟨w8.heap.size, 0, none⟩) 1 1] (by kernel_rfl) ?_
          refine (mac_any w1.heap.size tabL hTL w139 b1 (ofN tabL (List.replicate 65 170)) [120] _ _ (SL.ofBlk b3 (by rw [nn_len]; exact hol) (by unfold maxLen; omega)) (by omega) sb14 (by simp)).mono ?_
          rintro en w140 ⟨he, hb1⟩
          rw [mac_long (by simp)] at he
          subst he
          have e102 := belE0 hb1
          have ze102 := e102.size
          replace BL := BL.e0 e102
          replace b1 := b1.e0 e102
          replace Oua := Oua.e0 e102
          replace b3 := b3.e0 e102
          replace sb10 := sb10.e0 e102
          replace sb14 := sb14.e0 e102
          clear e102
          refine ⟨.agg (cellsOf .u8 (nn (macN tabL (List.replicate 65 170) [120]))), rfl, ?_⟩
          refine ze 7 ⟨BL, b1, Oua, b3, by omega⟩ ?_
          simp only [List.set_cons_zero, List.set_cons_succ]
          refine zv 8 17 (.bool true) (fun _ ⟨BL, b1, Oua, b3, z1⟩ => Val.eqA .eql 37 _ (.tmp 12) (.tmp 16) rfl Try.underlying37 Try.underlying5 (by kernel_rfl) (by kernel_rfl) (nn (macN tabL (List.replicate 65 170) [120])) (nn (macN tabL (List.replicate 65 170) [120])) (by kernel_rfl) (by kernel_rfl) (by rw [nn_len]; exact hml) (by rw [nn_len]; exact hml) (.inl rfl) true (by simp)) ⟨BL, b1, Oua, b3, by omega⟩ ?_
          simp only [List.set_cons_zero, List.set_cons_succ]
          refine zv 9 18 (.bool true) (fun _ _ => .of) ⟨BL, b1, Oua, b3, by omega⟩ ?_
          simp only [List.set_cons_zero, List.set_cons_succ]
          refine zv 12 21 (.agg (cellsOf .u32 (nn tabL))) (fun _ ⟨BL, b1, Oua, b3, z1⟩ => Val.blk 26 _ rfl 0 72 (by kernel_rfl) b1 _ Try.underlying26 rfl (by kernel_rfl) (by (try simp only [nn_len, List.length_cons, List.length_nil, List.length_set, List.length_replicate]); try omega) _ (seg_all' _ (by (try simp only [nn_len, List.length_cons, List.length_nil, List.length_set, List.length_replicate]); try omega))) ⟨BL, b1, Oua, b3, by omega⟩ ?_
          simp only [List.set_cons_zero, List.set_cons_succ]
          refine zo1 10 rfl ?_
          refine xCall 19 24 #[.int .u8 170, .int .i64 64] (by kernel_rfl) ?_
          refine (ofb_any 170 64 (by omega) (by omega) w140).mono ?_
          rintro en w141 ⟨ub, rfl, hO, hb1⟩
          have e103 := belE0 hb1
          have ze103 := e103.size
          replace BL := BL.e0 e103
          replace b1 := b1.e0 e103
          replace Oua := Oua.e0 e103
          replace b3 := b3.e0 e103
          replace sb10 := sb10.e0 e103
          replace sb14 := sb14.e0 e103
          clear e103
          have Oub : Own 5 .u8 w140.heap.size w141 ub (nn (List.replicate 64 170)) := hO
          have lOub_8 := Oub.ge
          refine ⟨ub, rfl, ?_⟩
          refine ze 10 ⟨BL, b1, Oua, b3, by omega⟩ ?_
          simp only [List.set_cons_zero, List.set_cons_succ]
          refine zo1 11 rfl ?_
          refine xCall 20 25 #[.pointer (some ⟨w1.heap.size, 0, none⟩), ub, .slice none 0 0] (by kernel_rfl) ?_
          refine (mac_any w1.heap.size tabL hTL w141 b1 (List.replicate 64 170) [] _ _ Oub.sl (by simp) (SL.nil _ _) (by simp)).mono ?_
          rintro en w142 ⟨rfl, hb1⟩
          have e104 := belE0 hb1
          have ze104 := e104.size
          replace BL := BL.e0 e104
          replace b1 := b1.e0 e104
          replace Oua := Oua.e0 e104
          replace b3 := b3.e0 e104
          replace sb10 := sb10.e0 e104
          replace sb14 := sb14.e0 e104
          replace Oub := Oub.e0 e104
          clear e104
          refine ⟨.agg (cellsOf .u8 (nn (macN tabL (List.replicate 64 170) []))), rfl, ?_⟩
          refine ze 11 ⟨BL, b1, Oua, b3, by omega⟩ ?_
          simp only [List.set_cons_zero, List.set_cons_succ]
          refine zo1 13 rfl ?_
          refine xCall 22 24 #[.int .u8 170, .int .i64 64] (by kernel_rfl) ?_
          refine (ofb_any 170 64 (by omega) (by omega) w142).mono ?_
          rintro en w143 ⟨uc, rfl, hO, hb1⟩
          have e105 := belE0 hb1
          have ze105 := e105.size
          replace BL := BL.e0 e105
          replace b1 := b1.e0 e105
          replace Oua := Oua.e0 e105
          replace b3 := b3.e0 e105
          replace sb10 := sb10.e0 e105
          replace sb14 := sb14.e0 e105
          replace Oub := Oub.e0 e105
          clear e105
          have Ouc : Own 5 .u8 w142.heap.size w143 uc (nn (List.replicate 64 170)) := hO
          have lOuc_8 := Ouc.ge
          refine ⟨uc, rfl, ?_⟩
          refine ze 13 ⟨BL, b1, Oua, b3, by omega⟩ ?_
          simp only [List.set_cons_zero, List.set_cons_succ]
          refine zo1 14 rfl ?_
          refine xCall 23 26 #[.agg (cellsOf .u32 (nn tabL)), uc, .slice none 0 0] (by kernel_rfl) ?_
          refine (rmac_any tabL hTL tabL_b w143 (List.replicate 64 170) [] _ _ (rep_b 64 170 (by omega)) (by simp) Ouc.sl (by simp) (SL.nil _ _) (by simp)).mono ?_
          rintro en w144 ⟨rfl, hb1⟩
          have e106 := belE0 hb1
          have ze106 := e106.size
          replace BL := BL.e0 e106
          replace b1 := b1.e0 e106
          replace Oua := Oua.e0 e106
          replace b3 := b3.e0 e106
          replace sb10 := sb10.e0 e106
          replace sb14 := sb14.e0 e106
          replace Oub := Oub.e0 e106
          replace Ouc := Ouc.e0 e106
          clear e106
          refine ⟨.agg (cellsOf .u8 (nn (macN tabL (List.replicate 64 170) []))), rfl, ?_⟩
          refine ze 14 ⟨BL, b1, Oua, b3, by omega⟩ ?_
          simp only [List.set_cons_zero, List.set_cons_succ]
          refine zv 15 24 (.bool true) (fun _ ⟨BL, b1, Oua, b3, z1⟩ => Val.eqA .eql 37 _ (.tmp 20) (.tmp 23) rfl Try.underlying37 Try.underlying5 (by kernel_rfl) (by kernel_rfl) (nn (macN tabL (List.replicate 64 170) [])) (nn (macN tabL (List.replicate 64 170) [])) (by kernel_rfl) (by kernel_rfl) (by rw [nn_len]; exact hm4) (by rw [nn_len]; exact hm4) (.inl rfl) true (by simp)) ⟨BL, b1, Oua, b3, by omega⟩ ?_
          simp only [List.set_cons_zero, List.set_cons_succ]
          refine zv 16 25 (.bool true) (fun _ _ => .of) ⟨BL, b1, Oua, b3, by omega⟩ ?_
          simp only [List.set_cons_zero, List.set_cons_succ]
          refine zv 17 4 (.bool true) (fun _ _ => .of) ⟨BL, b1, Oua, b3, by omega⟩ ?_
          simp only [List.set_cons_zero, List.set_cons_succ]
          refine zd (by kernel_rfl) ?_ _
          refine hK5 _ _ ?_
          refine wp_seq_k fun K13 hK13 => ?_
          refine cPlain ?_
          refine sv 26 (.bool true) .of ?_
          simp only [List.set_cons_zero, List.set_cons_succ]
          refine sv 27 (.bool true) .of ?_
          simp only [List.set_cons_zero, List.set_cons_succ]
          refine xCall 28 25 #[.pointer none, .slice none 0 0, .slice none 0 0] (by kernel_rfl) ?_
          refine (mac_nil [] _ _ w144 (SL.nil _ _) (by simp)).mono ?_
          rintro en w145 ⟨rfl, hb1⟩
          have e107 := belE0 hb1
          have ze107 := e107.size
          replace BL := BL.e0 e107
          replace b1 := b1.e0 e107
          replace Oua := Oua.e0 e107
          replace b3 := b3.e0 e107
          replace sb10 := sb10.e0 e107
          replace sb14 := sb14.e0 e107
          replace Oub := Oub.e0 e107
          replace Ouc := Ouc.e0 e107
          clear e107
          refine ⟨.agg (cellsOf .u8 (nn (List.replicate 32 0))), rfl, ?_⟩
          simp only [List.set_cons_zero, List.set_cons_succ]
          refine sv 29 (.agg (cellsOf .u8 (nn (List.replicate 32 0)))) .of ?_
          simp only [List.set_cons_zero, List.set_cons_succ]
          refine sv 30 (.bool true) (Val.eqA .eql 37 _ (.tmp 28) (.tmp 29) rfl Try.underlying37 Try.underlying5 (by kernel_rfl) (by kernel_rfl) (nn (List.replicate 32 0)) (nn (List.replicate 32 0)) (by kernel_rfl) (by kernel_rfl) (by rw [nn_len]; rfl) (by rw [nn_len]; rfl) (.inl rfl) true (by simp)) ?_
          simp only [List.set_cons_zero, List.set_cons_succ]
          refine sv 31 (.bool true) .of ?_
          simp only [List.set_cons_zero, List.set_cons_succ]
          refine sv 32 (.bool true) .of ?_
          simp only [List.set_cons_zero, List.set_cons_succ]
          refine xCall 33 27 #[.pointer none, .int .u8 1, .slice none 0 0] (by kernel_rfl) ?_
          refine (tagged_nil 1 _ [] [] w145 (.inl ⟨rfl, rfl⟩) trivial (by simp [blobsB])).mono ?_
          rintro en w146 ⟨rfl, hb1⟩
          have e108 := belE0 hb1
          have ze108 := e108.size
          replace BL := BL.e0 e108
          replace b1 := b1.e0 e108
          replace Oua := Oua.e0 e108
          replace b3 := b3.e0 e108
          replace sb10 := sb10.e0 e108
          replace sb14 := sb14.e0 e108
          replace Oub := Oub.e0 e108
          replace Ouc := Ouc.e0 e108
          clear e108
          refine ⟨.agg (cellsOf .u8 (nn (List.replicate 32 0))), rfl, ?_⟩
          simp only [List.set_cons_zero, List.set_cons_succ]
          refine sv 34 (.agg (cellsOf .u8 (nn (List.replicate 32 0)))) .of ?_
          simp only [List.set_cons_zero, List.set_cons_succ]
          refine sv 35 (.bool true) (Val.eqA .eql 37 _ (.tmp 33) (.tmp 34) rfl Try.underlying37 Try.underlying5 (by kernel_rfl) (by kernel_rfl) (nn (List.replicate 32 0)) (nn (List.replicate 32 0)) (by kernel_rfl) (by kernel_rfl) (by rw [nn_len]; rfl) (by rw [nn_len]; rfl) (.inl rfl) true (by simp)) ?_
          simp only [List.set_cons_zero, List.set_cons_succ]
          refine sv 36 (.bool true) .of ?_
          simp only [List.set_cons_zero, List.set_cons_succ]
          refine sv 37 (.bool true) .of ?_
          simp only [List.set_cons_zero, List.set_cons_succ]
          refine xCall 38 29 #[.int .u8 0, .slice none 0 0] (by kernel_rfl) ?_
          refine (mactext_any ((0 : Nat) : Int) _ [] (([] : List (List Nat)).map nn) w146 (.inl ⟨rfl, rfl⟩) w146.heap.size (by omega) trivial (by simp [blobsB])).mono ?_
          rintro en w147 ⟨u, rfl, hO, hb1⟩
          replace hO := hO.cast ((textN_nn 0 []).symm.trans (congrArg nn text00))
          have e109 := belE0 hb1
          have ze109 := e109.size
          replace BL := BL.e0 e109
          replace b1 := b1.e0 e109
          replace Oua := Oua.e0 e109
          replace b3 := b3.e0 e109
          replace sb10 := sb10.e0 e109
          replace sb14 := sb14.e0 e109
          replace Oub := Oub.e0 e109
          replace Ouc := Ouc.e0 e109
          clear e109
          have U : Own 5 .u8 w146.heap.size w147 u (nn [75, 0, 0]) := hO
          have lU_8 := U.ge
          refine ⟨u, rfl, ?_⟩
          simp only [List.set_cons_zero, List.set_cons_succ]
          refine xLit 39 30 5 3 _ #[(0, .int .u8 75), (1, .int .u8 0), (2, .int .u8 0)] [.int .u8 75, .int .u8 0, .int .u8 0] rfl (by kernel_rfl) (by kernel_rfl) ?_
          intro w148 n30
          have zn30 := n30.z
          have b39 := n30.c
          replace b39 : Blk .u8 w148 w147.heap.size 5 [75, 0, 0] := b39
          replace BL := BL.e0 n30.e
          replace b1 := b1.e0 n30.e
          replace Oua := Oua.e0 n30.e
          replace b3 := b3.e0 n30.e
          replace sb10 := sb10.e0 n30.e
          replace sb14 := sb14.e0 n30.e
          replace Oub := Oub.e0 n30.e
          replace Ouc := Ouc.e0 n30.e
          replace U := U.e0 n30.e
          have sb39 : SL .u8 w148 (.slice (some ⟨w147.heap.size, 0, none⟩) 3 3) [75, 0, 0] := SL.ofBlk b39 rfl (by unfold maxLen; omega)
          have lb39 : ∀ i, Value.ownBlock (.slice (some ⟨w147.heap.size, 0, none⟩) 3 3) = some i → w147.heap.size ≤ i ∧ i < w148.heap.size := ownB_lit (by omega)
          simp only [List.set_cons_zero, List.set_cons_succ]
          refine xCall 40 28 #[u, .slice (some ⟨w147.heap.size, 0, none⟩) 3 3] (by kernel_rfl) ?_
          refine (same_any _ _ (nn [75, 0, 0]) (nn [75, 0, 0]) w148 U.sl sb39 (bytes_nn (by decide)) (bytes_nn (by decide))).mono ?_
          rintro en w149 ⟨he, hw⟩
          rw [decide_eq_true rfl] at he
          subst he
          obtain rfl := (hw.symm).symm
          refine ⟨.bool true, rfl, ?_⟩
          simp only [List.set_cons_zero, List.set_cons_succ]
          refine sv 41 (.bool true) .of ?_
          simp only [List.set_cons_zero, List.set_cons_succ]
          refine sv 42 (.bool true) .of ?_
          simp only [List.set_cons_zero, List.set_cons_succ]
          refine xLit 43 30 5 0 _ #[] [] rfl (by kernel_rfl) (by kernel_rfl) ?_
          intro w150 n31
          have zn31 := n31.z
          have b43 := n31.c
          replace b43 : Blk .u8 w150 w148.heap.size 5 [] := b43
          replace BL := BL.e0 n31.e
          replace b1 := b1.e0 n31.e
          replace Oua := Oua.e0 n31.e
          replace b3 := b3.e0 n31.e
          replace sb10 := sb10.e0 n31.e
          replace sb14 := sb14.e0 n31.e
          replace Oub := Oub.e0 n31.e
          replace Ouc := Ouc.e0 n31.e
          replace U := U.e0 n31.e
          replace b39 := b39.e0 n31.e
          replace sb39 := sb39.e0 n31.e
          have sb43 : SL .u8 w150 (.slice (some ⟨w148.heap.size, 0, none⟩) 0 0) [] := SL.ofBlk b43 rfl (by unfold maxLen; omega)
          have lb43 : ∀ i, Value.ownBlock (.slice (some ⟨w148.heap.size, 0, none⟩) 0 0) = some i → w148.heap.size ≤ i ∧ i < w150.heap.size := ownB_lit (by omega)
          simp only [List.set_cons_zero, List.set_cons_succ]
          refine xCall 44 30 #[.slice none 0 0, .slice (some ⟨w148.heap.size, 0, none⟩) 0 0] (by kernel_rfl) ?_
          refine (macsame_any _ _ [] [] w150 (SL.nil _ _) sb43 (by decide) (by decide) (by simp) (by simp)).mono ?_
          rintro en w151 ⟨rfl, hb1⟩
          have e110 := belE0 hb1
          have ze110 := e110.size
          replace BL := BL.e0 e110
          replace b1 := b1.e0 e110
          replace Oua := Oua.e0 e110
          replace b3 := b3.e0 e110
          replace sb10 := sb10.e0 e110
          replace sb14 := sb14.e0 e110
          replace Oub := Oub.e0 e110
          replace Ouc := Ouc.e0 e110
          replace U := U.e0 e110
          replace b39 := b39.e0 e110
          replace sb39 := sb39.e0 e110
          replace b43 := b43.e0 e110
          replace sb43 := sb43.e0 e110
          clear e110
          refine ⟨.bool true, rfl, ?_⟩
          simp only [List.set_cons_zero, List.set_cons_succ]
          refine sv 45 (.bool true) .of ?_
          simp only [List.set_cons_zero, List.set_cons_succ]
          refine sv 46 (.bool true) .of ?_
          simp only [List.set_cons_zero, List.set_cons_succ]
          refine xLit 47 30 5 1 _ #[(0, .int .u8 0)] [.int .u8 0] rfl (by kernel_rfl) (by kernel_rfl) ?_
          intro w152 n32
          have zn32 := n32.z
          have b47 := n32.c
          replace b47 : Blk .u8 w152 w151.heap.size 5 [0] := b47
          replace BL := BL.e0 n32.e
          replace b1 := b1.e0 n32.e
          replace Oua := Oua.e0 n32.e
          replace b3 := b3.e0 n32.e
          replace sb10 := sb10.e0 n32.e
          replace sb14 := sb14.e0 n32.e
          replace Oub := Oub.e0 n32.e
          replace Ouc := Ouc.e0 n32.e
          replace U := U.e0 n32.e
          replace b39 := b39.e0 n32.e
          replace sb39 := sb39.e0 n32.e
          replace b43 := b43.e0 n32.e
          replace sb43 := sb43.e0 n32.e
          have sb47 : SL .u8 w152 (.slice (some ⟨w151.heap.size, 0, none⟩) 1 1) [0] := SL.ofBlk b47 rfl (by unfold maxLen; omega)
          have lb47 : ∀ i, Value.ownBlock (.slice (some ⟨w151.heap.size, 0, none⟩) 1 1) = some i → w151.heap.size ≤ i ∧ i < w152.heap.size := ownB_lit (by omega)
          simp only [List.set_cons_zero, List.set_cons_succ]
          refine xCall 48 30 #[.slice none 0 0, .slice (some ⟨w151.heap.size, 0, none⟩) 1 1] (by kernel_rfl) ?_
          refine (macsame_any _ _ [] [0] w152 (SL.nil _ _) sb47 (by decide) (by decide) (by simp) (by simp)).mono ?_
          rintro en w153 ⟨rfl, hb1⟩
          have e111 := belE0 hb1
          have ze111 := e111.size
          replace BL := BL.e0 e111
          replace b1 := b1.e0 e111
          replace Oua := Oua.e0 e111
          replace b3 := b3.e0 e111
          replace sb10 := sb10.e0 e111
          replace sb14 := sb14.e0 e111
          replace Oub := Oub.e0 e111
          replace Ouc := Ouc.e0 e111
          replace U := U.e0 e111
          replace b39 := b39.e0 e111
          replace sb39 := sb39.e0 e111
          replace b43 := b43.e0 e111
          replace sb43 := sb43.e0 e111
          replace b47 := b47.e0 e111
          replace sb47 := sb47.e0 e111
          clear e111
          refine ⟨.bool false, rfl, ?_⟩
          simp only [List.set_cons_zero, List.set_cons_succ]
          refine sv 49 (.bool true) .of ?_
          simp only [List.set_cons_zero, List.set_cons_succ]
          refine sv 50 (.bool true) .of ?_
          simp only [List.set_cons_zero, List.set_cons_succ]
          refine sv 51 (.bool true) .of ?_
          simp only [List.set_cons_zero, List.set_cons_succ]
          refine xCall 52 31 #[] (by kernel_rfl) ?_
          refine (awake03_any w153).mono ?_
          rintro en w154 ⟨rfl, hb1⟩
          have e112 := belE0 hb1
          have ze112 := e112.size
          replace BL := BL.e0 e112
          replace b1 := b1.e0 e112
          replace Oua := Oua.e0 e112
          replace b3 := b3.e0 e112
          replace sb10 := sb10.e0 e112
          replace sb14 := sb14.e0 e112
          replace Oub := Oub.e0 e112
          replace Ouc := Ouc.e0 e112
          replace U := U.e0 e112
          replace b39 := b39.e0 e112
          replace sb39 := sb39.e0 e112
          replace b43 := b43.e0 e112
          replace sb43 := sb43.e0 e112
          replace b47 := b47.e0 e112
          replace sb47 := sb47.e0 e112
          clear e112
          refine ⟨.bool true, rfl, ?_⟩
          simp only [List.set_cons_zero, List.set_cons_succ]
          refine sv 53 (.bool true) .of ?_
          simp only [List.set_cons_zero, List.set_cons_succ]
          refine sv 0 (.bool true) .of ?_
          simp only [List.set_cons_zero, List.set_cons_succ]
          refine wpList_nil ?_
          refine hK13 _ _ ?_
          refine wp_ret ?_
          (try simp only [Exit.then, Exit.inBlock])
          refine bodyPost_ret (v := .bool true) rT rfl ?_
          exact ⟨rfl, BL.b⟩
      · skip
        refine xMark 15 30 5 (.tmp 14) rfl Try.underlying30 Try.underlying5 w8.heap.size 1 [120] (by kernel_rfl) b14 rfl (by unfold maxLen; omega) ?_
        intro w155 b14m e113 ze113
        have BL_ := BL.ev e113 (fun i h => show w.heap.size ≤ i by have h : i = w8.heap.size := h; omega)
        have b1_ := b1.ev e113 (show ¬ (w1.heap.size = w8.heap.size) by omega)
        have Oua_ := Oua.ev e113 (fun i hi => show ¬ (i = w8.heap.size) by have := lOua_1 i hi; omega)
        have b3_ := b3.ev e113 (show ¬ (w5.heap.size = w8.heap.size) by omega)
        have b10_ := b10.ev e113 (show ¬ (w118.heap.size = w8.heap.size) by omega)
        have sb10_ := sb10.ev e113 (fun i hi => show ¬ (i = w8.heap.size) by have := lb10 i hi; omega)
        replace BL := BL_; clear BL_
        replace b1 := b1_; clear b1_
        replace Oua := Oua_; clear Oua_
        replace b3 := b3_; clear b3_
        replace b10 := b10_; clear b10_
        replace sb10 := sb10_; clear sb10_
        replace sb14 := b14m; clear b14m b14 e113
        refine ze 6 ⟨BL, b1, Oua, b3, by omega⟩ ?_
        simp only [List.set_cons_zero, List.set_cons_succ]
        refine zo1 2 rfl ?_
        refine xMark 11 30 5 (.tmp 10) rfl Try.underlying30 Try.underlying5 w118.heap.size 1 [120] (by kernel_rfl) b10 rfl (by unfold maxLen; omega) ?_
        intro w156 b10m e114 ze114
        have BL_ := BL.ev e114 (fun i h => show w.heap.size ≤ i by have h : i = w118.heap.size := h; omega)
        have b1_ := b1.ev e114 (show ¬ (w1.heap.size = w118.heap.size) by omega)
        have Oua_ := Oua.ev e114 (fun i hi => show ¬ (i = w118.heap.size) by have := lOua_1 i hi; omega)
        have b3_ := b3.ev e114 (show ¬ (w5.heap.size = w118.heap.size) by omega)
        have sb14_ := sb14.ev e114 (fun i hi => show ¬ (i = w118.heap.size) by have := lb14 i hi; omega)
        replace BL := BL_; clear BL_
        replace b1 := b1_; clear b1_
        replace Oua := Oua_; clear Oua_
        replace b3 := b3_; clear b3_
        replace sb14 := sb14_; clear sb14_
        replace sb10 := b10m; clear b10m b10 e114
        refine ze 2 ⟨BL, b1, Oua, b3, by omega⟩ ?_
        simp only [List.set_cons_zero, List.set_cons_succ]
        refine zo1 3 rfl ?_
        refine xCall 12 25 #[.pointer (some ⟨w1.heap.size, 0, none⟩), ua, .slice (some ⟨w118.heap.size, 0, none⟩) 1 1] (by kernel_rfl) ?_
        refine (mac_any w1.heap.size tabL hTL w156 b1 (List.replicate 65 170) [120] _ _ Oua.sl (by simp) sb10 (by simp)).mono ?_
        rintro en w157 ⟨rfl, hb1⟩
        have e115 := belE0 hb1
        have ze115 := e115.size
        replace BL := BL.e0 e115
        replace b1 := b1.e0 e115
        replace Oua := Oua.e0 e115
        replace b3 := b3.e0 e115
        replace sb14 := sb14.e0 e115
        replace sb10 := sb10.e0 e115
        clear e115
        refine ⟨.agg (cellsOf .u8 (nn (macN tabL (List.replicate 65 170) [120]))), rfl, ?_⟩
        refine ze 3 ⟨BL, b1, Oua, b3, by omega⟩ ?_
        simp only [List.set_cons_zero, List.set_cons_succ]
        refine zo1 7 rfl ?_
        refine xCall 16 25 #[.pointer (some ⟨w1.heap.size, 0, none⟩), .slice (some ⟨w5.heap.size, 0, none⟩) 32 32, .slice (some ⟨w8.heap.size, 0, none⟩) 1 1] (by kernel_rfl) ?_
        refine (mac_any w1.heap.size tabL hTL w157 b1 (ofN tabL (List.replicate 65 170)) [120] _ _ (SL.ofBlk b3 (by rw [nn_len]; exact hol) (by unfold maxLen; omega)) (by omega) sb14 (by simp)).mono ?_
        rintro en w158 ⟨he, hb1⟩
        rw [mac_long (by simp)] at he
        subst he
        have e116 := belE0 hb1
        have ze116 := e116.size
        replace BL := BL.e0 e116
        replace b1 := b1.e0 e116
        replace Oua := Oua.e0 e116
        replace b3 := b3.e0 e116
        replace sb14 := sb14.e0 e116
        replace sb10 := sb10.e0 e116
        clear e116
        refine ⟨.agg (cellsOf .u8 (nn (macN tabL (List.replicate 65 170) [120]))), rfl, ?_⟩
        refine ze 7 ⟨BL, b1, Oua, b3, by omega⟩ ?_
        simp only [List.set_cons_zero, List.set_cons_succ]
        refine zv 8 17 (.bool true) (fun _ ⟨BL, b1, Oua, b3, z1⟩ => Val.eqA .eql 37 _ (.tmp 12) (.tmp 16) rfl Try.underlying37 Try.underlying5 (by kernel_rfl) (by kernel_rfl) (nn (macN tabL (List.replicate 65 170) [120])) (nn (macN tabL (List.replicate 65 170) [120])) (by kernel_rfl) (by kernel_rfl) (by rw [nn_len]; exact hml) (by rw [nn_len]; exact hml) (.inl rfl) true (by simp)) ⟨BL, b1, Oua, b3, by omega⟩ ?_
        simp only [List.set_cons_zero, List.set_cons_succ]
        refine zv 9 18 (.bool true) (fun _ _ => .of) ⟨BL, b1, Oua, b3, by omega⟩ ?_
        simp only [List.set_cons_zero, List.set_cons_succ]
        refine zv 12 21 (.agg (cellsOf .u32 (nn tabL))) (fun _ ⟨BL, b1, Oua, b3, z1⟩ => Val.blk 26 _ rfl 0 72 (by kernel_rfl) b1 _ Try.underlying26 rfl (by kernel_rfl) (by (try simp only [nn_len, List.length_cons, List.length_nil, List.length_set, List.length_replicate]); try omega) _ (seg_all' _ (by (try simp only [nn_len, List.length_cons, List.length_nil, List.length_set, List.length_replicate]); try omega))) ⟨BL, b1, Oua, b3, by omega⟩ ?_
        simp only [List.set_cons_zero, List.set_cons_succ]
        refine zo1 10 rfl ?_
        refine xCall 19 24 #[.int .u8 170, .int .i64 64] (by kernel_rfl) ?_
        refine (ofb_any 170 64 (by omega) (by omega) w158).mono ?_
        rintro en w159 ⟨ub, rfl, hO, hb1⟩
        have e117 := belE0 hb1
        have ze117 := e117.size
        replace BL := BL.e0 e117
        replace b1 := b1.e0 e117
        replace Oua := Oua.e0 e117
        replace b3 := b3.e0 e117
        replace sb14 := sb14.e0 e117
        replace sb10 := sb10.e0 e117
        clear e117
        have Oub : Own 5 .u8 w158.heap.size w159 ub (nn (List.replicate 64 170)) := hO
        have lOub_9 := Oub.ge
        refine ⟨ub, rfl, ?_⟩
        refine ze 10 ⟨BL, b1, Oua, b3, by omega⟩ ?_
        simp only [List.set_cons_zero, List.set_cons_succ]
        refine zo1 11 rfl ?_
        refine xCall 20 25 #[.pointer (some ⟨w1.heap.size, 0, none⟩), ub, .slice none 0 0] (by kernel_rfl) ?_
        refine (mac_any w1.heap.size tabL hTL w159 b1 (List.replicate 64 170) [] _ _ Oub.sl (by simp) (SL.nil _ _) (by simp)).mono ?_
        rintro en w160 ⟨rfl, hb1⟩
        have e118 := belE0 hb1
        have ze118 := e118.size
        replace BL := BL.e0 e118
        replace b1 := b1.e0 e118
        replace Oua := Oua.e0 e118
        replace b3 := b3.e0 e118
        replace sb14 := sb14.e0 e118
        replace sb10 := sb10.e0 e118
        replace Oub := Oub.e0 e118
        clear e118
        refine ⟨.agg (cellsOf .u8 (nn (macN tabL (List.replicate 64 170) []))), rfl, ?_⟩
        refine ze 11 ⟨BL, b1, Oua, b3, by omega⟩ ?_
        simp only [List.set_cons_zero, List.set_cons_succ]
        refine zo1 13 rfl ?_
        refine xCall 22 24 #[.int .u8 170, .int .i64 64] (by kernel_rfl) ?_
        refine (ofb_any 170 64 (by omega) (by omega) w160).mono ?_
        rintro en w161 ⟨uc, rfl, hO, hb1⟩
        have e119 := belE0 hb1
        have ze119 := e119.size
        replace BL := BL.e0 e119
        replace b1 := b1.e0 e119
        replace Oua := Oua.e0 e119
        replace b3 := b3.e0 e119
        replace sb14 := sb14.e0 e119
        replace sb10 := sb10.e0 e119
        replace Oub := Oub.e0 e119
        clear e119
        have Ouc : Own 5 .u8 w160.heap.size w161 uc (nn (List.replicate 64 170)) := hO
        have lOuc_9 := Ouc.ge
        refine ⟨uc, rfl, ?_⟩
        refine ze 13 ⟨BL, b1, Oua, b3, by omega⟩ ?_
        simp only [List.set_cons_zero, List.set_cons_succ]
        refine zo1 14 rfl ?_
        refine xCall 23 26 #[.agg (cellsOf .u32 (nn tabL)), uc, .slice none 0 0] (by kernel_rfl) ?_
        refine (rmac_any tabL hTL tabL_b w161 (List.replicate 64 170) [] _ _ (rep_b 64 170 (by omega)) (by simp) Ouc.sl (by simp) (SL.nil _ _) (by simp)).mono ?_
        rintro en w162 ⟨rfl, hb1⟩
        have e120 := belE0 hb1
        have ze120 := e120.size
        replace BL := BL.e0 e120
        replace b1 := b1.e0 e120
        replace Oua := Oua.e0 e120
        replace b3 := b3.e0 e120
        replace sb14 := sb14.e0 e120
        replace sb10 := sb10.e0 e120
        replace Oub := Oub.e0 e120
        replace Ouc := Ouc.e0 e120
        clear e120
        refine ⟨.agg (cellsOf .u8 (nn (macN tabL (List.replicate 64 170) []))), rfl, ?_⟩
        refine ze 14 ⟨BL, b1, Oua, b3, by omega⟩ ?_
        simp only [List.set_cons_zero, List.set_cons_succ]
        refine zv 15 24 (.bool true) (fun _ ⟨BL, b1, Oua, b3, z1⟩ => Val.eqA .eql 37 _ (.tmp 20) (.tmp 23) rfl Try.underlying37 Try.underlying5 (by kernel_rfl) (by kernel_rfl) (nn (macN tabL (List.replicate 64 170) [])) (nn (macN tabL (List.replicate 64 170) [])) (by kernel_rfl) (by kernel_rfl) (by rw [nn_len]; exact hm4) (by rw [nn_len]; exact hm4) (.inl rfl) true (by simp)) ⟨BL, b1, Oua, b3, by omega⟩ ?_
        simp only [List.set_cons_zero, List.set_cons_succ]
        refine zv 16 25 (.bool true) (fun _ _ => .of) ⟨BL, b1, Oua, b3, by omega⟩ ?_
        simp only [List.set_cons_zero, List.set_cons_succ]
        refine zv 17 4 (.bool true) (fun _ _ => .of) ⟨BL, b1, Oua, b3, by omega⟩ ?_
        simp only [List.set_cons_zero, List.set_cons_succ]
        refine zd (by kernel_rfl) ?_ _
        refine hK5 _ _ ?_
        refine wp_seq_k fun K14 hK14 => ?_
        refine cPlain ?_
        refine sv 26 (.bool true) .of ?_
        simp only [List.set_cons_zero, List.set_cons_succ]
        refine sv 27 (.bool true) .of ?_
        simp only [List.set_cons_zero, List.set_cons_succ]
        refine xCall 28 25 #[.pointer none, .slice none 0 0, .slice none 0 0] (by kernel_rfl) ?_
        refine (mac_nil [] _ _ w162 (SL.nil _ _) (by simp)).mono ?_
        rintro en w163 ⟨rfl, hb1⟩
        have e121 := belE0 hb1
        have ze121 := e121.size
        replace BL := BL.e0 e121
        replace b1 := b1.e0 e121
        replace Oua := Oua.e0 e121
        replace b3 := b3.e0 e121
        replace sb14 := sb14.e0 e121
        replace sb10 := sb10.e0 e121
        replace Oub := Oub.e0 e121
        replace Ouc := Ouc.e0 e121
        clear e121
        refine ⟨.agg (cellsOf .u8 (nn (List.replicate 32 0))), rfl, ?_⟩
        simp only [List.set_cons_zero, List.set_cons_succ]
        refine sv 29 (.agg (cellsOf .u8 (nn (List.replicate 32 0)))) .of ?_
        simp only [List.set_cons_zero, List.set_cons_succ]
        refine sv 30 (.bool true) (Val.eqA .eql 37 _ (.tmp 28) (.tmp 29) rfl Try.underlying37 Try.underlying5 (by kernel_rfl) (by kernel_rfl) (nn (List.replicate 32 0)) (nn (List.replicate 32 0)) (by kernel_rfl) (by kernel_rfl) (by rw [nn_len]; rfl) (by rw [nn_len]; rfl) (.inl rfl) true (by simp)) ?_
        simp only [List.set_cons_zero, List.set_cons_succ]
        refine sv 31 (.bool true) .of ?_
        simp only [List.set_cons_zero, List.set_cons_succ]
        refine sv 32 (.bool true) .of ?_
        simp only [List.set_cons_zero, List.set_cons_succ]
        refine xCall 33 27 #[.pointer none, .int .u8 1, .slice none 0 0] (by kernel_rfl) ?_
        refine (tagged_nil 1 _ [] [] w163 (.inl ⟨rfl, rfl⟩) trivial (by simp [blobsB])).mono ?_
        rintro en w164 ⟨rfl, hb1⟩
        have e122 := belE0 hb1
        have ze122 := e122.size
        replace BL := BL.e0 e122
        replace b1 := b1.e0 e122
        replace Oua := Oua.e0 e122
        replace b3 := b3.e0 e122
        replace sb14 := sb14.e0 e122
        replace sb10 := sb10.e0 e122
        replace Oub := Oub.e0 e122
        replace Ouc := Ouc.e0 e122
        clear e122
        refine ⟨.agg (cellsOf .u8 (nn (List.replicate 32 0))), rfl, ?_⟩
        simp only [List.set_cons_zero, List.set_cons_succ]
        refine sv 34 (.agg (cellsOf .u8 (nn (List.replicate 32 0)))) .of ?_
        simp only [List.set_cons_zero, List.set_cons_succ]
        refine sv 35 (.bool true) (Val.eqA .eql 37 _ (.tmp 33) (.tmp 34) rfl Try.underlying37 Try.underlying5 (by kernel_rfl) (by kernel_rfl) (nn (List.replicate 32 0)) (nn (List.replicate 32 0)) (by kernel_rfl) (by kernel_rfl) (by rw [nn_len]; rfl) (by rw [nn_len]; rfl) (.inl rfl) true (by simp)) ?_
        simp only [List.set_cons_zero, List.set_cons_succ]
        refine sv 36 (.bool true) .of ?_
        simp only [List.set_cons_zero, List.set_cons_succ]
        refine sv 37 (.bool true) .of ?_
        simp only [List.set_cons_zero, List.set_cons_succ]
        refine xCall 38 29 #[.int .u8 0, .slice none 0 0] (by kernel_rfl) ?_
        refine (mactext_any ((0 : Nat) : Int) _ [] (([] : List (List Nat)).map nn) w164 (.inl ⟨rfl, rfl⟩) w164.heap.size (by omega) trivial (by simp [blobsB])).mono ?_
        rintro en w165 ⟨u, rfl, hO, hb1⟩
        replace hO := hO.cast ((textN_nn 0 []).symm.trans (congrArg nn text00))
        have e123 := belE0 hb1
        have ze123 := e123.size
        replace BL := BL.e0 e123
        replace b1 := b1.e0 e123
        replace Oua := Oua.e0 e123
        replace b3 := b3.e0 e123
        replace sb14 := sb14.e0 e123
        replace sb10 := sb10.e0 e123
        replace Oub := Oub.e0 e123
        replace Ouc := Ouc.e0 e123
        clear e123
        have U : Own 5 .u8 w164.heap.size w165 u (nn [75, 0, 0]) := hO
        have lU_9 := U.ge
        refine ⟨u, rfl, ?_⟩
        simp only [List.set_cons_zero, List.set_cons_succ]
        refine xLit 39 30 5 3 _ #[(0, .int .u8 75), (1, .int .u8 0), (2, .int .u8 0)] [.int .u8 75, .int .u8 0, .int .u8 0] rfl (by kernel_rfl) (by kernel_rfl) ?_
        intro w166 n33
        have zn33 := n33.z
        have b39 := n33.c
        replace b39 : Blk .u8 w166 w165.heap.size 5 [75, 0, 0] := b39
        replace BL := BL.e0 n33.e
        replace b1 := b1.e0 n33.e
        replace Oua := Oua.e0 n33.e
        replace b3 := b3.e0 n33.e
        replace sb14 := sb14.e0 n33.e
        replace sb10 := sb10.e0 n33.e
        replace Oub := Oub.e0 n33.e
        replace Ouc := Ouc.e0 n33.e
        replace U := U.e0 n33.e
        have sb39 : SL .u8 w166 (.slice (some ⟨w165.heap.size, 0, none⟩) 3 3) [75, 0, 0] := SL.ofBlk b39 rfl (by unfold maxLen; omega)
        have lb39 : ∀ i, Value.ownBlock (.slice (some ⟨w165.heap.size, 0, none⟩) 3 3) = some i → w165.heap.size ≤ i ∧ i < w166.heap.size := ownB_lit (by omega)
        simp only [List.set_cons_zero, List.set_cons_succ]
        refine xCall 40 28 #[u, .slice (some ⟨w165.heap.size, 0, none⟩) 3 3] (by kernel_rfl) ?_
        refine (same_any _ _ (nn [75, 0, 0]) (nn [75, 0, 0]) w166 U.sl sb39 (bytes_nn (by decide)) (bytes_nn (by decide))).mono ?_
        rintro en w167 ⟨he, hw⟩
        rw [decide_eq_true rfl] at he
        subst he
        obtain rfl := (hw.symm).symm
        refine ⟨.bool true, rfl, ?_⟩
        simp only [List.set_cons_zero, List.set_cons_succ]
        refine sv 41 (.bool true) .of ?_
        simp only [List.set_cons_zero, List.set_cons_succ]
        refine sv 42 (.bool true) .of ?_
        simp only [List.set_cons_zero, List.set_cons_succ]
        refine xLit 43 30 5 0 _ #[] [] rfl (by kernel_rfl) (by kernel_rfl) ?_
        intro w168 n34
        have zn34 := n34.z
        have b43 := n34.c
        replace b43 : Blk .u8 w168 w166.heap.size 5 [] := b43
        replace BL := BL.e0 n34.e
        replace b1 := b1.e0 n34.e
        replace Oua := Oua.e0 n34.e
        replace b3 := b3.e0 n34.e
        replace sb14 := sb14.e0 n34.e
        replace sb10 := sb10.e0 n34.e
        replace Oub := Oub.e0 n34.e
        replace Ouc := Ouc.e0 n34.e
        replace U := U.e0 n34.e
        replace b39 := b39.e0 n34.e
        replace sb39 := sb39.e0 n34.e
        have sb43 : SL .u8 w168 (.slice (some ⟨w166.heap.size, 0, none⟩) 0 0) [] := SL.ofBlk b43 rfl (by unfold maxLen; omega)
        have lb43 : ∀ i, Value.ownBlock (.slice (some ⟨w166.heap.size, 0, none⟩) 0 0) = some i → w166.heap.size ≤ i ∧ i < w168.heap.size := ownB_lit (by omega)
        simp only [List.set_cons_zero, List.set_cons_succ]
        refine xCall 44 30 #[.slice none 0 0, .slice (some ⟨w166.heap.size, 0, none⟩) 0 0] (by kernel_rfl) ?_
        refine (macsame_any _ _ [] [] w168 (SL.nil _ _) sb43 (by decide) (by decide) (by simp) (by simp)).mono ?_
        rintro en w169 ⟨rfl, hb1⟩
        have e124 := belE0 hb1
        have ze124 := e124.size
        replace BL := BL.e0 e124
        replace b1 := b1.e0 e124
        replace Oua := Oua.e0 e124
        replace b3 := b3.e0 e124
        replace sb14 := sb14.e0 e124
        replace sb10 := sb10.e0 e124
        replace Oub := Oub.e0 e124
        replace Ouc := Ouc.e0 e124
        replace U := U.e0 e124
        replace b39 := b39.e0 e124
        replace sb39 := sb39.e0 e124
        replace b43 := b43.e0 e124
        replace sb43 := sb43.e0 e124
        clear e124
        refine ⟨.bool true, rfl, ?_⟩
        simp only [List.set_cons_zero, List.set_cons_succ]
        refine sv 45 (.bool true) .of ?_
        simp only [List.set_cons_zero, List.set_cons_succ]
        refine sv 46 (.bool true) .of ?_
        simp only [List.set_cons_zero, List.set_cons_succ]
        refine xLit 47 30 5 1 _ #[(0, .int .u8 0)] [.int .u8 0] rfl (by kernel_rfl) (by kernel_rfl) ?_
        intro w170 n35
        have zn35 := n35.z
        have b47 := n35.c
        replace b47 : Blk .u8 w170 w169.heap.size 5 [0] := b47
        replace BL := BL.e0 n35.e
        replace b1 := b1.e0 n35.e
        replace Oua := Oua.e0 n35.e
        replace b3 := b3.e0 n35.e
        replace sb14 := sb14.e0 n35.e
        replace sb10 := sb10.e0 n35.e
        replace Oub := Oub.e0 n35.e
        replace Ouc := Ouc.e0 n35.e
        replace U := U.e0 n35.e
        replace b39 := b39.e0 n35.e
        replace sb39 := sb39.e0 n35.e
        replace b43 := b43.e0 n35.e
        replace sb43 := sb43.e0 n35.e
        have sb47 : SL .u8 w170 (.slice (some ⟨w169.heap.size, 0, none⟩) 1 1) [0] := SL.ofBlk b47 rfl (by unfold maxLen; omega)
        have lb47 : ∀ i, Value.ownBlock (.slice (some ⟨w169.heap.size, 0, none⟩) 1 1) = some i → w169.heap.size ≤ i ∧ i < w170.heap.size := ownB_lit (by omega)
        simp only [List.set_cons_zero, List.set_cons_succ]
        refine xCall 48 30 #[.slice none 0 0, .slice (some ⟨w169.heap.size, 0, none⟩) 1 1] (by kernel_rfl) ?_
        refine (macsame_any _ _ [] [0] w170 (SL.nil _ _) sb47 (by decide) (by decide) (by simp) (by simp)).mono ?_
        rintro en w171 ⟨rfl, hb1⟩
        have e125 := belE0 hb1
        have ze125 := e125.size
        replace BL := BL.e0 e125
        replace b1 := b1.e0 e125
        replace Oua := Oua.e0 e125
        replace b3 := b3.e0 e125
        replace sb14 := sb14.e0 e125
        replace sb10 := sb10.e0 e125
        replace Oub := Oub.e0 e125
        replace Ouc := Ouc.e0 e125
        replace U := U.e0 e125
        replace b39 := b39.e0 e125
        replace sb39 := sb39.e0 e125
        replace b43 := b43.e0 e125
        replace sb43 := sb43.e0 e125
        replace b47 := b47.e0 e125
        replace sb47 := sb47.e0 e125
        clear e125
        refine ⟨.bool false, rfl, ?_⟩
        simp only [List.set_cons_zero, List.set_cons_succ]
        refine sv 49 (.bool true) .of ?_
        simp only [List.set_cons_zero, List.set_cons_succ]
        refine sv 50 (.bool true) .of ?_
        simp only [List.set_cons_zero, List.set_cons_succ]
        refine sv 51 (.bool true) .of ?_
        simp only [List.set_cons_zero, List.set_cons_succ]
        refine xCall 52 31 #[] (by kernel_rfl) ?_
        refine (awake03_any w171).mono ?_
        rintro en w172 ⟨rfl, hb1⟩
        have e126 := belE0 hb1
        have ze126 := e126.size
        replace BL := BL.e0 e126
        replace b1 := b1.e0 e126
        replace Oua := Oua.e0 e126
        replace b3 := b3.e0 e126
        replace sb14 := sb14.e0 e126
        replace sb10 := sb10.e0 e126
        replace Oub := Oub.e0 e126
        replace Ouc := Ouc.e0 e126
        replace U := U.e0 e126
        replace b39 := b39.e0 e126
        replace sb39 := sb39.e0 e126
        replace b43 := b43.e0 e126
        replace sb43 := sb43.e0 e126
        replace b47 := b47.e0 e126
        replace sb47 := sb47.e0 e126
        clear e126
        refine ⟨.bool true, rfl, ?_⟩
        simp only [List.set_cons_zero, List.set_cons_succ]
        refine sv 53 (.bool true) .of ?_
        simp only [List.set_cons_zero, List.set_cons_succ]
        refine sv 0 (.bool true) .of ?_
        simp only [List.set_cons_zero, List.set_cons_succ]
        refine wpList_nil ?_
        refine hK14 _ _ ?_
        refine wp_ret ?_
        (try simp only [Exit.then, Exit.inBlock])
        refine bodyPost_ret (v := .bool true) rT rfl ?_
        exact ⟨rfl, BL.b⟩
    · skip
      refine xMark 15 30 5 (.tmp 14) rfl Try.underlying30 Try.underlying5 w8.heap.size 1 [120] (by kernel_rfl) b14 rfl (by unfold maxLen; omega) ?_
      intro w173 b14m e127 ze127
      have BL_ := BL.ev e127 (fun i h => show w.heap.size ≤ i by have h : i = w8.heap.size := h; omega)
      have b1_ := b1.ev e127 (show ¬ (w1.heap.size = w8.heap.size) by omega)
      have Oua_ := Oua.ev e127 (fun i hi => show ¬ (i = w8.heap.size) by have := lOua_1 i hi; omega)
      have b3_ := b3.ev e127 (show ¬ (w5.heap.size = w8.heap.size) by omega)
      replace BL := BL_; clear BL_
      replace b1 := b1_; clear b1_
      replace Oua := Oua_; clear Oua_
      replace b3 := b3_; clear b3_
      replace sb14 := b14m; clear b14m b14 e127
      refine ze 6 ⟨BL, b1, Oua, b3, by omega⟩ ?_
      simp only [List.set_cons_zero, List.set_cons_succ]
      refine zo1 1 rfl ?_
      refine xLit 10 30 5 1 _ #[(0, .int .u8 120)] [.int .u8 120] rfl (by kernel_rfl) (by kernel_rfl) ?_
      intro w174 n36
      have zn36 := n36.z
      have b10 := n36.c
      replace b10 : Blk .u8 w174 w173.heap.size 5 [120] := b10
      replace BL := BL.e0 n36.e
      replace b1 := b1.e0 n36.e
      replace Oua := Oua.e0 n36.e
      replace b3 := b3.e0 n36.e
      replace sb14 := sb14.e0 n36.e
      have sb10 : SL .u8 w174 (.slice (some ⟨w173.heap.size, 0, none⟩) 1 1) [120] := SL.ofBlk b10 rfl (by unfold maxLen; omega)
      have lb10 : ∀ i, Value.ownBlock (.slice (some ⟨w173.heap.size, 0, none⟩) 1 1) = some i → w173.heap.size ≤ i ∧ i < w174.heap.size := ownB_lit (by omega)
      refine ze 1 ⟨BL, b1, Oua, b3, by omega⟩ ?_
      simp only [List.set_cons_zero, List.set_cons_succ]
      refine zo1 2 rfl ?_
      refine xMark 11 30 5 (.tmp 10) rfl Try.underlying30 Try.underlying5 w173.heap.size 1 [120] (by kernel_rfl) b10 rfl (by unfold maxLen; omega) ?_
      intro w175 b10m e128 ze128
      have BL_ := BL.ev e128 (fun i h => show w.heap.size ≤ i by have h : i = w173.heap.size := h; omega)
      have b1_ := b1.ev e128 (show ¬ (w1.heap.size = w173.heap.size) by omega)
      have Oua_ := Oua.ev e128 (fun i hi => show ¬ (i = w173.heap.size) by have := lOua_1 i hi; omega)
      have b3_ := b3.ev e128 (show ¬ (w5.heap.size = w173.heap.size) by omega)
      have sb14_ := sb14.ev e128 (fun i hi => show ¬ (i = w173.heap.size) by have := lb14 i hi; omega)
      replace BL := BL_; clear BL_
      replace b1 := b1_; clear b1_
      replace Oua := Oua_; clear Oua_
      replace b3 := b3_; clear b3_
      replace sb14 := sb14_; clear sb14_
      replace sb10 := b10m; clear b10m b10 e128
      refine ze 2 ⟨BL, b1, Oua, b3, by omega⟩ ?_
      simp only [List.set_cons_zero, List.set_cons_succ]
      refine zo1 3 rfl ?_
      refine xCall 12 25 #[.pointer (some ⟨w1.heap.size, 0, none⟩), ua, .slice (some ⟨w173.heap.size, 0, none⟩) 1 1] (by kernel_rfl) ?_
      refine (mac_any w1.heap.size tabL hTL w175 b1 (List.replicate 65 170) [120] _ _ Oua.sl (by simp) sb10 (by simp)).mono ?_
      rintro en w176 ⟨rfl, hb1⟩
      have e129 := belE0 hb1
      have ze129 := e129.size
      replace BL := BL.e0 e129
      replace b1 := b1.e0 e129
      replace Oua := Oua.e0 e129
      replace b3 := b3.e0 e129
      replace sb14 := sb14.e0 e129
      replace sb10 := sb10.e0 e129
      clear e129
      refine ⟨.agg (cellsOf .u8 (nn (macN tabL (List.replicate 65 170) [120]))), rfl, ?_⟩
      refine ze 3 ⟨BL, b1, Oua, b3, by omega⟩ ?_
      simp only [List.set_cons_zero, List.set_cons_succ]
      refine zo1 7 rfl ?_
      refine xCall 16 25 #[.pointer (some ⟨w1.heap.size, 0, none⟩), .slice (some ⟨w5.heap.size, 0, none⟩) 32 32, .slice (some ⟨w8.heap.size, 0, none⟩) 1 1] (by kernel_rfl) ?_
      refine (mac_any w1.heap.size tabL hTL w176 b1 (ofN tabL (List.replicate 65 170)) [120] _ _ (SL.ofBlk b3 (by rw [nn_len]; exact hol) (by unfold maxLen; omega)) (by omega) sb14 (by simp)).mono ?_
      rintro en w177 ⟨he, hb1⟩
      rw [mac_long (by simp)] at he
      subst he
      have e130 := belE0 hb1
      have ze130 := e130.size
      replace BL := BL.e0 e130
      replace b1 := b1.e0 e130
      replace Oua := Oua.e0 e130
      replace b3 := b3.e0 e130
      replace sb14 := sb14.e0 e130
      replace sb10 := sb10.e0 e130
      clear e130
      refine ⟨.agg (cellsOf .u8 (nn (macN tabL (List.replicate 65 170) [120]))), rfl, ?_⟩
      refine ze 7 ⟨BL, b1, Oua, b3, by omega⟩ ?_
      simp only [List.set_cons_zero, List.set_cons_succ]
      refine zv 8 17 (.bool true) (fun _ ⟨BL, b1, Oua, b3, z1⟩ => Val.eqA .eql 37 _ (.tmp 12) (.tmp 16) rfl Try.underlying37 Try.underlying5 (by kernel_rfl) (by kernel_rfl) (nn (macN tabL (List.replicate 65 170) [120])) (nn (macN tabL (List.replicate 65 170) [120])) (by kernel_rfl) (by kernel_rfl) (by rw [nn_len]; exact hml) (by rw [nn_len]; exact hml) (.inl rfl) true (by simp)) ⟨BL, b1, Oua, b3, by omega⟩ ?_
      simp only [List.set_cons_zero, List.set_cons_succ]
      refine zv 9 18 (.bool true) (fun _ _ => .of) ⟨BL, b1, Oua, b3, by omega⟩ ?_
      simp only [List.set_cons_zero, List.set_cons_succ]
      refine zv 12 21 (.agg (cellsOf .u32 (nn tabL))) (fun _ ⟨BL, b1, Oua, b3, z1⟩ => Val.blk 26 _ rfl 0 72 (by kernel_rfl) b1 _ Try.underlying26 rfl (by kernel_rfl) (by (try simp only [nn_len, List.length_cons, List.length_nil, List.length_set, List.length_replicate]); try omega) _ (seg_all' _ (by (try simp only [nn_len, List.length_cons, List.length_nil, List.length_set, List.length_replicate]); try omega))) ⟨BL, b1, Oua, b3, by omega⟩ ?_
      simp only [List.set_cons_zero, List.set_cons_succ]
      refine zo1 10 rfl ?_
      refine xCall 19 24 #[.int .u8 170, .int .i64 64] (by kernel_rfl) ?_
      refine (ofb_any 170 64 (by omega) (by omega) w177).mono ?_
      rintro en w178 ⟨ub, rfl, hO, hb1⟩
      have e131 := belE0 hb1
      have ze131 := e131.size
      replace BL := BL.e0 e131
      replace b1 := b1.e0 e131
      replace Oua := Oua.e0 e131
      replace b3 := b3.e0 e131
      replace sb14 := sb14.e0 e131
      replace sb10 := sb10.e0 e131
      clear e131
      have Oub : Own 5 .u8 w177.heap.size w178 ub (nn (List.replicate 64 170)) := hO
      have lOub_10 := Oub.ge
      refine ⟨ub, rfl, ?_⟩
      refine ze 10 ⟨BL, b1, Oua, b3, by omega⟩ ?_
      simp only [List.set_cons_zero, List.set_cons_succ]
      refine zo1 11 rfl ?_
      refine xCall 20 25 #[.pointer (some ⟨w1.heap.size, 0, none⟩), ub, .slice none 0 0] (by kernel_rfl) ?_
      refine (mac_any w1.heap.size tabL hTL w178 b1 (List.replicate 64 170) [] _ _ Oub.sl (by simp) (SL.nil _ _) (by simp)).mono ?_
      rintro en w179 ⟨rfl, hb1⟩
      have e132 := belE0 hb1
      have ze132 := e132.size
      replace BL := BL.e0 e132
      replace b1 := b1.e0 e132
      replace Oua := Oua.e0 e132
      replace b3 := b3.e0 e132
      replace sb14 := sb14.e0 e132
      replace sb10 := sb10.e0 e132
      replace Oub := Oub.e0 e132
      clear e132
      refine ⟨.agg (cellsOf .u8 (nn (macN tabL (List.replicate 64 170) []))), rfl, ?_⟩
      refine ze 11 ⟨BL, b1, Oua, b3, by omega⟩ ?_
      simp only [List.set_cons_zero, List.set_cons_succ]
      refine zo1 13 rfl ?_
      refine xCall 22 24 #[.int .u8 170, .int .i64 64] (by kernel_rfl) ?_
      refine (ofb_any 170 64 (by omega) (by omega) w179).mono ?_
      rintro en w180 ⟨uc, rfl, hO, hb1⟩
      have e133 := belE0 hb1
      have ze133 := e133.size
      replace BL := BL.e0 e133
      replace b1 := b1.e0 e133
      replace Oua := Oua.e0 e133
      replace b3 := b3.e0 e133
      replace sb14 := sb14.e0 e133
      replace sb10 := sb10.e0 e133
      replace Oub := Oub.e0 e133
      clear e133
      have Ouc : Own 5 .u8 w179.heap.size w180 uc (nn (List.replicate 64 170)) := hO
      have lOuc_10 := Ouc.ge
      refine ⟨uc, rfl, ?_⟩
      refine ze 13 ⟨BL, b1, Oua, b3, by omega⟩ ?_
      simp only [List.set_cons_zero, List.set_cons_succ]
      refine zo1 14 rfl ?_
      refine xCall 23 26 #[.agg (cellsOf .u32 (nn tabL)), uc, .slice none 0 0] (by kernel_rfl) ?_
      refine (rmac_any tabL hTL tabL_b w180 (List.replicate 64 170) [] _ _ (rep_b 64 170 (by omega)) (by simp) Ouc.sl (by simp) (SL.nil _ _) (by simp)).mono ?_
      rintro en w181 ⟨rfl, hb1⟩
      have e134 := belE0 hb1
      have ze134 := e134.size
      replace BL := BL.e0 e134
      replace b1 := b1.e0 e134
      replace Oua := Oua.e0 e134
      replace b3 := b3.e0 e134
      replace sb14 := sb14.e0 e134
      replace sb10 := sb10.e0 e134
      replace Oub := Oub.e0 e134
      replace Ouc := Ouc.e0 e134
      clear e134
      refine ⟨.agg (cellsOf .u8 (nn (macN tabL (List.replicate 64 170) []))), rfl, ?_⟩
      refine ze 14 ⟨BL, b1, Oua, b3, by omega⟩ ?_
      simp only [List.set_cons_zero, List.set_cons_succ]
      refine zv 15 24 (.bool true) (fun _ ⟨BL, b1, Oua, b3, z1⟩ => Val.eqA .eql 37 _ (.tmp 20) (.tmp 23) rfl Try.underlying37 Try.underlying5 (by kernel_rfl) (by kernel_rfl) (nn (macN tabL (List.replicate 64 170) [])) (nn (macN tabL (List.replicate 64 170) [])) (by kernel_rfl) (by kernel_rfl) (by rw [nn_len]; exact hm4) (by rw [nn_len]; exact hm4) (.inl rfl) true (by simp)) ⟨BL, b1, Oua, b3, by omega⟩ ?_
      simp only [List.set_cons_zero, List.set_cons_succ]
      refine zv 16 25 (.bool true) (fun _ _ => .of) ⟨BL, b1, Oua, b3, by omega⟩ ?_
      simp only [List.set_cons_zero, List.set_cons_succ]
      refine zv 17 4 (.bool true) (fun _ _ => .of) ⟨BL, b1, Oua, b3, by omega⟩ ?_
      simp only [List.set_cons_zero, List.set_cons_succ]
      refine zd (by kernel_rfl) ?_ _
      refine hK5 _ _ ?_
      refine wp_seq_k fun K15 hK15 => ?_
      refine cPlain ?_
      refine sv 26 (.bool true) .of ?_
      simp only [List.set_cons_zero, List.set_cons_succ]
      refine sv 27 (.bool true) .of ?_
      simp only [List.set_cons_zero, List.set_cons_succ]
      refine xCall 28 25 #[.pointer none, .slice none 0 0, .slice none 0 0] (by kernel_rfl) ?_
      refine (mac_nil [] _ _ w181 (SL.nil _ _) (by simp)).mono ?_
      rintro en w182 ⟨rfl, hb1⟩
      have e135 := belE0 hb1
      have ze135 := e135.size
      replace BL := BL.e0 e135
      replace b1 := b1.e0 e135
      replace Oua := Oua.e0 e135
      replace b3 := b3.e0 e135
      replace sb14 := sb14.e0 e135
      replace sb10 := sb10.e0 e135
      replace Oub := Oub.e0 e135
      replace Ouc := Ouc.e0 e135
      clear e135
      refine ⟨.agg (cellsOf .u8 (nn (List.replicate 32 0))), rfl, ?_⟩
      simp only [List.set_cons_zero, List.set_cons_succ]
      refine sv 29 (.agg (cellsOf .u8 (nn (List.replicate 32 0)))) .of ?_
      simp only [List.set_cons_zero, List.set_cons_succ]
      refine sv 30 (.bool true) (Val.eqA .eql 37 _ (.tmp 28) (.tmp 29) rfl Try.underlying37 Try.underlying5 (by kernel_rfl) (by kernel_rfl) (nn (List.replicate 32 0)) (nn (List.replicate 32 0)) (by kernel_rfl) (by kernel_rfl) (by rw [nn_len]; rfl) (by rw [nn_len]; rfl) (.inl rfl) true (by simp)) ?_
      simp only [List.set_cons_zero, List.set_cons_succ]
      refine sv 31 (.bool true) .of ?_
      simp only [List.set_cons_zero, List.set_cons_succ]
      refine sv 32 (.bool true) .of ?_
      simp only [List.set_cons_zero, List.set_cons_succ]
      refine xCall 33 27 #[.pointer none, .int .u8 1, .slice none 0 0] (by kernel_rfl) ?_
      refine (tagged_nil 1 _ [] [] w182 (.inl ⟨rfl, rfl⟩) trivial (by simp [blobsB])).mono ?_
      rintro en w183 ⟨rfl, hb1⟩
      have e136 := belE0 hb1
      have ze136 := e136.size
      replace BL := BL.e0 e136
      replace b1 := b1.e0 e136
      replace Oua := Oua.e0 e136
      replace b3 := b3.e0 e136
      replace sb14 := sb14.e0 e136
      replace sb10 := sb10.e0 e136
      replace Oub := Oub.e0 e136
      replace Ouc := Ouc.e0 e136
      clear e136
      refine ⟨.agg (cellsOf .u8 (nn (List.replicate 32 0))), rfl, ?_⟩
      simp only [List.set_cons_zero, List.set_cons_succ]
      refine sv 34 (.agg (cellsOf .u8 (nn (List.replicate 32 0)))) .of ?_
      simp only [List.set_cons_zero, List.set_cons_succ]
      refine sv 35 (.bool true) (Val.eqA .eql 37 _ (.tmp 33) (.tmp 34) rfl Try.underlying37 Try.underlying5 (by kernel_rfl) (by kernel_rfl) (nn (List.replicate 32 0)) (nn (List.replicate 32 0)) (by kernel_rfl) (by kernel_rfl) (by rw [nn_len]; rfl) (by rw [nn_len]; rfl) (.inl rfl) true (by simp)) ?_
      simp only [List.set_cons_zero, List.set_cons_succ]
      refine sv 36 (.bool true) .of ?_
      simp only [List.set_cons_zero, List.set_cons_succ]
      refine sv 37 (.bool true) .of ?_
      simp only [List.set_cons_zero, List.set_cons_succ]
      refine xCall 38 29 #[.int .u8 0, .slice none 0 0] (by kernel_rfl) ?_
      refine (mactext_any ((0 : Nat) : Int) _ [] (([] : List (List Nat)).map nn) w183 (.inl ⟨rfl, rfl⟩) w183.heap.size (by omega) trivial (by simp [blobsB])).mono ?_
      rintro en w184 ⟨u, rfl, hO, hb1⟩
      replace hO := hO.cast ((textN_nn 0 []).symm.trans (congrArg nn text00))
      have e137 := belE0 hb1
      have ze137 := e137.size
      replace BL := BL.e0 e137
      replace b1 := b1.e0 e137
      replace Oua := Oua.e0 e137
      replace b3 := b3.e0 e137
      replace sb14 := sb14.e0 e137
      replace sb10 := sb10.e0 e137
      replace Oub := Oub.e0 e137
      replace Ouc := Ouc.e0 e137
      clear e137
      have U : Own 5 .u8 w183.heap.size w184 u (nn [75, 0, 0]) := hO
      have lU_10 := U.ge
      refine ⟨u, rfl, ?_⟩
      simp only [List.set_cons_zero, List.set_cons_succ]
      refine xLit 39 30 5 3 _ #[(0, .int .u8 75), (1, .int .u8 0), (2, .int .u8 0)] [.int .u8 75, .int .u8 0, .int .u8 0] rfl (by kernel_rfl) (by kernel_rfl) ?_
      intro w185 n37
      have zn37 := n37.z
      have b39 := n37.c
      replace b39 : Blk .u8 w185 w184.heap.size 5 [75, 0, 0] := b39
      replace BL := BL.e0 n37.e
      replace b1 := b1.e0 n37.e
      replace Oua := Oua.e0 n37.e
      replace b3 := b3.e0 n37.e
      replace sb14 := sb14.e0 n37.e
      replace sb10 := sb10.e0 n37.e
      replace Oub := Oub.e0 n37.e
      replace Ouc := Ouc.e0 n37.e
      replace U := U.e0 n37.e
      have sb39 : SL .u8 w185 (.slice (some ⟨w184.heap.size, 0, none⟩) 3 3) [75, 0, 0] := SL.ofBlk b39 rfl (by unfold maxLen; omega)
      have lb39 : ∀ i, Value.ownBlock (.slice (some ⟨w184.heap.size, 0, none⟩) 3 3) = some i → w184.heap.size ≤ i ∧ i < w185.heap.size := ownB_lit (by omega)
      simp only [List.set_cons_zero, List.set_cons_succ]
      refine xCall 40 28 #[u, .slice (some ⟨w184.heap.size, 0, none⟩) 3 3] (by kernel_rfl) ?_
      refine (same_any _ _ (nn [75, 0, 0]) (nn [75, 0, 0]) w185 U.sl sb39 (bytes_nn (by decide)) (bytes_nn (by decide))).mono ?_
      rintro en w186 ⟨he, hw⟩
      rw [decide_eq_true rfl] at he
      subst he
      obtain rfl := (hw.symm).symm
      refine ⟨.bool true, rfl, ?_⟩
      simp only [List.set_cons_zero, List.set_cons_succ]
      refine sv 41 (.bool true) .of ?_
      simp only [List.set_cons_zero, List.set_cons_succ]
      refine sv 42 (.bool true) .of ?_
      simp only [List.set_cons_zero, List.set_cons_succ]
      refine xLit 43 30 5 0 _ #[] [] rfl (by kernel_rfl) (by kernel_rfl) ?_
      intro w187 n38
      have zn38 := n38.z
      have b43 := n38.c
      replace b43 : Blk .u8 w187 w185.heap.size 5 [] := b43
      replace BL := BL.e0 n38.e
      replace b1 := b1.e0 n38.e
      replace Oua := Oua.e0 n38.e
      replace b3 := b3.e0 n38.e
      replace sb14 := sb14.e0 n38.e
      replace sb10 := sb10.e0 n38.e
      replace Oub := Oub.e0 n38.e
      replace Ouc := Ouc.e0 n38.e
      replace U := U.e0 n38.e
      replace b39 := b39.e0 n38.e
      replace sb39 := sb39.e0 n38.e
      have sb43 : SL .u8 w187 (.slice (some ⟨w185.heap.size, 0, none⟩) 0 0) [] := SL.ofBlk b43 rfl (by unfold maxLen; omega)
      have lb43 : ∀ i, Value.ownBlock (.slice (some ⟨w185.heap.size, 0, none⟩) 0 0) = some i → w185.heap.size ≤ i ∧ i < w187.heap.size := ownB_lit (by omega)
      simp only [List.set_cons_zero, List.set_cons_succ]
      refine xCall 44 30 #[.slice none 0 0, .slice (some ⟨w185.heap.size, 0, none⟩) 0 0] (by kernel_rfl) ?_
      refine (macsame_any _ _ [] [] w187 (SL.nil _ _) sb43 (by decide) (by decide) (by simp) (by simp)).mono ?_
      rintro en w188 ⟨rfl, hb1⟩
      have e138 := belE0 hb1
      have ze138 := e138.size
      replace BL := BL.e0 e138
      replace b1 := b1.e0 e138
      replace Oua := Oua.e0 e138
      replace b3 := b3.e0 e138
      replace sb14 := sb14.e0 e138
      replace sb10 := sb10.e0 e138
      replace Oub := Oub.e0 e138
      replace Ouc := Ouc.e0 e138
      replace U := U.e0 e138
      replace b39 := b39.e0 e138
      replace sb39 := sb39.e0 e138
      replace b43 := b43.e0 e138
      replace sb43 := sb43.e0 e138
      clear e138
      refine ⟨.bool true, rfl, ?_⟩
      simp only [List.set_cons_zero, List.set_cons_succ]
      refine sv 45 (.bool true) .of ?_
      simp only [List.set_cons_zero, List.set_cons_succ]
      refine sv 46 (.bool true) .of ?_
      simp only [List.set_cons_zero, List.set_cons_succ]
      refine xLit 47 30 5 1 _ #[(0, .int .u8 0)] [.int .u8 0] rfl (by kernel_rfl) (by kernel_rfl) ?_
      intro w189 n39
      have zn39 := n39.z
      have b47 := n39.c
      replace b47 : Blk .u8 w189 w188.heap.size 5 [0] := b47
      replace BL := BL.e0 n39.e
      replace b1 := b1.e0 n39.e
      replace Oua := Oua.e0 n39.e
      replace b3 := b3.e0 n39.e
      replace sb14 := sb14.e0 n39.e
      replace sb10 := sb10.e0 n39.e
      replace Oub := Oub.e0 n39.e
      replace Ouc := Ouc.e0 n39.e
      replace U := U.e0 n39.e
      replace b39 := b39.e0 n39.e
      replace sb39 := sb39.e0 n39.e
      replace b43 := b43.e0 n39.e
      replace sb43 := sb43.e0 n39.e
      have sb47 : SL .u8 w189 (.slice (some ⟨w188.heap.size, 0, none⟩) 1 1) [0] := SL.ofBlk b47 rfl (by unfold maxLen; omega)
      have lb47 : ∀ i, Value.ownBlock (.slice (some ⟨w188.heap.size, 0, none⟩) 1 1) = some i → w188.heap.size ≤ i ∧ i < w189.heap.size := ownB_lit (by omega)
      simp only [List.set_cons_zero, List.set_cons_succ]
      refine xCall 48 30 #[.slice none 0 0, .slice (some ⟨w188.heap.size, 0, none⟩) 1 1] (by kernel_rfl) ?_
      refine (macsame_any _ _ [] [0] w189 (SL.nil _ _) sb47 (by decide) (by decide) (by simp) (by simp)).mono ?_
      rintro en w190 ⟨rfl, hb1⟩
      have e139 := belE0 hb1
      have ze139 := e139.size
      replace BL := BL.e0 e139
      replace b1 := b1.e0 e139
      replace Oua := Oua.e0 e139
      replace b3 := b3.e0 e139
      replace sb14 := sb14.e0 e139
      replace sb10 := sb10.e0 e139
      replace Oub := Oub.e0 e139
      replace Ouc := Ouc.e0 e139
      replace U := U.e0 e139
      replace b39 := b39.e0 e139
      replace sb39 := sb39.e0 e139
      replace b43 := b43.e0 e139
      replace sb43 := sb43.e0 e139
      replace b47 := b47.e0 e139
      replace sb47 := sb47.e0 e139
      clear e139
      refine ⟨.bool false, rfl, ?_⟩
      simp only [List.set_cons_zero, List.set_cons_succ]
      refine sv 49 (.bool true) .of ?_
      simp only [List.set_cons_zero, List.set_cons_succ]
      refine sv 50 (.bool true) .of ?_
      simp only [List.set_cons_zero, List.set_cons_succ]
      refine sv 51 (.bool true) .of ?_
      simp only [List.set_cons_zero, List.set_cons_succ]
      refine xCall 52 31 #[] (by kernel_rfl) ?_
      refine (awake03_any w190).mono ?_
      rintro en w191 ⟨rfl, hb1⟩
      have e140 := belE0 hb1
      have ze140 := e140.size
      replace BL := BL.e0 e140
      replace b1 := b1.e0 e140
      replace Oua := Oua.e0 e140
      replace b3 := b3.e0 e140
      replace sb14 := sb14.e0 e140
      replace sb10 := sb10.e0 e140
      replace Oub := Oub.e0 e140
      replace Ouc := Ouc.e0 e140
      replace U := U.e0 e140
      replace b39 := b39.e0 e140
      replace sb39 := sb39.e0 e140
      replace b43 := b43.e0 e140
      replace sb43 := sb43.e0 e140
      replace b47 := b47.e0 e140
      replace sb47 := sb47.e0 e140
      clear e140
      refine ⟨.bool true, rfl, ?_⟩
      simp only [List.set_cons_zero, List.set_cons_succ]
      refine sv 53 (.bool true) .of ?_
      simp only [List.set_cons_zero, List.set_cons_succ]
      refine sv 0 (.bool true) .of ?_
      simp only [List.set_cons_zero, List.set_cons_succ]
      refine wpList_nil ?_
      refine hK15 _ _ ?_
      refine wp_ret ?_
      (try simp only [Exit.then, Exit.inBlock])
      refine bodyPost_ret (v := .bool true) rT rfl ?_
      exact ⟨rfl, BL.b⟩

end Go.Proofs.Yteaijjefbadnbaa
