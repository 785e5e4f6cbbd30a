/-
  ref09: Text, Open.
-/
import Derived.Test.YtoeaekamoejhcaaRef9P
namespace Go.Proofs.Ytoeaekamoejhcaa
open Go.RowKit
set_option linter.unusedVariables false
set_option linter.unusedSimpArgs false
set_option maxRecDepth 100000
attribute [local irreducible] wpList Code.wp wpAnyZ
theorem open_eq (tab dl S O : List Nat) : taggedN tab 3 (pairsN dl (halvesN tab S) O 256) = openN tab dl S O := by unfold openN keytextN taggedN; rfl
theorem halves_b (tab S : List Nat) : ∀ x ∈ halvesN tab S, x < 256 := rowsN_b (fun i => halfN_b _ _) 256
theorem pairs_count (dl H O : List Nat) : (pairsN dl H O 256).length ≤ 1000 := by rw [pairsN_len]; omega
attribute [local irreducible] ofN textN numN secretN halfN macN taggedN rowsN fillN pairsN pairN rowN openN

set_option maxHeartbeats 4000000 in
theorem r9text_any (dl H O : List Nat) (hdl : dl.length = 32) (hdb : Bytes (nn dl)) (hH : H.length = 8192) (hO : O.length = 8192) (w : World) :
    Calls Try.prog 55 #[.agg (cellsOf .u8 (nn dl)), .agg (cellsOf .u8 (nn H)), .agg (cellsOf .u8 (nn O))] w fun e w' => ∃ u, e = .returned u ∧ SL .u8 w' u (nn (keytextN dl H O)) ∧ Below w.heap.size w w' := by
  have BL := Bl.refl w
  unfold keytextN
  go_enter Try.func55, Try.ntmps55
  refine wp_seq_k fun K1 hK1 => ?_
  refine cPlain ?_
  refine xBox 3 23 _ ((nn (dl)).map (Value.int .u8)) rfl (cells_toList _ _) ?_
  intro w1 n1
  have zn1 := n1.z
  have b3 := n1.c
  replace b3 : Blk .u8 w1 w.heap.size 23 (nn (dl)) := b3
  replace BL := BL.e0 n1.e
  simp only [List.set_cons_zero, List.set_cons_succ]
  refine xBox 4 25 _ ((nn (H)).map (Value.int .u8)) rfl (cells_toList _ _) ?_
  intro w2 n2
  have zn2 := n2.z
  have b4 := n2.c
  replace b4 : Blk .u8 w2 w1.heap.size 25 (nn (H)) := b4
  replace BL := BL.e0 n2.e
  replace b3 := b3.e0 n2.e
  simp only [List.set_cons_zero, List.set_cons_succ]
  refine xBox 5 25 _ ((nn (O)).map (Value.int .u8)) rfl (cells_toList _ _) ?_
  intro w3 n3
  have zn3 := n3.z
  have b5 := n3.c
  replace b5 : Blk .u8 w3 w2.heap.size 25 (nn (O)) := b5
  replace BL := BL.e0 n3.e
  replace b3 := b3.e0 n3.e
  replace b4 := b4.e0 n3.e
  simp only [List.set_cons_zero, List.set_cons_succ]
  refine sv 6 (.slice none 0 0) .of ?_
  simp only [List.set_cons_zero, List.set_cons_succ]
  refine wpList_nil ?_
  refine hK1 _ _ ?_
  refine wp_seq_k fun K2 hK2 => ?_
  refine cPlain ?_
  refine sv 7 (.agg (cellsOf .u8 (nn (dl)))) (Val.blk 23 _ rfl 0 32 (by kernel_rfl) b3 _ Try.underlying23 rfl (by kernel_rfl) (by (try simp only [nn_len]); try omega) _ (seg_all' _ (by (try simp only [nn_len]); try omega))) ?_
  simp only [List.set_cons_zero, List.set_cons_succ]
  refine sv 8 (.agg (cellsOf .u8 (nn (H)))) (Val.blk 25 _ rfl 0 8192 (by kernel_rfl) b4 _ Try.underlying25 rfl (by kernel_rfl) (by (try simp only [nn_len]); try omega) _ (seg_all' _ (by (try simp only [nn_len]); try omega))) ?_
  simp only [List.set_cons_zero, List.set_cons_succ]
  refine sv 9 (.agg (cellsOf .u8 (nn (O)))) (Val.blk 25 _ rfl 0 8192 (by kernel_rfl) b5 _ Try.underlying25 rfl (by kernel_rfl) (by (try simp only [nn_len]); try omega) _ (seg_all' _ (by (try simp only [nn_len]); try omega))) ?_
  simp only [List.set_cons_zero, List.set_cons_succ]
  refine xCall 10 84 #[.agg (cellsOf .u8 (nn (dl))), .agg (cellsOf .u8 (nn (H))), .agg (cellsOf .u8 (nn (O)))] (by kernel_rfl) ?_
  refine (r9parts_any dl H O hdl hdb hH hO w3).mono ?_
  rintro en w4 ⟨u, us, rfl, hV, hY, hb1⟩
  have e1 := belE0 hb1
  have ze1 := e1.size
  replace BL := BL.e0 e1
  replace b3 := b3.e0 e1
  replace b4 := b4.e0 e1
  replace b5 := b5.e0 e1
  clear e1
  refine ⟨u, rfl, ?_⟩
  simp only [List.set_cons_zero, List.set_cons_succ]
  refine xCall 11 81 #[.int .u8 3, u] (by kernel_rfl) ?_
  refine (rtext_any 3 (by omega) u us (pairsN dl H O 256) w4.heap.size w4 (Nat.le_refl _) hV hY (pairs_le hH hO) (pairs_count _ _ _)).mono ?_
  rintro en w5 ⟨u2, rfl, hS, hb1⟩
  have hsl := hS.lt
  have e2 := belE0 hb1
  have ze2 := e2.size
  replace BL := BL.e0 e2
  replace b3 := b3.e0 e2
  replace b4 := b4.e0 e2
  replace b5 := b5.e0 e2
  clear e2
  have S : SL .u8 w5 u2 (nn (textN 3 (pairsN dl H O 256))) := hS
  refine ⟨u2, rfl, ?_⟩
  simp only [List.set_cons_zero, List.set_cons_succ]
  refine sv 6 (u2) .of ?_
  simp only [List.set_cons_zero, List.set_cons_succ]
  refine wpList_nil ?_
  refine hK2 _ _ ?_
  refine wp_ret ?_
  (try simp only [Exit.then, Exit.inBlock])
  refine bodyPost_ret (v := u2) rT rfl ?_
  exact ⟨_, rfl, S, BL.b⟩

set_option maxHeartbeats 4000000 in
theorem r9open_any (tab : List Nat) (ht : tab.length = 72) (h32 : ∀ x ∈ tab, x < 4294967296) (w : World) (dl S O : List Nat) (hdl : dl.length = 32) (hdb : Bytes (nn dl)) (hS : S.length = 8192) (hO : O.length = 8192) (hS8 : ∀ x ∈ S, x < 256) (hO8 : ∀ x ∈ O, x < 256) :
    Calls Try.prog 54 #[.agg (cellsOf .u32 (nn tab)), .agg (cellsOf .u8 (nn dl)), .agg (cellsOf .u8 (nn (S ++ O)))] w fun e w' => e = .returned (.agg (cellsOf .u8 (nn (openN tab dl S O)))) ∧ Below w.heap.size w w' := by
  have BL := Bl.refl w
  have hz : (List.replicate 8192 0 : List Nat) = fillN (halfF tab S) 0 := (fillN_0 _).symm
  have hso : (nn (S ++ O)).length = 16384 := by rw [nn_len, List.length_append]; omega
  have hol : (taggedN tab 3 (pairsN dl (halvesN tab S) O 256)).length = 32 := by rw [← tagged_eq]; exact ofN_32 _ _
  have hrb : ∀ i, ∀ x ∈ rowN S i, x < 256 := fun i x hx => by unfold rowN at hx; exact hS8 x (List.mem_of_mem_drop (List.mem_of_mem_take hx))
  rw [← open_eq]
  go_enter Try.func54, Try.ntmps54
  refine wp_seq_k fun K1 hK1 => ?_
  refine cPlain ?_
  refine xBox 3 61 _ ((nn tab).map (Value.int .u32)) rfl (cells_toList _ _) ?_
  intro w1 n1
  have zn1 := n1.z
  have b3 := n1.c
  replace b3 : Blk .u32 w1 w.heap.size 61 (nn tab) := b3
  replace BL := BL.e0 n1.e
  simp only [List.set_cons_zero, List.set_cons_succ]
  refine xBox 4 23 _ ((nn (dl)).map (Value.int .u8)) rfl (cells_toList _ _) ?_
  intro w2 n2
  have zn2 := n2.z
  have b4 := n2.c
  replace b4 : Blk .u8 w2 w1.heap.size 23 (nn (dl)) := b4
  replace BL := BL.e0 n2.e
  replace b3 := b3.e0 n2.e
  simp only [List.set_cons_zero, List.set_cons_succ]
  refine xBox 5 27 _ ((nn (S ++ O)).map (Value.int .u8)) rfl (cells_toList _ _) ?_
  intro w3 n3
  have zn3 := n3.z
  have b5 := n3.c
  replace b5 : Blk .u8 w3 w2.heap.size 27 (nn (S ++ O)) := b5
  replace BL := BL.e0 n3.e
  replace b3 := b3.e0 n3.e
  replace b4 := b4.e0 n3.e
  simp only [List.set_cons_zero, List.set_cons_succ]
  refine xAlloc 6 23 ((nn (List.replicate 32 0)).map (Value.int .u8)) rfl (by kernel_rfl) ?_
  intro w4 n4
  have zn4 := n4.z
  have b6 := n4.c
  replace b6 : Blk .u8 w4 w3.heap.size 23 (nn (List.replicate 32 0)) := b6
  replace BL := BL.e0 n4.e
  replace b3 := b3.e0 n4.e
  replace b4 := b4.e0 n4.e
  replace b5 := b5.e0 n4.e
  simp only [List.set_cons_zero, List.set_cons_succ]
  refine wpList_nil ?_
  refine hK1 _ _ ?_
  refine wp_seq_k fun K2 hK2 => ?_
  refine cPlain ?_
  refine xAlloc 7 25 ((nn (List.replicate 8192 0)).map (Value.int .u8)) rfl (by kernel_rfl) ?_
  intro w5 n5
  have zn5 := n5.z
  have b7 := n5.c
  replace b7 : Blk .u8 w5 w4.heap.size 25 (nn (List.replicate 8192 0)) := b7
  replace BL := BL.e0 n5.e
  replace b3 := b3.e0 n5.e
  replace b4 := b4.e0 n5.e
  replace b5 := b5.e0 n5.e
  replace b6 := b6.e0 n5.e
  simp only [List.set_cons_zero, List.set_cons_succ]
  refine wpList_nil ?_
  refine hK2 _ _ ?_
  refine wp_seq_k fun K3 hK3 => ?_
  refine wp_seq_k fun K4 hK4 => ?_
  refine cPlain ?_
  refine sv 8 (.int .i64 0) .of ?_
  simp only [List.set_cons_zero, List.set_cons_succ]
  refine wpList_nil ?_
  refine hK4 _ _ ?_
  refine wp_block ?_
  refine cLoop (fun N_ A_ w_ => ∃ (i : Nat), (N_ = 256 - i ∧ (i ≤ 256) ∧ (∃ s1 : Nat → Value, A_ = ⟨[.agg (cellsOf .u32 (nn tab)), .agg (cellsOf .u8 (nn (dl))), .agg (cellsOf .u8 (nn (S ++ O))), .pointer (some ⟨w.heap.size, 0, none⟩), .pointer (some ⟨w1.heap.size, 0, none⟩), .pointer (some ⟨w2.heap.size, 0, none⟩), .pointer (some ⟨w3.heap.size, 0, none⟩), .pointer (some ⟨w4.heap.size, 0, none⟩), .int .i64 ((i : Nat) : Int), (s1 9), (s1 10), (s1 11), (s1 12), (s1 13), (s1 14), (s1 15), (s1 16), (s1 17), (s1 18), (s1 19), (s1 20), undef, undef, undef, undef, undef, undef, undef].toArray, []⟩) ∧ Bl w.heap.size w w_ ∧ Blk .u32 w_ w.heap.size 61 (nn tab) ∧ Blk .u8 w_ w1.heap.size 23 (nn (dl)) ∧ Blk .u8 w_ w2.heap.size 27 (nn (S ++ O)) ∧ Blk .u8 w_ w3.heap.size 23 (nn (List.replicate 32 0)) ∧ Blk .u8 w_ w4.heap.size 25 (nn (fillN (halfF tab S) i)) ∧ w5.heap.size ≤ w_.heap.size)) _ ⟨0, rfl, (Nat.zero_le _), cutE, BL, b3, b4, b5, b6, (by rw [← hz]; exact b7), Nat.le_refl _⟩ ?_
  clear BL b3 b4 b5 b6 b7
  rintro n_ a_ wl0 ⟨i, rfl, hc0_0, ⟨s1, rfl⟩, BL, b3, b4, b5, b6, b7, zl0⟩
  refine wp_seq_k fun K5 hK5 => ?_
  refine wp_seq_k fun K6 hK6 => ?_
  refine cPlain ?_
  refine sv 9 (.int .i64 ((i : Nat) : Int)) .of ?_
  simp only [List.set_cons_zero, List.set_cons_succ]
  refine sv 10 (.bool (decide (((i : Nat) : Int) < 256))) (Val.cmp .lss 3 _ (.tmp 9) _ rfl .i64 ((i : Nat) : Int) 256 (by kernel_rfl) (by kernel_rfl) (by simp) _ rfl) ?_
  simp only [List.set_cons_zero, List.set_cons_succ]
  refine wpList_nil ?_
  refine hK6 _ _ ?_
  refine cDec (((i : Nat) : Int) < 256) (by kernel_rfl) (fun c10 => ?_) (fun c10 => ?_)
  · skip
    refine wp_skip ?_
    refine hK5 _ _ ?_
    refine wp_seq_k fun K7 hK7 => ?_
    refine wp_block ?_
    have hrl0 := rowN_len (xs := S) (i := i) (by omega)
    have hhl0 := halfF_len tab S i
    have hfl0 := fillN_len (halfF_len tab S) hc0_0
    have hrl : (nn (rowN S i)).length = 32 := by rw [nn_len]; exact hrl0
    have hhl : (nn (halfF tab S i)).length = 32 := by rw [nn_len]; exact hhl0
    have hfl : (nn (fillN (halfF tab S) i)).length = 8192 := by rw [nn_len]; exact hfl0
    have e1 := drew_e0 wl0
    refine zg (fun w_ => Bl w.heap.size w w_ ∧ Blk .u32 w_ w.heap.size 61 (nn tab) ∧ Blk .u8 w_ w1.heap.size 23 (nn (dl)) ∧ Blk .u8 w_ w2.heap.size 27 (nn (S ++ O)) ∧ Blk .u8 w_ w3.heap.size 23 (nn (List.replicate 32 0)) ∧ Blk .u8 w_ w4.heap.size 25 (nn (fillN (halfF tab S) i)) ∧ wl0.heap.size ≤ w_.heap.size) (fun w_ => Bl w.heap.size w w_ ∧ Blk .u32 w_ w.heap.size 61 (nn tab) ∧ Blk .u8 w_ w1.heap.size 23 (nn (dl)) ∧ Blk .u8 w_ w2.heap.size 27 (nn (S ++ O)) ∧ Blk .u8 w_ w3.heap.size 23 (nn (List.replicate 32 0)) ∧ Blk .u8 w_ w4.heap.size 25 (nn (fillN (halfF tab S) i)) ∧ wl0.heap.size ≤ w_.heap.size) 8 9 ⟨BL.e0 e1, b3.e0 e1, b4.e0 e1, b5.e0 e1, b6.e0 e1, b7.e0 e1, Nat.le_refl _⟩ ?_
    clear BL b3 b4 b5 b6 b7
    clear e1
    intro w6
    rintro ⟨BL, b3, b4, b5, b6, b7, z1⟩
    refine zv 0 13 (.int .i64 ((i : Nat) : Int)) (fun _ _ => .of) ⟨BL, b3, b4, b5, b6, b7, by omega⟩ ?_
    simp only [List.set_cons_zero, List.set_cons_succ]
    refine zv 1 14 (.agg (cellsOf .u32 (nn tab))) (fun _ ⟨BL, b3, b4, b5, b6, b7, z1⟩ => Val.blk 61 _ rfl 0 72 (by kernel_rfl) b3 _ Try.underlying61 rfl (by kernel_rfl) (by (try simp only [nn_len, List.length_append, List.length_replicate]); try omega) _ (seg_all' _ (by (try simp only [nn_len, List.length_append, List.length_replicate]); try omega))) ⟨BL, b3, b4, b5, b6, b7, by omega⟩ ?_
    simp only [List.set_cons_zero, List.set_cons_succ]
    refine zv 2 15 (.int .i64 ((i : Nat) : Int)) (fun _ _ => .of) ⟨BL, b3, b4, b5, b6, b7, by omega⟩ ?_
    simp only [List.set_cons_zero, List.set_cons_succ]
    refine zv 3 16 (.pointer (some ⟨w2.heap.size, 0, none⟩)) (fun _ _ => .of) ⟨BL, b3, b4, b5, b6, b7, by omega⟩ ?_
    simp only [List.set_cons_zero, List.set_cons_succ]
    refine zv 4 17 (.pointer (some ⟨w2.heap.size, 0 + i * 32, none⟩)) (fun _ ⟨BL, b3, b4, b5, b6, b7, z1⟩ => Val.idxA 24 (.tmp 16) (.tmp 15) rfl w2.heap.size 0 i (by kernel_rfl) (by kernel_rfl) 32 Try.underlying24 (by kernel_rfl) (by omega)) ⟨BL, b3, b4, b5, b6, b7, by omega⟩ ?_
    simp only [List.set_cons_zero, List.set_cons_succ]
    refine zv 5 18 (.agg (cellsOf .u8 (nn (rowN S i)))) (fun _ ⟨BL, b3, b4, b5, b6, b7, z1⟩ => Val.blk 22 _ rfl (0 + i * 32) 32 (by kernel_rfl) b5 _ Try.underlying22 rfl (by kernel_rfl) (by omega) _ (by rw [seg_rowN _ i _ (by omega), rowN_fst hS (by omega)])) ⟨BL, b3, b4, b5, b6, b7, by omega⟩ ?_
    simp only [List.set_cons_zero, List.set_cons_succ]
    refine zo1 6 rfl ?_
    refine xCall 19 51 #[.agg (cellsOf .u32 (nn tab)), .agg (cellsOf .u8 (nn (rowN S i)))] (by kernel_rfl) ?_
    refine (r9half_any tab ht h32 w6 (rowN S i) (rowN_len (by omega)) (hrb i)).mono ?_
    rintro en w7 ⟨rfl, hb1⟩
    have e2 := belE0 hb1
    have ze2 := e2.size
    replace BL := BL.e0 e2
    replace b3 := b3.e0 e2
    replace b4 := b4.e0 e2
    replace b5 := b5.e0 e2
    replace b6 := b6.e0 e2
    replace b7 := b7.e0 e2
    clear e2
    refine ⟨.agg (cellsOf .u8 (nn (halfF tab S i))), rfl, ?_⟩
    refine ze 6 ⟨BL, b3, b4, b5, b6, b7, by omega⟩ ?_
    simp only [List.set_cons_zero, List.set_cons_succ]
    refine zv 7 20 (.pointer (some ⟨w4.heap.size, 0 + i * 32, none⟩)) (fun _ ⟨BL, b3, b4, b5, b6, b7, z1⟩ => Val.idxA 25 (.tmp 7) (.tmp 13) rfl w4.heap.size 0 i (by kernel_rfl) (by kernel_rfl) 32 Try.underlying25 (by kernel_rfl) (by omega)) ⟨BL, b3, b4, b5, b6, b7, by omega⟩ ?_
    simp only [List.set_cons_zero, List.set_cons_succ]
    refine zo1 8 rfl ?_
    refine xStoreA 23 (.tmp 20) (.tmp 19) rfl .u8 w4.heap.size 25 (nn (fillN (halfF tab S) i)) (0 + i * 32) (nn (halfF tab S i)) (by kernel_rfl) (by kernel_rfl) b7 (by rw [show (nn (halfF tab S i)).length = 32 by omega]; kernel_rfl) (by omega) _ rfl ?_
    intro w8 t1
    have zt1 := t1.z
    have BL_ := BL.ev t1.e (fun i h => show w.heap.size ≤ i by have h : i = w4.heap.size := h; omega)
    have b3_ := b3.ev t1.e (show ¬ (w.heap.size = w4.heap.size) by omega)
    have b4_ := b4.ev t1.e (show ¬ (w1.heap.size = w4.heap.size) by omega)
    have b5_ := b5.ev t1.e (show ¬ (w2.heap.size = w4.heap.size) by omega)
    have b6_ := b6.ev t1.e (show ¬ (w3.heap.size = w4.heap.size) by omega)
    replace BL := BL_; clear BL_
    replace b3 := b3_; clear b3_
    replace b4 := b4_; clear b4_
    replace b5 := b5_; clear b5_
    replace b6 := b6_; clear b6_
    replace b7 : Blk .u8 w8 w4.heap.size 25 (over (nn (fillN (halfF tab S) i)) (0 + i * 32) (nn (halfF tab S i))) := t1.c
    clear t1
    refine zz 8 ?_
    refine zd (by kernel_rfl) ?_ _
    refine hK7 _ _ ?_
    refine cPlain ?_
    refine sv 11 (.int .i64 ((i : Nat) : Int)) .of ?_
    simp only [List.set_cons_zero, List.set_cons_succ]
    refine sv 12 (.int .i64 (((i : Nat) : Int) + 1)) (Val.add 3 _ (.tmp 11) _ rfl ((i : Nat) : Int) 1 (by kernel_rfl) (by kernel_rfl) (by omega)) ?_
    simp only [List.set_cons_zero, List.set_cons_succ]
    refine sv 8 (.int .i64 (((i : Nat) : Int) + 1)) .of ?_
    simp only [List.set_cons_zero, List.set_cons_succ]
    refine wpList_nil ?_
    refine ⟨_, ?_, i + 1, rfl, (by omega), cutE, BL, b3, b4, b5, b6, (by rw [over_one (halfF_len _ _) (by omega) _ (by omega)] at b7; exact b7), by omega⟩
    omega
  · skip
    have hfin : fillN (halfF tab S) i = halvesN tab S := by rw [show i = 256 by omega, fillN_256]; rfl
    have hfl : (nn (fillN (halfF tab S) i)).length = 8192 := by rw [nn_len]; exact fillN_len (halfF_len _ _) (by omega)
    refine wp_exit ?_
    simp only [Exit.then, Exit.inBlock, ↓reduceIte, Nat.reduceEqDiff]
    refine hK3 _ _ ?_
    refine wp_seq_k fun K8 hK8 => ?_
    have e3 := drew_e0 wl0
    refine zg (fun w_ => Bl w.heap.size w w_ ∧ Blk .u32 w_ w.heap.size 61 (nn tab) ∧ Blk .u8 w_ w1.heap.size 23 (nn (dl)) ∧ Blk .u8 w_ w2.heap.size 27 (nn (S ++ O)) ∧ Blk .u8 w_ w3.heap.size 23 (nn (List.replicate 32 0)) ∧ Blk .u8 w_ w4.heap.size 25 (nn (fillN (halfF tab S) i)) ∧ wl0.heap.size ≤ w_.heap.size) (fun w_ => Bl w.heap.size w w_ ∧ Blk .u32 w_ w.heap.size 61 (nn tab) ∧ Blk .u8 w_ w1.heap.size 23 (nn (dl)) ∧ Blk .u8 w_ w2.heap.size 27 (nn (S ++ O)) ∧ Blk .u8 w_ w3.heap.size 23 (nn (List.replicate 32 0)) ∧ Blk .u8 w_ w4.heap.size 25 (nn (fillN (halfF tab S) i)) ∧ wl0.heap.size ≤ w_.heap.size) 7 8 ⟨BL.e0 e3, b3.e0 e3, b4.e0 e3, b5.e0 e3, b6.e0 e3, b7.e0 e3, Nat.le_refl _⟩ ?_
    clear BL b3 b4 b5 b6 b7
    clear e3
    intro w9
    rintro ⟨BL, b3, b4, b5, b6, b7, z2⟩
    refine zv 0 21 (.agg (cellsOf .u32 (nn tab))) (fun _ ⟨BL, b3, b4, b5, b6, b7, z2⟩ => Val.blk 61 _ rfl 0 72 (by kernel_rfl) b3 _ Try.underlying61 rfl (by kernel_rfl) (by (try simp only [nn_len, List.length_append, List.length_replicate]); try omega) _ (seg_all' _ (by (try simp only [nn_len, List.length_append, List.length_replicate]); try omega))) ⟨BL, b3, b4, b5, b6, b7, by omega⟩ ?_
    simp only [List.set_cons_zero, List.set_cons_succ]
    refine zv 1 22 (.agg (cellsOf .u8 (nn (dl)))) (fun _ ⟨BL, b3, b4, b5, b6, b7, z2⟩ => Val.blk 23 _ rfl 0 32 (by kernel_rfl) b4 _ Try.underlying23 rfl (by kernel_rfl) (by (try simp only [nn_len, List.length_append, List.length_replicate]); try omega) _ (seg_all' _ (by (try simp only [nn_len, List.length_append, List.length_replicate]); try omega))) ⟨BL, b3, b4, b5, b6, b7, by omega⟩ ?_
    simp only [List.set_cons_zero, List.set_cons_succ]
    refine zv 2 23 (.agg (cellsOf .u8 (nn (halvesN tab S)))) (fun _ ⟨BL, b3, b4, b5, b6, b7, z2⟩ => Val.blk 25 _ rfl 0 8192 (by kernel_rfl) b7 _ Try.underlying25 rfl (by kernel_rfl) (by omega) _ (by rw [hfin]; exact seg_all' _ (by rw [nn_len]; exact halvesN_len _ _))) ⟨BL, b3, b4, b5, b6, b7, by omega⟩ ?_
    simp only [List.set_cons_zero, List.set_cons_succ]
    refine zv 3 24 (.pointer (some ⟨w2.heap.size, 8192, none⟩)) (fun _ _ => .of) ⟨BL, b3, b4, b5, b6, b7, by omega⟩ ?_
    simp only [List.set_cons_zero, List.set_cons_succ]
    refine zv 4 25 (.agg (cellsOf .u8 (nn (O)))) (fun _ ⟨BL, b3, b4, b5, b6, b7, z2⟩ => Val.blk 25 _ rfl 8192 8192 (by kernel_rfl) b5 _ Try.underlying25 rfl (by kernel_rfl) (by omega) _ (seg_snd hS hO)) ⟨BL, b3, b4, b5, b6, b7, by omega⟩ ?_
    simp only [List.set_cons_zero, List.set_cons_succ]
    refine zo1 5 rfl ?_
    refine xCall 26 84 #[.agg (cellsOf .u8 (nn (dl))), .agg (cellsOf .u8 (nn (halvesN tab S))), .agg (cellsOf .u8 (nn (O)))] (by kernel_rfl) ?_
    refine (r9parts_any dl (halvesN tab S) O hdl hdb (halvesN_len _ _) hO w9).mono ?_
    rintro en w10 ⟨u, us, rfl, hV, hY, hb1⟩
    have e4 := belE0 hb1
    have ze4 := e4.size
    replace BL := BL.e0 e4
    replace b3 := b3.e0 e4
    replace b4 := b4.e0 e4
    replace b5 := b5.e0 e4
    replace b6 := b6.e0 e4
    replace b7 := b7.e0 e4
    clear e4
    refine ⟨u, rfl, ?_⟩
    refine ze 5 ⟨BL, b3, b4, b5, b6, b7, by omega⟩ ?_
    simp only [List.set_cons_zero, List.set_cons_succ]
    refine zo1 6 rfl ?_
    refine xCall 27 83 #[.agg (cellsOf .u32 (nn tab)), .int .u8 3, u] (by kernel_rfl) ?_
    refine (rtagged_any tab ht h32 w10 3 (by omega) u us (pairsN dl (halvesN tab S) O 256) hV hY (pairs_le (halvesN_len _ _) hO) (pairs_count _ _ _) (pairsN_b (halves_b _ _) hO8 256)).mono ?_
    rintro en w11 ⟨rfl, hb1⟩
    have e5 := belE0 hb1
    have ze5 := e5.size
    replace BL := BL.e0 e5
    replace b3 := b3.e0 e5
    replace b4 := b4.e0 e5
    replace b5 := b5.e0 e5
    replace b6 := b6.e0 e5
    replace b7 := b7.e0 e5
    clear e5
    refine ⟨.agg (cellsOf .u8 (nn (taggedN tab 3 (pairsN dl (halvesN tab S) O 256)))), rfl, ?_⟩
    refine ze 6 ⟨BL, b3, b4, b5, b6, b7, by omega⟩ ?_
    simp only [List.set_cons_zero, List.set_cons_succ]
    refine zo1 7 rfl ?_
    refine xStoreA 23 (.tmp 6) (.tmp 27) rfl .u8 w3.heap.size 23 (nn (List.replicate 32 0)) 0 (nn (taggedN tab 3 (pairsN dl (halvesN tab S) O 256))) (by kernel_rfl) (by kernel_rfl) b6 (by rw [show (nn (taggedN tab 3 (pairsN dl (halvesN tab S) O 256))).length = 32 by ((try simp only [nn_len, List.length_append, List.length_replicate]); try omega)]; kernel_rfl) (by (try simp only [nn_len, List.length_append, List.length_replicate]); try omega) (nn (taggedN tab 3 (pairsN dl (halvesN tab S) O 256))) (over_whole _ _ (by (try simp only [nn_len, List.length_append, List.length_replicate]); try omega)) ?_
    intro w12 t2
    have zt2 := t2.z
    have BL_ := BL.ev t2.e (fun i h => show w.heap.size ≤ i by have h : i = w3.heap.size := h; omega)
    have b3_ := b3.ev t2.e (show ¬ (w.heap.size = w3.heap.size) by omega)
    have b4_ := b4.ev t2.e (show ¬ (w1.heap.size = w3.heap.size) by omega)
    have b5_ := b5.ev t2.e (show ¬ (w2.heap.size = w3.heap.size) by omega)
    have b7_ := b7.ev t2.e (show ¬ (w4.heap.size = w3.heap.size) by omega)
    replace BL := BL_; clear BL_
    replace b3 := b3_; clear b3_
    replace b4 := b4_; clear b4_
    replace b5 := b5_; clear b5_
    replace b7 := b7_; clear b7_
    replace b6 : Blk .u8 w12 w3.heap.size 23 (nn (taggedN tab 3 (pairsN dl (halvesN tab S) O 256))) := t2.c
    clear t2
    refine zz 7 ?_
    refine zd (by kernel_rfl) ?_ _
    refine hK8 _ _ ?_
    refine wp_ret ?_
    (try simp only [Exit.then, Exit.inBlock])
    refine bodyPost_ret (rC rfl _ w3.heap.size _ _ (by kernel_rfl) b6.cel _ Try.underlying23 rfl (by rw [List.length_map, show (nn (taggedN tab 3 (pairsN dl (halvesN tab S) O 256))).length = 32 by ((try simp only [nn_len, List.length_append, List.length_replicate]); try omega)]; kernel_rfl)) rfl ?_
    exact ⟨rfl, BL.b⟩

end Go.Proofs.Ytoeaekamoejhcaa
