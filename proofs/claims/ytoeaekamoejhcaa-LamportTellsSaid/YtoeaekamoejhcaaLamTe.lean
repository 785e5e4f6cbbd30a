/-
  LamportTells: the walk.
-/
import Derived.Test.YtoeaekamoejhcaaRef9O
import Derived.Test.YtoeaekamoejhcaaLamO
import Derived.Test.YtoeaekamoejhcaaAwake09
namespace Go.Proofs.Ytoeaekamoejhcaa
open Go.RowKit
set_option linter.unusedVariables false
set_option linter.unusedSimpArgs false
set_option maxRecDepth 100000
attribute [local irreducible] wpList Code.wp wpAnyZ
/-- A row of 32 bytes, whatever is there. -/
def padRow (S : List Nat) (i : Nat) : List Nat := (rowN S i ++ List.replicate 32 0).take 32
theorem padRow_len (S : List Nat) (i : Nat) : (padRow S i).length = 32 := by unfold padRow; rw [List.length_take, List.length_append, List.length_replicate]; omega
theorem padRow_eq {S : List Nat} {i : Nat} (h : 32 * i + 32 ≤ S.length) : padRow S i = rowN S i := by
  unfold padRow
  rw [List.take_append_of_le_length (by rw [rowN_len h]; exact Nat.le_refl _), List.take_of_length_le (by rw [rowN_len h]; exact Nat.le_refl _)]
theorem rows_back {S : List Nat} : ∀ n, 32 * n ≤ S.length → rowsN (padRow S) n = S.take (32 * n)
  | 0, _ => by simp [rowsN]
  | n + 1, h => by
    rw [rowsN_succ, rows_back n (by omega), padRow_eq (by omega), show 32 * (n + 1) = 32 * n + 32 by omega, List.take_add]
    rfl
def bitI (dl : List Nat) (i : Int) : Int := if 0 ≤ i ∧ i < 256 then bitF (nn dl) i else 0
theorem bitI_any (dl : List Nat) (hdl : dl.length = 32) (hdb : Bytes (nn dl)) (i : Int) (w : World) :
    Calls Try.prog 19 #[.agg (cellsOf .u8 (nn dl)), .int .i64 i] w fun e w' => e = .returned (.int .i64 (bitI dl i)) ∧ Below w.heap.size w w' := by
  unfold bitI
  by_cases h : 0 ≤ i ∧ i < 256
  · rw [if_pos h]
    refine (bit_any (nn dl) (by rw [nn_len]; exact hdl) hdb i h.1 h.2 w).mono ?_
    rintro e w' ⟨rfl, rfl⟩
    exact ⟨rfl, Joins.below_alloc1 w _⟩
  · rw [if_neg h]
    exact bit_out dl i (by omega) w
theorem r9bitI_any (dl : List Nat) (hdl : dl.length = 32) (hdb : Bytes (nn dl)) (i : Int) (w : World) :
    Calls Try.prog 52 #[.agg (cellsOf .u8 (nn dl)), .int .i64 i] w fun e w' => e = .returned (.int .i64 (bitI dl i)) ∧ Below w.heap.size w w' := by
  unfold bitI
  by_cases h : 0 ≤ i ∧ i < 256
  · rw [if_pos h]
    obtain ⟨m, rfl⟩ := Int.eq_ofNat_of_zero_le h.1
    exact r9bit_any dl hdl hdb m (by omega) w
  · rw [if_neg h]
    exact r9bit_out dl i (by omega) w
attribute [local irreducible] ofN textN numN secretN halfN macN taggedN rowsN fillN pairsN pairN rowN openN padRow bitI keytextN

theorem openN_len (tab dl S O : List Nat) : (openN tab dl S O).length = 32 := by unfold openN; exact ofN_32 _ _
theorem keytext_b {dl H O : List Nat} (hH : ∀ x ∈ H, x < 256) (hO : ∀ x ∈ O, x < 256) : ∀ x ∈ keytextN dl H O, x < 256 := by unfold keytextN; exact text_b (by omega) (pairsN_b hH hO 256)
set_option maxHeartbeats 4000000 in
theorem lamportTells_walk (tab : List Nat) (ht : tab.length = 72) (h32 : ∀ x ∈ tab, x < 4294967296) (w : World) (seed : List Nat) (hs : seed.length = 32) (hs8 : ∀ x ∈ seed, x < 256) (leaf bit val : Int) (h1 : leaf ≤ 9223372036854775807) (h2 : bit ≤ 9223372036854775807) (h3 : val ≤ 9223372036854775807) (dl S O : List Nat) (hdl : dl.length = 32) (hdb : Bytes (nn dl)) (hS : S.length = 8192) (hO : O.length = 8192) (hS8 : ∀ x ∈ S, x < 256) (hO8 : ∀ x ∈ O, x < 256) :
    Calls Try.prog 14 #[.agg (cellsOf .u32 (nn tab)), .agg (cellsOf .u8 (nn seed)), .int .i64 leaf, .int .i64 bit, .int .i64 val, .agg (cellsOf .u8 (nn dl)), .agg (cellsOf .u8 (nn (S ++ O)))] w fun e w' => e = .returned (.bool true) ∧ Below w.heap.size w w' := by
  have BL := Bl.refl w
  have hz : (List.replicate 8192 0 : List Nat) = fillN (padRow S) 0 := (fillN_0 _).symm
  have hso : (nn (S ++ O)).length = 16384 := by rw [nn_len, List.length_append]; omega
  have hxl := secretN_len tab seed leaf bit val
  have hkl := keytext_len dl S O hS hO
  go_enter Try.func14, Try.ntmps14
  refine wp_seq_k fun K1 hK1 => ?_
  refine cPlain ?_
  refine xBox 7 61 _ ((nn tab).map (Value.int .u32)) rfl (cells_toList _ _) ?_
  intro w1 n1
  have zn1 := n1.z
  have b7 := n1.c
  replace b7 : Blk .u32 w1 w.heap.size 61 (nn tab) := b7
  replace BL := BL.e0 n1.e
  simp only [List.set_cons_zero, List.set_cons_succ]
  refine xBox 8 22 _ ((nn (seed)).map (Value.int .u8)) rfl (cells_toList _ _) ?_
  intro w2 n2
  have zn2 := n2.z
  have b8 := n2.c
  replace b8 : Blk .u8 w2 w1.heap.size 22 (nn (seed)) := b8
  replace BL := BL.e0 n2.e
  replace b7 := b7.e0 n2.e
  simp only [List.set_cons_zero, List.set_cons_succ]
  refine xBox 12 23 _ ((nn (dl)).map (Value.int .u8)) rfl (cells_toList _ _) ?_
  intro w3 n3
  have zn3 := n3.z
  have b12 := n3.c
  replace b12 : Blk .u8 w3 w2.heap.size 23 (nn (dl)) := b12
  replace BL := BL.e0 n3.e
  replace b7 := b7.e0 n3.e
  replace b8 := b8.e0 n3.e
  simp only [List.set_cons_zero, List.set_cons_succ]
  refine xBox 13 27 _ ((nn (S ++ O)).map (Value.int .u8)) rfl (cells_toList _ _) ?_
  intro w4 n4
  have zn4 := n4.z
  have b13 := n4.c
  replace b13 : Blk .u8 w4 w3.heap.size 27 (nn (S ++ O)) := b13
  replace BL := BL.e0 n4.e
  replace b7 := b7.e0 n4.e
  replace b8 := b8.e0 n4.e
  replace b12 := b12.e0 n4.e
  simp only [List.set_cons_zero, List.set_cons_succ]
  refine sv 14 (.bool false) .of ?_
  simp only [List.set_cons_zero, List.set_cons_succ]
  refine wpList_nil ?_
  refine hK1 _ _ ?_
  refine wp_seq_k fun K2 hK2 => ?_
  refine cPlain ?_
  refine sv 18 (.agg (cellsOf .u8 (nn (seed)))) (Val.blk 22 _ rfl 0 32 (by kernel_rfl) b8 _ Try.underlying22 rfl (by kernel_rfl) (by (try simp only [nn_len, List.length_append, List.length_replicate]); try omega) _ (seg_all' _ (by (try simp only [nn_len, List.length_append, List.length_replicate]); try omega))) ?_
  simp only [List.set_cons_zero, List.set_cons_succ]
  refine sv 19 (.int .i64 leaf) .of ?_
  simp only [List.set_cons_zero, List.set_cons_succ]
  refine sv 20 (.int .i64 bit) .of ?_
  simp only [List.set_cons_zero, List.set_cons_succ]
  refine sv 21 (.int .i64 val) .of ?_
  simp only [List.set_cons_zero, List.set_cons_succ]
  refine xCall 22 48 #[.pointer (some ⟨w.heap.size, 0, none⟩), .agg (cellsOf .u8 (nn (seed))), .int .i64 leaf, .int .i64 bit, .int .i64 val] (by kernel_rfl) ?_
  refine (secret_any w.heap.size tab ht w4 b7 seed hs leaf bit val h1 h2 h3).mono ?_
  rintro en w5 ⟨rfl, hb1⟩
  have e1 := belE0 hb1
  have ze1 := e1.size
  replace BL := BL.e0 e1
  replace b7 := b7.e0 e1
  replace b8 := b8.e0 e1
  replace b12 := b12.e0 e1
  replace b13 := b13.e0 e1
  clear e1
  refine ⟨.agg (cellsOf .u8 (nn (secretN tab seed leaf bit val))), rfl, ?_⟩
  simp only [List.set_cons_zero, List.set_cons_succ]
  refine xAlloc 15 22 ((nn (List.replicate 32 0)).map (Value.int .u8)) rfl (by kernel_rfl) ?_
  intro w6 n5
  have zn5 := n5.z
  have b15 := n5.c
  replace b15 : Blk .u8 w6 w5.heap.size 22 (nn (List.replicate 32 0)) := b15
  replace BL := BL.e0 n5.e
  replace b7 := b7.e0 n5.e
  replace b8 := b8.e0 n5.e
  replace b12 := b12.e0 n5.e
  replace b13 := b13.e0 n5.e
  simp only [List.set_cons_zero, List.set_cons_succ]
  refine xStoreA 22 (.tmp 15) (.tmp 22) rfl .u8 w5.heap.size 22 (nn (List.replicate 32 0)) 0 (nn (secretN tab seed leaf bit val)) (by kernel_rfl) (by kernel_rfl) b15 (by rw [show (nn (secretN tab seed leaf bit val)).length = 32 by ((try simp only [nn_len, List.length_append, List.length_replicate]); try omega)]; kernel_rfl) (by (try simp only [nn_len, List.length_append, List.length_replicate]); try omega) (nn (secretN tab seed leaf bit val)) (over_whole _ _ (by (try simp only [nn_len, List.length_append, List.length_replicate]); try omega)) ?_
  intro w7 t1
  have zt1 := t1.z
  have BL_ := BL.ev t1.e (fun i h => show w.heap.size ≤ i by have h : i = w5.heap.size := h; omega)
  have b7_ := b7.ev t1.e (show ¬ (w.heap.size = w5.heap.size) by omega)
  have b8_ := b8.ev t1.e (show ¬ (w1.heap.size = w5.heap.size) by omega)
  have b12_ := b12.ev t1.e (show ¬ (w2.heap.size = w5.heap.size) by omega)
  have b13_ := b13.ev t1.e (show ¬ (w3.heap.size = w5.heap.size) by omega)
  replace BL := BL_; clear BL_
  replace b7 := b7_; clear b7_
  replace b8 := b8_; clear b8_
  replace b12 := b12_; clear b12_
  replace b13 := b13_; clear b13_
  replace b15 : Blk .u8 w7 w5.heap.size 22 (nn (secretN tab seed leaf bit val)) := t1.c
  clear t1
  refine wpList_nil ?_
  refine hK2 _ _ ?_
  refine wp_seq_k fun K3 hK3 => ?_
  refine cPlain ?_
  refine xAlloc 16 25 ((nn (List.replicate 8192 0)).map (Value.int .u8)) rfl (by kernel_rfl) ?_
  intro w8 n6
  have zn6 := n6.z
  have b16 := n6.c
  replace b16 : Blk .u8 w8 w7.heap.size 25 (nn (List.replicate 8192 0)) := b16
  replace BL := BL.e0 n6.e
  replace b7 := b7.e0 n6.e
  replace b8 := b8.e0 n6.e
  replace b12 := b12.e0 n6.e
  replace b13 := b13.e0 n6.e
  replace b15 := b15.e0 n6.e
  simp only [List.set_cons_zero, List.set_cons_succ]
  refine wpList_nil ?_
  refine hK3 _ _ ?_
  refine wp_seq_k fun K4 hK4 => ?_
  refine wp_seq_k fun K5 hK5 => ?_
  refine cPlain ?_
  refine sv 23 (.int .i64 0) .of ?_
  simp only [List.set_cons_zero, List.set_cons_succ]
  refine wpList_nil ?_
  refine hK5 _ _ ?_
  refine wp_block ?_
  refine cLoop (fun N_ A_ w_ => ∃ (i : Nat), (N_ = 256 - i ∧ (i ≤ 256) ∧ (∃ s1 : Nat → Value, A_ = ⟨[.agg (cellsOf .u32 (nn tab)), .agg (cellsOf .u8 (nn (seed))), .int .i64 leaf, .int .i64 bit, .int .i64 val, .agg (cellsOf .u8 (nn (dl))), .agg (cellsOf .u8 (nn (S ++ O))), .pointer (some ⟨w.heap.size, 0, none⟩), .pointer (some ⟨w1.heap.size, 0, none⟩), undef, undef, undef, .pointer (some ⟨w2.heap.size, 0, none⟩), .pointer (some ⟨w3.heap.size, 0, none⟩), .bool false, .pointer (some ⟨w5.heap.size, 0, none⟩), .pointer (some ⟨w7.heap.size, 0, none⟩), (s1 17), .agg (cellsOf .u8 (nn (seed))), .int .i64 leaf, .int .i64 bit, .int .i64 val, .agg (cellsOf .u8 (nn (secretN tab seed leaf bit val))), .int .i64 ((i : Nat) : Int), (s1 24), (s1 25), (s1 26), (s1 27), (s1 28), (s1 29), (s1 30), (s1 31), (s1 32), undef, undef, undef, undef, undef, undef, undef, undef, undef, undef, undef, undef, undef, undef, undef, undef, undef, undef, undef, undef, undef, undef, undef, undef, undef, undef, undef, undef, undef, undef, undef, undef, undef, undef, undef, undef, undef, undef, undef, undef, undef, undef, undef, undef, undef, undef, undef, undef, undef, undef, undef].toArray, []⟩) ∧ Bl w.heap.size w w_ ∧ Blk .u32 w_ w.heap.size 61 (nn tab) ∧ Blk .u8 w_ w1.heap.size 22 (nn (seed)) ∧ Blk .u8 w_ w2.heap.size 23 (nn (dl)) ∧ Blk .u8 w_ w3.heap.size 27 (nn (S ++ O)) ∧ Blk .u8 w_ w5.heap.size 22 (nn (secretN tab seed leaf bit val)) ∧ Blk .u8 w_ w7.heap.size 25 (nn (fillN (padRow S) i)) ∧ w8.heap.size ≤ w_.heap.size)) _ ⟨0, rfl, (Nat.zero_le _), cutE, BL, b7, b8, b12, b13, b15, (by rw [← hz]; exact b16), Nat.le_refl _⟩ ?_
  clear BL b7 b8 b12 b13 b15 b16
  rintro n_ a_ wl0 ⟨i, rfl, hc0_0, ⟨s1, rfl⟩, BL, b7, b8, b12, b13, b15, b16, zl0⟩
  refine wp_seq_k fun K6 hK6 => ?_
  refine cPlain ?_
  refine sv 24 (.bool (decide (((i : Nat) : Int) < 256))) (Val.cmp .lss 3 _ (.tmp 23) _ rfl .i64 ((i : Nat) : Int) 256 (by kernel_rfl) (by kernel_rfl) (by simp) _ rfl) ?_
  simp only [List.set_cons_zero, List.set_cons_succ]
  refine wpList_nil ?_
  refine hK6 _ _ ?_
  refine wp_seq_k fun K7 hK7 => ?_
  refine cDec (((i : Nat) : Int) < 256) (by kernel_rfl) (fun c24 => ?_) (fun c24 => ?_)
  · skip
    refine wp_skip ?_
    refine hK7 _ _ ?_
    refine wp_seq_k fun K8 hK8 => ?_
    refine wp_block ?_
    refine wp_seq_k fun K9 hK9 => ?_
    refine cPlain ?_
    refine sv 25 (.int .i64 ((i : Nat) : Int)) .of ?_
    simp only [List.set_cons_zero, List.set_cons_succ]
    refine sv 17 (.int .i64 ((i : Nat) : Int)) .of ?_
    simp only [List.set_cons_zero, List.set_cons_succ]
    refine wpList_nil ?_
    refine hK9 _ _ ?_
    have hpl0 := padRow_len S i
    have hfl0 := fillN_len (padRow_len S) hc0_0
    have hpl : (nn (padRow S i)).length = 32 := by rw [nn_len]; exact hpl0
    have hfl : (nn (fillN (padRow S) i)).length = 8192 := by rw [nn_len]; exact hfl0
    refine cPlain ?_
    refine sv 26 (.int .i64 ((i : Nat) : Int)) .of ?_
    simp only [List.set_cons_zero, List.set_cons_succ]
    refine sv 27 (.int .i64 ((i : Nat) : Int)) .of ?_
    simp only [List.set_cons_zero, List.set_cons_succ]
    refine sv 28 (.pointer (some ⟨w3.heap.size, 0, none⟩)) .of ?_
    simp only [List.set_cons_zero, List.set_cons_succ]
    refine sv 29 (.pointer (some ⟨w3.heap.size, 0 + i * 32, none⟩)) (Val.idxA 24 (.tmp 28) (.tmp 27) rfl w3.heap.size 0 i (by kernel_rfl) (by kernel_rfl) 32 Try.underlying24 (by kernel_rfl) (by omega)) ?_
    simp only [List.set_cons_zero, List.set_cons_succ]
    refine sv 30 (.agg (cellsOf .u8 (nn (padRow S i)))) (Val.blk 22 _ rfl (0 + i * 32) 32 (by kernel_rfl) b13 _ Try.underlying22 rfl (by kernel_rfl) (by omega) _ (by rw [seg_rowN _ i _ (by omega), rowN_fst hS (by omega), padRow_eq (by omega)])) ?_
    simp only [List.set_cons_zero, List.set_cons_succ]
    refine sv 31 (.pointer (some ⟨w7.heap.size, 0 + i * 32, none⟩)) (Val.idxA 25 (.tmp 16) (.tmp 26) rfl w7.heap.size 0 i (by kernel_rfl) (by kernel_rfl) 32 Try.underlying25 (by kernel_rfl) (by omega)) ?_
    simp only [List.set_cons_zero, List.set_cons_succ]
    refine xStoreA 23 (.tmp 31) (.tmp 30) rfl .u8 w7.heap.size 25 (nn (fillN (padRow S) i)) (0 + i * 32) (nn (padRow S i)) (by kernel_rfl) (by kernel_rfl) b16 (by rw [show (nn (padRow S i)).length = 32 by omega]; kernel_rfl) (by omega) _ rfl ?_
    intro w9 t2
    have zt2 := t2.z
    have BL_ := BL.ev t2.e (fun i h => show w.heap.size ≤ i by have h : i = w7.heap.size := h; omega)
    have b7_ := b7.ev t2.e (show ¬ (w.heap.size = w7.heap.size) by omega)
    have b8_ := b8.ev t2.e (show ¬ (w1.heap.size = w7.heap.size) by omega)
    have b12_ := b12.ev t2.e (show ¬ (w2.heap.size = w7.heap.size) by omega)
    have b13_ := b13.ev t2.e (show ¬ (w3.heap.size = w7.heap.size) by omega)
    have b15_ := b15.ev t2.e (show ¬ (w5.heap.size = w7.heap.size) by omega)
    replace BL := BL_; clear BL_
    replace b7 := b7_; clear b7_
    replace b8 := b8_; clear b8_
    replace b12 := b12_; clear b12_
    replace b13 := b13_; clear b13_
    replace b15 := b15_; clear b15_
    replace b16 : Blk .u8 w9 w7.heap.size 25 (over (nn (fillN (padRow S) i)) (0 + i * 32) (nn (padRow S i))) := t2.c
    clear t2
    refine wpList_nil ?_
    refine hK8 _ _ ?_
    refine cPlain ?_
    refine sv 32 (.int .i64 (((i : Nat) : Int) + 1)) (Val.add 3 _ (.tmp 23) _ rfl ((i : Nat) : Int) 1 (by kernel_rfl) (by kernel_rfl) (by omega)) ?_
    simp only [List.set_cons_zero, List.set_cons_succ]
    refine sv 23 (.int .i64 (((i : Nat) : Int) + 1)) .of ?_
    simp only [List.set_cons_zero, List.set_cons_succ]
    refine wpList_nil ?_
    refine ⟨_, ?_, i + 1, rfl, (by omega), cutE, BL, b7, b8, b12, b13, b15, (by rw [over_one (padRow_len _) (by omega) _ (by omega)] at b16; exact b16), by omega⟩
    omega
  · skip
    have hfin : fillN (padRow S) i = S := by rw [show i = 256 by omega, fillN_256, rows_back 256 (by omega), List.take_of_length_le (by omega)]
    have hfl : (nn (fillN (padRow S) i)).length = 8192 := by rw [hfin, nn_len]; exact hS
    refine wp_exit ?_
    simp only [Exit.then, Exit.inBlock, ↓reduceIte, Nat.reduceEqDiff]
    refine hK4 _ _ ?_
    refine wp_seq_k fun K10 hK10 => ?_
    have e2 := drew_e0 wl0
    refine zg (fun w_ => Bl w.heap.size w w_ ∧ Blk .u32 w_ w.heap.size 61 (nn tab) ∧ Blk .u8 w_ w1.heap.size 22 (nn (seed)) ∧ Blk .u8 w_ w2.heap.size 23 (nn (dl)) ∧ Blk .u8 w_ w3.heap.size 27 (nn (S ++ O)) ∧ Blk .u8 w_ w5.heap.size 22 (nn (secretN tab seed leaf bit val)) ∧ Blk .u8 w_ w7.heap.size 25 (nn (fillN (padRow S) i)) ∧ wl0.heap.size ≤ w_.heap.size) (fun w_ => Bl w.heap.size w w_ ∧ Blk .u32 w_ w.heap.size 61 (nn tab) ∧ Blk .u8 w_ w1.heap.size 22 (nn (seed)) ∧ Blk .u8 w_ w2.heap.size 23 (nn (dl)) ∧ Blk .u8 w_ w3.heap.size 27 (nn (S ++ O)) ∧ Blk .u8 w_ w5.heap.size 22 (nn (secretN tab seed leaf bit val)) ∧ Blk .u8 w_ w7.heap.size 25 (nn (fillN (padRow S) i)) ∧ wl0.heap.size ≤ w_.heap.size) 100000 52 ⟨BL.e0 e2, b7.e0 e2, b8.e0 e2, b12.e0 e2, b13.e0 e2, b15.e0 e2, b16.e0 e2, Nat.le_refl _⟩ ?_
    clear BL b7 b8 b12 b13 b15 b16
    clear e2
    intro w10
    rintro ⟨BL, b7, b8, b12, b13, b15, b16, z1⟩
    refine zv 0 33 (.agg (cellsOf .u8 (nn (secretN tab seed leaf bit val)))) (fun _ ⟨BL, b7, b8, b12, b13, b15, b16, z1⟩ => Val.blk 22 _ rfl 0 32 (by kernel_rfl) b15 _ Try.underlying22 rfl (by kernel_rfl) (by (try simp only [nn_len, List.length_append, List.length_replicate]); try omega) _ (seg_all' _ (by (try simp only [nn_len, List.length_append, List.length_replicate]); try omega))) ⟨BL, b7, b8, b12, b13, b15, b16, by omega⟩ ?_
    simp only [List.set_cons_zero, List.set_cons_succ]
    refine zv 1 34 (.agg (cellsOf .u32 (nn tab))) (fun _ ⟨BL, b7, b8, b12, b13, b15, b16, z1⟩ => Val.blk 61 _ rfl 0 72 (by kernel_rfl) b7 _ Try.underlying61 rfl (by kernel_rfl) (by (try simp only [nn_len, List.length_append, List.length_replicate]); try omega) _ (seg_all' _ (by (try simp only [nn_len, List.length_append, List.length_replicate]); try omega))) ⟨BL, b7, b8, b12, b13, b15, b16, by omega⟩ ?_
    simp only [List.set_cons_zero, List.set_cons_succ]
    refine zv 2 35 (.agg (cellsOf .u8 (nn (seed)))) (fun _ ⟨BL, b7, b8, b12, b13, b15, b16, z1⟩ => Val.blk 22 _ rfl 0 32 (by kernel_rfl) b8 _ Try.underlying22 rfl (by kernel_rfl) (by (try simp only [nn_len, List.length_append, List.length_replicate]); try omega) _ (seg_all' _ (by (try simp only [nn_len, List.length_append, List.length_replicate]); try omega))) ⟨BL, b7, b8, b12, b13, b15, b16, by omega⟩ ?_
    simp only [List.set_cons_zero, List.set_cons_succ]
    refine zv 3 36 (.int .i64 leaf) (fun _ _ => .of) ⟨BL, b7, b8, b12, b13, b15, b16, by omega⟩ ?_
    simp only [List.set_cons_zero, List.set_cons_succ]
    refine zv 4 37 (.int .i64 bit) (fun _ _ => .of) ⟨BL, b7, b8, b12, b13, b15, b16, by omega⟩ ?_
    simp only [List.set_cons_zero, List.set_cons_succ]
    refine zv 5 38 (.int .i64 val) (fun _ _ => .of) ⟨BL, b7, b8, b12, b13, b15, b16, by omega⟩ ?_
    simp only [List.set_cons_zero, List.set_cons_succ]
    refine zo1 6 rfl ?_
    refine xCall 39 49 #[.agg (cellsOf .u32 (nn tab)), .agg (cellsOf .u8 (nn (seed))), .int .i64 leaf, .int .i64 bit, .int .i64 val] (by kernel_rfl) ?_
    refine (r9secret_any tab ht h32 w10 seed hs hs8 leaf bit val h1 h2 h3).mono ?_
    rintro en w11 ⟨rfl, hb1⟩
    have e3 := belE0 hb1
    have ze3 := e3.size
    replace BL := BL.e0 e3
    replace b7 := b7.e0 e3
    replace b8 := b8.e0 e3
    replace b12 := b12.e0 e3
    replace b13 := b13.e0 e3
    replace b15 := b15.e0 e3
    replace b16 := b16.e0 e3
    clear e3
    refine ⟨.agg (cellsOf .u8 (nn (secretN tab seed leaf bit val))), rfl, ?_⟩
    refine ze 6 ⟨BL, b7, b8, b12, b13, b15, b16, by omega⟩ ?_
    simp only [List.set_cons_zero, List.set_cons_succ]
    refine zv 7 40 (.bool true) (fun _ ⟨BL, b7, b8, b12, b13, b15, b16, z1⟩ => Val.eqA .eql 22 _ (.tmp 33) (.tmp 39) rfl Try.underlying22 Try.underlying5 (by kernel_rfl) (by kernel_rfl) (nn (secretN tab seed leaf bit val)) (nn (secretN tab seed leaf bit val)) (by kernel_rfl) (by kernel_rfl) (by rw [nn_len]; exact secretN_len _ _ _ _ _) (by rw [nn_len]; exact secretN_len _ _ _ _ _) (.inl rfl) true (by simp)) ⟨BL, b7, b8, b12, b13, b15, b16, by omega⟩ ?_
    simp only [List.set_cons_zero, List.set_cons_succ]
    refine zv 8 41 (.bool true) (fun _ _ => .of) ⟨BL, b7, b8, b12, b13, b15, b16, by omega⟩ ?_
    simp only [List.set_cons_zero, List.set_cons_succ]
    refine zv 9 42 (.agg (cellsOf .u8 (nn (secretN tab seed leaf bit val)))) (fun _ ⟨BL, b7, b8, b12, b13, b15, b16, z1⟩ => Val.blk 22 _ rfl 0 32 (by kernel_rfl) b15 _ Try.underlying22 rfl (by kernel_rfl) (by (try simp only [nn_len, List.length_append, List.length_replicate]); try omega) _ (seg_all' _ (by (try simp only [nn_len, List.length_append, List.length_replicate]); try omega))) ⟨BL, b7, b8, b12, b13, b15, b16, by omega⟩ ?_
    simp only [List.set_cons_zero, List.set_cons_succ]
    refine zv 11 44 (.agg (cellsOf .u32 (nn tab))) (fun _ ⟨BL, b7, b8, b12, b13, b15, b16, z1⟩ => Val.blk 61 _ rfl 0 72 (by kernel_rfl) b7 _ Try.underlying61 rfl (by kernel_rfl) (by (try simp only [nn_len, List.length_append, List.length_replicate]); try omega) _ (seg_all' _ (by (try simp only [nn_len, List.length_append, List.length_replicate]); try omega))) ⟨BL, b7, b8, b12, b13, b15, b16, by omega⟩ ?_
    simp only [List.set_cons_zero, List.set_cons_succ]
    refine zv 12 45 (.agg (cellsOf .u8 (nn (secretN tab seed leaf bit val)))) (fun _ ⟨BL, b7, b8, b12, b13, b15, b16, z1⟩ => Val.blk 22 _ rfl 0 32 (by kernel_rfl) b15 _ Try.underlying22 rfl (by kernel_rfl) (by (try simp only [nn_len, List.length_append, List.length_replicate]); try omega) _ (seg_all' _ (by (try simp only [nn_len, List.length_append, List.length_replicate]); try omega))) ⟨BL, b7, b8, b12, b13, b15, b16, by omega⟩ ?_
    simp only [List.set_cons_zero, List.set_cons_succ]
    refine zo1 10 rfl ?_
    refine xCall 43 50 #[.pointer (some ⟨w.heap.size, 0, none⟩), .agg (cellsOf .u8 (nn (secretN tab seed leaf bit val)))] (by kernel_rfl) ?_
    refine (half_any w.heap.size tab ht w11 b7 (secretN tab seed leaf bit val) hxl).mono ?_
    rintro en w12 ⟨rfl, hb1⟩
    have e4 := belE0 hb1
    have ze4 := e4.size
    replace BL := BL.e0 e4
    replace b7 := b7.e0 e4
    replace b8 := b8.e0 e4
    replace b12 := b12.e0 e4
    replace b13 := b13.e0 e4
    replace b15 := b15.e0 e4
    replace b16 := b16.e0 e4
    clear e4
    refine ⟨.agg (cellsOf .u8 (nn (halfN tab (secretN tab seed leaf bit val)))), rfl, ?_⟩
    refine ze 10 ⟨BL, b7, b8, b12, b13, b15, b16, by omega⟩ ?_
    simp only [List.set_cons_zero, List.set_cons_succ]
    refine zo1 13 rfl ?_
    refine xCall 46 51 #[.agg (cellsOf .u32 (nn tab)), .agg (cellsOf .u8 (nn (secretN tab seed leaf bit val)))] (by kernel_rfl) ?_
    refine (r9half_any tab ht h32 w12 (secretN tab seed leaf bit val) hxl (secretN_b _ _ _ _ _)).mono ?_
    rintro en w13 ⟨rfl, hb1⟩
    have e5 := belE0 hb1
    have ze5 := e5.size
    replace BL := BL.e0 e5
    replace b7 := b7.e0 e5
    replace b8 := b8.e0 e5
    replace b12 := b12.e0 e5
    replace b13 := b13.e0 e5
    replace b15 := b15.e0 e5
    replace b16 := b16.e0 e5
    clear e5
    refine ⟨.agg (cellsOf .u8 (nn (halfN tab (secretN tab seed leaf bit val)))), rfl, ?_⟩
    refine ze 13 ⟨BL, b7, b8, b12, b13, b15, b16, by omega⟩ ?_
    simp only [List.set_cons_zero, List.set_cons_succ]
    refine zv 14 47 (.bool true) (fun _ ⟨BL, b7, b8, b12, b13, b15, b16, z1⟩ => Val.eqA .eql 23 _ (.tmp 43) (.tmp 46) rfl Try.underlying23 Try.underlying5 (by kernel_rfl) (by kernel_rfl) (nn (halfN tab (secretN tab seed leaf bit val))) (nn (halfN tab (secretN tab seed leaf bit val))) (by kernel_rfl) (by kernel_rfl) (by rw [nn_len]; exact halfN_len _ _) (by rw [nn_len]; exact halfN_len _ _) (.inl rfl) true (by simp)) ⟨BL, b7, b8, b12, b13, b15, b16, by omega⟩ ?_
    simp only [List.set_cons_zero, List.set_cons_succ]
    refine zv 15 48 (.bool true) (fun _ _ => .of) ⟨BL, b7, b8, b12, b13, b15, b16, by omega⟩ ?_
    simp only [List.set_cons_zero, List.set_cons_succ]
    refine zv 16 49 (.bool true) (fun _ _ => .of) ⟨BL, b7, b8, b12, b13, b15, b16, by omega⟩ ?_
    simp only [List.set_cons_zero, List.set_cons_succ]
    refine zv 17 50 (.agg (cellsOf .u8 (nn (dl)))) (fun _ ⟨BL, b7, b8, b12, b13, b15, b16, z1⟩ => Val.blk 23 _ rfl 0 32 (by kernel_rfl) b12 _ Try.underlying23 rfl (by kernel_rfl) (by (try simp only [nn_len, List.length_append, List.length_replicate]); try omega) _ (seg_all' _ (by (try simp only [nn_len, List.length_append, List.length_replicate]); try omega))) ⟨BL, b7, b8, b12, b13, b15, b16, by omega⟩ ?_
    simp only [List.set_cons_zero, List.set_cons_succ]
    refine zv 18 51 (.int .i64 bit) (fun _ _ => .of) ⟨BL, b7, b8, b12, b13, b15, b16, by omega⟩ ?_
    simp only [List.set_cons_zero, List.set_cons_succ]
    refine zv 20 53 (.agg (cellsOf .u8 (nn (dl)))) (fun _ ⟨BL, b7, b8, b12, b13, b15, b16, z1⟩ => Val.blk 23 _ rfl 0 32 (by kernel_rfl) b12 _ Try.underlying23 rfl (by kernel_rfl) (by (try simp only [nn_len, List.length_append, List.length_replicate]); try omega) _ (seg_all' _ (by (try simp only [nn_len, List.length_append, List.length_replicate]); try omega))) ⟨BL, b7, b8, b12, b13, b15, b16, by omega⟩ ?_
    simp only [List.set_cons_zero, List.set_cons_succ]
    refine zv 21 54 (.int .i64 bit) (fun _ _ => .of) ⟨BL, b7, b8, b12, b13, b15, b16, by omega⟩ ?_
    simp only [List.set_cons_zero, List.set_cons_succ]
    refine zo1 19 rfl ?_
    refine xCall 52 19 #[.agg (cellsOf .u8 (nn (dl))), .int .i64 bit] (by kernel_rfl) ?_
    refine (bitI_any dl hdl hdb bit w13).mono ?_
    rintro en w14 ⟨rfl, hb1⟩
    have e6 := belE0 hb1
    have ze6 := e6.size
    replace BL := BL.e0 e6
    replace b7 := b7.e0 e6
    replace b8 := b8.e0 e6
    replace b12 := b12.e0 e6
    replace b13 := b13.e0 e6
    replace b15 := b15.e0 e6
    replace b16 := b16.e0 e6
    clear e6
    refine ⟨.int .i64 (bitI dl bit), rfl, ?_⟩
    refine ze 19 ⟨BL, b7, b8, b12, b13, b15, b16, by omega⟩ ?_
    simp only [List.set_cons_zero, List.set_cons_succ]
    refine zo1 22 rfl ?_
    refine xCall 55 52 #[.agg (cellsOf .u8 (nn (dl))), .int .i64 bit] (by kernel_rfl) ?_
    refine (r9bitI_any dl hdl hdb bit w14).mono ?_
    rintro en w15 ⟨rfl, hb1⟩
    have e7 := belE0 hb1
    have ze7 := e7.size
    replace BL := BL.e0 e7
    replace b7 := b7.e0 e7
    replace b8 := b8.e0 e7
    replace b12 := b12.e0 e7
    replace b13 := b13.e0 e7
    replace b15 := b15.e0 e7
    replace b16 := b16.e0 e7
    clear e7
    refine ⟨.int .i64 (bitI dl bit), rfl, ?_⟩
    refine ze 22 ⟨BL, b7, b8, b12, b13, b15, b16, by omega⟩ ?_
    simp only [List.set_cons_zero, List.set_cons_succ]
    refine zv 23 56 (.bool true) (fun _ ⟨BL, b7, b8, b12, b13, b15, b16, z1⟩ => Val.cmp .eql 3 _ (.tmp 52) (.tmp 55) rfl .i64 (bitI dl bit) (bitI dl bit) (by kernel_rfl) (by kernel_rfl) (by simp) _ (by simp [cmpB])) ⟨BL, b7, b8, b12, b13, b15, b16, by omega⟩ ?_
    simp only [List.set_cons_zero, List.set_cons_succ]
    refine zv 24 57 (.bool true) (fun _ _ => .of) ⟨BL, b7, b8, b12, b13, b15, b16, by omega⟩ ?_
    simp only [List.set_cons_zero, List.set_cons_succ]
    refine zv 25 58 (.bool true) (fun _ _ => .of) ⟨BL, b7, b8, b12, b13, b15, b16, by omega⟩ ?_
    simp only [List.set_cons_zero, List.set_cons_succ]
    refine zv 26 59 (.agg (cellsOf .u8 (nn (dl)))) (fun _ ⟨BL, b7, b8, b12, b13, b15, b16, z1⟩ => Val.blk 23 _ rfl 0 32 (by kernel_rfl) b12 _ Try.underlying23 rfl (by kernel_rfl) (by (try simp only [nn_len, List.length_append, List.length_replicate]); try omega) _ (seg_all' _ (by (try simp only [nn_len, List.length_append, List.length_replicate]); try omega))) ⟨BL, b7, b8, b12, b13, b15, b16, by omega⟩ ?_
    simp only [List.set_cons_zero, List.set_cons_succ]
    refine zv 27 60 (.agg (cellsOf .u8 (nn (S ++ O)))) (fun _ ⟨BL, b7, b8, b12, b13, b15, b16, z1⟩ => Val.blk 27 _ rfl 0 16384 (by kernel_rfl) b13 _ Try.underlying27 rfl (by kernel_rfl) (by (try simp only [nn_len, List.length_append, List.length_replicate]); try omega) _ (seg_all' _ (by (try simp only [nn_len, List.length_append, List.length_replicate]); try omega))) ⟨BL, b7, b8, b12, b13, b15, b16, by omega⟩ ?_
    simp only [List.set_cons_zero, List.set_cons_succ]
    refine zv 29 62 (.agg (cellsOf .u32 (nn tab))) (fun _ ⟨BL, b7, b8, b12, b13, b15, b16, z1⟩ => Val.blk 61 _ rfl 0 72 (by kernel_rfl) b7 _ Try.underlying61 rfl (by kernel_rfl) (by (try simp only [nn_len, List.length_append, List.length_replicate]); try omega) _ (seg_all' _ (by (try simp only [nn_len, List.length_append, List.length_replicate]); try omega))) ⟨BL, b7, b8, b12, b13, b15, b16, by omega⟩ ?_
    simp only [List.set_cons_zero, List.set_cons_succ]
    refine zv 30 63 (.agg (cellsOf .u8 (nn (dl)))) (fun _ ⟨BL, b7, b8, b12, b13, b15, b16, z1⟩ => Val.blk 23 _ rfl 0 32 (by kernel_rfl) b12 _ Try.underlying23 rfl (by kernel_rfl) (by (try simp only [nn_len, List.length_append, List.length_replicate]); try omega) _ (seg_all' _ (by (try simp only [nn_len, List.length_append, List.length_replicate]); try omega))) ⟨BL, b7, b8, b12, b13, b15, b16, by omega⟩ ?_
    simp only [List.set_cons_zero, List.set_cons_succ]
    refine zv 31 64 (.agg (cellsOf .u8 (nn (S ++ O)))) (fun _ ⟨BL, b7, b8, b12, b13, b15, b16, z1⟩ => Val.blk 27 _ rfl 0 16384 (by kernel_rfl) b13 _ Try.underlying27 rfl (by kernel_rfl) (by (try simp only [nn_len, List.length_append, List.length_replicate]); try omega) _ (seg_all' _ (by (try simp only [nn_len, List.length_append, List.length_replicate]); try omega))) ⟨BL, b7, b8, b12, b13, b15, b16, by omega⟩ ?_
    simp only [List.set_cons_zero, List.set_cons_succ]
    refine zo1 28 rfl ?_
    refine xCall 61 53 #[.pointer (some ⟨w.heap.size, 0, none⟩), .agg (cellsOf .u8 (nn (dl))), .agg (cellsOf .u8 (nn (S ++ O)))] (by kernel_rfl) ?_
    refine (open_any w.heap.size tab ht w15 b7 dl S O hdl hdb hS hO).mono ?_
    rintro en w16 ⟨rfl, hb1⟩
    have e8 := belE0 hb1
    have ze8 := e8.size
    replace BL := BL.e0 e8
    replace b7 := b7.e0 e8
    replace b8 := b8.e0 e8
    replace b12 := b12.e0 e8
    replace b13 := b13.e0 e8
    replace b15 := b15.e0 e8
    replace b16 := b16.e0 e8
    clear e8
    refine ⟨.agg (cellsOf .u8 (nn (openN tab dl S O))), rfl, ?_⟩
    refine ze 28 ⟨BL, b7, b8, b12, b13, b15, b16, by omega⟩ ?_
    simp only [List.set_cons_zero, List.set_cons_succ]
    refine zo1 32 rfl ?_
    refine xCall 65 54 #[.agg (cellsOf .u32 (nn tab)), .agg (cellsOf .u8 (nn (dl))), .agg (cellsOf .u8 (nn (S ++ O)))] (by kernel_rfl) ?_
    refine (r9open_any tab ht h32 w16 dl S O hdl hdb hS hO hS8 hO8).mono ?_
    rintro en w17 ⟨rfl, hb1⟩
    have e9 := belE0 hb1
    have ze9 := e9.size
    replace BL := BL.e0 e9
    replace b7 := b7.e0 e9
    replace b8 := b8.e0 e9
    replace b12 := b12.e0 e9
    replace b13 := b13.e0 e9
    replace b15 := b15.e0 e9
    replace b16 := b16.e0 e9
    clear e9
    refine ⟨.agg (cellsOf .u8 (nn (openN tab dl S O))), rfl, ?_⟩
    refine ze 32 ⟨BL, b7, b8, b12, b13, b15, b16, by omega⟩ ?_
    simp only [List.set_cons_zero, List.set_cons_succ]
    refine zv 33 66 (.bool true) (fun _ ⟨BL, b7, b8, b12, b13, b15, b16, z1⟩ => Val.eqA .eql 23 _ (.tmp 61) (.tmp 65) rfl Try.underlying23 Try.underlying5 (by kernel_rfl) (by kernel_rfl) (nn (openN tab dl S O)) (nn (openN tab dl S O)) (by kernel_rfl) (by kernel_rfl) (by rw [nn_len]; exact openN_len _ _ _ _) (by rw [nn_len]; exact openN_len _ _ _ _) (.inl rfl) true (by simp)) ⟨BL, b7, b8, b12, b13, b15, b16, by omega⟩ ?_
    simp only [List.set_cons_zero, List.set_cons_succ]
    refine zv 34 67 (.bool true) (fun _ _ => .of) ⟨BL, b7, b8, b12, b13, b15, b16, by omega⟩ ?_
    simp only [List.set_cons_zero, List.set_cons_succ]
    refine zv 35 68 (.bool true) (fun _ _ => .of) ⟨BL, b7, b8, b12, b13, b15, b16, by omega⟩ ?_
    simp only [List.set_cons_zero, List.set_cons_succ]
    refine zv 36 69 (.agg (cellsOf .u8 (nn (dl)))) (fun _ ⟨BL, b7, b8, b12, b13, b15, b16, z1⟩ => Val.blk 23 _ rfl 0 32 (by kernel_rfl) b12 _ Try.underlying23 rfl (by kernel_rfl) (by (try simp only [nn_len, List.length_append, List.length_replicate]); try omega) _ (seg_all' _ (by (try simp only [nn_len, List.length_append, List.length_replicate]); try omega))) ⟨BL, b7, b8, b12, b13, b15, b16, by omega⟩ ?_
    simp only [List.set_cons_zero, List.set_cons_succ]
    refine zv 37 70 (.agg (cellsOf .u8 (nn (S)))) (fun _ ⟨BL, b7, b8, b12, b13, b15, b16, z1⟩ => Val.blk 25 _ rfl 0 8192 (by kernel_rfl) b16 _ Try.underlying25 rfl (by kernel_rfl) (by omega) _ (by rw [hfin]; exact seg_all' _ (by rw [nn_len]; exact hS))) ⟨BL, b7, b8, b12, b13, b15, b16, by omega⟩ ?_
    simp only [List.set_cons_zero, List.set_cons_succ]
    refine zv 38 71 (.pointer (some ⟨w3.heap.size, 8192, none⟩)) (fun _ _ => .of) ⟨BL, b7, b8, b12, b13, b15, b16, by omega⟩ ?_
    simp only [List.set_cons_zero, List.set_cons_succ]
    refine zv 39 72 (.agg (cellsOf .u8 (nn (O)))) (fun _ ⟨BL, b7, b8, b12, b13, b15, b16, z1⟩ => Val.blk 25 _ rfl 8192 8192 (by kernel_rfl) b13 _ Try.underlying25 rfl (by kernel_rfl) (by omega) _ (seg_snd hS hO)) ⟨BL, b7, b8, b12, b13, b15, b16, by omega⟩ ?_
    simp only [List.set_cons_zero, List.set_cons_succ]
    refine zv 41 74 (.agg (cellsOf .u8 (nn (dl)))) (fun _ ⟨BL, b7, b8, b12, b13, b15, b16, z1⟩ => Val.blk 23 _ rfl 0 32 (by kernel_rfl) b12 _ Try.underlying23 rfl (by kernel_rfl) (by (try simp only [nn_len, List.length_append, List.length_replicate]); try omega) _ (seg_all' _ (by (try simp only [nn_len, List.length_append, List.length_replicate]); try omega))) ⟨BL, b7, b8, b12, b13, b15, b16, by omega⟩ ?_
    simp only [List.set_cons_zero, List.set_cons_succ]
    refine zv 42 75 (.agg (cellsOf .u8 (nn (S)))) (fun _ ⟨BL, b7, b8, b12, b13, b15, b16, z1⟩ => Val.blk 25 _ rfl 0 8192 (by kernel_rfl) b16 _ Try.underlying25 rfl (by kernel_rfl) (by omega) _ (by rw [hfin]; exact seg_all' _ (by rw [nn_len]; exact hS))) ⟨BL, b7, b8, b12, b13, b15, b16, by omega⟩ ?_
    simp only [List.set_cons_zero, List.set_cons_succ]
    refine zv 43 76 (.pointer (some ⟨w3.heap.size, 8192, none⟩)) (fun _ _ => .of) ⟨BL, b7, b8, b12, b13, b15, b16, by omega⟩ ?_
    simp only [List.set_cons_zero, List.set_cons_succ]
    refine zv 44 77 (.agg (cellsOf .u8 (nn (O)))) (fun _ ⟨BL, b7, b8, b12, b13, b15, b16, z1⟩ => Val.blk 25 _ rfl 8192 8192 (by kernel_rfl) b13 _ Try.underlying25 rfl (by kernel_rfl) (by omega) _ (seg_snd hS hO)) ⟨BL, b7, b8, b12, b13, b15, b16, by omega⟩ ?_
    simp only [List.set_cons_zero, List.set_cons_succ]
    refine zo1 40 rfl ?_
    refine xCall 73 15 #[.agg (cellsOf .u8 (nn (dl))), .agg (cellsOf .u8 (nn (S))), .agg (cellsOf .u8 (nn (O)))] (by kernel_rfl) ?_
    refine (lamtext_any (nn dl) (nn S) (nn O) (by rw [nn_len]; exact hdl) hdb (by rw [nn_len]; exact hS) (by rw [nn_len]; exact hO) w17).mono ?_
    rintro en w18 ⟨u, rfl, hOw, hb1⟩
    rw [pairsN_nn] at hOw
    replace hOw := hOw.cast ((textN_nn 3 (pairsN dl S O 256)).symm.trans (congrArg nn (show textN 3 (pairsN dl S O 256) = keytextN dl S O by unfold keytextN; rfl)))
    have e10 := belE0 hb1
    have ze10 := e10.size
    replace BL := BL.e0 e10
    replace b7 := b7.e0 e10
    replace b8 := b8.e0 e10
    replace b12 := b12.e0 e10
    replace b13 := b13.e0 e10
    replace b15 := b15.e0 e10
    replace b16 := b16.e0 e10
    clear e10
    have U : Own 5 .u8 w17.heap.size w18 u (nn (keytextN dl S O)) := hOw
    have lU_1 := U.ge
    refine ⟨u, rfl, ?_⟩
    refine ze 40 ⟨BL, b7, b8, b12, b13, b15, b16, by omega⟩ ?_
    simp only [List.set_cons_zero, List.set_cons_succ]
    refine zo1 45 rfl ?_
    refine xCall 78 55 #[.agg (cellsOf .u8 (nn (dl))), .agg (cellsOf .u8 (nn (S))), .agg (cellsOf .u8 (nn (O)))] (by kernel_rfl) ?_
    refine (r9text_any dl S O hdl hdb hS hO w18).mono ?_
    rintro en w19 ⟨u2, rfl, hS2, hb1⟩
    have hsl2 := hS2.lt
    have e11 := belE0 hb1
    have ze11 := e11.size
    replace BL := BL.e0 e11
    replace b7 := b7.e0 e11
    replace b8 := b8.e0 e11
    replace b12 := b12.e0 e11
    replace b13 := b13.e0 e11
    replace b15 := b15.e0 e11
    replace b16 := b16.e0 e11
    replace U := U.e0 e11
    clear e11
    have U2 : SL .u8 w19 u2 (nn (keytextN dl S O)) := hS2
    refine ⟨u2, rfl, ?_⟩
    refine ze 45 ⟨BL, b7, b8, b12, b13, b15, b16, by omega⟩ ?_
    simp only [List.set_cons_zero, List.set_cons_succ]
    refine zo1 46 rfl ?_
    refine xCall 79 16 #[u, u2] (by kernel_rfl) ?_
    refine (same_any _ _ (nn (keytextN dl S O)) (nn (keytextN dl S O)) w19 U.sl U2 (bytes_nn (keytext_b hS8 hO8)) (bytes_nn (keytext_b hS8 hO8))).mono ?_
    rintro en w20 ⟨he, hw⟩
    rw [decide_eq_true rfl] at he
    subst he
    obtain rfl := (hw.symm).symm
    refine ⟨.bool true, rfl, ?_⟩
    refine ze 46 ⟨BL, b7, b8, b12, b13, b15, b16, by omega⟩ ?_
    simp only [List.set_cons_zero, List.set_cons_succ]
    refine zv 47 80 (.bool true) (fun _ _ => .of) ⟨BL, b7, b8, b12, b13, b15, b16, by omega⟩ ?_
    simp only [List.set_cons_zero, List.set_cons_succ]
    refine zv 48 81 (.bool true) (fun _ _ => .of) ⟨BL, b7, b8, b12, b13, b15, b16, by omega⟩ ?_
    simp only [List.set_cons_zero, List.set_cons_succ]
    refine zo1 49 rfl ?_
    refine xCall 82 18 #[] (by kernel_rfl) ?_
    refine (awake09 w19).mono ?_
    rintro en w21 ⟨rfl, hb1⟩
    have e12 := belE0 hb1
    have ze12 := e12.size
    replace BL := BL.e0 e12
    replace b7 := b7.e0 e12
    replace b8 := b8.e0 e12
    replace b12 := b12.e0 e12
    replace b13 := b13.e0 e12
    replace b15 := b15.e0 e12
    replace b16 := b16.e0 e12
    replace U := U.e0 e12
    replace U2 := U2.e0 e12
    clear e12
    refine ⟨.bool true, rfl, ?_⟩
    refine ze 49 ⟨BL, b7, b8, b12, b13, b15, b16, by omega⟩ ?_
    simp only [List.set_cons_zero, List.set_cons_succ]
    refine zv 50 83 (.bool true) (fun _ _ => .of) ⟨BL, b7, b8, b12, b13, b15, b16, by omega⟩ ?_
    simp only [List.set_cons_zero, List.set_cons_succ]
    refine zv 51 14 (.bool true) (fun _ _ => .of) ⟨BL, b7, b8, b12, b13, b15, b16, by omega⟩ ?_
    simp only [List.set_cons_zero, List.set_cons_succ]
    refine zd (by kernel_rfl) ?_ _
    refine hK10 _ _ ?_
    refine wp_ret ?_
    (try simp only [Exit.then, Exit.inBlock])
    refine bodyPost_ret (v := .bool true) rT rfl ?_
    exact ⟨rfl, BL.b⟩

end Go.Proofs.Ytoeaekamoejhcaa
