/-
  ShaNumbers: the walk.
-/
import Derived.Test.YteaijjefbadnbaaRefT3
import Derived.Test.YteaijjefbadnbaaShaAw
import Derived.Test.YteaijjefbadnbaaShaLow
import Derived.Test.YteaijjefbadnbaaNilL
import Derived.Test.YteaijjefbadnbaaPk2
namespace Go.Proofs.Yteaijjefbadnbaa
open Go.RowKit
set_option linter.unusedVariables false
set_option linter.unusedSimpArgs false
set_option maxRecDepth 100000
attribute [local irreducible] wpList Code.wp wpAnyZ
def roundsKN : List IntKind := (List.replicate 8 [IntKind.u32]).flatten ++ ((List.replicate 64 [IntKind.u32]).flatten ++ [])
theorem kt_roundsN : KT Try.prog 26 roundsKN 3 :=
  KT.struct Try.underlying26 (by kernel_rfl) (by kernel_rfl) (KFields.cons rfl (by kernel_rfl) rfl (KT.array (P := Try.prog) Try.underlying23 (KT.int Try.underlying22) (by kernel_rfl) rfl (by kernel_rfl)) (KFields.cons rfl (by kernel_rfl) rfl (KT.array (P := Try.prog) Try.underlying24 (KT.int Try.underlying22) (by kernel_rfl) rfl (by kernel_rfl)) (KFields.nil _)))
theorem roundsKN_eq : roundsKN = List.replicate 72 IntKind.u32 := by kernel_rfl
theorem rounds_zipN {tab : List Nat} (h : tab.length = 72) : (nn tab).map (Value.int .u32) = zipK roundsKN (nn tab) := by rw [roundsKN_eq, zipK_rep _ 72 _ (by rw [nn_len]; exact h)]
theorem rounds_wfN {tab : List Nat} (h : ∀ x ∈ tab, x < 4294967296) : wfK roundsKN (nn tab) := by
  rw [roundsKN_eq]
  intro i k n h1 h2
  obtain ⟨x, hx, rfl⟩ := List.mem_map.1 (List.mem_of_getElem? h2)
  have := h x hx
  have hk : k = .u32 := List.eq_of_mem_replicate (List.mem_of_getElem? h1)
  subst hk
  simp [Lit.wf, IntKind.min, IntKind.max, IntKind.bits, IntKind.signed]
  omega

theorem tabL_lt : ∀ x ∈ tabL, x < 4294967296 := by decide +kernel

set_option maxHeartbeats 4000000 in
theorem block_nil (s b : List Nat) (hs : s.length = 8) (hb : b.length = 64) (w : World) :
    Calls Try.prog 21 #[.pointer none, .agg (cellsOf .u32 (nn s)), .agg (cellsOf .u8 (nn b))] w fun e w' => e = .returned (.agg (cellsOf .u32 (nn s))) ∧ Below w.heap.size w w' := by
  have BL := Bl.refl w
  go_enter Try.func21, Try.ntmps21
  refine wp_seq_k fun K1 hK1 => ?_
  refine cPlain ?_
  refine xBox 4 23 _ ((nn (s)).map (Value.int .u32)) rfl (cells_toList _ _) ?_
  intro w1 n1
  have zn1 := n1.z
  have b4 := n1.c
  replace b4 : Blk .u32 w1 w.heap.size 23 (nn (s)) := b4
  replace BL := BL.e0 n1.e
  simp only [List.set_cons_zero, List.set_cons_succ]
  refine xBox 5 42 _ ((nn (b)).map (Value.int .u8)) rfl (cells_toList _ _) ?_
  intro w2 n2
  have zn2 := n2.z
  have b5 := n2.c
  replace b5 : Blk .u8 w2 w1.heap.size 42 (nn (b)) := b5
  replace BL := BL.e0 n2.e
  replace b4 := b4.e0 n2.e
  simp only [List.set_cons_zero, List.set_cons_succ]
  refine xAlloc 6 23 ((nn (List.replicate 8 0)).map (Value.int .u32)) rfl (by kernel_rfl) ?_
  intro w3 n3
  have zn3 := n3.z
  have b6 := n3.c
  replace b6 : Blk .u32 w3 w2.heap.size 23 (nn (List.replicate 8 0)) := b6
  replace BL := BL.e0 n3.e
  replace b4 := b4.e0 n3.e
  replace b5 := b5.e0 n3.e
  simp only [List.set_cons_zero, List.set_cons_succ]
  refine wpList_nil ?_
  refine hK1 _ _ ?_
  refine wp_seq_k fun K2 hK2 => ?_
  refine wp_seq_k fun K3 hK3 => ?_
  refine cPlain ?_
  refine sv 17 (.pointer none) .of ?_
  simp only [List.set_cons_zero, List.set_cons_succ]
  refine sv 18 (.bool true) .of ?_
  simp only [List.set_cons_zero, List.set_cons_succ]
  refine wpList_nil ?_
  refine hK3 _ _ ?_
  refine cT ?_
  refine wp_seq_k fun K4 hK4 => ?_
  refine cPlain ?_
  refine sv 19 (.agg (cellsOf .u32 (nn (s)))) (Val.blk 23 _ rfl 0 8 (by kernel_rfl) b4 _ Try.underlying23 rfl (by kernel_rfl) (by (try simp only [nn_len, List.length_cons, List.length_nil, List.length_set, List.length_replicate]); try omega) _ (seg_all' _ (by (try simp only [nn_len, List.length_cons, List.length_nil, List.length_set, List.length_replicate]); try omega))) ?_
  simp only [List.set_cons_zero, List.set_cons_succ]
  refine xStoreA 23 (.tmp 6) (.tmp 19) rfl .u32 w2.heap.size 23 (nn (List.replicate 8 0)) 0 (nn (s)) (by kernel_rfl) (by kernel_rfl) b6 (by rw [show (nn (s)).length = 8 by ((try simp only [nn_len, List.length_cons, List.length_nil, List.length_set, List.length_replicate]); try omega)]; kernel_rfl) (by (try simp only [nn_len, List.length_cons, List.length_nil, List.length_set, List.length_replicate]); try omega) (nn (s)) (over_whole _ _ (by (try simp only [nn_len, List.length_cons, List.length_nil, List.length_set, List.length_replicate]); try omega)) ?_
  intro w4 t1
  have zt1 := t1.z
  have BL_ := BL.ev t1.e (fun i h => show w.heap.size ≤ i by have h : i = w2.heap.size := h; omega)
  have b4_ := b4.ev t1.e (show ¬ (w.heap.size = w2.heap.size) by omega)
  have b5_ := b5.ev t1.e (show ¬ (w1.heap.size = w2.heap.size) by omega)
  replace BL := BL_; clear BL_
  replace b4 := b4_; clear b4_
  replace b5 := b5_; clear b5_
  replace b6 : Blk .u32 w4 w2.heap.size 23 (nn (s)) := t1.c
  clear t1
  refine wpList_nil ?_
  refine hK4 _ _ ?_
  refine wp_ret ?_
  (try simp only [Exit.then, Exit.inBlock])
  refine bodyPost_ret (rC rfl _ w2.heap.size _ _ (by kernel_rfl) b6.cel _ Try.underlying23 rfl (by rw [List.length_map, show (nn (s)).length = 8 by ((try simp only [nn_len, List.length_cons, List.length_nil, List.length_set, List.length_replicate]); try omega)]; kernel_rfl)) rfl ?_
  exact ⟨rfl, BL.b⟩

set_option maxHeartbeats 8000000 in
theorem shaNumbers_walk (w : World) :
    Calls Try.prog 3 #[] w fun e w' => e = .returned (.bool true) ∧ Below w.heap.size w w' := by
  have BL := Bl.refl w
  have hTL := tabL_len
  go_enter Try.func3, Try.ntmps3
  refine wp_seq_k fun K1 hK1 => ?_
  refine cPlain ?_
  refine sv 0 (.bool false) .of ?_
  simp only [List.set_cons_zero, List.set_cons_succ]
  refine wpList_nil ?_
  refine hK1 _ _ ?_
  refine wp_seq_k fun K2 hK2 => ?_
  refine cPlain ?_
  refine xCall 7 13 #[] (by kernel_rfl) ?_
  refine (table_any w).mono ?_
  rintro en w1 ⟨he, hb1⟩
  rw [tableN_eq] at he
  subst he
  have e1 := belE0 hb1
  have ze1 := e1.size
  replace BL := BL.e0 e1
  clear e1
  refine ⟨.agg (cellsOf .u32 (nn (tabL))), rfl, ?_⟩
  simp only [List.set_cons_zero, List.set_cons_succ]
  refine xAlloc 1 26 ((nn (List.replicate 72 0)).map (Value.int .u32)) rfl (by kernel_rfl) ?_
  intro w2 n1
  have zn1 := n1.z
  have b1 := n1.c
  replace b1 : Blk .u32 w2 w1.heap.size 26 (nn (List.replicate 72 0)) := b1
  replace BL := BL.e0 n1.e
  simp only [List.set_cons_zero, List.set_cons_succ]
  refine xStoreA 26 (.tmp 1) (.tmp 7) rfl .u32 w1.heap.size 26 (nn (List.replicate 72 0)) 0 (nn (tabL)) (by kernel_rfl) (by kernel_rfl) b1 (by rw [show (nn (tabL)).length = 72 by ((try simp only [nn_len, List.length_append, List.length_replicate, List.length_cons, List.length_nil]); try omega)]; kernel_rfl) (by (try simp only [nn_len, List.length_append, List.length_replicate, List.length_cons, List.length_nil]); try omega) (nn (tabL)) (over_whole _ _ (by (try simp only [nn_len, List.length_append, List.length_replicate, List.length_cons, List.length_nil]); try omega)) ?_
  intro w3 t1
  have zt1 := t1.z
  have BL_ := BL.ev t1.e (fun i h => show w.heap.size ≤ i by have h : i = w1.heap.size := h; omega)
  replace BL := BL_; clear BL_
  replace b1 : Blk .u32 w3 w1.heap.size 26 (nn (tabL)) := t1.c
  clear t1
  refine wpList_nil ?_
  refine hK2 _ _ ?_
  refine wp_seq_k fun K3 hK3 => ?_
  refine wp_seq_k fun K4 hK4 => ?_
  have e2 := drew_e0 w3
  refine zg (fun w_ => Bl w.heap.size w w_ ∧ Blk .u32 w_ w1.heap.size 26 (nn (tabL)) ∧ w3.heap.size ≤ w_.heap.size) (fun w_ => Bl w.heap.size w w_ ∧ Blk .u32 w_ w1.heap.size 26 (nn (tabL)) ∧ w3.heap.size ≤ w_.heap.size) 100000 7 ⟨BL.e0 e2, b1.e0 e2, Nat.le_refl _⟩ ?_
  clear BL b1
  clear e2
  intro w4
  rintro ⟨BL, b1, z1⟩
  refine zv 0 8 (.agg (cellsOf .u32 (nn (tabL)))) (fun _ ⟨BL, b1, z1⟩ => Val.blk 26 _ rfl 0 72 (by kernel_rfl) b1 _ Try.underlying26 rfl (by kernel_rfl) (by (try simp only [nn_len, List.length_append, List.length_replicate, List.length_cons, List.length_nil]); try omega) _ (seg_all' _ (by (try simp only [nn_len, List.length_append, List.length_replicate, List.length_cons, List.length_nil]); try omega))) ⟨BL, b1, by omega⟩ ?_
  simp only [List.set_cons_zero, List.set_cons_succ]
  refine zo1 1 rfl ?_
  refine xCall 9 14 #[] (by kernel_rfl) ?_
  refine (rtable_any w4).mono ?_
  rintro en w5 ⟨rfl, hb1⟩
  have e3 := belE0 hb1
  have ze3 := e3.size
  replace BL := BL.e0 e3
  replace b1 := b1.e0 e3
  clear e3
  refine ⟨.agg (cellsOf .u32 (nn (tabL))), rfl, ?_⟩
  refine ze 1 ⟨BL, b1, by omega⟩ ?_
  simp only [List.set_cons_zero, List.set_cons_succ]
  refine zv 2 10 (.bool false) (fun _ ⟨BL, b1, z1⟩ => Val.eqK .neq 26 _ (.tmp 8) (.tmp 9) rfl kt_roundsN 5 (by kernel_rfl) (by decide) Try.underlying26 rfl (by kernel_rfl) (by kernel_rfl) (nn tabL) (nn tabL) (by rw [← rounds_zipN hTL]; kernel_rfl) (by rw [← rounds_zipN hTL]; kernel_rfl) (by rw [nn_len, hTL]; kernel_rfl) (by rw [nn_len, hTL]; kernel_rfl) (rounds_wfN tabL_lt) (rounds_wfN tabL_lt) (.inr rfl) _ (by simp)) ⟨BL, b1, by omega⟩ ?_
  simp only [List.set_cons_zero, List.set_cons_succ]
  refine zv 3 11 (.bool false) (fun _ _ => .of) ⟨BL, b1, by omega⟩ ?_
  simp only [List.set_cons_zero, List.set_cons_succ]
  refine zo1 4 rfl ?_
  refine xCall 12 15 #[.pointer (some ⟨w1.heap.size, 0, none⟩), .string {data := #[97, 98, 99, 100, 98, 99, 100, 101, 99, 100, 101, 102, 100, 101, 102, 103, 101, 102, 103, 104, 102, 103, 104, 105, 103, 104, 105, 106, 104, 105, 106, 107, 105, 106, 107, 108, 106, 107, 108, 109, 107, 108, 109, 110, 108, 109, 110, 111, 109, 110, 111, 112, 110, 111, 112, 113]}] (by kernel_rfl) ?_
  have hd_two := fun w TB => digest_any w1.heap.size tabL [97, 98, 99, 100, 98, 99, 100, 101, 99, 100, 101, 102, 100, 101, 102, 103, 101, 102, 103, 104, 102, 103, 104, 105, 103, 104, 105, 106, 104, 105, 106, 107, 105, 106, 107, 108, 106, 107, 108, 109, 107, 108, 109, 110, 108, 109, 110, 111, 109, 110, 111, 112, 110, 111, 112, 113] tabL_len (by decide) (by decide) w TB
  rw [hex_two, str_two] at hd_two
  refine (hd_two w5 b1).mono ?_
  rintro en w6 ⟨rfl, hb1⟩
  have e4 := belE0 hb1
  have ze4 := e4.size
  replace BL := BL.e0 e4
  replace b1 := b1.e0 e4
  clear e4
  refine ⟨.string {data := #[50, 52, 56, 100, 54, 97, 54, 49, 100, 50, 48, 54, 51, 56, 98, 56, 101, 53, 99, 48, 50, 54, 57, 51, 48, 99, 51, 101, 54, 48, 51, 57, 97, 51, 51, 99, 101, 52, 53, 57, 54, 52, 102, 102, 50, 49, 54, 55, 102, 54, 101, 99, 101, 100, 100, 52, 49, 57, 100, 98, 48, 54, 99, 49]}, rfl, ?_⟩
  refine ze 4 ⟨BL, b1, by omega⟩ ?_
  simp only [List.set_cons_zero, List.set_cons_succ]
  refine zv 5 13 (.bool false) (fun _ _ => .of) ⟨BL, b1, by omega⟩ ?_
  simp only [List.set_cons_zero, List.set_cons_succ]
  refine zv 6 14 (.bool false) (fun _ _ => .of) ⟨BL, b1, by omega⟩ ?_
  simp only [List.set_cons_zero, List.set_cons_succ]
  refine zd (by kernel_rfl) ?_ _
  refine hK4 _ _ ?_
  refine cF ?_
  refine wp_skip ?_
  refine hK3 _ _ ?_
  refine wp_seq_k fun K5 hK5 => ?_
  refine wp_seq_k fun K6 hK6 => ?_
  refine cPlain ?_
  refine sv 15 (.agg #[.int .u32 ((0 : Nat) : Int), .int .u32 ((0 : Nat) : Int), .int .u32 ((0 : Nat) : Int), .int .u32 ((0 : Nat) : Int), .int .u32 ((0 : Nat) : Int), .int .u32 ((0 : Nat) : Int), .int .u32 ((0 : Nat) : Int), .int .u32 ((0 : Nat) : Int), .slice none 0 0, .int .i64 (-1)]) .of ?_
  simp only [List.set_cons_zero, List.set_cons_succ]
  refine sv 16 (.agg #[.int .u32 ((0 : Nat) : Int), .int .u32 ((0 : Nat) : Int), .int .u32 ((0 : Nat) : Int), .int .u32 ((0 : Nat) : Int), .int .u32 ((0 : Nat) : Int), .int .u32 ((0 : Nat) : Int), .int .u32 ((0 : Nat) : Int), .int .u32 ((0 : Nat) : Int), .slice none 0 0, .int .i64 1]) .of ?_
  simp only [List.set_cons_zero, List.set_cons_succ]
  refine xLit 17 30 5 1 _ #[(0, .int .u8 1)] [.int .u8 1] rfl (by kernel_rfl) (by kernel_rfl) ?_
  intro w7 n2
  have zn2 := n2.z
  have b17 := n2.c
  replace b17 : Blk .u8 w7 w6.heap.size 5 [1] := b17
  replace BL := BL.e0 n2.e
  replace b1 := b1.e0 n2.e
  have sb17 : SL .u8 w7 (.slice (some ⟨w6.heap.size, 0, none⟩) 1 1) [1] := SL.ofBlk b17 rfl (by unfold maxLen; omega)
  have lb17 : ∀ i, Value.ownBlock (.slice (some ⟨w6.heap.size, 0, none⟩) 1 1) = some i → w6.heap.size ≤ i ∧ i < w7.heap.size := ownB_lit (by omega)
  simp only [List.set_cons_zero, List.set_cons_succ]
  refine sv 18 (.agg #[.int .u32 ((0 : Nat) : Int), .int .u32 ((0 : Nat) : Int), .int .u32 ((0 : Nat) : Int), .int .u32 ((0 : Nat) : Int), .int .u32 ((0 : Nat) : Int), .int .u32 ((0 : Nat) : Int), .int .u32 ((0 : Nat) : Int), .int .u32 ((0 : Nat) : Int), .slice (some ⟨w6.heap.size, 0, none⟩) 1 1, .int .i64 0]) .of ?_
  simp only [List.set_cons_zero, List.set_cons_succ]
  refine xMakeN 19 _ _ 30 5 .u8 1 rfl Try.underlying30 (by kernel_rfl) 64 (by kernel_rfl) (by kernel_rfl) (by unfold maxLen; omega) (by omega) ?_
  intro w8 n3
  have zn3 := n3.z
  have b19 : Blk .u8 w8 w7.heap.size 5 (nn (List.replicate 64 0)) := by rw [nn_rep]; exact n3.c
  replace BL := BL.e0 n3.e
  replace b1 := b1.e0 n3.e
  replace b17 := b17.e0 n3.e
  replace sb17 := sb17.e0 n3.e
  simp only [List.set_cons_zero, List.set_cons_succ]
  refine sv 20 (.agg #[.int .u32 ((0 : Nat) : Int), .int .u32 ((0 : Nat) : Int), .int .u32 ((0 : Nat) : Int), .int .u32 ((0 : Nat) : Int), .int .u32 ((0 : Nat) : Int), .int .u32 ((0 : Nat) : Int), .int .u32 ((0 : Nat) : Int), .int .u32 ((0 : Nat) : Int), .slice (some ⟨w7.heap.size, 0, none⟩) 64 64, .int .i64 64]) .of ?_
  simp only [List.set_cons_zero, List.set_cons_succ]
  refine sv 21 (.agg #[.int .u32 ((0 : Nat) : Int), .int .u32 ((0 : Nat) : Int), .int .u32 ((0 : Nat) : Int), .int .u32 ((0 : Nat) : Int), .int .u32 ((0 : Nat) : Int), .int .u32 ((0 : Nat) : Int), .int .u32 ((0 : Nat) : Int), .int .u32 ((0 : Nat) : Int), .slice none 0 0, .int .i64 72057594037928000]) .of ?_
  simp only [List.set_cons_zero, List.set_cons_succ]
  refine xLit 22 33 32 5 _ #[(0, .agg #[.int .u32 ((0 : Nat) : Int), .int .u32 ((0 : Nat) : Int), .int .u32 ((0 : Nat) : Int), .int .u32 ((0 : Nat) : Int), .int .u32 ((0 : Nat) : Int), .int .u32 ((0 : Nat) : Int), .int .u32 ((0 : Nat) : Int), .int .u32 ((0 : Nat) : Int), .slice none 0 0, .int .i64 (-1)]), (1, .agg #[.int .u32 ((0 : Nat) : Int), .int .u32 ((0 : Nat) : Int), .int .u32 ((0 : Nat) : Int), .int .u32 ((0 : Nat) : Int), .int .u32 ((0 : Nat) : Int), .int .u32 ((0 : Nat) : Int), .int .u32 ((0 : Nat) : Int), .int .u32 ((0 : Nat) : Int), .slice none 0 0, .int .i64 1]), (2, .agg #[.int .u32 ((0 : Nat) : Int), .int .u32 ((0 : Nat) : Int), .int .u32 ((0 : Nat) : Int), .int .u32 ((0 : Nat) : Int), .int .u32 ((0 : Nat) : Int), .int .u32 ((0 : Nat) : Int), .int .u32 ((0 : Nat) : Int), .int .u32 ((0 : Nat) : Int), .slice (some ⟨w6.heap.size, 0, none⟩) 1 1, .int .i64 0]), (3, .agg #[.int .u32 ((0 : Nat) : Int), .int .u32 ((0 : Nat) : Int), .int .u32 ((0 : Nat) : Int), .int .u32 ((0 : Nat) : Int), .int .u32 ((0 : Nat) : Int), .int .u32 ((0 : Nat) : Int), .int .u32 ((0 : Nat) : Int), .int .u32 ((0 : Nat) : Int), .slice (some ⟨w7.heap.size, 0, none⟩) 64 64, .int .i64 64]), (4, .agg #[.int .u32 ((0 : Nat) : Int), .int .u32 ((0 : Nat) : Int), .int .u32 ((0 : Nat) : Int), .int .u32 ((0 : Nat) : Int), .int .u32 ((0 : Nat) : Int), .int .u32 ((0 : Nat) : Int), .int .u32 ((0 : Nat) : Int), .int .u32 ((0 : Nat) : Int), .slice none 0 0, .int .i64 72057594037928000])] [.int .u32 ((0 : Nat) : Int), .int .u32 ((0 : Nat) : Int), .int .u32 ((0 : Nat) : Int), .int .u32 ((0 : Nat) : Int), .int .u32 ((0 : Nat) : Int), .int .u32 ((0 : Nat) : Int), .int .u32 ((0 : Nat) : Int), .int .u32 ((0 : Nat) : Int), .slice none 0 0, .int .i64 (-1), .int .u32 ((0 : Nat) : Int), .int .u32 ((0 : Nat) : Int), .int .u32 ((0 : Nat) : Int), .int .u32 ((0 : Nat) : Int), .int .u32 ((0 : Nat) : Int), .int .u32 ((0 : Nat) : Int), .int .u32 ((0 : Nat) : Int), .int .u32 ((0 : Nat) : Int), .slice none 0 0, .int .i64 1, .int .u32 ((0 : Nat) : Int), .int .u32 ((0 : Nat) : Int), .int .u32 ((0 : Nat) : Int), .int .u32 ((0 : Nat) : Int), .int .u32 ((0 : Nat) : Int), .int .u32 ((0 : Nat) : Int), .int .u32 ((0 : Nat) : Int), .int .u32 ((0 : Nat) : Int), .slice (some ⟨w6.heap.size, 0, none⟩) 1 1, .int .i64 0, .int .u32 ((0 : Nat) : Int), .int .u32 ((0 : Nat) : Int), .int .u32 ((0 : Nat) : Int), .int .u32 ((0 : Nat) : Int), .int .u32 ((0 : Nat) : Int), .int .u32 ((0 : Nat) : Int), .int .u32 ((0 : Nat) : Int), .int .u32 ((0 : Nat) : Int), .slice (some ⟨w7.heap.size, 0, none⟩) 64 64, .int .i64 64, .int .u32 ((0 : Nat) : Int), .int .u32 ((0 : Nat) : Int), .int .u32 ((0 : Nat) : Int), .int .u32 ((0 : Nat) : Int), .int .u32 ((0 : Nat) : Int), .int .u32 ((0 : Nat) : Int), .int .u32 ((0 : Nat) : Int), .int .u32 ((0 : Nat) : Int), .slice none 0 0, .int .i64 72057594037928000] rfl (by kernel_rfl) (by kernel_rfl) ?_
  intro w9 n4
  have zn4 := n4.z
  have b22 := n4.c
  replace BL := BL.e0 n4.e
  replace b1 := b1.e0 n4.e
  replace b17 := b17.e0 n4.e
  replace sb17 := sb17.e0 n4.e
  replace b19 := b19.e0 n4.e
  simp only [List.set_cons_zero, List.set_cons_succ]
  refine sv 23 (.int .i64 (5 : Int)) .of ?_
  simp only [List.set_cons_zero, List.set_cons_succ]
  refine sv 24 (.int .i64 0) .of ?_
  simp only [List.set_cons_zero, List.set_cons_succ]
  refine wpList_nil ?_
  refine hK6 _ _ ?_
  refine wp_block ?_
  refine cLoop (fun N_ A_ w_ => ∃ (c : Nat), (N_ = 5 - c ∧ (c ≤ 5) ∧ (∃ s1 : Nat → Value, A_ = ⟨[(s1 0), .pointer (some ⟨w1.heap.size, 0, none⟩), (s1 2), (s1 3), (s1 4), undef, undef, .agg (cellsOf .u32 (nn (tabL))), .agg (cellsOf .u32 (nn (tabL))), .agg (cellsOf .u32 (nn (tabL))), .bool false, .bool false, .string {data := #[50, 52, 56, 100, 54, 97, 54, 49, 100, 50, 48, 54, 51, 56, 98, 56, 101, 53, 99, 48, 50, 54, 57, 51, 48, 99, 51, 101, 54, 48, 51, 57, 97, 51, 51, 99, 101, 52, 53, 57, 54, 52, 102, 102, 50, 49, 54, 55, 102, 54, 101, 99, 101, 100, 100, 52, 49, 57, 100, 98, 48, 54, 99, 49]}, .bool false, .bool false, .agg #[.int .u32 ((0 : Nat) : Int), .int .u32 ((0 : Nat) : Int), .int .u32 ((0 : Nat) : Int), .int .u32 ((0 : Nat) : Int), .int .u32 ((0 : Nat) : Int), .int .u32 ((0 : Nat) : Int), .int .u32 ((0 : Nat) : Int), .int .u32 ((0 : Nat) : Int), .slice none 0 0, .int .i64 (-1)], .agg #[.int .u32 ((0 : Nat) : Int), .int .u32 ((0 : Nat) : Int), .int .u32 ((0 : Nat) : Int), .int .u32 ((0 : Nat) : Int), .int .u32 ((0 : Nat) : Int), .int .u32 ((0 : Nat) : Int), .int .u32 ((0 : Nat) : Int), .int .u32 ((0 : Nat) : Int), .slice none 0 0, .int .i64 1], .slice (some ⟨w6.heap.size, 0, none⟩) 1 1, .agg #[.int .u32 ((0 : Nat) : Int), .int .u32 ((0 : Nat) : Int), .int .u32 ((0 : Nat) : Int), .int .u32 ((0 : Nat) : Int), .int .u32 ((0 : Nat) : Int), .int .u32 ((0 : Nat) : Int), .int .u32 ((0 : Nat) : Int), .int .u32 ((0 : Nat) : Int), .slice (some ⟨w6.heap.size, 0, none⟩) 1 1, .int .i64 0], .slice (some ⟨w7.heap.size, 0, none⟩) 64 64, .agg #[.int .u32 ((0 : Nat) : Int), .int .u32 ((0 : Nat) : Int), .int .u32 ((0 : Nat) : Int), .int .u32 ((0 : Nat) : Int), .int .u32 ((0 : Nat) : Int), .int .u32 ((0 : Nat) : Int), .int .u32 ((0 : Nat) : Int), .int .u32 ((0 : Nat) : Int), .slice (some ⟨w7.heap.size, 0, none⟩) 64 64, .int .i64 64], .agg #[.int .u32 ((0 : Nat) : Int), .int .u32 ((0 : Nat) : Int), .int .u32 ((0 : Nat) : Int), .int .u32 ((0 : Nat) : Int), .int .u32 ((0 : Nat) : Int), .int .u32 ((0 : Nat) : Int), .int .u32 ((0 : Nat) : Int), .int .u32 ((0 : Nat) : Int), .slice none 0 0, .int .i64 72057594037928000], .slice (some ⟨w8.heap.size, 0, none⟩) 5 5, .int .i64 (5 : Int), .int .i64 ((c : Nat) : Int), (s1 25), (s1 26), (s1 27), (s1 28), (s1 29), (s1 30), (s1 31), (s1 32), (s1 33), (s1 34), (s1 35), (s1 36), (s1 37), (s1 38), (s1 39), (s1 40), (s1 41), (s1 42), (s1 43), (s1 44), (s1 45), undef, undef, undef, undef, undef, undef, undef, undef, undef, undef, undef, undef, undef, undef, undef, undef, undef, undef, undef, undef, undef, undef, undef, undef, undef, undef, undef, undef, undef, undef, undef, undef, undef, undef, undef, undef, undef, undef, undef, undef, undef, undef, undef, undef, undef, undef, undef, undef, undef, undef, undef, undef, undef, undef, undef, undef, undef, undef, undef].toArray, []⟩) ∧ Bl w.heap.size w w_ ∧ Blk .u32 w_ w1.heap.size 26 (nn (tabL)) ∧ Blk .u8 w_ w6.heap.size 5 [1] ∧ SL .u8 w_ (.slice (some ⟨w6.heap.size, 0, none⟩) 1 1) [1] ∧ Blk .u8 w_ w7.heap.size 5 (nn (List.replicate 64 0)) ∧ Cel w_ w8.heap.size 32 [.int .u32 ((0 : Nat) : Int), .int .u32 ((0 : Nat) : Int), .int .u32 ((0 : Nat) : Int), .int .u32 ((0 : Nat) : Int), .int .u32 ((0 : Nat) : Int), .int .u32 ((0 : Nat) : Int), .int .u32 ((0 : Nat) : Int), .int .u32 ((0 : Nat) : Int), .slice none 0 0, .int .i64 (-1), .int .u32 ((0 : Nat) : Int), .int .u32 ((0 : Nat) : Int), .int .u32 ((0 : Nat) : Int), .int .u32 ((0 : Nat) : Int), .int .u32 ((0 : Nat) : Int), .int .u32 ((0 : Nat) : Int), .int .u32 ((0 : Nat) : Int), .int .u32 ((0 : Nat) : Int), .slice none 0 0, .int .i64 1, .int .u32 ((0 : Nat) : Int), .int .u32 ((0 : Nat) : Int), .int .u32 ((0 : Nat) : Int), .int .u32 ((0 : Nat) : Int), .int .u32 ((0 : Nat) : Int), .int .u32 ((0 : Nat) : Int), .int .u32 ((0 : Nat) : Int), .int .u32 ((0 : Nat) : Int), .slice (some ⟨w6.heap.size, 0, none⟩) 1 1, .int .i64 0, .int .u32 ((0 : Nat) : Int), .int .u32 ((0 : Nat) : Int), .int .u32 ((0 : Nat) : Int), .int .u32 ((0 : Nat) : Int), .int .u32 ((0 : Nat) : Int), .int .u32 ((0 : Nat) : Int), .int .u32 ((0 : Nat) : Int), .int .u32 ((0 : Nat) : Int), .slice (some ⟨w7.heap.size, 0, none⟩) 64 64, .int .i64 64, .int .u32 ((0 : Nat) : Int), .int .u32 ((0 : Nat) : Int), .int .u32 ((0 : Nat) : Int), .int .u32 ((0 : Nat) : Int), .int .u32 ((0 : Nat) : Int), .int .u32 ((0 : Nat) : Int), .int .u32 ((0 : Nat) : Int), .int .u32 ((0 : Nat) : Int), .slice none 0 0, .int .i64 72057594037928000] ∧ w9.heap.size ≤ w_.heap.size)) _ ⟨0, rfl, (Nat.zero_le _), cutE, BL, b1, b17, sb17, b19, b22, Nat.le_refl _⟩ ?_
  clear BL b1 b17 sb17 b19 b22
  rintro n_ a_ wl0 ⟨c, rfl, hc0_0, ⟨s1, rfl⟩, BL, b1, b17, sb17, b19, b22, zl0⟩
  refine wp_seq_k fun K7 hK7 => ?_
  refine cPlain ?_
  refine sv 25 (.bool (decide (((c : Nat) : Int) < (5 : Int)))) (Val.cmp .lss 3 _ (.tmp 24) (.tmp 23) rfl .i64 ((c : Nat) : Int) (5 : Int) (by kernel_rfl) (by kernel_rfl) (by simp) _ rfl) ?_
  simp only [List.set_cons_zero, List.set_cons_succ]
  refine wpList_nil ?_
  refine hK7 _ _ ?_
  refine wp_seq_k fun K8 hK8 => ?_
  refine cDec (((c : Nat) : Int) < (5 : Int)) (by kernel_rfl) (fun c25 => ?_) (fun c25 => ?_)
  · skip
    refine wp_skip ?_
    refine hK8 _ _ ?_
    refine wp_seq_k fun K9 hK9 => ?_
    refine wp_block ?_
    refine wp_seq_k fun K10 hK10 => ?_
    obtain ⟨qr, qv, qL, hq1, hq2, hq3, hq4, hq5⟩ : ∃ (qr : List Nat) (qv : Value) (qL : Int), segV (0 + c * 10) 10 [.int .u32 ((0 : Nat) : Int), .int .u32 ((0 : Nat) : Int), .int .u32 ((0 : Nat) : Int), .int .u32 ((0 : Nat) : Int), .int .u32 ((0 : Nat) : Int), .int .u32 ((0 : Nat) : Int), .int .u32 ((0 : Nat) : Int), .int .u32 ((0 : Nat) : Int), .slice none 0 0, .int .i64 (-1), .int .u32 ((0 : Nat) : Int), .int .u32 ((0 : Nat) : Int), .int .u32 ((0 : Nat) : Int), .int .u32 ((0 : Nat) : Int), .int .u32 ((0 : Nat) : Int), .int .u32 ((0 : Nat) : Int), .int .u32 ((0 : Nat) : Int), .int .u32 ((0 : Nat) : Int), .slice none 0 0, .int .i64 1, .int .u32 ((0 : Nat) : Int), .int .u32 ((0 : Nat) : Int), .int .u32 ((0 : Nat) : Int), .int .u32 ((0 : Nat) : Int), .int .u32 ((0 : Nat) : Int), .int .u32 ((0 : Nat) : Int), .int .u32 ((0 : Nat) : Int), .int .u32 ((0 : Nat) : Int), .slice (some ⟨w6.heap.size, 0, none⟩) 1 1, .int .i64 0, .int .u32 ((0 : Nat) : Int), .int .u32 ((0 : Nat) : Int), .int .u32 ((0 : Nat) : Int), .int .u32 ((0 : Nat) : Int), .int .u32 ((0 : Nat) : Int), .int .u32 ((0 : Nat) : Int), .int .u32 ((0 : Nat) : Int), .int .u32 ((0 : Nat) : Int), .slice (some ⟨w7.heap.size, 0, none⟩) 64 64, .int .i64 64, .int .u32 ((0 : Nat) : Int), .int .u32 ((0 : Nat) : Int), .int .u32 ((0 : Nat) : Int), .int .u32 ((0 : Nat) : Int), .int .u32 ((0 : Nat) : Int), .int .u32 ((0 : Nat) : Int), .int .u32 ((0 : Nat) : Int), .int .u32 ((0 : Nat) : Int), .slice none 0 0, .int .i64 72057594037928000] = [.int .u32 ((0 : Nat) : Int), .int .u32 ((0 : Nat) : Int), .int .u32 ((0 : Nat) : Int), .int .u32 ((0 : Nat) : Int), .int .u32 ((0 : Nat) : Int), .int .u32 ((0 : Nat) : Int), .int .u32 ((0 : Nat) : Int), .int .u32 ((0 : Nat) : Int), qv, .int .i64 qL] ∧ rightN qr.length qL = false ∧ SL .u8 wl0 qv (nn qr) ∧ (∀ x ∈ qr, x < 256) ∧ ∀ i, Value.ownBlock qv = some i → i < wl0.heap.size := by
      have hi5 : c = 0 ∨ c = 1 ∨ c = 2 ∨ c = 3 ∨ c = 4 := by omega
      rcases hi5 with rfl | rfl | rfl | rfl | rfl
      · exact ⟨[], _, _, rfl, rfl, SL.nil _ _, (fun x hx => by cases hx), fun i hi => by cases hi⟩
      · exact ⟨[], _, _, rfl, rfl, SL.nil _ _, (fun x hx => by cases hx), fun i hi => by cases hi⟩
      · exact ⟨[1], _, _, rfl, rfl, SL.ofBlk (n := 1) b17 rfl (by unfold maxLen; omega), (by decide), (SL.ofBlk (n := 1) b17 rfl (by unfold maxLen; omega)).lt⟩
      · exact ⟨List.replicate 64 0, _, _, rfl, rfl, SL.ofBlk (n := 64) b19 (by rw [nn_len, List.length_replicate]) (by unfold maxLen; omega), (by decide), (SL.ofBlk (n := 64) b19 (by rw [nn_len, List.length_replicate]) (by unfold maxLen; omega)).lt⟩
      · exact ⟨[], _, _, rfl, rfl, SL.nil _ _, (fun x hx => by cases hx), fun i hi => by cases hi⟩
    have QS : SL .u8 wl0 qv (nn qr) := hq3
    refine cPlain ?_
    refine sv 26 (.int .i64 ((c : Nat) : Int)) .of ?_
    simp only [List.set_cons_zero, List.set_cons_succ]
    refine sv 27 (.pointer (some ⟨w8.heap.size, 0 + c * 10, none⟩)) (Val.idxS 33 (.tmp 22) (.tmp 24) rfl w8.heap.size 0 5 5 c (by kernel_rfl) (by kernel_rfl) 10 Try.underlying33 (by kernel_rfl) (by omega)) ?_
    simp only [List.set_cons_zero, List.set_cons_succ]
    refine sv 28 (.agg #[.int .u32 ((0 : Nat) : Int), .int .u32 ((0 : Nat) : Int), .int .u32 ((0 : Nat) : Int), .int .u32 ((0 : Nat) : Int), .int .u32 ((0 : Nat) : Int), .int .u32 ((0 : Nat) : Int), .int .u32 ((0 : Nat) : Int), .int .u32 ((0 : Nat) : Int), qv, .int .i64 qL]) (Val.cel 32 _ rfl (0 + c * 10) 10 (by kernel_rfl) b22 _ Try.underlying32 rfl (by kernel_rfl) (by simp only [List.length_cons, List.length_nil]; omega) [.int .u32 ((0 : Nat) : Int), .int .u32 ((0 : Nat) : Int), .int .u32 ((0 : Nat) : Int), .int .u32 ((0 : Nat) : Int), .int .u32 ((0 : Nat) : Int), .int .u32 ((0 : Nat) : Int), .int .u32 ((0 : Nat) : Int), .int .u32 ((0 : Nat) : Int), qv, .int .i64 qL] hq1) ?_
    simp only [List.set_cons_zero, List.set_cons_succ]
    refine xAlloc 3 32 [.int .u32 0, .int .u32 0, .int .u32 0, .int .u32 0, .int .u32 0, .int .u32 0, .int .u32 0, .int .u32 0, .slice none 0 0, .int .i64 0] rfl (by kernel_rfl) ?_
    intro w10 n5
    have zn5 := n5.z
    have b3 := n5.c
    replace BL := BL.e0 n5.e
    replace b1 := b1.e0 n5.e
    replace b17 := b17.e0 n5.e
    replace sb17 := sb17.e0 n5.e
    replace b19 := b19.e0 n5.e
    replace b22 := b22.e0 n5.e
    replace QS := QS.e0 n5.e
    simp only [List.set_cons_zero, List.set_cons_succ]
    refine sv 2 (.int .i64 ((c : Nat) : Int)) .of ?_
    simp only [List.set_cons_zero, List.set_cons_succ]
    refine xStoreR 32 (.tmp 3) (.tmp 28) rfl wl0.heap.size 32 [.int .u32 0, .int .u32 0, .int .u32 0, .int .u32 0, .int .u32 0, .int .u32 0, .int .u32 0, .int .u32 0, .slice none 0 0, .int .i64 0] 0 [.int .u32 ((0 : Nat) : Int), .int .u32 ((0 : Nat) : Int), .int .u32 ((0 : Nat) : Int), .int .u32 ((0 : Nat) : Int), .int .u32 ((0 : Nat) : Int), .int .u32 ((0 : Nat) : Int), .int .u32 ((0 : Nat) : Int), .int .u32 ((0 : Nat) : Int), qv, .int .i64 qL] (by kernel_rfl) (by kernel_rfl) b3 (by kernel_rfl) (by simp) (allC rfl (allC rfl (allC rfl (allC rfl (allC rfl (allC rfl (allC rfl (allC rfl (allC QS.oneCell (allC rfl allN)))))))))) [.int .u32 ((0 : Nat) : Int), .int .u32 ((0 : Nat) : Int), .int .u32 ((0 : Nat) : Int), .int .u32 ((0 : Nat) : Int), .int .u32 ((0 : Nat) : Int), .int .u32 ((0 : Nat) : Int), .int .u32 ((0 : Nat) : Int), .int .u32 ((0 : Nat) : Int), qv, .int .i64 qL] rfl ?_
    intro w11 t2
    have zt2 := t2.z
    have BL_ := BL.ev t2.e (fun i h => show w.heap.size ≤ i by have h : i = wl0.heap.size := h; omega)
    have b1_ := b1.ev t2.e (show ¬ (w1.heap.size = wl0.heap.size) by omega)
    have b17_ := b17.ev t2.e (show ¬ (w6.heap.size = wl0.heap.size) by omega)
    have sb17_ := sb17.ev t2.e (fun i hi => show ¬ (i = wl0.heap.size) by have := lb17 i hi; omega)
    have b19_ := b19.ev t2.e (show ¬ (w7.heap.size = wl0.heap.size) by omega)
    have b22_ := b22.ev t2.e (show ¬ (w8.heap.size = wl0.heap.size) by omega)
    have QS_ := QS.ev t2.e (fun i hi => show ¬ (i = wl0.heap.size) by have := hq5 i hi; omega)
    replace BL := BL_; clear BL_
    replace b1 := b1_; clear b1_
    replace b17 := b17_; clear b17_
    replace sb17 := sb17_; clear sb17_
    replace b19 := b19_; clear b19_
    replace b22 := b22_; clear b22_
    replace QS := QS_; clear QS_
    replace b3 : Cel w11 wl0.heap.size 32 [.int .u32 ((0 : Nat) : Int), .int .u32 ((0 : Nat) : Int), .int .u32 ((0 : Nat) : Int), .int .u32 ((0 : Nat) : Int), .int .u32 ((0 : Nat) : Int), .int .u32 ((0 : Nat) : Int), .int .u32 ((0 : Nat) : Int), .int .u32 ((0 : Nat) : Int), qv, .int .i64 qL] := t2.c
    clear t2
    refine wpList_nil ?_
    refine hK10 _ _ ?_
    refine wp_seq_k fun K11 hK11 => ?_
    refine cPlain ?_
    refine sv 29 (.agg #[.int .u32 ((0 : Nat) : Int), .int .u32 ((0 : Nat) : Int), .int .u32 ((0 : Nat) : Int), .int .u32 ((0 : Nat) : Int), .int .u32 ((0 : Nat) : Int), .int .u32 ((0 : Nat) : Int), .int .u32 ((0 : Nat) : Int), .int .u32 ((0 : Nat) : Int), qv, .int .i64 qL]) (Val.cel 32 _ rfl 0 10 (by kernel_rfl) b3 _ Try.underlying32 rfl (by kernel_rfl) (by simp) [.int .u32 ((0 : Nat) : Int), .int .u32 ((0 : Nat) : Int), .int .u32 ((0 : Nat) : Int), .int .u32 ((0 : Nat) : Int), .int .u32 ((0 : Nat) : Int), .int .u32 ((0 : Nat) : Int), .int .u32 ((0 : Nat) : Int), .int .u32 ((0 : Nat) : Int), qv, .int .i64 qL] rfl) ?_
    simp only [List.set_cons_zero, List.set_cons_succ]
    refine xLit 30 30 5 1 _ #[(0, .int .u8 97)] [.int .u8 97] rfl (by kernel_rfl) (by kernel_rfl) ?_
    intro w12 n6
    have zn6 := n6.z
    have b30 := n6.c
    replace b30 : Blk .u8 w12 w11.heap.size 5 [97] := b30
    replace BL := BL.e0 n6.e
    replace b1 := b1.e0 n6.e
    replace b17 := b17.e0 n6.e
    replace sb17 := sb17.e0 n6.e
    replace b19 := b19.e0 n6.e
    replace b22 := b22.e0 n6.e
    replace QS := QS.e0 n6.e
    replace b3 := b3.e0 n6.e
    have sb30 : SL .u8 w12 (.slice (some ⟨w11.heap.size, 0, none⟩) 1 1) [97] := SL.ofBlk b30 rfl (by unfold maxLen; omega)
    have lb30 : ∀ i, Value.ownBlock (.slice (some ⟨w11.heap.size, 0, none⟩) 1 1) = some i → w11.heap.size ≤ i ∧ i < w12.heap.size := ownB_lit (by omega)
    simp only [List.set_cons_zero, List.set_cons_succ]
    refine xMark 31 30 5 (.tmp 30) rfl Try.underlying30 Try.underlying5 w11.heap.size 1 [97] (by kernel_rfl) b30 rfl (by unfold maxLen; omega) ?_
    intro w13 b30m e5 ze5
    have BL_ := BL.ev e5 (fun i h => show w.heap.size ≤ i by have h : i = w11.heap.size := h; omega)
    have b1_ := b1.ev e5 (show ¬ (w1.heap.size = w11.heap.size) by omega)
    have b17_ := b17.ev e5 (show ¬ (w6.heap.size = w11.heap.size) by omega)
    have sb17_ := sb17.ev e5 (fun i hi => show ¬ (i = w11.heap.size) by have := lb17 i hi; omega)
    have b19_ := b19.ev e5 (show ¬ (w7.heap.size = w11.heap.size) by omega)
    have b22_ := b22.ev e5 (show ¬ (w8.heap.size = w11.heap.size) by omega)
    have QS_ := QS.ev e5 (fun i hi => show ¬ (i = w11.heap.size) by have := hq5 i hi; omega)
    have b3_ := b3.ev e5 (show ¬ (wl0.heap.size = w11.heap.size) by omega)
    replace BL := BL_; clear BL_
    replace b1 := b1_; clear b1_
    replace b17 := b17_; clear b17_
    replace sb17 := sb17_; clear sb17_
    replace b19 := b19_; clear b19_
    replace b22 := b22_; clear b22_
    replace QS := QS_; clear QS_
    replace b3 := b3_; clear b3_
    replace sb30 := b30m; clear b30m b30 e5
    simp only [List.set_cons_zero, List.set_cons_succ]
    refine xCall 32 16 #[.pointer (some ⟨w1.heap.size, 0, none⟩), .agg #[.int .u32 ((0 : Nat) : Int), .int .u32 ((0 : Nat) : Int), .int .u32 ((0 : Nat) : Int), .int .u32 ((0 : Nat) : Int), .int .u32 ((0 : Nat) : Int), .int .u32 ((0 : Nat) : Int), .int .u32 ((0 : Nat) : Int), .int .u32 ((0 : Nat) : Int), qv, .int .i64 qL], .slice (some ⟨w11.heap.size, 0, none⟩) 1 1] (by kernel_rfl) ?_
    refine (write_wrong w1.heap.size tabL qr [0, 0, 0, 0, 0, 0, 0, 0] rfl qv _ qL w13 b1 QS hq2).mono ?_
    rintro en w14 ⟨rfl, hb1⟩
    have e6 := belE0 hb1
    have ze6 := e6.size
    replace BL := BL.e0 e6
    replace b1 := b1.e0 e6
    replace b17 := b17.e0 e6
    replace sb17 := sb17.e0 e6
    replace b19 := b19.e0 e6
    replace b22 := b22.e0 e6
    replace QS := QS.e0 e6
    replace b3 := b3.e0 e6
    replace sb30 := sb30.e0 e6
    clear e6
    refine ⟨.agg #[.int .u32 ((0 : Nat) : Int), .int .u32 ((0 : Nat) : Int), .int .u32 ((0 : Nat) : Int), .int .u32 ((0 : Nat) : Int), .int .u32 ((0 : Nat) : Int), .int .u32 ((0 : Nat) : Int), .int .u32 ((0 : Nat) : Int), .int .u32 ((0 : Nat) : Int), qv, .int .i64 qL], rfl, ?_⟩
    simp only [List.set_cons_zero, List.set_cons_succ]
    refine xAlloc 4 32 [.int .u32 0, .int .u32 0, .int .u32 0, .int .u32 0, .int .u32 0, .int .u32 0, .int .u32 0, .int .u32 0, .slice none 0 0, .int .i64 0] rfl (by kernel_rfl) ?_
    intro w15 n7
    have zn7 := n7.z
    have b4 := n7.c
    replace BL := BL.e0 n7.e
    replace b1 := b1.e0 n7.e
    replace b17 := b17.e0 n7.e
    replace sb17 := sb17.e0 n7.e
    replace b19 := b19.e0 n7.e
    replace b22 := b22.e0 n7.e
    replace QS := QS.e0 n7.e
    replace b3 := b3.e0 n7.e
    replace sb30 := sb30.e0 n7.e
    simp only [List.set_cons_zero, List.set_cons_succ]
    refine xStoreR 32 (.tmp 4) (.tmp 32) rfl w14.heap.size 32 [.int .u32 0, .int .u32 0, .int .u32 0, .int .u32 0, .int .u32 0, .int .u32 0, .int .u32 0, .int .u32 0, .slice none 0 0, .int .i64 0] 0 [.int .u32 ((0 : Nat) : Int), .int .u32 ((0 : Nat) : Int), .int .u32 ((0 : Nat) : Int), .int .u32 ((0 : Nat) : Int), .int .u32 ((0 : Nat) : Int), .int .u32 ((0 : Nat) : Int), .int .u32 ((0 : Nat) : Int), .int .u32 ((0 : Nat) : Int), qv, .int .i64 qL] (by kernel_rfl) (by kernel_rfl) b4 (by kernel_rfl) (by simp) (allC rfl (allC rfl (allC rfl (allC rfl (allC rfl (allC rfl (allC rfl (allC rfl (allC QS.oneCell (allC rfl allN)))))))))) [.int .u32 ((0 : Nat) : Int), .int .u32 ((0 : Nat) : Int), .int .u32 ((0 : Nat) : Int), .int .u32 ((0 : Nat) : Int), .int .u32 ((0 : Nat) : Int), .int .u32 ((0 : Nat) : Int), .int .u32 ((0 : Nat) : Int), .int .u32 ((0 : Nat) : Int), qv, .int .i64 qL] rfl ?_
    intro w16 t3
    have zt3 := t3.z
    have BL_ := BL.ev t3.e (fun i h => show w.heap.size ≤ i by have h : i = w14.heap.size := h; omega)
    have b1_ := b1.ev t3.e (show ¬ (w1.heap.size = w14.heap.size) by omega)
    have b17_ := b17.ev t3.e (show ¬ (w6.heap.size = w14.heap.size) by omega)
    have sb17_ := sb17.ev t3.e (fun i hi => show ¬ (i = w14.heap.size) by have := lb17 i hi; omega)
    have b19_ := b19.ev t3.e (show ¬ (w7.heap.size = w14.heap.size) by omega)
    have b22_ := b22.ev t3.e (show ¬ (w8.heap.size = w14.heap.size) by omega)
    have QS_ := QS.ev t3.e (fun i hi => show ¬ (i = w14.heap.size) by have := hq5 i hi; omega)
    have b3_ := b3.ev t3.e (show ¬ (wl0.heap.size = w14.heap.size) by omega)
    have sb30_ := sb30.ev t3.e (fun i hi => show ¬ (i = w14.heap.size) by have := lb30 i hi; omega)
    replace BL := BL_; clear BL_
    replace b1 := b1_; clear b1_
    replace b17 := b17_; clear b17_
    replace sb17 := sb17_; clear sb17_
    replace b19 := b19_; clear b19_
    replace b22 := b22_; clear b22_
    replace QS := QS_; clear QS_
    replace b3 := b3_; clear b3_
    replace sb30 := sb30_; clear sb30_
    replace b4 : Cel w16 w14.heap.size 32 [.int .u32 ((0 : Nat) : Int), .int .u32 ((0 : Nat) : Int), .int .u32 ((0 : Nat) : Int), .int .u32 ((0 : Nat) : Int), .int .u32 ((0 : Nat) : Int), .int .u32 ((0 : Nat) : Int), .int .u32 ((0 : Nat) : Int), .int .u32 ((0 : Nat) : Int), qv, .int .i64 qL] := t3.c
    clear t3
    refine wpList_nil ?_
    refine hK11 _ _ ?_
    refine wp_seq_k fun K12 hK12 => ?_
    refine cPlain ?_
    refine sv 33 (.agg #[.int .u32 ((0 : Nat) : Int), .int .u32 ((0 : Nat) : Int), .int .u32 ((0 : Nat) : Int), .int .u32 ((0 : Nat) : Int), .int .u32 ((0 : Nat) : Int), .int .u32 ((0 : Nat) : Int), .int .u32 ((0 : Nat) : Int), .int .u32 ((0 : Nat) : Int), qv, .int .i64 qL]) (Val.cel 32 _ rfl 0 10 (by kernel_rfl) b4 _ Try.underlying32 rfl (by kernel_rfl) (by simp) [.int .u32 ((0 : Nat) : Int), .int .u32 ((0 : Nat) : Int), .int .u32 ((0 : Nat) : Int), .int .u32 ((0 : Nat) : Int), .int .u32 ((0 : Nat) : Int), .int .u32 ((0 : Nat) : Int), .int .u32 ((0 : Nat) : Int), .int .u32 ((0 : Nat) : Int), qv, .int .i64 qL] rfl) ?_
    simp only [List.set_cons_zero, List.set_cons_succ]
    refine sv 34 (.agg #[.int .u32 ((0 : Nat) : Int), .int .u32 ((0 : Nat) : Int), .int .u32 ((0 : Nat) : Int), .int .u32 ((0 : Nat) : Int), .int .u32 ((0 : Nat) : Int), .int .u32 ((0 : Nat) : Int), .int .u32 ((0 : Nat) : Int), .int .u32 ((0 : Nat) : Int), qv, .int .i64 qL]) (Val.cel 32 _ rfl 0 10 (by kernel_rfl) b3 _ Try.underlying32 rfl (by kernel_rfl) (by simp) [.int .u32 ((0 : Nat) : Int), .int .u32 ((0 : Nat) : Int), .int .u32 ((0 : Nat) : Int), .int .u32 ((0 : Nat) : Int), .int .u32 ((0 : Nat) : Int), .int .u32 ((0 : Nat) : Int), .int .u32 ((0 : Nat) : Int), .int .u32 ((0 : Nat) : Int), qv, .int .i64 qL] rfl) ?_
    simp only [List.set_cons_zero, List.set_cons_succ]
    refine xCall 35 17 #[.agg #[.int .u32 ((0 : Nat) : Int), .int .u32 ((0 : Nat) : Int), .int .u32 ((0 : Nat) : Int), .int .u32 ((0 : Nat) : Int), .int .u32 ((0 : Nat) : Int), .int .u32 ((0 : Nat) : Int), .int .u32 ((0 : Nat) : Int), .int .u32 ((0 : Nat) : Int), qv, .int .i64 qL], .agg #[.int .u32 ((0 : Nat) : Int), .int .u32 ((0 : Nat) : Int), .int .u32 ((0 : Nat) : Int), .int .u32 ((0 : Nat) : Int), .int .u32 ((0 : Nat) : Int), .int .u32 ((0 : Nat) : Int), .int .u32 ((0 : Nat) : Int), .int .u32 ((0 : Nat) : Int), qv, .int .i64 qL]] (by kernel_rfl) ?_
    refine (sameH_any ([0, 0, 0, 0, 0, 0, 0, 0], qr, qL) ([0, 0, 0, 0, 0, 0, 0, 0], qr, qL) rfl rfl (qv) (qv) w16 QS QS hq4 hq4).mono ?_
    rintro en w17 ⟨he, hb1⟩
    rw [decide_eq_true rfl] at he
    subst he
    have e7 := belE0 hb1
    have ze7 := e7.size
    replace BL := BL.e0 e7
    replace b1 := b1.e0 e7
    replace b17 := b17.e0 e7
    replace sb17 := sb17.e0 e7
    replace b19 := b19.e0 e7
    replace b22 := b22.e0 e7
    replace QS := QS.e0 e7
    replace b3 := b3.e0 e7
    replace sb30 := sb30.e0 e7
    replace b4 := b4.e0 e7
    clear e7
    refine ⟨.bool true, rfl, ?_⟩
    simp only [List.set_cons_zero, List.set_cons_succ]
    refine sv 36 (.bool false) .of ?_
    simp only [List.set_cons_zero, List.set_cons_succ]
    refine sv 37 (.bool false) .of ?_
    simp only [List.set_cons_zero, List.set_cons_succ]
    refine sv 38 (.agg #[.int .u32 ((0 : Nat) : Int), .int .u32 ((0 : Nat) : Int), .int .u32 ((0 : Nat) : Int), .int .u32 ((0 : Nat) : Int), .int .u32 ((0 : Nat) : Int), .int .u32 ((0 : Nat) : Int), .int .u32 ((0 : Nat) : Int), .int .u32 ((0 : Nat) : Int), qv, .int .i64 qL]) (Val.cel 32 _ rfl 0 10 (by kernel_rfl) b3 _ Try.underlying32 rfl (by kernel_rfl) (by simp) [.int .u32 ((0 : Nat) : Int), .int .u32 ((0 : Nat) : Int), .int .u32 ((0 : Nat) : Int), .int .u32 ((0 : Nat) : Int), .int .u32 ((0 : Nat) : Int), .int .u32 ((0 : Nat) : Int), .int .u32 ((0 : Nat) : Int), .int .u32 ((0 : Nat) : Int), qv, .int .i64 qL] rfl) ?_
    simp only [List.set_cons_zero, List.set_cons_succ]
    refine xCall 39 18 #[.pointer (some ⟨w1.heap.size, 0, none⟩), .agg #[.int .u32 ((0 : Nat) : Int), .int .u32 ((0 : Nat) : Int), .int .u32 ((0 : Nat) : Int), .int .u32 ((0 : Nat) : Int), .int .u32 ((0 : Nat) : Int), .int .u32 ((0 : Nat) : Int), .int .u32 ((0 : Nat) : Int), .int .u32 ((0 : Nat) : Int), qv, .int .i64 qL]] (by kernel_rfl) ?_
    refine (sum_any w1.heap.size tabL ([0, 0, 0, 0, 0, 0, 0, 0], qr, qL) rfl qv hTL w17 b1 QS).mono ?_
    rintro en w18 ⟨he, hb1⟩
    rw [sumN_wrong tabL ([0, 0, 0, 0, 0, 0, 0, 0], qr, qL) hq2] at he
    subst he
    have e8 := belE0 hb1
    have ze8 := e8.size
    replace BL := BL.e0 e8
    replace b1 := b1.e0 e8
    replace b17 := b17.e0 e8
    replace sb17 := sb17.e0 e8
    replace b19 := b19.e0 e8
    replace b22 := b22.e0 e8
    replace QS := QS.e0 e8
    replace b3 := b3.e0 e8
    replace sb30 := sb30.e0 e8
    replace b4 := b4.e0 e8
    clear e8
    refine ⟨.agg (cellsOf .u8 (nn (List.replicate 32 0))), rfl, ?_⟩
    simp only [List.set_cons_zero, List.set_cons_succ]
    refine sv 40 (.agg (cellsOf .u8 (nn (List.replicate 32 0)))) .of ?_
    simp only [List.set_cons_zero, List.set_cons_succ]
    refine sv 41 (.bool false) (Val.eqA .neq 37 _ (.tmp 39) (.tmp 40) rfl Try.underlying37 Try.underlying5 (by kernel_rfl) (by kernel_rfl) (nn (List.replicate 32 0)) (nn (List.replicate 32 0)) (by kernel_rfl) (by kernel_rfl) (by rw [nn_len]; exact (by simp)) (by rw [nn_len]; exact (by simp)) (.inr rfl) false (by simp)) ?_
    simp only [List.set_cons_zero, List.set_cons_succ]
    refine sv 42 (.bool false) .of ?_
    simp only [List.set_cons_zero, List.set_cons_succ]
    refine wpList_nil ?_
    refine hK12 _ _ ?_
    refine cF ?_
    refine wp_skip ?_
    refine hK9 _ _ ?_
    refine cPlain ?_
    refine sv 45 (.int .i64 ((c + 1 : Nat) : Int)) (Val.as (Val.add 3 _ (.tmp 24) _ rfl ((c : Nat) : Int) 1 (by kernel_rfl) (by kernel_rfl) (by omega)) (congrArg (Value.int .i64) (by omega))) ?_
    simp only [List.set_cons_zero, List.set_cons_succ]
    refine sv 24 (.int .i64 ((c + 1 : Nat) : Int)) .of ?_
    simp only [List.set_cons_zero, List.set_cons_succ]
    refine wpList_nil ?_
    refine ⟨_, ?_, c + 1, rfl, by omega, cutE, BL, b1, b17, sb17, b19, b22, by omega⟩
    omega
  · skip
    refine wp_exit ?_
    simp only [Exit.then, Exit.inBlock, ↓reduceIte, Nat.reduceEqDiff]
    refine hK5 _ _ ?_
    refine wp_seq_k fun K13 hK13 => ?_
    refine cPlain ?_
    refine sv 46 (.agg (cellsOf .u32 (nn [1, 2, 3, 4, 5, 6, 7, 8]))) .of ?_
    simp only [List.set_cons_zero, List.set_cons_succ]
    refine xAlloc 5 23 ((nn (List.replicate 8 0)).map (Value.int .u32)) rfl (by kernel_rfl) ?_
    intro w19 n8
    have zn8 := n8.z
    have b5 := n8.c
    replace b5 : Blk .u32 w19 wl0.heap.size 23 (nn (List.replicate 8 0)) := b5
    replace BL := BL.e0 n8.e
    replace b1 := b1.e0 n8.e
    replace b17 := b17.e0 n8.e
    replace sb17 := sb17.e0 n8.e
    replace b19 := b19.e0 n8.e
    replace b22 := b22.e0 n8.e
    simp only [List.set_cons_zero, List.set_cons_succ]
    refine xStoreA 23 (.tmp 5) (.tmp 46) rfl .u32 wl0.heap.size 23 (nn (List.replicate 8 0)) 0 (nn [1, 2, 3, 4, 5, 6, 7, 8]) (by kernel_rfl) (by kernel_rfl) b5 (by rw [show (nn [1, 2, 3, 4, 5, 6, 7, 8]).length = 8 by ((try simp only [nn_len, List.length_append, List.length_replicate, List.length_cons, List.length_nil]); try omega)]; kernel_rfl) (by (try simp only [nn_len, List.length_append, List.length_replicate, List.length_cons, List.length_nil]); try omega) (nn [1, 2, 3, 4, 5, 6, 7, 8]) (over_whole _ _ (by (try simp only [nn_len, List.length_append, List.length_replicate, List.length_cons, List.length_nil]); try omega)) ?_
    intro w20 t4
    have zt4 := t4.z
    have BL_ := BL.ev t4.e (fun i h => show w.heap.size ≤ i by have h : i = wl0.heap.size := h; omega)
    have b1_ := b1.ev t4.e (show ¬ (w1.heap.size = wl0.heap.size) by omega)
    have b17_ := b17.ev t4.e (show ¬ (w6.heap.size = wl0.heap.size) by omega)
    have sb17_ := sb17.ev t4.e (fun i hi => show ¬ (i = wl0.heap.size) by have := lb17 i hi; omega)
    have b19_ := b19.ev t4.e (show ¬ (w7.heap.size = wl0.heap.size) by omega)
    have b22_ := b22.ev t4.e (show ¬ (w8.heap.size = wl0.heap.size) by omega)
    replace BL := BL_; clear BL_
    replace b1 := b1_; clear b1_
    replace b17 := b17_; clear b17_
    replace sb17 := sb17_; clear sb17_
    replace b19 := b19_; clear b19_
    replace b22 := b22_; clear b22_
    replace b5 : Blk .u32 w20 wl0.heap.size 23 (nn [1, 2, 3, 4, 5, 6, 7, 8]) := t4.c
    clear t4
    refine wpList_nil ?_
    refine hK13 _ _ ?_
    refine wp_seq_k fun K14 hK14 => ?_
    refine cPlain ?_
    refine xCall 47 19 #[.pointer (some ⟨w1.heap.size, 0, none⟩)] (by kernel_rfl) ?_
    refine (new_any w1.heap.size tabL hTL w20 b1).mono ?_
    rintro en w21 ⟨he, hb1⟩
    rw [show tabL.take 8 = [1779033703, 3144134277, 1013904242, 2773480762, 1359893119, 2600822924, 528734635, 1541459225] from rfl] at he
    subst he
    have e9 := belE0 hb1
    have ze9 := e9.size
    replace BL := BL.e0 e9
    replace b1 := b1.e0 e9
    replace b17 := b17.e0 e9
    replace sb17 := sb17.e0 e9
    replace b19 := b19.e0 e9
    replace b22 := b22.e0 e9
    replace b5 := b5.e0 e9
    clear e9
    refine ⟨.agg #[.int .u32 ((1779033703 : Nat) : Int), .int .u32 ((3144134277 : Nat) : Int), .int .u32 ((1013904242 : Nat) : Int), .int .u32 ((2773480762 : Nat) : Int), .int .u32 ((1359893119 : Nat) : Int), .int .u32 ((2600822924 : Nat) : Int), .int .u32 ((528734635 : Nat) : Int), .int .u32 ((1541459225 : Nat) : Int), .slice none 0 0, .int .i64 0], rfl, ?_⟩
    simp only [List.set_cons_zero, List.set_cons_succ]
    refine xAlloc 6 32 [.int .u32 0, .int .u32 0, .int .u32 0, .int .u32 0, .int .u32 0, .int .u32 0, .int .u32 0, .int .u32 0, .slice none 0 0, .int .i64 0] rfl (by kernel_rfl) ?_
    intro w22 n9
    have zn9 := n9.z
    have b6 := n9.c
    replace BL := BL.e0 n9.e
    replace b1 := b1.e0 n9.e
    replace b17 := b17.e0 n9.e
    replace sb17 := sb17.e0 n9.e
    replace b19 := b19.e0 n9.e
    replace b22 := b22.e0 n9.e
    replace b5 := b5.e0 n9.e
    simp only [List.set_cons_zero, List.set_cons_succ]
    refine xStoreR 32 (.tmp 6) (.tmp 47) rfl w21.heap.size 32 [.int .u32 0, .int .u32 0, .int .u32 0, .int .u32 0, .int .u32 0, .int .u32 0, .int .u32 0, .int .u32 0, .slice none 0 0, .int .i64 0] 0 [.int .u32 ((1779033703 : Nat) : Int), .int .u32 ((3144134277 : Nat) : Int), .int .u32 ((1013904242 : Nat) : Int), .int .u32 ((2773480762 : Nat) : Int), .int .u32 ((1359893119 : Nat) : Int), .int .u32 ((2600822924 : Nat) : Int), .int .u32 ((528734635 : Nat) : Int), .int .u32 ((1541459225 : Nat) : Int), .slice none 0 0, .int .i64 0] (by kernel_rfl) (by kernel_rfl) b6 (by kernel_rfl) (by simp) rfl [.int .u32 ((1779033703 : Nat) : Int), .int .u32 ((3144134277 : Nat) : Int), .int .u32 ((1013904242 : Nat) : Int), .int .u32 ((2773480762 : Nat) : Int), .int .u32 ((1359893119 : Nat) : Int), .int .u32 ((2600822924 : Nat) : Int), .int .u32 ((528734635 : Nat) : Int), .int .u32 ((1541459225 : Nat) : Int), .slice none 0 0, .int .i64 0] rfl ?_
    intro w23 t5
    have zt5 := t5.z
    have BL_ := BL.ev t5.e (fun i h => show w.heap.size ≤ i by have h : i = w21.heap.size := h; omega)
    have b1_ := b1.ev t5.e (show ¬ (w1.heap.size = w21.heap.size) by omega)
    have b17_ := b17.ev t5.e (show ¬ (w6.heap.size = w21.heap.size) by omega)
    have sb17_ := sb17.ev t5.e (fun i hi => show ¬ (i = w21.heap.size) by have := lb17 i hi; omega)
    have b19_ := b19.ev t5.e (show ¬ (w7.heap.size = w21.heap.size) by omega)
    have b22_ := b22.ev t5.e (show ¬ (w8.heap.size = w21.heap.size) by omega)
    have b5_ := b5.ev t5.e (show ¬ (wl0.heap.size = w21.heap.size) by omega)
    replace BL := BL_; clear BL_
    replace b1 := b1_; clear b1_
    replace b17 := b17_; clear b17_
    replace sb17 := sb17_; clear sb17_
    replace b19 := b19_; clear b19_
    replace b22 := b22_; clear b22_
    replace b5 := b5_; clear b5_
    replace b6 : Cel w23 w21.heap.size 32 [.int .u32 ((1779033703 : Nat) : Int), .int .u32 ((3144134277 : Nat) : Int), .int .u32 ((1013904242 : Nat) : Int), .int .u32 ((2773480762 : Nat) : Int), .int .u32 ((1359893119 : Nat) : Int), .int .u32 ((2600822924 : Nat) : Int), .int .u32 ((528734635 : Nat) : Int), .int .u32 ((1541459225 : Nat) : Int), .slice none 0 0, .int .i64 0] := t5.c
    clear t5
    refine wpList_nil ?_
    refine hK14 _ _ ?_
    refine wp_seq_k fun K15 hK15 => ?_
    have e10 := drew_e0 w23
    refine zg (fun w_ => Bl w.heap.size w w_ ∧ Blk .u32 w_ w1.heap.size 26 (nn (tabL)) ∧ Blk .u8 w_ w6.heap.size 5 [1] ∧ SL .u8 w_ (.slice (some ⟨w6.heap.size, 0, none⟩) 1 1) [1] ∧ Blk .u8 w_ w7.heap.size 5 (nn (List.replicate 64 0)) ∧ Cel w_ w8.heap.size 32 [.int .u32 ((0 : Nat) : Int), .int .u32 ((0 : Nat) : Int), .int .u32 ((0 : Nat) : Int), .int .u32 ((0 : Nat) : Int), .int .u32 ((0 : Nat) : Int), .int .u32 ((0 : Nat) : Int), .int .u32 ((0 : Nat) : Int), .int .u32 ((0 : Nat) : Int), .slice none 0 0, .int .i64 (-1), .int .u32 ((0 : Nat) : Int), .int .u32 ((0 : Nat) : Int), .int .u32 ((0 : Nat) : Int), .int .u32 ((0 : Nat) : Int), .int .u32 ((0 : Nat) : Int), .int .u32 ((0 : Nat) : Int), .int .u32 ((0 : Nat) : Int), .int .u32 ((0 : Nat) : Int), .slice none 0 0, .int .i64 1, .int .u32 ((0 : Nat) : Int), .int .u32 ((0 : Nat) : Int), .int .u32 ((0 : Nat) : Int), .int .u32 ((0 : Nat) : Int), .int .u32 ((0 : Nat) : Int), .int .u32 ((0 : Nat) : Int), .int .u32 ((0 : Nat) : Int), .int .u32 ((0 : Nat) : Int), .slice (some ⟨w6.heap.size, 0, none⟩) 1 1, .int .i64 0, .int .u32 ((0 : Nat) : Int), .int .u32 ((0 : Nat) : Int), .int .u32 ((0 : Nat) : Int), .int .u32 ((0 : Nat) : Int), .int .u32 ((0 : Nat) : Int), .int .u32 ((0 : Nat) : Int), .int .u32 ((0 : Nat) : Int), .int .u32 ((0 : Nat) : Int), .slice (some ⟨w7.heap.size, 0, none⟩) 64 64, .int .i64 64, .int .u32 ((0 : Nat) : Int), .int .u32 ((0 : Nat) : Int), .int .u32 ((0 : Nat) : Int), .int .u32 ((0 : Nat) : Int), .int .u32 ((0 : Nat) : Int), .int .u32 ((0 : Nat) : Int), .int .u32 ((0 : Nat) : Int), .int .u32 ((0 : Nat) : Int), .slice none 0 0, .int .i64 72057594037928000] ∧ Blk .u32 w_ wl0.heap.size 23 (nn [1, 2, 3, 4, 5, 6, 7, 8]) ∧ Cel w_ w21.heap.size 32 [.int .u32 ((1779033703 : Nat) : Int), .int .u32 ((3144134277 : Nat) : Int), .int .u32 ((1013904242 : Nat) : Int), .int .u32 ((2773480762 : Nat) : Int), .int .u32 ((1359893119 : Nat) : Int), .int .u32 ((2600822924 : Nat) : Int), .int .u32 ((528734635 : Nat) : Int), .int .u32 ((1541459225 : Nat) : Int), .slice none 0 0, .int .i64 0] ∧ w23.heap.size ≤ w_.heap.size) (fun w_ => Bl w.heap.size w w_ ∧ Blk .u32 w_ w1.heap.size 26 (nn (tabL)) ∧ Blk .u8 w_ w6.heap.size 5 [1] ∧ SL .u8 w_ (.slice (some ⟨w6.heap.size, 0, none⟩) 1 1) [1] ∧ Blk .u8 w_ w7.heap.size 5 (nn (List.replicate 64 0)) ∧ Cel w_ w8.heap.size 32 [.int .u32 ((0 : Nat) : Int), .int .u32 ((0 : Nat) : Int), .int .u32 ((0 : Nat) : Int), .int .u32 ((0 : Nat) : Int), .int .u32 ((0 : Nat) : Int), .int .u32 ((0 : Nat) : Int), .int .u32 ((0 : Nat) : Int), .int .u32 ((0 : Nat) : Int), .slice none 0 0, .int .i64 (-1), .int .u32 ((0 : Nat) : Int), .int .u32 ((0 : Nat) : Int), .int .u32 ((0 : Nat) : Int), .int .u32 ((0 : Nat) : Int), .int .u32 ((0 : Nat) : Int), .int .u32 ((0 : Nat) : Int), .int .u32 ((0 : Nat) : Int), .int .u32 ((0 : Nat) : Int), .slice none 0 0, .int .i64 1, .int .u32 ((0 : Nat) : Int), .int .u32 ((0 : Nat) : Int), .int .u32 ((0 : Nat) : Int), .int .u32 ((0 : Nat) : Int), .int .u32 ((0 : Nat) : Int), .int .u32 ((0 : Nat) : Int), .int .u32 ((0 : Nat) : Int), .int .u32 ((0 : Nat) : Int), .slice (some ⟨w6.heap.size, 0, none⟩) 1 1, .int .i64 0, .int .u32 ((0 : Nat) : Int), .int .u32 ((0 : Nat) : Int), .int .u32 ((0 : Nat) : Int), .int .u32 ((0 : Nat) : Int), .int .u32 ((0 : Nat) : Int), .int .u32 ((0 : Nat) : Int), .int .u32 ((0 : Nat) : Int), .int .u32 ((0 : Nat) : Int), .slice (some ⟨w7.heap.size, 0, none⟩) 64 64, .int .i64 64, .int .u32 ((0 : Nat) : Int), .int .u32 ((0 : Nat) : Int), .int .u32 ((0 : Nat) : Int), .int .u32 ((0 : Nat) : Int), .int .u32 ((0 : Nat) : Int), .int .u32 ((0 : Nat) : Int), .int .u32 ((0 : Nat) : Int), .int .u32 ((0 : Nat) : Int), .slice none 0 0, .int .i64 72057594037928000] ∧ Blk .u32 w_ wl0.heap.size 23 (nn [1, 2, 3, 4, 5, 6, 7, 8]) ∧ Cel w_ w21.heap.size 32 [.int .u32 ((1779033703 : Nat) : Int), .int .u32 ((3144134277 : Nat) : Int), .int .u32 ((1013904242 : Nat) : Int), .int .u32 ((2773480762 : Nat) : Int), .int .u32 ((1359893119 : Nat) : Int), .int .u32 ((2600822924 : Nat) : Int), .int .u32 ((528734635 : Nat) : Int), .int .u32 ((1541459225 : Nat) : Int), .slice none 0 0, .int .i64 0] ∧ w23.heap.size ≤ w_.heap.size) 100000 58 ⟨BL.e0 e10, b1.e0 e10, b17.e0 e10, sb17.e0 e10, b19.e0 e10, b22.e0 e10, b5.e0 e10, b6.e0 e10, Nat.le_refl _⟩ ?_
    clear BL b1 b17 sb17 b19 b22 b5 b6
    clear e10
    intro w24
    rintro ⟨BL, b1, b17, sb17, b19, b22, b5, b6, z2⟩
    refine zv 1 49 (.agg #[.int .u32 0, .int .u32 0, .int .u32 0, .int .u32 0, .int .u32 0, .int .u32 0, .int .u32 0, .int .u32 0, .slice none 0 0, .int .i64 0]) (fun _ _ => .of) ⟨BL, b1, b17, sb17, b19, b22, b5, b6, by omega⟩ ?_
    simp only [List.set_cons_zero, List.set_cons_succ]
    refine zo1 0 rfl ?_
    refine xCall 48 19 #[.pointer none] (by kernel_rfl) ?_
    refine (new_nil w24).mono ?_
    rintro en w25 ⟨rfl, hb1⟩
    have e11 := belE0 hb1
    have ze11 := e11.size
    replace BL := BL.e0 e11
    replace b1 := b1.e0 e11
    replace b17 := b17.e0 e11
    replace sb17 := sb17.e0 e11
    replace b19 := b19.e0 e11
    replace b22 := b22.e0 e11
    replace b5 := b5.e0 e11
    replace b6 := b6.e0 e11
    clear e11
    refine ⟨.agg #[.int .u32 ((0 : Nat) : Int), .int .u32 ((0 : Nat) : Int), .int .u32 ((0 : Nat) : Int), .int .u32 ((0 : Nat) : Int), .int .u32 ((0 : Nat) : Int), .int .u32 ((0 : Nat) : Int), .int .u32 ((0 : Nat) : Int), .int .u32 ((0 : Nat) : Int), .slice none 0 0, .int .i64 0], rfl, ?_⟩
    refine ze 0 ⟨BL, b1, b17, sb17, b19, b22, b5, b6, by omega⟩ ?_
    simp only [List.set_cons_zero, List.set_cons_succ]
    refine zo1 2 rfl ?_
    refine xCall 50 17 #[.agg #[.int .u32 ((0 : Nat) : Int), .int .u32 ((0 : Nat) : Int), .int .u32 ((0 : Nat) : Int), .int .u32 ((0 : Nat) : Int), .int .u32 ((0 : Nat) : Int), .int .u32 ((0 : Nat) : Int), .int .u32 ((0 : Nat) : Int), .int .u32 ((0 : Nat) : Int), .slice none 0 0, .int .i64 0], .agg #[.int .u32 0, .int .u32 0, .int .u32 0, .int .u32 0, .int .u32 0, .int .u32 0, .int .u32 0, .int .u32 0, .slice none 0 0, .int .i64 0]] (by kernel_rfl) ?_
    refine (sameH_any ([0, 0, 0, 0, 0, 0, 0, 0], [], 0) ([0, 0, 0, 0, 0, 0, 0, 0], [], 0) rfl rfl (.slice none 0 0) (.slice none 0 0) w25 (SL.nil _ _) (SL.nil _ _) (fun x hx => by cases hx) (fun x hx => by cases hx)).mono ?_
    rintro en w26 ⟨he, hb1⟩
    rw [decide_eq_true rfl] at he
    subst he
    have e12 := belE0 hb1
    have ze12 := e12.size
    replace BL := BL.e0 e12
    replace b1 := b1.e0 e12
    replace b17 := b17.e0 e12
    replace sb17 := sb17.e0 e12
    replace b19 := b19.e0 e12
    replace b22 := b22.e0 e12
    replace b5 := b5.e0 e12
    replace b6 := b6.e0 e12
    clear e12
    refine ⟨.bool true, rfl, ?_⟩
    refine ze 2 ⟨BL, b1, b17, sb17, b19, b22, b5, b6, by omega⟩ ?_
    simp only [List.set_cons_zero, List.set_cons_succ]
    refine zv 3 51 (.bool true) (fun _ _ => .of) ⟨BL, b1, b17, sb17, b19, b22, b5, b6, by omega⟩ ?_
    simp only [List.set_cons_zero, List.set_cons_succ]
    refine zv 4 52 (.agg #[.int .u32 ((1779033703 : Nat) : Int), .int .u32 ((3144134277 : Nat) : Int), .int .u32 ((1013904242 : Nat) : Int), .int .u32 ((2773480762 : Nat) : Int), .int .u32 ((1359893119 : Nat) : Int), .int .u32 ((2600822924 : Nat) : Int), .int .u32 ((528734635 : Nat) : Int), .int .u32 ((1541459225 : Nat) : Int), .slice none 0 0, .int .i64 0]) (fun _ ⟨BL, b1, b17, sb17, b19, b22, b5, b6, z2⟩ => Val.cel 32 _ rfl 0 10 (by kernel_rfl) b6 _ Try.underlying32 rfl (by kernel_rfl) (by simp) [.int .u32 ((1779033703 : Nat) : Int), .int .u32 ((3144134277 : Nat) : Int), .int .u32 ((1013904242 : Nat) : Int), .int .u32 ((2773480762 : Nat) : Int), .int .u32 ((1359893119 : Nat) : Int), .int .u32 ((2600822924 : Nat) : Int), .int .u32 ((528734635 : Nat) : Int), .int .u32 ((1541459225 : Nat) : Int), .slice none 0 0, .int .i64 0] rfl) ⟨BL, b1, b17, sb17, b19, b22, b5, b6, by omega⟩ ?_
    simp only [List.set_cons_zero, List.set_cons_succ]
    refine zv 8 56 (.agg #[.int .u32 ((1779033703 : Nat) : Int), .int .u32 ((3144134277 : Nat) : Int), .int .u32 ((1013904242 : Nat) : Int), .int .u32 ((2773480762 : Nat) : Int), .int .u32 ((1359893119 : Nat) : Int), .int .u32 ((2600822924 : Nat) : Int), .int .u32 ((528734635 : Nat) : Int), .int .u32 ((1541459225 : Nat) : Int), .slice none 0 0, .int .i64 0]) (fun _ ⟨BL, b1, b17, sb17, b19, b22, b5, b6, z2⟩ => Val.cel 32 _ rfl 0 10 (by kernel_rfl) b6 _ Try.underlying32 rfl (by kernel_rfl) (by simp) [.int .u32 ((1779033703 : Nat) : Int), .int .u32 ((3144134277 : Nat) : Int), .int .u32 ((1013904242 : Nat) : Int), .int .u32 ((2773480762 : Nat) : Int), .int .u32 ((1359893119 : Nat) : Int), .int .u32 ((2600822924 : Nat) : Int), .int .u32 ((528734635 : Nat) : Int), .int .u32 ((1541459225 : Nat) : Int), .slice none 0 0, .int .i64 0] rfl) ⟨BL, b1, b17, sb17, b19, b22, b5, b6, by omega⟩ ?_
    simp only [List.set_cons_zero, List.set_cons_succ]
    refine zo1 5 rfl ?_
    refine xLit 53 30 5 1 _ #[(0, .int .u8 97)] [.int .u8 97] rfl (by kernel_rfl) (by kernel_rfl) ?_
    intro w27 n10
    have zn10 := n10.z
    have b53 := n10.c
    replace b53 : Blk .u8 w27 w26.heap.size 5 [97] := b53
    replace BL := BL.e0 n10.e
    replace b1 := b1.e0 n10.e
    replace b17 := b17.e0 n10.e
    replace sb17 := sb17.e0 n10.e
    replace b19 := b19.e0 n10.e
    replace b22 := b22.e0 n10.e
    replace b5 := b5.e0 n10.e
    replace b6 := b6.e0 n10.e
    have sb53 : SL .u8 w27 (.slice (some ⟨w26.heap.size, 0, none⟩) 1 1) [97] := SL.ofBlk b53 rfl (by unfold maxLen; omega)
    have lb53 : ∀ i, Value.ownBlock (.slice (some ⟨w26.heap.size, 0, none⟩) 1 1) = some i → w26.heap.size ≤ i ∧ i < w27.heap.size := ownB_lit (by omega)
    refine ze 5 ⟨BL, b1, b17, sb17, b19, b22, b5, b6, by omega⟩ ?_
    simp only [List.set_cons_zero, List.set_cons_succ]
    refine zo1 6 rfl ?_
    refine xMark 54 30 5 (.tmp 53) rfl Try.underlying30 Try.underlying5 w26.heap.size 1 [97] (by kernel_rfl) b53 rfl (by unfold maxLen; omega) ?_
    intro w28 b53m e13 ze13
    have BL_ := BL.ev e13 (fun i h => show w.heap.size ≤ i by have h : i = w26.heap.size := h; omega)
    have b1_ := b1.ev e13 (show ¬ (w1.heap.size = w26.heap.size) by omega)
    have b17_ := b17.ev e13 (show ¬ (w6.heap.size = w26.heap.size) by omega)
    have sb17_ := sb17.ev e13 (fun i hi => show ¬ (i = w26.heap.size) by have := lb17 i hi; omega)
    have b19_ := b19.ev e13 (show ¬ (w7.heap.size = w26.heap.size) by omega)
    have b22_ := b22.ev e13 (show ¬ (w8.heap.size = w26.heap.size) by omega)
    have b5_ := b5.ev e13 (show ¬ (wl0.heap.size = w26.heap.size) by omega)
    have b6_ := b6.ev e13 (show ¬ (w21.heap.size = w26.heap.size) by omega)
    replace BL := BL_; clear BL_
    replace b1 := b1_; clear b1_
    replace b17 := b17_; clear b17_
    replace sb17 := sb17_; clear sb17_
    replace b19 := b19_; clear b19_
    replace b22 := b22_; clear b22_
    replace b5 := b5_; clear b5_
    replace b6 := b6_; clear b6_
    replace sb53 := b53m; clear b53m b53 e13
    refine ze 6 ⟨BL, b1, b17, sb17, b19, b22, b5, b6, by omega⟩ ?_
    simp only [List.set_cons_zero, List.set_cons_succ]
    refine zo1 7 rfl ?_
    refine xCall 55 16 #[.pointer none, .agg #[.int .u32 ((1779033703 : Nat) : Int), .int .u32 ((3144134277 : Nat) : Int), .int .u32 ((1013904242 : Nat) : Int), .int .u32 ((2773480762 : Nat) : Int), .int .u32 ((1359893119 : Nat) : Int), .int .u32 ((2600822924 : Nat) : Int), .int .u32 ((528734635 : Nat) : Int), .int .u32 ((1541459225 : Nat) : Int), .slice none 0 0, .int .i64 0], .slice (some ⟨w26.heap.size, 0, none⟩) 1 1] (by kernel_rfl) ?_
    refine (write_nil [1779033703, 3144134277, 1013904242, 2773480762, 1359893119, 2600822924, 528734635, 1541459225] rfl (.slice none 0 0) _ 0 rfl w28).mono ?_
    rintro en w29 ⟨rfl, hb1⟩
    have e14 := belE0 hb1
    have ze14 := e14.size
    replace BL := BL.e0 e14
    replace b1 := b1.e0 e14
    replace b17 := b17.e0 e14
    replace sb17 := sb17.e0 e14
    replace b19 := b19.e0 e14
    replace b22 := b22.e0 e14
    replace b5 := b5.e0 e14
    replace b6 := b6.e0 e14
    replace sb53 := sb53.e0 e14
    clear e14
    refine ⟨.agg #[.int .u32 ((1779033703 : Nat) : Int), .int .u32 ((3144134277 : Nat) : Int), .int .u32 ((1013904242 : Nat) : Int), .int .u32 ((2773480762 : Nat) : Int), .int .u32 ((1359893119 : Nat) : Int), .int .u32 ((2600822924 : Nat) : Int), .int .u32 ((528734635 : Nat) : Int), .int .u32 ((1541459225 : Nat) : Int), .slice none 0 0, .int .i64 0], rfl, ?_⟩
    refine ze 7 ⟨BL, b1, b17, sb17, b19, b22, b5, b6, by omega⟩ ?_
    simp only [List.set_cons_zero, List.set_cons_succ]
    refine zo1 9 rfl ?_
    refine xCall 57 17 #[.agg #[.int .u32 ((1779033703 : Nat) : Int), .int .u32 ((3144134277 : Nat) : Int), .int .u32 ((1013904242 : Nat) : Int), .int .u32 ((2773480762 : Nat) : Int), .int .u32 ((1359893119 : Nat) : Int), .int .u32 ((2600822924 : Nat) : Int), .int .u32 ((528734635 : Nat) : Int), .int .u32 ((1541459225 : Nat) : Int), .slice none 0 0, .int .i64 0], .agg #[.int .u32 ((1779033703 : Nat) : Int), .int .u32 ((3144134277 : Nat) : Int), .int .u32 ((1013904242 : Nat) : Int), .int .u32 ((2773480762 : Nat) : Int), .int .u32 ((1359893119 : Nat) : Int), .int .u32 ((2600822924 : Nat) : Int), .int .u32 ((528734635 : Nat) : Int), .int .u32 ((1541459225 : Nat) : Int), .slice none 0 0, .int .i64 0]] (by kernel_rfl) ?_
    refine (sameH_any ([1779033703, 3144134277, 1013904242, 2773480762, 1359893119, 2600822924, 528734635, 1541459225], [], 0) ([1779033703, 3144134277, 1013904242, 2773480762, 1359893119, 2600822924, 528734635, 1541459225], [], 0) rfl rfl (.slice none 0 0) (.slice none 0 0) w29 (SL.nil _ _) (SL.nil _ _) (fun x hx => by cases hx) (fun x hx => by cases hx)).mono ?_
    rintro en w30 ⟨he, hb1⟩
    rw [decide_eq_true rfl] at he
    subst he
    have e15 := belE0 hb1
    have ze15 := e15.size
    replace BL := BL.e0 e15
    replace b1 := b1.e0 e15
    replace b17 := b17.e0 e15
    replace sb17 := sb17.e0 e15
    replace b19 := b19.e0 e15
    replace b22 := b22.e0 e15
    replace b5 := b5.e0 e15
    replace b6 := b6.e0 e15
    replace sb53 := sb53.e0 e15
    clear e15
    refine ⟨.bool true, rfl, ?_⟩
    refine ze 9 ⟨BL, b1, b17, sb17, b19, b22, b5, b6, by omega⟩ ?_
    simp only [List.set_cons_zero, List.set_cons_succ]
    refine zv 10 58 (.bool true) (fun _ _ => .of) ⟨BL, b1, b17, sb17, b19, b22, b5, b6, by omega⟩ ?_
    simp only [List.set_cons_zero, List.set_cons_succ]
    refine zv 11 59 (.bool true) (fun _ _ => .of) ⟨BL, b1, b17, sb17, b19, b22, b5, b6, by omega⟩ ?_
    simp only [List.set_cons_zero, List.set_cons_succ]
    refine zv 12 60 (.agg #[.int .u32 ((1779033703 : Nat) : Int), .int .u32 ((3144134277 : Nat) : Int), .int .u32 ((1013904242 : Nat) : Int), .int .u32 ((2773480762 : Nat) : Int), .int .u32 ((1359893119 : Nat) : Int), .int .u32 ((2600822924 : Nat) : Int), .int .u32 ((528734635 : Nat) : Int), .int .u32 ((1541459225 : Nat) : Int), .slice none 0 0, .int .i64 0]) (fun _ ⟨BL, b1, b17, sb17, b19, b22, b5, b6, z2⟩ => Val.cel 32 _ rfl 0 10 (by kernel_rfl) b6 _ Try.underlying32 rfl (by kernel_rfl) (by simp) [.int .u32 ((1779033703 : Nat) : Int), .int .u32 ((3144134277 : Nat) : Int), .int .u32 ((1013904242 : Nat) : Int), .int .u32 ((2773480762 : Nat) : Int), .int .u32 ((1359893119 : Nat) : Int), .int .u32 ((2600822924 : Nat) : Int), .int .u32 ((528734635 : Nat) : Int), .int .u32 ((1541459225 : Nat) : Int), .slice none 0 0, .int .i64 0] rfl) ⟨BL, b1, b17, sb17, b19, b22, b5, b6, by omega⟩ ?_
    simp only [List.set_cons_zero, List.set_cons_succ]
    refine zv 14 62 (.agg (cellsOf .u8 (nn (List.replicate 32 0)))) (fun _ _ => .of) ⟨BL, b1, b17, sb17, b19, b22, b5, b6, by omega⟩ ?_
    simp only [List.set_cons_zero, List.set_cons_succ]
    refine zo1 13 rfl ?_
    refine xCall 61 18 #[.pointer none, .agg #[.int .u32 ((1779033703 : Nat) : Int), .int .u32 ((3144134277 : Nat) : Int), .int .u32 ((1013904242 : Nat) : Int), .int .u32 ((2773480762 : Nat) : Int), .int .u32 ((1359893119 : Nat) : Int), .int .u32 ((2600822924 : Nat) : Int), .int .u32 ((528734635 : Nat) : Int), .int .u32 ((1541459225 : Nat) : Int), .slice none 0 0, .int .i64 0]] (by kernel_rfl) ?_
    refine (sum_nil [1779033703, 3144134277, 1013904242, 2773480762, 1359893119, 2600822924, 528734635, 1541459225] rfl (.slice none 0 0) 0 rfl w30).mono ?_
    rintro en w31 ⟨rfl, hb1⟩
    have e16 := belE0 hb1
    have ze16 := e16.size
    replace BL := BL.e0 e16
    replace b1 := b1.e0 e16
    replace b17 := b17.e0 e16
    replace sb17 := sb17.e0 e16
    replace b19 := b19.e0 e16
    replace b22 := b22.e0 e16
    replace b5 := b5.e0 e16
    replace b6 := b6.e0 e16
    replace sb53 := sb53.e0 e16
    clear e16
    refine ⟨.agg (cellsOf .u8 (nn (List.replicate 32 0))), rfl, ?_⟩
    refine ze 13 ⟨BL, b1, b17, sb17, b19, b22, b5, b6, by omega⟩ ?_
    simp only [List.set_cons_zero, List.set_cons_succ]
    refine zv 15 63 (.bool true) (fun _ ⟨BL, b1, b17, sb17, b19, b22, b5, b6, z2⟩ => Val.eqA .eql 37 _ (.tmp 61) (.tmp 62) rfl Try.underlying37 Try.underlying5 (by kernel_rfl) (by kernel_rfl) (nn (List.replicate 32 0)) (nn (List.replicate 32 0)) (by kernel_rfl) (by kernel_rfl) (by rw [nn_len]; exact (by simp)) (by rw [nn_len]; exact (by simp)) (.inl rfl) true (by simp)) ⟨BL, b1, b17, sb17, b19, b22, b5, b6, by omega⟩ ?_
    simp only [List.set_cons_zero, List.set_cons_succ]
    refine zv 16 64 (.bool true) (fun _ _ => .of) ⟨BL, b1, b17, sb17, b19, b22, b5, b6, by omega⟩ ?_
    simp only [List.set_cons_zero, List.set_cons_succ]
    refine zv 17 65 (.bool true) (fun _ _ => .of) ⟨BL, b1, b17, sb17, b19, b22, b5, b6, by omega⟩ ?_
    simp only [List.set_cons_zero, List.set_cons_succ]
    refine zv 21 69 (.agg (cellsOf .u8 (nn (List.replicate 32 0)))) (fun _ _ => .of) ⟨BL, b1, b17, sb17, b19, b22, b5, b6, by omega⟩ ?_
    simp only [List.set_cons_zero, List.set_cons_succ]
    refine zo1 18 rfl ?_
    refine xLit 66 30 5 1 _ #[(0, .int .u8 97)] [.int .u8 97] rfl (by kernel_rfl) (by kernel_rfl) ?_
    intro w32 n11
    have zn11 := n11.z
    have b66 := n11.c
    replace b66 : Blk .u8 w32 w31.heap.size 5 [97] := b66
    replace BL := BL.e0 n11.e
    replace b1 := b1.e0 n11.e
    replace b17 := b17.e0 n11.e
    replace sb17 := sb17.e0 n11.e
    replace b19 := b19.e0 n11.e
    replace b22 := b22.e0 n11.e
    replace b5 := b5.e0 n11.e
    replace b6 := b6.e0 n11.e
    replace sb53 := sb53.e0 n11.e
    have sb66 : SL .u8 w32 (.slice (some ⟨w31.heap.size, 0, none⟩) 1 1) [97] := SL.ofBlk b66 rfl (by unfold maxLen; omega)
    have lb66 : ∀ i, Value.ownBlock (.slice (some ⟨w31.heap.size, 0, none⟩) 1 1) = some i → w31.heap.size ≤ i ∧ i < w32.heap.size := ownB_lit (by omega)
    refine ze 18 ⟨BL, b1, b17, sb17, b19, b22, b5, b6, by omega⟩ ?_
    simp only [List.set_cons_zero, List.set_cons_succ]
    refine zo1 19 rfl ?_
    refine xMark 67 30 5 (.tmp 66) rfl Try.underlying30 Try.underlying5 w31.heap.size 1 [97] (by kernel_rfl) b66 rfl (by unfold maxLen; omega) ?_
    intro w33 b66m e17 ze17
    have BL_ := BL.ev e17 (fun i h => show w.heap.size ≤ i by have h : i = w31.heap.size := h; omega)
    have b1_ := b1.ev e17 (show ¬ (w1.heap.size = w31.heap.size) by omega)
    have b17_ := b17.ev e17 (show ¬ (w6.heap.size = w31.heap.size) by omega)
    have sb17_ := sb17.ev e17 (fun i hi => show ¬ (i = w31.heap.size) by have := lb17 i hi; omega)
    have b19_ := b19.ev e17 (show ¬ (w7.heap.size = w31.heap.size) by omega)
    have b22_ := b22.ev e17 (show ¬ (w8.heap.size = w31.heap.size) by omega)
    have b5_ := b5.ev e17 (show ¬ (wl0.heap.size = w31.heap.size) by omega)
    have b6_ := b6.ev e17 (show ¬ (w21.heap.size = w31.heap.size) by omega)
    have sb53_ := sb53.ev e17 (fun i hi => show ¬ (i = w31.heap.size) by have := lb53 i hi; omega)
    replace BL := BL_; clear BL_
    replace b1 := b1_; clear b1_
    replace b17 := b17_; clear b17_
    replace sb17 := sb17_; clear sb17_
    replace b19 := b19_; clear b19_
    replace b22 := b22_; clear b22_
    replace b5 := b5_; clear b5_
    replace b6 := b6_; clear b6_
    replace sb53 := sb53_; clear sb53_
    replace sb66 := b66m; clear b66m b66 e17
    refine ze 19 ⟨BL, b1, b17, sb17, b19, b22, b5, b6, by omega⟩ ?_
    simp only [List.set_cons_zero, List.set_cons_succ]
    refine zo1 20 rfl ?_
    refine xCall 68 20 #[.pointer none, .slice (some ⟨w31.heap.size, 0, none⟩) 1 1] (by kernel_rfl) ?_
    refine (of_nil _ w33).mono ?_
    rintro en w34 ⟨rfl, hb1⟩
    have e18 := belE0 hb1
    have ze18 := e18.size
    replace BL := BL.e0 e18
    replace b1 := b1.e0 e18
    replace b17 := b17.e0 e18
    replace sb17 := sb17.e0 e18
    replace b19 := b19.e0 e18
    replace b22 := b22.e0 e18
    replace b5 := b5.e0 e18
    replace b6 := b6.e0 e18
    replace sb53 := sb53.e0 e18
    replace sb66 := sb66.e0 e18
    clear e18
    refine ⟨.agg (cellsOf .u8 (nn (List.replicate 32 0))), rfl, ?_⟩
    refine ze 20 ⟨BL, b1, b17, sb17, b19, b22, b5, b6, by omega⟩ ?_
    simp only [List.set_cons_zero, List.set_cons_succ]
    refine zv 22 70 (.bool true) (fun _ ⟨BL, b1, b17, sb17, b19, b22, b5, b6, z2⟩ => Val.eqA .eql 37 _ (.tmp 68) (.tmp 69) rfl Try.underlying37 Try.underlying5 (by kernel_rfl) (by kernel_rfl) (nn (List.replicate 32 0)) (nn (List.replicate 32 0)) (by kernel_rfl) (by kernel_rfl) (by rw [nn_len]; exact (by simp)) (by rw [nn_len]; exact (by simp)) (.inl rfl) true (by simp)) ⟨BL, b1, b17, sb17, b19, b22, b5, b6, by omega⟩ ?_
    simp only [List.set_cons_zero, List.set_cons_succ]
    refine zv 23 71 (.bool true) (fun _ _ => .of) ⟨BL, b1, b17, sb17, b19, b22, b5, b6, by omega⟩ ?_
    simp only [List.set_cons_zero, List.set_cons_succ]
    refine zv 24 72 (.bool true) (fun _ _ => .of) ⟨BL, b1, b17, sb17, b19, b22, b5, b6, by omega⟩ ?_
    simp only [List.set_cons_zero, List.set_cons_succ]
    refine zv 25 73 (.agg (cellsOf .u32 (nn [1, 2, 3, 4, 5, 6, 7, 8]))) (fun _ ⟨BL, b1, b17, sb17, b19, b22, b5, b6, z2⟩ => Val.blk 23 _ rfl 0 8 (by kernel_rfl) b5 _ Try.underlying23 rfl (by kernel_rfl) (by (try simp only [nn_len, List.length_append, List.length_replicate, List.length_cons, List.length_nil]); try omega) _ (seg_all' _ (by (try simp only [nn_len, List.length_append, List.length_replicate, List.length_cons, List.length_nil]); try omega))) ⟨BL, b1, b17, sb17, b19, b22, b5, b6, by omega⟩ ?_
    simp only [List.set_cons_zero, List.set_cons_succ]
    refine zv 26 74 (.agg (cellsOf .u8 (nn [1, 0, 0, 0, 0, 0, 0, 0, 0, 0, 0, 0, 0, 0, 0, 0, 0, 0, 0, 0, 0, 0, 0, 0, 0, 0, 0, 0, 0, 0, 0, 0, 0, 0, 0, 0, 0, 0, 0, 0, 0, 0, 0, 0, 0, 0, 0, 0, 0, 0, 0, 0, 0, 0, 0, 0, 0, 0, 0, 0, 0, 0, 0, 0]))) (fun _ _ => .of) ⟨BL, b1, b17, sb17, b19, b22, b5, b6, by omega⟩ ?_
    simp only [List.set_cons_zero, List.set_cons_succ]
    refine zv 28 76 (.agg (cellsOf .u32 (nn [1, 2, 3, 4, 5, 6, 7, 8]))) (fun _ ⟨BL, b1, b17, sb17, b19, b22, b5, b6, z2⟩ => Val.blk 23 _ rfl 0 8 (by kernel_rfl) b5 _ Try.underlying23 rfl (by kernel_rfl) (by (try simp only [nn_len, List.length_append, List.length_replicate, List.length_cons, List.length_nil]); try omega) _ (seg_all' _ (by (try simp only [nn_len, List.length_append, List.length_replicate, List.length_cons, List.length_nil]); try omega))) ⟨BL, b1, b17, sb17, b19, b22, b5, b6, by omega⟩ ?_
    simp only [List.set_cons_zero, List.set_cons_succ]
    refine zo1 27 rfl ?_
    refine xCall 75 21 #[.pointer none, .agg (cellsOf .u32 (nn [1, 2, 3, 4, 5, 6, 7, 8])), .agg (cellsOf .u8 (nn [1, 0, 0, 0, 0, 0, 0, 0, 0, 0, 0, 0, 0, 0, 0, 0, 0, 0, 0, 0, 0, 0, 0, 0, 0, 0, 0, 0, 0, 0, 0, 0, 0, 0, 0, 0, 0, 0, 0, 0, 0, 0, 0, 0, 0, 0, 0, 0, 0, 0, 0, 0, 0, 0, 0, 0, 0, 0, 0, 0, 0, 0, 0, 0]))] (by kernel_rfl) ?_
    refine (block_nil [1, 2, 3, 4, 5, 6, 7, 8] _ rfl rfl w34).mono ?_
    rintro en w35 ⟨rfl, hb1⟩
    have e19 := belE0 hb1
    have ze19 := e19.size
    replace BL := BL.e0 e19
    replace b1 := b1.e0 e19
    replace b17 := b17.e0 e19
    replace sb17 := sb17.e0 e19
    replace b19 := b19.e0 e19
    replace b22 := b22.e0 e19
    replace b5 := b5.e0 e19
    replace b6 := b6.e0 e19
    replace sb53 := sb53.e0 e19
    replace sb66 := sb66.e0 e19
    clear e19
    refine ⟨.agg (cellsOf .u32 (nn ([1, 2, 3, 4, 5, 6, 7, 8]))), rfl, ?_⟩
    refine ze 27 ⟨BL, b1, b17, sb17, b19, b22, b5, b6, by omega⟩ ?_
    simp only [List.set_cons_zero, List.set_cons_succ]
    refine zv 29 77 (.bool true) (fun _ ⟨BL, b1, b17, sb17, b19, b22, b5, b6, z2⟩ => Val.eqA .eql 23 _ (.tmp 75) (.tmp 76) rfl Try.underlying23 Try.underlying22 (by kernel_rfl) (by kernel_rfl) (nn ([1, 2, 3, 4, 5, 6, 7, 8])) (nn ([1, 2, 3, 4, 5, 6, 7, 8])) (by kernel_rfl) (by kernel_rfl) (by rw [nn_len]; exact rfl) (by rw [nn_len]; exact rfl) (.inl rfl) true (by simp)) ⟨BL, b1, b17, sb17, b19, b22, b5, b6, by omega⟩ ?_
    simp only [List.set_cons_zero, List.set_cons_succ]
    refine zv 30 78 (.bool true) (fun _ _ => .of) ⟨BL, b1, b17, sb17, b19, b22, b5, b6, by omega⟩ ?_
    simp only [List.set_cons_zero, List.set_cons_succ]
    refine zv 31 79 (.bool true) (fun _ _ => .of) ⟨BL, b1, b17, sb17, b19, b22, b5, b6, by omega⟩ ?_
    simp only [List.set_cons_zero, List.set_cons_succ]
    refine zo1 32 rfl ?_
    refine xCall 80 22 #[.int .i64 (-1)] (by kernel_rfl) ?_
    refine (pad_neg (-1) (by omega) w35).mono ?_
    rintro en w36 ⟨rfl, hb1⟩
    have e20 := belE0 hb1
    have ze20 := e20.size
    replace BL := BL.e0 e20
    replace b1 := b1.e0 e20
    replace b17 := b17.e0 e20
    replace sb17 := sb17.e0 e20
    replace b19 := b19.e0 e20
    replace b22 := b22.e0 e20
    replace b5 := b5.e0 e20
    replace b6 := b6.e0 e20
    replace sb53 := sb53.e0 e20
    replace sb66 := sb66.e0 e20
    clear e20
    refine ⟨.slice none 0 0, rfl, ?_⟩
    refine ze 32 ⟨BL, b1, b17, sb17, b19, b22, b5, b6, by omega⟩ ?_
    simp only [List.set_cons_zero, List.set_cons_succ]
    refine zv 33 81 (.int .i64 (0 : Int)) (fun _ _ => .of) ⟨BL, b1, b17, sb17, b19, b22, b5, b6, by omega⟩ ?_
    simp only [List.set_cons_zero, List.set_cons_succ]
    refine zv 34 82 (.bool true) (fun _ _ => .of) ⟨BL, b1, b17, sb17, b19, b22, b5, b6, by omega⟩ ?_
    simp only [List.set_cons_zero, List.set_cons_succ]
    refine zv 35 83 (.bool true) (fun _ _ => .of) ⟨BL, b1, b17, sb17, b19, b22, b5, b6, by omega⟩ ?_
    simp only [List.set_cons_zero, List.set_cons_succ]
    refine zv 36 84 (.bool true) (fun _ _ => .of) ⟨BL, b1, b17, sb17, b19, b22, b5, b6, by omega⟩ ?_
    simp only [List.set_cons_zero, List.set_cons_succ]
    refine zv 37 85 (.pointer (some ⟨w21.heap.size, 0, none⟩)) (fun _ _ => .of) ⟨BL, b1, b17, sb17, b19, b22, b5, b6, by omega⟩ ?_
    simp only [List.set_cons_zero, List.set_cons_succ]
    refine zv 38 86 (.agg (cellsOf .u32 (nn [1779033703, 3144134277, 1013904242, 2773480762, 1359893119, 2600822924, 528734635, 1541459225]))) (fun _ ⟨BL, b1, b17, sb17, b19, b22, b5, b6, z2⟩ => Val.cel 23 _ rfl 0 8 (by kernel_rfl) b6 _ Try.underlying23 rfl (by kernel_rfl) (by simp) ((nn [1779033703, 3144134277, 1013904242, 2773480762, 1359893119, 2600822924, 528734635, 1541459225]).map (Value.int .u32)) rfl) ⟨BL, b1, b17, sb17, b19, b22, b5, b6, by omega⟩ ?_
    simp only [List.set_cons_zero, List.set_cons_succ]
    refine zv 39 87 (.pointer (some ⟨w1.heap.size, 0, none⟩)) (fun _ _ => .of) ⟨BL, b1, b17, sb17, b19, b22, b5, b6, by omega⟩ ?_
    simp only [List.set_cons_zero, List.set_cons_succ]
    refine zv 40 88 (.agg (cellsOf .u32 (nn ([1779033703, 3144134277, 1013904242, 2773480762, 1359893119, 2600822924, 528734635, 1541459225])))) (fun _ ⟨BL, b1, b17, sb17, b19, b22, b5, b6, z2⟩ => Val.blk 23 _ rfl 0 8 (by kernel_rfl) b1 _ Try.underlying23 rfl (by kernel_rfl) (by rw [nn_len, hTL]; omega) _ rfl) ⟨BL, b1, b17, sb17, b19, b22, b5, b6, by omega⟩ ?_
    simp only [List.set_cons_zero, List.set_cons_succ]
    refine zv 41 89 (.bool true) (fun _ ⟨BL, b1, b17, sb17, b19, b22, b5, b6, z2⟩ => Val.eqA .eql 23 _ (.tmp 86) (.tmp 88) rfl Try.underlying23 Try.underlying22 (by kernel_rfl) (by kernel_rfl) (nn ([1779033703, 3144134277, 1013904242, 2773480762, 1359893119, 2600822924, 528734635, 1541459225])) (nn ([1779033703, 3144134277, 1013904242, 2773480762, 1359893119, 2600822924, 528734635, 1541459225])) (by kernel_rfl) (by kernel_rfl) (by rw [nn_len]; exact rfl) (by rw [nn_len]; exact rfl) (.inl rfl) true (by simp)) ⟨BL, b1, b17, sb17, b19, b22, b5, b6, by omega⟩ ?_
    simp only [List.set_cons_zero, List.set_cons_succ]
    refine zv 42 90 (.bool true) (fun _ _ => .of) ⟨BL, b1, b17, sb17, b19, b22, b5, b6, by omega⟩ ?_
    simp only [List.set_cons_zero, List.set_cons_succ]
    refine zv 43 91 (.bool true) (fun _ _ => .of) ⟨BL, b1, b17, sb17, b19, b22, b5, b6, by omega⟩ ?_
    simp only [List.set_cons_zero, List.set_cons_succ]
    refine zv 44 92 (.pointer (some ⟨w21.heap.size, 8, none⟩)) (fun _ _ => .of) ⟨BL, b1, b17, sb17, b19, b22, b5, b6, by omega⟩ ?_
    simp only [List.set_cons_zero, List.set_cons_succ]
    refine zv 45 93 (.slice none 0 0) (fun _ ⟨BL, b1, b17, sb17, b19, b22, b5, b6, z2⟩ => Val.cel1 30 _ rfl w21.heap.size 8 _ (by kernel_rfl) (fun _ => (by kernel_rfl)) b6 rfl) ⟨BL, b1, b17, sb17, b19, b22, b5, b6, by omega⟩ ?_
    simp only [List.set_cons_zero, List.set_cons_succ]
    refine zv 46 94 (.int .i64 (0 : Int)) (fun _ _ => .of) ⟨BL, b1, b17, sb17, b19, b22, b5, b6, by omega⟩ ?_
    simp only [List.set_cons_zero, List.set_cons_succ]
    refine zv 47 95 (.bool true) (fun _ _ => .of) ⟨BL, b1, b17, sb17, b19, b22, b5, b6, by omega⟩ ?_
    simp only [List.set_cons_zero, List.set_cons_succ]
    refine zv 48 96 (.bool true) (fun _ _ => .of) ⟨BL, b1, b17, sb17, b19, b22, b5, b6, by omega⟩ ?_
    simp only [List.set_cons_zero, List.set_cons_succ]
    refine zv 49 97 (.bool true) (fun _ _ => .of) ⟨BL, b1, b17, sb17, b19, b22, b5, b6, by omega⟩ ?_
    simp only [List.set_cons_zero, List.set_cons_succ]
    refine zv 50 98 (.pointer (some ⟨w21.heap.size, 9, none⟩)) (fun _ _ => .of) ⟨BL, b1, b17, sb17, b19, b22, b5, b6, by omega⟩ ?_
    simp only [List.set_cons_zero, List.set_cons_succ]
    refine zv 51 99 (.int .i64 0) (fun _ ⟨BL, b1, b17, sb17, b19, b22, b5, b6, z2⟩ => Val.cel1 3 _ rfl w21.heap.size 9 _ (by kernel_rfl) (fun _ => (by kernel_rfl)) b6 rfl) ⟨BL, b1, b17, sb17, b19, b22, b5, b6, by omega⟩ ?_
    simp only [List.set_cons_zero, List.set_cons_succ]
    refine zv 52 100 (.bool true) (fun _ ⟨BL, b1, b17, sb17, b19, b22, b5, b6, z2⟩ => Val.cmp .eql 3 _ (.tmp 99) _ rfl .i64 0 0 (by kernel_rfl) (by kernel_rfl) (by simp) _ rfl) ⟨BL, b1, b17, sb17, b19, b22, b5, b6, by omega⟩ ?_
    simp only [List.set_cons_zero, List.set_cons_succ]
    refine zv 53 101 (.bool true) (fun _ _ => .of) ⟨BL, b1, b17, sb17, b19, b22, b5, b6, by omega⟩ ?_
    simp only [List.set_cons_zero, List.set_cons_succ]
    refine zv 54 102 (.bool true) (fun _ _ => .of) ⟨BL, b1, b17, sb17, b19, b22, b5, b6, by omega⟩ ?_
    simp only [List.set_cons_zero, List.set_cons_succ]
    refine zo1 55 rfl ?_
    refine xCall 103 23 #[] (by kernel_rfl) ?_
    refine (awake02_any w36).mono ?_
    rintro en w37 ⟨rfl, hb1⟩
    have e21 := belE0 hb1
    have ze21 := e21.size
    replace BL := BL.e0 e21
    replace b1 := b1.e0 e21
    replace b17 := b17.e0 e21
    replace sb17 := sb17.e0 e21
    replace b19 := b19.e0 e21
    replace b22 := b22.e0 e21
    replace b5 := b5.e0 e21
    replace b6 := b6.e0 e21
    replace sb53 := sb53.e0 e21
    replace sb66 := sb66.e0 e21
    clear e21
    refine ⟨.bool true, rfl, ?_⟩
    refine ze 55 ⟨BL, b1, b17, sb17, b19, b22, b5, b6, by omega⟩ ?_
    simp only [List.set_cons_zero, List.set_cons_succ]
    refine zv 56 104 (.bool true) (fun _ _ => .of) ⟨BL, b1, b17, sb17, b19, b22, b5, b6, by omega⟩ ?_
    simp only [List.set_cons_zero, List.set_cons_succ]
    refine zv 57 0 (.bool true) (fun _ _ => .of) ⟨BL, b1, b17, sb17, b19, b22, b5, b6, by omega⟩ ?_
    simp only [List.set_cons_zero, List.set_cons_succ]
    refine zd (by kernel_rfl) ?_ _
    refine hK15 _ _ ?_
    refine wp_ret ?_
    (try simp only [Exit.then, Exit.inBlock])
    refine bodyPost_ret (v := .bool true) rT rfl ?_
    exact ⟨rfl, BL.b⟩

theorem shaNumbers_any (w : World) : Calls Try.prog 3 #[] w fun e w' => e = .returned (.bool true) ∧ Below w.heap.size w w' := shaNumbers_walk w
end Go.Proofs.Yteaijjefbadnbaa
