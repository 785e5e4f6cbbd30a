/-
  ref09: Parts, Text, Open.
-/
import Derived.Test.YtoeaekamoejhcaaRef9
namespace Go.Proofs.Ytoeaekamoejhcaa
open Go.RowKit
set_option linter.unusedVariables false
set_option linter.unusedSimpArgs false
set_option maxRecDepth 100000
attribute [local irreducible] wpList Code.wp wpAnyZ
theorem info_rsl8 : (Try.prog.info? 28).map (fun i => (i.zero, i.size, i.bytes)) = some (some (.slice none 0 0), 1, 24) := by kernel_rfl
/-- A piece of a block of bytes, as a slice. -/
theorem SL.piece {w : World} {g : Nat} {t : TypeId} {xs : List Nat} (h : Blk .u8 w g t (nn xs)) (i o : Nat) (ho : o = 32 * i) (hi : 32 * i + 32 ≤ xs.length) : SL .u8 w (.slice (some ⟨g, o, none⟩) 32 32) (nn (rowN xs i)) := by
  have hl := rowN_len hi
  refine .inr ⟨g, o, 32, by rw [nn_len, hl], by rw [nn_len, hl]; exact Nat.le_refl _, by unfold maxLen; omega, h.lt, fun j hj => ?_⟩
  rw [nn_len, hl] at hj
  have hc := h.cell (o + j) (by rw [nn_len]; omega)
  rw [hc, nn_getD, nn_getD]
  congr 3
  unfold rowN
  rw [List.getD_eq_getElem?_getD, List.getD_eq_getElem?_getD, List.getElem?_take_of_lt hj, List.getElem?_drop, ho]
theorem pairN_b {dl H O : List Nat} (hH : ∀ x ∈ H, x < 256) (hO : ∀ x ∈ O, x < 256) (i : Nat) : ∀ p ∈ pairN dl H O i, ∀ x ∈ p, x < 256 := by
  intro p hp x hx
  have row : ∀ xs : List Nat, (∀ x ∈ xs, x < 256) → ∀ x ∈ rowN xs i, x < 256 := fun xs h x hx => h x (List.mem_of_mem_drop (List.mem_of_mem_take hx))
  unfold pairN at hp
  split at hp <;> simp only [List.mem_cons, List.not_mem_nil, or_false] at hp <;> rcases hp with rfl | rfl
  · exact row _ hO x hx
  · exact row _ hH x hx
  · exact row _ hH x hx
  · exact row _ hO x hx
theorem pairsN_b {dl H O : List Nat} (hH : ∀ x ∈ H, x < 256) (hO : ∀ x ∈ O, x < 256) : ∀ k, ∀ p ∈ pairsN dl H O k, ∀ x ∈ p, x < 256
  | 0, p, hp => by cases hp
  | k + 1, p, hp => by
    rcases List.mem_append.1 hp with h | h
    · exact pairsN_b hH hO k p h
    · exact pairN_b hH hO k p h
theorem rowsN_b {f : Nat → List Nat} (h : ∀ i, ∀ x ∈ f i, x < 256) (n : Nat) : ∀ x ∈ rowsN f n, x < 256 := by
  intro x hx
  obtain ⟨i, _, hx⟩ := List.mem_flatMap.1 hx
  exact h i x hx
theorem pairs_le {dl H O : List Nat} (hH : H.length = 8192) (hO : O.length = 8192) : ∀ p ∈ pairsN dl H O 256, p.length ≤ 1000000 := fun p hp => Nat.le_trans (pairsN_32 dl H O hH hO 256 (Nat.le_refl _) p hp) (by omega)
theorem pairsN_succ (dl H O : List Nat) (k : Nat) : pairsN dl H O (k + 1) = pairsN dl H O k ++ pairN dl H O k := rfl
theorem pairsN_0 (dl H O : List Nat) : pairsN dl H O 0 = [] := rfl
theorem pair_0 {dl H O : List Nat} {i : Nat} (h : bitF (nn dl) (i : Int) = 0) : pairN dl H O i = [rowN H i, rowN O i] := by unfold pairN; rw [if_neg (by omega)]
theorem pair_1 {dl H O : List Nat} {i : Nat} (h : ¬ bitF (nn dl) (i : Int) = 0) (hb : bitF (nn dl) (i : Int) = 0 ∨ bitF (nn dl) (i : Int) = 1) : pairN dl H O i = [rowN O i, rowN H i] := by unfold pairN; rw [if_pos (by omega)]
attribute [local irreducible] ofN textN numN secretN halfN macN taggedN rowsN fillN pairsN pairN rowN

set_option maxHeartbeats 4000000 in
theorem r9parts_any (dl H O : List Nat) (hdl : dl.length = 32) (hdb : Bytes (nn dl)) (hH : H.length = 8192) (hO : O.length = 8192) (w : World) :
    Calls Try.prog 84 #[.agg (cellsOf .u8 (nn dl)), .agg (cellsOf .u8 (nn H)), .agg (cellsOf .u8 (nn O))] w fun e w' => ∃ u us, e = .returned u ∧ SV w' u us ∧ SLs .u8 w'.heap.size w' us ((pairsN dl H O 256).map nn) ∧ Below w.heap.size w w' := by
  have BL := Bl.refl w
  go_enter Try.func84, Try.ntmps84
  refine wp_seq_k fun K1 hK1 => ?_
  refine cPlain ?_
  refine xBox 3 23 _ ((nn (dl)).map (Value.int .u8)) rfl (cells_toList _ _) ?_
  intro w1 n1
  have zn1 := n1.z
  have b3 := n1.c
  replace b3 : Blk .u8 w1 w.heap.size 23 (nn (dl)) := b3
  replace BL := BL.e0 n1.e
  simp only [List.set_cons_zero, List.set_cons_succ]
  refine xBox 4 25 _ ((nn (H)).map (Value.int .u8)) rfl (cells_toList _ _) ?_
  intro w2 n2
  have zn2 := n2.z
  have b4 := n2.c
  replace b4 : Blk .u8 w2 w1.heap.size 25 (nn (H)) := b4
  replace BL := BL.e0 n2.e
  replace b3 := b3.e0 n2.e
  simp only [List.set_cons_zero, List.set_cons_succ]
  refine xBox 5 25 _ ((nn (O)).map (Value.int .u8)) rfl (cells_toList _ _) ?_
  intro w3 n3
  have zn3 := n3.z
  have b5 := n3.c
  replace b5 : Blk .u8 w3 w2.heap.size 25 (nn (O)) := b5
  replace BL := BL.e0 n3.e
  replace b3 := b3.e0 n3.e
  replace b4 := b4.e0 n3.e
  simp only [List.set_cons_zero, List.set_cons_succ]
  refine sv 6 (.slice none 0 0) .of ?_
  simp only [List.set_cons_zero, List.set_cons_succ]
  refine wpList_nil ?_
  refine hK1 _ _ ?_
  refine wp_seq_k fun K2 hK2 => ?_
  refine cPlain ?_
  refine sv 7 (.slice none 0 0) .of ?_
  simp only [List.set_cons_zero, List.set_cons_succ]
  refine wpList_nil ?_
  refine hK2 _ _ ?_
  refine wp_seq_k fun K3 hK3 => ?_
  refine wp_seq_k fun K4 hK4 => ?_
  refine cPlain ?_
  refine sv 8 (.int .i64 0) .of ?_
  simp only [List.set_cons_zero, List.set_cons_succ]
  refine wpList_nil ?_
  refine hK4 _ _ ?_
  refine wp_block ?_
  refine cLoop (fun N_ A_ w_ => ∃ (i Bw : Nat) (u : Value) (us : List Value), (N_ = 256 - i ∧ (i ≤ 256) ∧ (∃ s1 : Nat → Value, A_ = ⟨[.agg (cellsOf .u8 (nn (dl))), .agg (cellsOf .u8 (nn (H))), .agg (cellsOf .u8 (nn (O))), .pointer (some ⟨w.heap.size, 0, none⟩), .pointer (some ⟨w1.heap.size, 0, none⟩), .pointer (some ⟨w2.heap.size, 0, none⟩), .slice none 0 0, u, .int .i64 ((i : Nat) : Int), (s1 9), (s1 10), (s1 11), (s1 12), (s1 13), (s1 14), (s1 15), (s1 16), (s1 17), (s1 18), (s1 19), (s1 20), (s1 21), (s1 22), (s1 23), (s1 24), (s1 25), (s1 26), (s1 27), (s1 28), (s1 29), (s1 30), (s1 31), (s1 32), (s1 33), (s1 34), (s1 35), (s1 36), (s1 37), (s1 38), undef].toArray, []⟩) ∧ Bl w.heap.size w w_ ∧ Blk .u8 w_ w.heap.size 23 (nn (dl)) ∧ Blk .u8 w_ w1.heap.size 25 (nn (H)) ∧ Blk .u8 w_ w2.heap.size 25 (nn (O)) ∧ RowsB 28 Bw w3.heap.size w_ u us ((pairsN dl H O i).map nn) ∧ w3.heap.size ≤ w_.heap.size)) _ ⟨0, w3.heap.size, .slice none 0 0, [], rfl, (Nat.zero_le _), cutE, BL, b3, b4, b5, (by rw [pairsN_0]; exact (RowsB.nil _ _ _)), Nat.le_refl _⟩ ?_
  clear BL b3 b4 b5
  rintro n_ a_ wl0 ⟨i, Bw, u, us, rfl, hc0_0, ⟨s1, rfl⟩, BL, b3, b4, b5, RB, zl0⟩
  have hBl := RB.le
  have hul := RB.sls.length
  rw [List.length_map, pairsN_len] at hul
  have hrh := rowN_len (xs := H) (i := i)
  have hro := rowN_len (xs := O) (i := i)
  refine wp_seq_k fun K5 hK5 => ?_
  refine wp_seq_k fun K6 hK6 => ?_
  refine cPlain ?_
  refine sv 11 (.int .i64 ((i : Nat) : Int)) .of ?_
  simp only [List.set_cons_zero, List.set_cons_succ]
  refine sv 12 (.bool (decide (((i : Nat) : Int) < 256))) (Val.cmp .lss 3 _ (.tmp 11) _ rfl .i64 ((i : Nat) : Int) 256 (by kernel_rfl) (by kernel_rfl) (by simp) _ rfl) ?_
  simp only [List.set_cons_zero, List.set_cons_succ]
  refine wpList_nil ?_
  refine hK6 _ _ ?_
  refine cDec (((i : Nat) : Int) < 256) (by kernel_rfl) (fun c12 => ?_) (fun c12 => ?_)
  · skip
    refine wp_skip ?_
    refine hK5 _ _ ?_
    refine wp_seq_k fun K7 hK7 => ?_
    refine wp_block ?_
    refine wp_seq_k fun K8 hK8 => ?_
    refine cPlain ?_
    refine sv 9 (.slice none 0 0) .of ?_
    simp only [List.set_cons_zero, List.set_cons_succ]
    refine sv 10 (.slice none 0 0) .of ?_
    simp only [List.set_cons_zero, List.set_cons_succ]
    refine wpList_nil ?_
    refine hK8 _ _ ?_
    refine wp_seq_k fun K9 hK9 => ?_
    have PA : Own 5 .u8 wl0.heap.size wl0 (.slice none 0 0) [] := Own.nil _ _ _ _
    have lPA_1 := PA.ge
    refine cPlain ?_
    refine sv 15 (.slice none 0 0) .of ?_
    simp only [List.set_cons_zero, List.set_cons_succ]
    refine sv 16 (.int .i64 ((i : Nat) : Int)) .of ?_
    simp only [List.set_cons_zero, List.set_cons_succ]
    refine sv 17 (.pointer (some ⟨w1.heap.size, 0 + i * 32, none⟩)) (Val.idxA 25 (.tmp 4) (.tmp 16) rfl w1.heap.size 0 i (by kernel_rfl) (by kernel_rfl) 32 Try.underlying25 (by kernel_rfl) (by omega)) ?_
    simp only [List.set_cons_zero, List.set_cons_succ]
    refine sv 18 (.slice (some ⟨w1.heap.size, 0 + i * 32, none⟩) 32 32) .of ?_
    simp only [List.set_cons_zero, List.set_cons_succ]
    refine xApp 19 (.tmp 15) (.tmp 18) 28 5 .u8 1 rfl Try.underlying28 (by kernel_rfl) wl0.heap.size (.slice none 0 0) [] (by kernel_rfl) PA (.slice (some ⟨w1.heap.size, 0 + i * 32, none⟩) 32 32) (nn (rowN H i)) (by kernel_rfl) (SL.piece b4 i _ (by omega) (by omega)) ?va1_1 ?va1_2 ?va1_3 ?_
    case va1_1 => (simp only [nn_len, List.length_nil]; omega)
    case va1_2 => (simp only [nn_len, List.length_nil]; unfold maxLen; omega)
    case va1_3 => omega
    intro va1 w4 rva1 e1
    have ze1 := e1.size
    have BL_ := BL.ev e1 (fun i h => by have := lPA_1 _ h; omega)
    have b3_ := b3.ev e1 (fun h => by have := lPA_1 _ h; omega)
    have b4_ := b4.ev e1 (fun h => by have := lPA_1 _ h; omega)
    have b5_ := b5.ev e1 (fun h => by have := lPA_1 _ h; omega)
    have RB : RowsB 28 Bw w3.heap.size w4 u us ((pairsN dl H O i).map nn) := RB.ev e1 (fun i hi h => by have := lPA_1 _ h; omega)
    replace BL := BL_; clear BL_
    replace b3 := b3_; clear b3_
    replace b4 := b4_; clear b4_
    replace b5 := b5_; clear b5_
    obtain ⟨A1, C1, hA1⟩ := rva1.len
    subst hA1
    replace PA := rva1
    clear rva1 e1
    have lPA_2 := PA.ge
    simp only [List.set_cons_zero, List.set_cons_succ]
    refine sv 9 (.slice A1 ([] ++ (nn (rowN H i))).length C1) .of ?_
    simp only [List.set_cons_zero, List.set_cons_succ]
    refine wpList_nil ?_
    refine hK9 _ _ ?_
    refine wp_seq_k fun K10 hK10 => ?_
    have PB : Own 5 .u8 w4.heap.size w4 (.slice none 0 0) [] := Own.nil _ _ _ _
    have lPB_1 := PB.ge
    refine cPlain ?_
    refine sv 20 (.slice none 0 0) .of ?_
    simp only [List.set_cons_zero, List.set_cons_succ]
    refine sv 21 (.int .i64 ((i : Nat) : Int)) .of ?_
    simp only [List.set_cons_zero, List.set_cons_succ]
    refine sv 22 (.pointer (some ⟨w2.heap.size, 0 + i * 32, none⟩)) (Val.idxA 25 (.tmp 5) (.tmp 21) rfl w2.heap.size 0 i (by kernel_rfl) (by kernel_rfl) 32 Try.underlying25 (by kernel_rfl) (by omega)) ?_
    simp only [List.set_cons_zero, List.set_cons_succ]
    refine sv 23 (.slice (some ⟨w2.heap.size, 0 + i * 32, none⟩) 32 32) .of ?_
    simp only [List.set_cons_zero, List.set_cons_succ]
    refine xApp 24 (.tmp 20) (.tmp 23) 28 5 .u8 1 rfl Try.underlying28 (by kernel_rfl) w4.heap.size (.slice none 0 0) [] (by kernel_rfl) PB (.slice (some ⟨w2.heap.size, 0 + i * 32, none⟩) 32 32) (nn (rowN O i)) (by kernel_rfl) (SL.piece b5 i _ (by omega) (by omega)) ?va2_1 ?va2_2 ?va2_3 ?_
    case va2_1 => (simp only [nn_len, List.length_nil]; omega)
    case va2_2 => (simp only [nn_len, List.length_nil]; unfold maxLen; omega)
    case va2_3 => omega
    intro va2 w5 rva2 e2
    have ze2 := e2.size
    have BL_ := BL.ev e2 (fun i h => by have := lPB_1 _ h; omega)
    have b3_ := b3.ev e2 (fun h => by have := lPB_1 _ h; omega)
    have b4_ := b4.ev e2 (fun h => by have := lPB_1 _ h; omega)
    have b5_ := b5.ev e2 (fun h => by have := lPB_1 _ h; omega)
    have RB : RowsB 28 Bw w3.heap.size w5 u us ((pairsN dl H O i).map nn) := RB.ev e2 (fun i hi h => by have := lPB_1 _ h; omega)
    have PA_ := PA.ev e2 (fun i hi h => by have := lPA_2 i hi; have := lPB_1 _ h; omega)
    replace BL := BL_; clear BL_
    replace b3 := b3_; clear b3_
    replace b4 := b4_; clear b4_
    replace b5 := b5_; clear b5_
    replace PA := PA_; clear PA_
    obtain ⟨A2, C2, hA2⟩ := rva2.len
    subst hA2
    replace PB := rva2
    clear rva2 e2
    have lPB_2 := PB.ge
    simp only [List.set_cons_zero, List.set_cons_succ]
    refine sv 10 (.slice A2 ([] ++ (nn (rowN O i))).length C2) .of ?_
    simp only [List.set_cons_zero, List.set_cons_succ]
    refine wpList_nil ?_
    refine hK10 _ _ ?_
    refine wp_seq_k fun K11 hK11 => ?_
    have hb01 := bitF_01 (nn dl) hdb (i : Int)
    refine cPlain ?_
    refine sv 25 (.agg (cellsOf .u8 (nn (dl)))) (Val.blk 23 _ rfl 0 32 (by kernel_rfl) b3 _ Try.underlying23 rfl (by kernel_rfl) (by (try simp only [nn_len]); try omega) _ (seg_all' _ (by (try simp only [nn_len]); try omega))) ?_
    simp only [List.set_cons_zero, List.set_cons_succ]
    refine sv 26 (.int .i64 ((i : Nat) : Int)) .of ?_
    simp only [List.set_cons_zero, List.set_cons_succ]
    refine xCall 27 52 #[.agg (cellsOf .u8 (nn (dl))), .int .i64 ((i : Nat) : Int)] (by kernel_rfl) ?_
    refine (r9bit_any dl hdl hdb i (by omega) w5).mono ?_
    rintro en w6 ⟨rfl, hb1⟩
    have e3 := belE0 hb1
    have ze3 := e3.size
    replace BL := BL.e0 e3
    replace b3 := b3.e0 e3
    replace b4 := b4.e0 e3
    replace b5 := b5.e0 e3
    have RB : RowsB 28 Bw w3.heap.size w6 u us ((pairsN dl H O i).map nn) := RB.e0 e3
    replace PA := PA.e0 e3
    replace PB := PB.e0 e3
    clear e3
    refine ⟨.int .i64 (bitF (nn dl) (i : Int)), rfl, ?_⟩
    simp only [List.set_cons_zero, List.set_cons_succ]
    refine sv 28 (.bool (decide ((bitF (nn dl) (i : Int)) = 0))) (Val.cmp .eql 3 _ (.tmp 27) _ rfl .i64 (bitF (nn dl) (i : Int)) 0 (by kernel_rfl) (by kernel_rfl) (by simp) _ rfl) ?_
    simp only [List.set_cons_zero, List.set_cons_succ]
    refine wpList_nil ?_
    refine hK11 _ _ ?_
    refine cDec ((bitF (nn dl) (i : Int)) = 0) (by kernel_rfl) (fun c28 => ?_) (fun c28 => ?_)
    · skip
      refine cPlain ?_
      refine sv 29 (u) .of ?_
      simp only [List.set_cons_zero, List.set_cons_succ]
      refine sv 30 (.slice A1 ([] ++ (nn (rowN H i))).length C1) .of ?_
      simp only [List.set_cons_zero, List.set_cons_succ]
      refine sv 31 (.slice A2 ([] ++ (nn (rowN O i))).length C2) .of ?_
      simp only [List.set_cons_zero, List.set_cons_succ]
      refine xLit 32 101 28 2 _ #[(0, .slice A1 ([] ++ (nn (rowN H i))).length C1), (1, .slice A2 ([] ++ (nn (rowN O i))).length C2)] [.slice A1 ([] ++ (nn (rowN H i))).length C1, .slice A2 ([] ++ (nn (rowN O i))).length C2] rfl (by kernel_rfl) (by kernel_rfl) ?_
      intro w7 n4
      have zn4 := n4.z
      have b32 := n4.c
      replace BL := BL.e0 n4.e
      replace b3 := b3.e0 n4.e
      replace b4 := b4.e0 n4.e
      replace b5 := b5.e0 n4.e
      have RB : RowsB 28 Bw w3.heap.size w7 u us ((pairsN dl H O i).map nn) := RB.e0 n4.e
      replace PA := PA.e0 n4.e
      replace PB := PB.e0 n4.e
      simp only [List.set_cons_zero, List.set_cons_succ]
      refine xAppRows 33 (.tmp 29) (.tmp 32) 101 28 rfl Try.underlying101 info_rsl8 Bw w3.heap.size u us ((pairsN dl H O i).map nn) (by kernel_rfl) RB _ (.slice A1 ([] ++ nn (rowN H i)).length C1) (.slice A2 ([] ++ nn (rowN O i)).length C2) (nn (rowN H i)) (nn (rowN O i)) (by kernel_rfl) (SV.ofCelM (n := 2) b32 rfl (by unfold maxLen; omega)) (PA.sl.castR rfl (List.nil_append _)) (PB.sl.castR rfl (List.nil_append _)) (fun g hg => by have := lPA_2 _ hg; omega) (fun g hg => by have := lPB_2 _ hg; omega) (by omega) (by omega) ?_
      intro v2 w8 hRB hE
      have e4 := hE
      have ze4 := e4.size
      have BL_ := BL.ev e4 (fun i h => by have := RB.lt _ h; omega)
      have b3_ := b3.ev e4 (fun h => by have := RB.lt _ h; omega)
      have b4_ := b4.ev e4 (fun h => by have := RB.lt _ h; omega)
      have b5_ := b5.ev e4 (fun h => by have := RB.lt _ h; omega)
      replace BL := BL_; clear BL_
      replace b3 := b3_; clear b3_
      replace b4 := b4_; clear b4_
      replace b5 := b5_; clear b5_
      clear e4
      have RB : RowsB 28 w8.heap.size w3.heap.size w8 v2 (us ++ [.slice A1 ([] ++ nn (rowN H i)).length C1, .slice A2 ([] ++ nn (rowN O i)).length C2]) ((pairsN dl H O (i + 1)).map nn) := (by have := hRB; rw [pairsN_succ, pair_0 c28, List.map_append]; exact this)
      simp only [List.set_cons_zero, List.set_cons_succ]
      refine sv 7 (v2) .of ?_
      simp only [List.set_cons_zero, List.set_cons_succ]
      refine wpList_nil ?_
      refine hK7 _ _ ?_
      refine cPlain ?_
      refine sv 13 (.int .i64 ((i : Nat) : Int)) .of ?_
      simp only [List.set_cons_zero, List.set_cons_succ]
      refine sv 14 (.int .i64 (((i : Nat) : Int) + 1)) (Val.add 3 _ (.tmp 13) _ rfl ((i : Nat) : Int) 1 (by kernel_rfl) (by kernel_rfl) (by omega)) ?_
      simp only [List.set_cons_zero, List.set_cons_succ]
      refine sv 8 (.int .i64 (((i : Nat) : Int) + 1)) .of ?_
      simp only [List.set_cons_zero, List.set_cons_succ]
      refine wpList_nil ?_
      refine ⟨_, ?_, i + 1, w8.heap.size, v2, _, rfl, (by omega), cutE, BL, b3, b4, b5, RB, by omega⟩
      omega
    · skip
      refine cPlain ?_
      refine sv 34 (u) .of ?_
      simp only [List.set_cons_zero, List.set_cons_succ]
      refine sv 35 (.slice A2 ([] ++ (nn (rowN O i))).length C2) .of ?_
      simp only [List.set_cons_zero, List.set_cons_succ]
      refine sv 36 (.slice A1 ([] ++ (nn (rowN H i))).length C1) .of ?_
      simp only [List.set_cons_zero, List.set_cons_succ]
      refine xLit 37 101 28 2 _ #[(0, .slice A2 ([] ++ (nn (rowN O i))).length C2), (1, .slice A1 ([] ++ (nn (rowN H i))).length C1)] [.slice A2 ([] ++ (nn (rowN O i))).length C2, .slice A1 ([] ++ (nn (rowN H i))).length C1] rfl (by kernel_rfl) (by kernel_rfl) ?_
      intro w9 n5
      have zn5 := n5.z
      have b37 := n5.c
      replace BL := BL.e0 n5.e
      replace b3 := b3.e0 n5.e
      replace b4 := b4.e0 n5.e
      replace b5 := b5.e0 n5.e
      have RB : RowsB 28 Bw w3.heap.size w9 u us ((pairsN dl H O i).map nn) := RB.e0 n5.e
      replace PA := PA.e0 n5.e
      replace PB := PB.e0 n5.e
      simp only [List.set_cons_zero, List.set_cons_succ]
      refine xAppRows 38 (.tmp 34) (.tmp 37) 101 28 rfl Try.underlying101 info_rsl8 Bw w3.heap.size u us ((pairsN dl H O i).map nn) (by kernel_rfl) RB _ (.slice A2 ([] ++ nn (rowN O i)).length C2) (.slice A1 ([] ++ nn (rowN H i)).length C1) (nn (rowN O i)) (nn (rowN H i)) (by kernel_rfl) (SV.ofCelM (n := 2) b37 rfl (by unfold maxLen; omega)) (PB.sl.castR rfl (List.nil_append _)) (PA.sl.castR rfl (List.nil_append _)) (fun g hg => by have := lPB_2 _ hg; omega) (fun g hg => by have := lPA_2 _ hg; omega) (by omega) (by omega) ?_
      intro v2 w10 hRB hE
      have e5 := hE
      have ze5 := e5.size
      have BL_ := BL.ev e5 (fun i h => by have := RB.lt _ h; omega)
      have b3_ := b3.ev e5 (fun h => by have := RB.lt _ h; omega)
      have b4_ := b4.ev e5 (fun h => by have := RB.lt _ h; omega)
      have b5_ := b5.ev e5 (fun h => by have := RB.lt _ h; omega)
      replace BL := BL_; clear BL_
      replace b3 := b3_; clear b3_
      replace b4 := b4_; clear b4_
      replace b5 := b5_; clear b5_
      clear e5
      have RB : RowsB 28 w10.heap.size w3.heap.size w10 v2 (us ++ [.slice A2 ([] ++ nn (rowN O i)).length C2, .slice A1 ([] ++ nn (rowN H i)).length C1]) ((pairsN dl H O (i + 1)).map nn) := (by have := hRB; rw [pairsN_succ, pair_1 c28 hb01, List.map_append]; exact this)
      simp only [List.set_cons_zero, List.set_cons_succ]
      refine sv 7 (v2) .of ?_
      simp only [List.set_cons_zero, List.set_cons_succ]
      refine wpList_nil ?_
      refine hK7 _ _ ?_
      refine cPlain ?_
      refine sv 13 (.int .i64 ((i : Nat) : Int)) .of ?_
      simp only [List.set_cons_zero, List.set_cons_succ]
      refine sv 14 (.int .i64 (((i : Nat) : Int) + 1)) (Val.add 3 _ (.tmp 13) _ rfl ((i : Nat) : Int) 1 (by kernel_rfl) (by kernel_rfl) (by omega)) ?_
      simp only [List.set_cons_zero, List.set_cons_succ]
      refine sv 8 (.int .i64 (((i : Nat) : Int) + 1)) .of ?_
      simp only [List.set_cons_zero, List.set_cons_succ]
      refine wpList_nil ?_
      refine ⟨_, ?_, i + 1, w10.heap.size, v2, _, rfl, (by omega), cutE, BL, b3, b4, b5, RB, by omega⟩
      omega
  · skip
    refine wp_exit ?_
    simp only [Exit.then, Exit.inBlock, ↓reduceIte, Nat.reduceEqDiff]
    refine hK3 _ _ ?_
    refine wp_seq_k fun K12 hK12 => ?_
    refine cPlain ?_
    refine sv 39 (u) .of ?_
    simp only [List.set_cons_zero, List.set_cons_succ]
    refine sv 6 (u) .of ?_
    simp only [List.set_cons_zero, List.set_cons_succ]
    refine wpList_nil ?_
    refine hK12 _ _ ?_
    refine wp_ret ?_
    (try simp only [Exit.then, Exit.inBlock])
    refine bodyPost_ret (v := u) rT rfl ?_
    refine ⟨u, us, rfl, RB.own.sv, ?_, BL.b⟩
    have hi : i = 256 := by omega
    rw [hi] at RB
    exact SLs.mono RB.le RB.sls

end Go.Proofs.Ytoeaekamoejhcaa
