/-
  law24.awake: the chapter's example.
-/
import Derived.Test.YtanggdnmoaflfaaXferF
import Derived.Test.YtanggdnmoaflfaaPk1
namespace Go.Proofs.Ytanggdnmoaflfaa
open Go.RowKit
set_option linter.unusedVariables false
set_option linter.unusedSimpArgs false
set_option maxRecDepth 100000
attribute [local irreducible] wpList Code.wp wpAnyZ
def stA : Nat → List Nat × List (Int × Int)
  | 0 => (List.replicate 10 0, [])
  | 1 => ([0, 0, 99, 100, 0, 0, 0, 0, 0, 0], [(2, 4)])
  | _ => ([0, 0, 99, 100, 0, 0, 103, 104, 0, 0], [(2, 4), (6, 8)])
def yA : List Nat × List (Int × Int) := ([0, 0, 99, 100, 101, 102, 103, 104, 0, 0], [(2, 8)])
def zA : List Nat × List (Int × Int) := ([97, 98, 99, 100, 101, 102, 103, 104, 0, 0], [(0, 8)])
theorem putA0 : putX (stA 0).1 (stA 0).2 2 [99, 100] = ((stA 1).1, (stA 1).2, 0) := by decide +kernel
theorem putA1 : putX (stA 1).1 (stA 1).2 6 [103, 104] = ((stA 2).1, (stA 2).2, 0) := by decide +kernel
theorem putA3 : putX (stA 2).1 (stA 2).2 3 [100, 101, 102] = (yA.1, yA.2, 0) := by decide +kernel
theorem putA4 : putX yA.1 yA.2 2 [120] = (yA.1, yA.2, 241) := by decide +kernel
theorem putA5 : putX yA.1 yA.2 0 [97, 98] = (zA.1, zA.2, 0) := by decide +kernel
theorem nextA0 : nextV (nextX (stA 2).1 (stA 2).2 9) = .tuple #[.agg #[.int .i64 0, .int .i64 2], .bool true] := by
  rw [show nextX (stA 2).1 (stA 2).2 9 = ((0, 2), true) by decide +kernel]; rfl
theorem nextA1 : nextV (nextX zA.1 zA.2 9) = .tuple #[.agg #[.int .i64 8, .int .i64 10], .bool true] := by
  rw [show nextX zA.1 zA.2 9 = ((8, 10), true) by decide +kernel]; rfl
theorem zA_lt : ∀ x ∈ zA.1, x < 256 := by decide

set_option maxHeartbeats 8000000 in
theorem awake24 (w : World) :
    Calls Try.prog 31 #[] w fun e w' => e = .returned (.bool true) ∧ Below w.heap.size w w' := by
  have BL := Bl.refl w
  go_enter Try.func31, Try.ntmps31
  refine wp_seq_k fun K1 hK1 => ?_
  refine cPlain ?_
  refine sv 0 (.bool false) .of ?_
  simp only [List.set_cons_zero, List.set_cons_succ]
  refine wpList_nil ?_
  refine hK1 _ _ ?_
  refine wp_seq_k fun K2 hK2 => ?_
  refine cPlain ?_
  refine xCall 18 32 #[.int .i64 10] (by kernel_rfl) ?_
  refine (begin_any 10 (by omega) w).mono ?_
  rintro en w1 ⟨⟨dv0, rfl, O1⟩, hb1⟩
  obtain ⟨X0, Y0, hq⟩ := O1.len
  rw [show (nn (List.replicate 10 0)).length = 10 from rfl] at hq
  subst hq
  have O2 := OwnE.nil 70 .i64 2 w.heap.size w1
  have e1 := belE0 hb1
  have ze1 := e1.size
  replace BL := BL.e0 e1
  clear e1
  have lO1_1 := O1.ge
  have lO2_1 := O2.ge
  refine ⟨.tuple #[.agg #[.slice X0 10 Y0, .slice none 0 0], .int .i64 0], rfl, ?_⟩
  simp only [List.set_cons_zero, List.set_cons_succ]
  refine sv 17 (.tuple #[.agg #[.slice X0 10 Y0, .slice none 0 0], .int .i64 0]) .of ?_
  simp only [List.set_cons_zero, List.set_cons_succ]
  refine sv 19 (.agg #[.slice X0 10 Y0, .slice none 0 0]) .of ?_
  simp only [List.set_cons_zero, List.set_cons_succ]
  refine sv 20 (.int .i64 0) .of ?_
  simp only [List.set_cons_zero, List.set_cons_succ]
  refine xAlloc 1 56 [.slice none 0 0, .slice none 0 0] rfl (by kernel_rfl) ?_
  intro w2 n1
  have zn1 := n1.z
  have b1 := n1.c
  replace BL := BL.e0 n1.e
  replace O1 := O1.e0 n1.e
  replace O2 := O2.e0 n1.e
  simp only [List.set_cons_zero, List.set_cons_succ]
  refine xStoreR 56 (.tmp 1) (.tmp 19) rfl w1.heap.size 56 [.slice none 0 0, .slice none 0 0] 0 [.slice X0 10 Y0, .slice none 0 0] (by kernel_rfl) (by kernel_rfl) b1 (by kernel_rfl) (by simp) rfl [.slice X0 10 Y0, .slice none 0 0] rfl ?_
  intro w3 t1
  have zt1 := t1.z
  have BL_ := BL.ev t1.e (fun i h => show w.heap.size ≤ i by have h : i = w1.heap.size := h; omega)
  have O1_ := O1.ev t1.e (fun i hi => show ¬ (i = w1.heap.size) by have := lO1_1 i hi; omega)
  have O2_ := O2.ev t1.e (fun i hi => show ¬ (i = w1.heap.size) by have := lO2_1 i hi; omega)
  replace BL := BL_; clear BL_
  replace O1 := O1_; clear O1_
  replace O2 := O2_; clear O2_
  replace b1 : Cel w3 w1.heap.size 56 [.slice X0 10 Y0, .slice none 0 0] := t1.c
  clear t1
  refine sv 2 (.int .i64 0) .of ?_
  simp only [List.set_cons_zero, List.set_cons_succ]
  refine wpList_nil ?_
  refine hK2 _ _ ?_
  refine wp_seq_k fun K3 hK3 => ?_
  refine wp_seq_k fun K4 hK4 => ?_
  refine cPlain ?_
  refine xLit 21 29 5 2 _ #[(0, .int .u8 99), (1, .int .u8 100)] [.int .u8 99, .int .u8 100] rfl (by kernel_rfl) (by kernel_rfl) ?_
  intro w4 n2
  have zn2 := n2.z
  have b21 := n2.c
  replace b21 : Blk .u8 w4 w3.heap.size 5 [99, 100] := b21
  replace BL := BL.e0 n2.e
  replace O1 := O1.e0 n2.e
  replace O2 := O2.e0 n2.e
  replace b1 := b1.e0 n2.e
  have sb21 : SL .u8 w4 (.slice (some ⟨w3.heap.size, 0, none⟩) 2 2) [99, 100] := SL.ofBlk b21 rfl (by unfold maxLen; omega)
  have lb21 : ∀ i, Value.ownBlock (.slice (some ⟨w3.heap.size, 0, none⟩) 2 2) = some i → w3.heap.size ≤ i ∧ i < w4.heap.size := ownB_lit (by omega)
  simp only [List.set_cons_zero, List.set_cons_succ]
  refine xMark 22 29 5 (.tmp 21) rfl Try.underlying29 Try.underlying5 w3.heap.size 2 [99, 100] (by kernel_rfl) b21 rfl (by unfold maxLen; omega) ?_
  intro w5 b21m e2 ze2
  have BL_ := BL.ev e2 (fun i h => show w.heap.size ≤ i by have h : i = w3.heap.size := h; omega)
  have O1_ := O1.ev e2 (fun i hi => show ¬ (i = w3.heap.size) by have := lO1_1 i hi; omega)
  have O2_ := O2.ev e2 (fun i hi => show ¬ (i = w3.heap.size) by have := lO2_1 i hi; omega)
  have b1_ := b1.ev e2 (show ¬ (w1.heap.size = w3.heap.size) by omega)
  replace BL := BL_; clear BL_
  replace O1 := O1_; clear O1_
  replace O2 := O2_; clear O2_
  replace b1 := b1_; clear b1_
  replace sb21 := b21m; clear b21m b21 e2
  simp only [List.set_cons_zero, List.set_cons_succ]
  refine sv 23 (.agg #[.int .i64 2, .slice (some ⟨w3.heap.size, 0, none⟩) 2 2]) .of ?_
  simp only [List.set_cons_zero, List.set_cons_succ]
  refine xLit 24 29 5 2 _ #[(0, .int .u8 103), (1, .int .u8 104)] [.int .u8 103, .int .u8 104] rfl (by kernel_rfl) (by kernel_rfl) ?_
  intro w6 n3
  have zn3 := n3.z
  have b24 := n3.c
  replace b24 : Blk .u8 w6 w5.heap.size 5 [103, 104] := b24
  replace BL := BL.e0 n3.e
  replace O1 := O1.e0 n3.e
  replace O2 := O2.e0 n3.e
  replace b1 := b1.e0 n3.e
  replace sb21 := sb21.e0 n3.e
  have sb24 : SL .u8 w6 (.slice (some ⟨w5.heap.size, 0, none⟩) 2 2) [103, 104] := SL.ofBlk b24 rfl (by unfold maxLen; omega)
  have lb24 : ∀ i, Value.ownBlock (.slice (some ⟨w5.heap.size, 0, none⟩) 2 2) = some i → w5.heap.size ≤ i ∧ i < w6.heap.size := ownB_lit (by omega)
  simp only [List.set_cons_zero, List.set_cons_succ]
  refine xMark 25 29 5 (.tmp 24) rfl Try.underlying29 Try.underlying5 w5.heap.size 2 [103, 104] (by kernel_rfl) b24 rfl (by unfold maxLen; omega) ?_
  intro w7 b24m e3 ze3
  have BL_ := BL.ev e3 (fun i h => show w.heap.size ≤ i by have h : i = w5.heap.size := h; omega)
  have O1_ := O1.ev e3 (fun i hi => show ¬ (i = w5.heap.size) by have := lO1_1 i hi; omega)
  have O2_ := O2.ev e3 (fun i hi => show ¬ (i = w5.heap.size) by have := lO2_1 i hi; omega)
  have b1_ := b1.ev e3 (show ¬ (w1.heap.size = w5.heap.size) by omega)
  have sb21_ := sb21.ev e3 (fun i hi => show ¬ (i = w5.heap.size) by have := lb21 i hi; omega)
  replace BL := BL_; clear BL_
  replace O1 := O1_; clear O1_
  replace O2 := O2_; clear O2_
  replace b1 := b1_; clear b1_
  replace sb21 := sb21_; clear sb21_
  replace sb24 := b24m; clear b24m b24 e3
  simp only [List.set_cons_zero, List.set_cons_succ]
  refine sv 26 (.agg #[.int .i64 6, .slice (some ⟨w5.heap.size, 0, none⟩) 2 2]) .of ?_
  simp only [List.set_cons_zero, List.set_cons_succ]
  refine xLit 27 72 77 2 _ #[(0, .agg #[.int .i64 2, .slice (some ⟨w3.heap.size, 0, none⟩) 2 2]), (1, .agg #[.int .i64 6, .slice (some ⟨w5.heap.size, 0, none⟩) 2 2])] [.int .i64 2, .slice (some ⟨w3.heap.size, 0, none⟩) 2 2, .int .i64 6, .slice (some ⟨w5.heap.size, 0, none⟩) 2 2] rfl (by kernel_rfl) (by kernel_rfl) ?_
  intro w8 n4
  have zn4 := n4.z
  have b27 := n4.c
  replace BL := BL.e0 n4.e
  replace O1 := O1.e0 n4.e
  replace O2 := O2.e0 n4.e
  replace b1 := b1.e0 n4.e
  replace sb21 := sb21.e0 n4.e
  replace sb24 := sb24.e0 n4.e
  simp only [List.set_cons_zero, List.set_cons_succ]
  refine sv 28 (.int .i64 (2 : Int)) .of ?_
  simp only [List.set_cons_zero, List.set_cons_succ]
  refine sv 29 (.int .i64 0) .of ?_
  simp only [List.set_cons_zero, List.set_cons_succ]
  refine wpList_nil ?_
  refine hK4 _ _ ?_
  refine wp_block ?_
  refine cLoop (fun N_ A_ w_ => ∃ (i : Nat) (AX BX : Option Addr) (CX EX : Nat), (N_ = 2 - i ∧ (i ≤ 2) ∧ (∃ s1 : Nat → Value, A_ = ⟨[(s1 0), .pointer (some ⟨w1.heap.size, 0, none⟩), .int .i64 0, undef, (s1 4), (s1 5), (s1 6), undef, undef, undef, undef, undef, undef, undef, undef, undef, undef, .tuple #[.agg #[.slice X0 10 Y0, .slice none 0 0], .int .i64 0], .tuple #[.agg #[.slice X0 10 Y0, .slice none 0 0], .int .i64 0], .agg #[.slice X0 10 Y0, .slice none 0 0], .int .i64 0, .slice (some ⟨w3.heap.size, 0, none⟩) 2 2, .slice (some ⟨w3.heap.size, 0, none⟩) 2 2, .agg #[.int .i64 2, .slice (some ⟨w3.heap.size, 0, none⟩) 2 2], .slice (some ⟨w5.heap.size, 0, none⟩) 2 2, .slice (some ⟨w5.heap.size, 0, none⟩) 2 2, .agg #[.int .i64 6, .slice (some ⟨w5.heap.size, 0, none⟩) 2 2], .slice (some ⟨w7.heap.size, 0, none⟩) 2 2, .int .i64 (2 : Int), .int .i64 ((i : Nat) : Int), (s1 30), (s1 31), (s1 32), (s1 33), (s1 34), (s1 35), (s1 36), (s1 37), (s1 38), (s1 39), (s1 40), (s1 41), (s1 42), (s1 43), (s1 44), (s1 45), undef, undef, undef, undef, undef, undef, undef, undef, undef, undef, undef, undef, undef, undef, undef, undef, undef, undef, undef, undef, undef, undef, undef, undef, undef, undef, undef, undef, undef, undef, undef, undef, undef, undef, undef, undef, undef, undef, undef, undef, undef, undef, undef, undef, undef, undef, undef, undef, undef, undef, undef, undef, undef, undef, undef, undef, undef, undef, undef, undef, undef, undef, undef, undef, undef, undef, undef, undef, undef, undef, undef, undef, undef, undef, undef, undef, undef, undef, undef, undef, undef, undef, undef, undef, undef, undef, undef, undef, undef, undef, undef, undef, undef, undef, undef].toArray, []⟩) ∧ Bl w.heap.size w w_ ∧ Own 5 .u8 w.heap.size w_ (.slice AX 10 CX) (nn (stA i).1) ∧ OwnE 70 .i64 2 w.heap.size w_ (.slice BX (stA i).2.length EX) (spS (stA i).2) ∧ Cel w_ w1.heap.size 56 [.slice AX 10 CX, .slice BX (stA i).2.length EX] ∧ SL .u8 w_ (.slice (some ⟨w3.heap.size, 0, none⟩) 2 2) [99, 100] ∧ SL .u8 w_ (.slice (some ⟨w5.heap.size, 0, none⟩) 2 2) [103, 104] ∧ Cel w_ w7.heap.size 77 [.int .i64 2, .slice (some ⟨w3.heap.size, 0, none⟩) 2 2, .int .i64 6, .slice (some ⟨w5.heap.size, 0, none⟩) 2 2] ∧ w8.heap.size ≤ w_.heap.size)) _ ⟨0, X0, none, Y0, 0, rfl, (by omega), cutE, BL, (O1.mono (by omega)), (O2.mono (by omega)), b1, sb21, sb24, b27, Nat.le_refl _⟩ ?_
  clear BL O1 O2 b1 sb21 sb24 b27
  rintro n_ a_ wl0 ⟨i, AX, BX, CX, EX, rfl, hc0_0, ⟨s1, rfl⟩, BL, O1, O2, b1, sb21, sb24, b27, zl0⟩
  have lO1_2 := O1.ge
  have lO2_2 := O2.ge
  rcases (show i = 0 ∨ i = 1 ∨ i = 2 by omega) with rfl | rfl | rfl
  · skip
    refine wp_seq_k fun K5 hK5 => ?_
    refine cPlain ?_
    refine sv 30 (.bool true) (Val.cmp .lss 3 _ (.tmp 29) (.tmp 28) rfl .i64 0 (2 : Int) (by kernel_rfl) (by kernel_rfl) (by simp) _ (by decide)) ?_
    simp only [List.set_cons_zero, List.set_cons_succ]
    refine wpList_nil ?_
    refine hK5 _ _ ?_
    refine wp_seq_k fun K6 hK6 => ?_
    refine cT ?_
    refine wp_skip ?_
    refine hK6 _ _ ?_
    refine wp_seq_k fun K7 hK7 => ?_
    refine wp_block ?_
    refine wp_seq_k fun K8 hK8 => ?_
    refine cPlain ?_
    refine sv 31 (.pointer (some ⟨w7.heap.size, 0, none⟩)) (Val.idxS 72 (.tmp 27) (.tmp 29) rfl w7.heap.size 0 2 2 0 (by kernel_rfl) (by kernel_rfl) 2 Try.underlying72 (by kernel_rfl) (by omega)) ?_
    simp only [List.set_cons_zero, List.set_cons_succ]
    refine sv 32 (.agg #[.int .i64 2, .slice (some ⟨w3.heap.size, 0, none⟩) 2 2]) (Val.cel 77 _ rfl 0 2 (by kernel_rfl) b27 _ Try.underlying77 rfl (by kernel_rfl) (by simp) [.int .i64 2, .slice (some ⟨w3.heap.size, 0, none⟩) 2 2] rfl) ?_
    simp only [List.set_cons_zero, List.set_cons_succ]
    refine xAlloc 4 77 [.int .i64 0, .slice none 0 0] rfl (by kernel_rfl) ?_
    intro w9 n5
    have zn5 := n5.z
    have b4 := n5.c
    replace BL := BL.e0 n5.e
    replace O1 := O1.e0 n5.e
    replace O2 := O2.e0 n5.e
    replace b1 := b1.e0 n5.e
    replace sb21 := sb21.e0 n5.e
    replace sb24 := sb24.e0 n5.e
    replace b27 := b27.e0 n5.e
    simp only [List.set_cons_zero, List.set_cons_succ]
    refine xStoreR 77 (.tmp 4) (.tmp 32) rfl wl0.heap.size 77 [.int .i64 0, .slice none 0 0] 0 [.int .i64 2, .slice (some ⟨w3.heap.size, 0, none⟩) 2 2] (by kernel_rfl) (by kernel_rfl) b4 (by kernel_rfl) (by simp) rfl [.int .i64 2, .slice (some ⟨w3.heap.size, 0, none⟩) 2 2] rfl ?_
    intro w10 t2
    have zt2 := t2.z
    have BL_ := BL.ev t2.e (fun i h => show w.heap.size ≤ i by have h : i = wl0.heap.size := h; omega)
    have O1_ := O1.ev t2.e (fun i hi => show ¬ (i = wl0.heap.size) by have := lO1_2 i hi; omega)
    have O2_ := O2.ev t2.e (fun i hi => show ¬ (i = wl0.heap.size) by have := lO2_2 i hi; omega)
    have b1_ := b1.ev t2.e (show ¬ (w1.heap.size = wl0.heap.size) by omega)
    have sb21_ := sb21.ev t2.e (fun i hi => show ¬ (i = wl0.heap.size) by have := lb21 i hi; omega)
    have sb24_ := sb24.ev t2.e (fun i hi => show ¬ (i = wl0.heap.size) by have := lb24 i hi; omega)
    have b27_ := b27.ev t2.e (show ¬ (w7.heap.size = wl0.heap.size) by omega)
    replace BL := BL_; clear BL_
    replace O1 := O1_; clear O1_
    replace O2 := O2_; clear O2_
    replace b1 := b1_; clear b1_
    replace sb21 := sb21_; clear sb21_
    replace sb24 := sb24_; clear sb24_
    replace b27 := b27_; clear b27_
    replace b4 : Cel w10 wl0.heap.size 77 [.int .i64 2, .slice (some ⟨w3.heap.size, 0, none⟩) 2 2] := t2.c
    clear t2
    refine wpList_nil ?_
    refine hK8 _ _ ?_
    refine wp_seq_k fun K9 hK9 => ?_
    refine cPlain ?_
    refine sv 34 (.agg #[.slice AX 10 CX, .slice BX (stA 0).2.length EX]) (Val.cel 56 _ rfl 0 2 (by kernel_rfl) b1 _ Try.underlying56 rfl (by kernel_rfl) (by simp) [.slice AX 10 CX, .slice BX (stA 0).2.length EX] rfl) ?_
    simp only [List.set_cons_zero, List.set_cons_succ]
    refine sv 35 (.pointer (some ⟨wl0.heap.size, 0, none⟩)) .of ?_
    simp only [List.set_cons_zero, List.set_cons_succ]
    refine sv 36 (.int .i64 2) (Val.cel1 3 _ rfl wl0.heap.size 0 _ (by kernel_rfl) (fun _ => (by kernel_rfl)) b4 rfl) ?_
    simp only [List.set_cons_zero, List.set_cons_succ]
    refine sv 37 (.pointer (some ⟨wl0.heap.size, 1, none⟩)) .of ?_
    simp only [List.set_cons_zero, List.set_cons_succ]
    refine sv 38 (.slice (some ⟨w3.heap.size, 0, none⟩) 2 2) (Val.cel1 29 _ rfl wl0.heap.size 1 _ (by kernel_rfl) (fun _ => (by kernel_rfl)) b4 rfl) ?_
    simp only [List.set_cons_zero, List.set_cons_succ]
    refine xCall 39 33 #[.agg #[.slice AX 10 CX, .slice BX (stA 0).2.length EX], .int .i64 2, .slice (some ⟨w3.heap.size, 0, none⟩) 2 2] (by kernel_rfl) ?_
    refine (put_any _ _ _ 2 (by decide) (stA 0).1 [99, 100] (stA 0).2 w10 O1.sl sb21 O2.se (by decide) (by decide)).mono ?_
    rintro en w11 ⟨⟨dv1, hv1, he, P1, Q1⟩, hb1⟩
    simp only [putA0] at he P1 Q1
    obtain ⟨X1, Y1, hq⟩ := P1.len
    rw [show (nn (stA 1).1).length = 10 from rfl] at hq
    subst hq
    obtain ⟨Z1, T1, hq, _⟩ := Q1.len
    rw [spS_len] at hq
    subst hq
    subst he
    have e4 := belE0 hb1
    have ze4 := e4.size
    replace BL := BL.e0 e4
    replace b1 := b1.e0 e4
    replace sb21 := sb21.e0 e4
    replace sb24 := sb24.e0 e4
    replace b27 := b27.e0 e4
    replace b4 := b4.e0 e4
    clear e4
    have lP1_1 := P1.ge
    have lQ1_1 := Q1.ge
    refine ⟨.tuple #[.agg #[.slice X1 10 Y1, .slice Z1 (stA 1).2.length T1], .int .i64 0], rfl, ?_⟩
    simp only [List.set_cons_zero, List.set_cons_succ]
    refine sv 33 (.tuple #[.agg #[.slice X1 10 Y1, .slice Z1 (stA 1).2.length T1], .int .i64 0]) .of ?_
    simp only [List.set_cons_zero, List.set_cons_succ]
    refine sv 40 (.agg #[.slice X1 10 Y1, .slice Z1 (stA 1).2.length T1]) .of ?_
    simp only [List.set_cons_zero, List.set_cons_succ]
    refine sv 41 (.int .i64 0) .of ?_
    simp only [List.set_cons_zero, List.set_cons_succ]
    refine xAlloc 5 56 [.slice none 0 0, .slice none 0 0] rfl (by kernel_rfl) ?_
    intro w12 n6
    have zn6 := n6.z
    have b5 := n6.c
    replace BL := BL.e0 n6.e
    replace b1 := b1.e0 n6.e
    replace sb21 := sb21.e0 n6.e
    replace sb24 := sb24.e0 n6.e
    replace b27 := b27.e0 n6.e
    replace b4 := b4.e0 n6.e
    replace P1 := P1.e0 n6.e
    replace Q1 := Q1.e0 n6.e
    simp only [List.set_cons_zero, List.set_cons_succ]
    refine xStoreR 56 (.tmp 5) (.tmp 40) rfl w11.heap.size 56 [.slice none 0 0, .slice none 0 0] 0 [.slice X1 10 Y1, .slice Z1 (stA 1).2.length T1] (by kernel_rfl) (by kernel_rfl) b5 (by kernel_rfl) (by simp) rfl [.slice X1 10 Y1, .slice Z1 (stA 1).2.length T1] rfl ?_
    intro w13 t3
    have zt3 := t3.z
    have BL_ := BL.ev t3.e (fun i h => show w.heap.size ≤ i by have h : i = w11.heap.size := h; omega)
    have b1_ := b1.ev t3.e (show ¬ (w1.heap.size = w11.heap.size) by omega)
    have sb21_ := sb21.ev t3.e (fun i hi => show ¬ (i = w11.heap.size) by have := lb21 i hi; omega)
    have sb24_ := sb24.ev t3.e (fun i hi => show ¬ (i = w11.heap.size) by have := lb24 i hi; omega)
    have b27_ := b27.ev t3.e (show ¬ (w7.heap.size = w11.heap.size) by omega)
    have b4_ := b4.ev t3.e (show ¬ (wl0.heap.size = w11.heap.size) by omega)
    have P1_ := P1.ev t3.e (fun i hi => show ¬ (i = w11.heap.size) by have := lP1_1 i hi; omega)
    have Q1_ := Q1.ev t3.e (fun i hi => show ¬ (i = w11.heap.size) by have := lQ1_1 i hi; omega)
    replace BL := BL_; clear BL_
    replace b1 := b1_; clear b1_
    replace sb21 := sb21_; clear sb21_
    replace sb24 := sb24_; clear sb24_
    replace b27 := b27_; clear b27_
    replace b4 := b4_; clear b4_
    replace P1 := P1_; clear P1_
    replace Q1 := Q1_; clear Q1_
    replace b5 : Cel w13 w11.heap.size 56 [.slice X1 10 Y1, .slice Z1 (stA 1).2.length T1] := t3.c
    clear t3
    refine sv 6 (.int .i64 0) .of ?_
    simp only [List.set_cons_zero, List.set_cons_succ]
    refine wpList_nil ?_
    refine hK9 _ _ ?_
    refine wp_seq_k fun K10 hK10 => ?_
    refine wp_seq_k fun K11 hK11 => ?_
    refine cPlain ?_
    refine sv 42 (.int .i64 0) .of ?_
    simp only [List.set_cons_zero, List.set_cons_succ]
    refine sv 43 (.bool false) (Val.cmp .neq 37 _ (.tmp 42) _ rfl .i64 0 0 (by kernel_rfl) (by kernel_rfl) (by simp) _ rfl) ?_
    simp only [List.set_cons_zero, List.set_cons_succ]
    refine wpList_nil ?_
    refine hK11 _ _ ?_
    refine cF ?_
    refine wp_skip ?_
    refine hK10 _ _ ?_
    refine cPlain ?_
    refine sv 44 (.agg #[.slice X1 10 Y1, .slice Z1 (stA 1).2.length T1]) (Val.cel 56 _ rfl 0 2 (by kernel_rfl) b5 _ Try.underlying56 rfl (by kernel_rfl) (by simp) [.slice X1 10 Y1, .slice Z1 (stA 1).2.length T1] rfl) ?_
    simp only [List.set_cons_zero, List.set_cons_succ]
    refine xStoreR 56 (.tmp 1) (.tmp 44) rfl w1.heap.size 56 [.slice AX 10 CX, .slice BX (stA 0).2.length EX] 0 [.slice X1 10 Y1, .slice Z1 (stA 1).2.length T1] (by kernel_rfl) (by kernel_rfl) b1 (by kernel_rfl) (by simp) rfl [.slice X1 10 Y1, .slice Z1 (stA 1).2.length T1] rfl ?_
    intro w14 t4
    have zt4 := t4.z
    have BL_ := BL.ev t4.e (fun i h => show w.heap.size ≤ i by have h : i = w1.heap.size := h; omega)
    have sb21_ := sb21.ev t4.e (fun i hi => show ¬ (i = w1.heap.size) by have := lb21 i hi; omega)
    have sb24_ := sb24.ev t4.e (fun i hi => show ¬ (i = w1.heap.size) by have := lb24 i hi; omega)
    have b27_ := b27.ev t4.e (show ¬ (w7.heap.size = w1.heap.size) by omega)
    have b4_ := b4.ev t4.e (show ¬ (wl0.heap.size = w1.heap.size) by omega)
    have P1_ := P1.ev t4.e (fun i hi => show ¬ (i = w1.heap.size) by have := lP1_1 i hi; omega)
    have Q1_ := Q1.ev t4.e (fun i hi => show ¬ (i = w1.heap.size) by have := lQ1_1 i hi; omega)
    have b5_ := b5.ev t4.e (show ¬ (w11.heap.size = w1.heap.size) by omega)
    replace BL := BL_; clear BL_
    replace sb21 := sb21_; clear sb21_
    replace sb24 := sb24_; clear sb24_
    replace b27 := b27_; clear b27_
    replace b4 := b4_; clear b4_
    replace P1 := P1_; clear P1_
    replace Q1 := Q1_; clear Q1_
    replace b5 := b5_; clear b5_
    replace b1 : Cel w14 w1.heap.size 56 [.slice X1 10 Y1, .slice Z1 (stA 1).2.length T1] := t4.c
    clear t4
    refine wpList_nil ?_
    refine hK7 _ _ ?_
    refine cPlain ?_
    refine sv 45 (.int .i64 (0 + 1)) (Val.add 3 _ (.tmp 29) _ rfl 0 1 (by kernel_rfl) (by kernel_rfl) (by omega)) ?_
    simp only [List.set_cons_zero, List.set_cons_succ]
    refine sv 29 (.int .i64 (0 + 1)) .of ?_
    simp only [List.set_cons_zero, List.set_cons_succ]
    refine wpList_nil ?_
    refine ⟨_, ?_, 1, X1, Z1, Y1, T1, rfl, (by omega), cutE, BL, (P1.mono (by omega)), (Q1.mono (by omega)), b1, sb21, sb24, b27, by omega⟩
    omega
  · skip
    refine wp_seq_k fun K12 hK12 => ?_
    refine cPlain ?_
    refine sv 30 (.bool true) (Val.cmp .lss 3 _ (.tmp 29) (.tmp 28) rfl .i64 1 (2 : Int) (by kernel_rfl) (by kernel_rfl) (by simp) _ (by decide)) ?_
    simp only [List.set_cons_zero, List.set_cons_succ]
    refine wpList_nil ?_
    refine hK12 _ _ ?_
    refine wp_seq_k fun K13 hK13 => ?_
    refine cT ?_
    refine wp_skip ?_
    refine hK13 _ _ ?_
    refine wp_seq_k fun K14 hK14 => ?_
    refine wp_block ?_
    refine wp_seq_k fun K15 hK15 => ?_
    refine cPlain ?_
    refine sv 31 (.pointer (some ⟨w7.heap.size, 2, none⟩)) (Val.idxS 72 (.tmp 27) (.tmp 29) rfl w7.heap.size 0 2 2 1 (by kernel_rfl) (by kernel_rfl) 2 Try.underlying72 (by kernel_rfl) (by omega)) ?_
    simp only [List.set_cons_zero, List.set_cons_succ]
    refine sv 32 (.agg #[.int .i64 6, .slice (some ⟨w5.heap.size, 0, none⟩) 2 2]) (Val.cel 77 _ rfl 2 2 (by kernel_rfl) b27 _ Try.underlying77 rfl (by kernel_rfl) (by simp) [.int .i64 6, .slice (some ⟨w5.heap.size, 0, none⟩) 2 2] rfl) ?_
    simp only [List.set_cons_zero, List.set_cons_succ]
    refine xAlloc 4 77 [.int .i64 0, .slice none 0 0] rfl (by kernel_rfl) ?_
    intro w15 n7
    have zn7 := n7.z
    have b4 := n7.c
    replace BL := BL.e0 n7.e
    replace O1 := O1.e0 n7.e
    replace O2 := O2.e0 n7.e
    replace b1 := b1.e0 n7.e
    replace sb21 := sb21.e0 n7.e
    replace sb24 := sb24.e0 n7.e
    replace b27 := b27.e0 n7.e
    simp only [List.set_cons_zero, List.set_cons_succ]
    refine xStoreR 77 (.tmp 4) (.tmp 32) rfl wl0.heap.size 77 [.int .i64 0, .slice none 0 0] 0 [.int .i64 6, .slice (some ⟨w5.heap.size, 0, none⟩) 2 2] (by kernel_rfl) (by kernel_rfl) b4 (by kernel_rfl) (by simp) rfl [.int .i64 6, .slice (some ⟨w5.heap.size, 0, none⟩) 2 2] rfl ?_
    intro w16 t5
    have zt5 := t5.z
    have BL_ := BL.ev t5.e (fun i h => show w.heap.size ≤ i by have h : i = wl0.heap.size := h; omega)
    have O1_ := O1.ev t5.e (fun i hi => show ¬ (i = wl0.heap.size) by have := lO1_2 i hi; omega)
    have O2_ := O2.ev t5.e (fun i hi => show ¬ (i = wl0.heap.size) by have := lO2_2 i hi; omega)
    have b1_ := b1.ev t5.e (show ¬ (w1.heap.size = wl0.heap.size) by omega)
    have sb21_ := sb21.ev t5.e (fun i hi => show ¬ (i = wl0.heap.size) by have := lb21 i hi; omega)
    have sb24_ := sb24.ev t5.e (fun i hi => show ¬ (i = wl0.heap.size) by have := lb24 i hi; omega)
    have b27_ := b27.ev t5.e (show ¬ (w7.heap.size = wl0.heap.size) by omega)
    replace BL := BL_; clear BL_
    replace O1 := O1_; clear O1_
    replace O2 := O2_; clear O2_
    replace b1 := b1_; clear b1_
    replace sb21 := sb21_; clear sb21_
    replace sb24 := sb24_; clear sb24_
    replace b27 := b27_; clear b27_
    replace b4 : Cel w16 wl0.heap.size 77 [.int .i64 6, .slice (some ⟨w5.heap.size, 0, none⟩) 2 2] := t5.c
    clear t5
    refine wpList_nil ?_
    refine hK15 _ _ ?_
    refine wp_seq_k fun K16 hK16 => ?_
    refine cPlain ?_
    refine sv 34 (.agg #[.slice AX 10 CX, .slice BX (stA 1).2.length EX]) (Val.cel 56 _ rfl 0 2 (by kernel_rfl) b1 _ Try.underlying56 rfl (by kernel_rfl) (by simp) [.slice AX 10 CX, .slice BX (stA 1).2.length EX] rfl) ?_
    simp only [List.set_cons_zero, List.set_cons_succ]
    refine sv 35 (.pointer (some ⟨wl0.heap.size, 0, none⟩)) .of ?_
    simp only [List.set_cons_zero, List.set_cons_succ]
    refine sv 36 (.int .i64 6) (Val.cel1 3 _ rfl wl0.heap.size 0 _ (by kernel_rfl) (fun _ => (by kernel_rfl)) b4 rfl) ?_
    simp only [List.set_cons_zero, List.set_cons_succ]
    refine sv 37 (.pointer (some ⟨wl0.heap.size, 1, none⟩)) .of ?_
    simp only [List.set_cons_zero, List.set_cons_succ]
    refine sv 38 (.slice (some ⟨w5.heap.size, 0, none⟩) 2 2) (Val.cel1 29 _ rfl wl0.heap.size 1 _ (by kernel_rfl) (fun _ => (by kernel_rfl)) b4 rfl) ?_
    simp only [List.set_cons_zero, List.set_cons_succ]
    refine xCall 39 33 #[.agg #[.slice AX 10 CX, .slice BX (stA 1).2.length EX], .int .i64 6, .slice (some ⟨w5.heap.size, 0, none⟩) 2 2] (by kernel_rfl) ?_
    refine (put_any _ _ _ 6 (by decide) (stA 1).1 [103, 104] (stA 1).2 w16 O1.sl sb24 O2.se (by decide) (by decide)).mono ?_
    rintro en w17 ⟨⟨dv1, hv1, he, P1, Q1⟩, hb1⟩
    simp only [putA1] at he P1 Q1
    obtain ⟨X1, Y1, hq⟩ := P1.len
    rw [show (nn (stA 2).1).length = 10 from rfl] at hq
    subst hq
    obtain ⟨Z1, T1, hq, _⟩ := Q1.len
    rw [spS_len] at hq
    subst hq
    subst he
    have e5 := belE0 hb1
    have ze5 := e5.size
    replace BL := BL.e0 e5
    replace b1 := b1.e0 e5
    replace sb21 := sb21.e0 e5
    replace sb24 := sb24.e0 e5
    replace b27 := b27.e0 e5
    replace b4 := b4.e0 e5
    clear e5
    have lP1_2 := P1.ge
    have lQ1_2 := Q1.ge
    refine ⟨.tuple #[.agg #[.slice X1 10 Y1, .slice Z1 (stA 2).2.length T1], .int .i64 0], rfl, ?_⟩
    simp only [List.set_cons_zero, List.set_cons_succ]
    refine sv 33 (.tuple #[.agg #[.slice X1 10 Y1, .slice Z1 (stA 2).2.length T1], .int .i64 0]) .of ?_
    simp only [List.set_cons_zero, List.set_cons_succ]
    refine sv 40 (.agg #[.slice X1 10 Y1, .slice Z1 (stA 2).2.length T1]) .of ?_
    simp only [List.set_cons_zero, List.set_cons_succ]
    refine sv 41 (.int .i64 0) .of ?_
    simp only [List.set_cons_zero, List.set_cons_succ]
    refine xAlloc 5 56 [.slice none 0 0, .slice none 0 0] rfl (by kernel_rfl) ?_
    intro w18 n8
    have zn8 := n8.z
    have b5 := n8.c
    replace BL := BL.e0 n8.e
    replace b1 := b1.e0 n8.e
    replace sb21 := sb21.e0 n8.e
    replace sb24 := sb24.e0 n8.e
    replace b27 := b27.e0 n8.e
    replace b4 := b4.e0 n8.e
    replace P1 := P1.e0 n8.e
    replace Q1 := Q1.e0 n8.e
    simp only [List.set_cons_zero, List.set_cons_succ]
    refine xStoreR 56 (.tmp 5) (.tmp 40) rfl w17.heap.size 56 [.slice none 0 0, .slice none 0 0] 0 [.slice X1 10 Y1, .slice Z1 (stA 2).2.length T1] (by kernel_rfl) (by kernel_rfl) b5 (by kernel_rfl) (by simp) rfl [.slice X1 10 Y1, .slice Z1 (stA 2).2.length T1] rfl ?_
    intro w19 t6
    have zt6 := t6.z
    have BL_ := BL.ev t6.e (fun i h => show w.heap.size ≤ i by have h : i = w17.heap.size := h; omega)
    have b1_ := b1.ev t6.e (show ¬ (w1.heap.size = w17.heap.size) by omega)
    have sb21_ := sb21.ev t6.e (fun i hi => show ¬ (i = w17.heap.size) by have := lb21 i hi; omega)
    have sb24_ := sb24.ev t6.e (fun i hi => show ¬ (i = w17.heap.size) by have := lb24 i hi; omega)
    have b27_ := b27.ev t6.e (show ¬ (w7.heap.size = w17.heap.size) by omega)
    have b4_ := b4.ev t6.e (show ¬ (wl0.heap.size = w17.heap.size) by omega)
    have P1_ := P1.ev t6.e (fun i hi => show ¬ (i = w17.heap.size) by have := lP1_2 i hi; omega)
    have Q1_ := Q1.ev t6.e (fun i hi => show ¬ (i = w17.heap.size) by have := lQ1_2 i hi; omega)
    replace BL := BL_; clear BL_
    replace b1 := b1_; clear b1_
    replace sb21 := sb21_; clear sb21_
    replace sb24 := sb24_; clear sb24_
    replace b27 := b27_; clear b27_
    replace b4 := b4_; clear b4_
    replace P1 := P1_; clear P1_
    replace Q1 := Q1_; clear Q1_
    replace b5 : Cel w19 w17.heap.size 56 [.slice X1 10 Y1, .slice Z1 (stA 2).2.length T1] := t6.c
    clear t6
    refine sv 6 (.int .i64 0) .of ?_
    simp only [List.set_cons_zero, List.set_cons_succ]
    refine wpList_nil ?_
    refine hK16 _ _ ?_
    refine wp_seq_k fun K17 hK17 => ?_
    refine wp_seq_k fun K18 hK18 => ?_
    refine cPlain ?_
    refine sv 42 (.int .i64 0) .of ?_
    simp only [List.set_cons_zero, List.set_cons_succ]
    refine sv 43 (.bool false) (Val.cmp .neq 37 _ (.tmp 42) _ rfl .i64 0 0 (by kernel_rfl) (by kernel_rfl) (by simp) _ rfl) ?_
    simp only [List.set_cons_zero, List.set_cons_succ]
    refine wpList_nil ?_
    refine hK18 _ _ ?_
    refine cF ?_
    refine wp_skip ?_
    refine hK17 _ _ ?_
    refine cPlain ?_
    refine sv 44 (.agg #[.slice X1 10 Y1, .slice Z1 (stA 2).2.length T1]) (Val.cel 56 _ rfl 0 2 (by kernel_rfl) b5 _ Try.underlying56 rfl (by kernel_rfl) (by simp) [.slice X1 10 Y1, .slice Z1 (stA 2).2.length T1] rfl) ?_
    simp only [List.set_cons_zero, List.set_cons_succ]
    refine xStoreR 56 (.tmp 1) (.tmp 44) rfl w1.heap.size 56 [.slice AX 10 CX, .slice BX (stA 1).2.length EX] 0 [.slice X1 10 Y1, .slice Z1 (stA 2).2.length T1] (by kernel_rfl) (by kernel_rfl) b1 (by kernel_rfl) (by simp) rfl [.slice X1 10 Y1, .slice Z1 (stA 2).2.length T1] rfl ?_
    intro w20 t7
    have zt7 := t7.z
    have BL_ := BL.ev t7.e (fun i h => show w.heap.size ≤ i by have h : i = w1.heap.size := h; omega)
    have sb21_ := sb21.ev t7.e (fun i hi => show ¬ (i = w1.heap.size) by have := lb21 i hi; omega)
    have sb24_ := sb24.ev t7.e (fun i hi => show ¬ (i = w1.heap.size) by have := lb24 i hi; omega)
    have b27_ := b27.ev t7.e (show ¬ (w7.heap.size = w1.heap.size) by omega)
    have b4_ := b4.ev t7.e (show ¬ (wl0.heap.size = w1.heap.size) by omega)
    have P1_ := P1.ev t7.e (fun i hi => show ¬ (i = w1.heap.size) by have := lP1_2 i hi; omega)
    have Q1_ := Q1.ev t7.e (fun i hi => show ¬ (i = w1.heap.size) by have := lQ1_2 i hi; omega)
    have b5_ := b5.ev t7.e (show ¬ (w17.heap.size = w1.heap.size) by omega)
    replace BL := BL_; clear BL_
    replace sb21 := sb21_; clear sb21_
    replace sb24 := sb24_; clear sb24_
    replace b27 := b27_; clear b27_
    replace b4 := b4_; clear b4_
    replace P1 := P1_; clear P1_
    replace Q1 := Q1_; clear Q1_
    replace b5 := b5_; clear b5_
    replace b1 : Cel w20 w1.heap.size 56 [.slice X1 10 Y1, .slice Z1 (stA 2).2.length T1] := t7.c
    clear t7
    refine wpList_nil ?_
    refine hK14 _ _ ?_
    refine cPlain ?_
    refine sv 45 (.int .i64 (1 + 1)) (Val.add 3 _ (.tmp 29) _ rfl 1 1 (by kernel_rfl) (by kernel_rfl) (by omega)) ?_
    simp only [List.set_cons_zero, List.set_cons_succ]
    refine sv 29 (.int .i64 (1 + 1)) .of ?_
    simp only [List.set_cons_zero, List.set_cons_succ]
    refine wpList_nil ?_
    refine ⟨_, ?_, 2, X1, Z1, Y1, T1, rfl, (by omega), cutE, BL, (P1.mono (by omega)), (Q1.mono (by omega)), b1, sb21, sb24, b27, by omega⟩
    omega
  · skip
    refine wp_seq_k fun K19 hK19 => ?_
    refine cPlain ?_
    refine sv 30 (.bool false) (Val.cmp .lss 3 _ (.tmp 29) (.tmp 28) rfl .i64 2 (2 : Int) (by kernel_rfl) (by kernel_rfl) (by simp) _ (by decide)) ?_
    simp only [List.set_cons_zero, List.set_cons_succ]
    refine wpList_nil ?_
    refine hK19 _ _ ?_
    refine wp_seq_k fun K20 hK20 => ?_
    refine cF ?_
    refine wp_exit ?_
    simp only [Exit.then, Exit.inBlock, ↓reduceIte, Nat.reduceEqDiff]
    refine hK3 _ _ ?_
    refine wp_seq_k fun K21 hK21 => ?_
    refine cPlain ?_
    refine sv 47 (.agg #[.slice AX 10 CX, .slice BX (stA 2).2.length EX]) (Val.cel 56 _ rfl 0 2 (by kernel_rfl) b1 _ Try.underlying56 rfl (by kernel_rfl) (by simp) [.slice AX 10 CX, .slice BX (stA 2).2.length EX] rfl) ?_
    simp only [List.set_cons_zero, List.set_cons_succ]
    refine xCall 48 38 #[.agg #[.slice AX 10 CX, .slice BX (stA 2).2.length EX], .int .i64 9] (by kernel_rfl) ?_
    refine (xnext_any _ _ (stA 2).1 (stA 2).2 9 wl0 O1.sl O2.se (by decide)).mono ?_
    rintro en w21 ⟨he, hb1⟩
    rw [nextA0] at he
    subst he
    have e6 := belE0 hb1
    have ze6 := e6.size
    replace BL := BL.e0 e6
    replace O1 := O1.e0 e6
    replace O2 := O2.e0 e6
    replace b1 := b1.e0 e6
    replace sb21 := sb21.e0 e6
    replace sb24 := sb24.e0 e6
    replace b27 := b27.e0 e6
    clear e6
    refine ⟨.tuple #[.agg #[.int .i64 0, .int .i64 2], .bool true], rfl, ?_⟩
    simp only [List.set_cons_zero, List.set_cons_succ]
    refine sv 46 (.tuple #[.agg #[.int .i64 0, .int .i64 2], .bool true]) .of ?_
    simp only [List.set_cons_zero, List.set_cons_succ]
    refine sv 49 (.agg #[.int .i64 0, .int .i64 2]) .of ?_
    simp only [List.set_cons_zero, List.set_cons_succ]
    refine sv 50 (.bool true) .of ?_
    simp only [List.set_cons_zero, List.set_cons_succ]
    refine xAlloc 7 70 [.int .i64 0, .int .i64 0] rfl (by kernel_rfl) ?_
    intro w22 n9
    have zn9 := n9.z
    have b7 := n9.c
    replace BL := BL.e0 n9.e
    replace O1 := O1.e0 n9.e
    replace O2 := O2.e0 n9.e
    replace b1 := b1.e0 n9.e
    replace sb21 := sb21.e0 n9.e
    replace sb24 := sb24.e0 n9.e
    replace b27 := b27.e0 n9.e
    simp only [List.set_cons_zero, List.set_cons_succ]
    refine xStoreR 70 (.tmp 7) (.tmp 49) rfl w21.heap.size 70 [.int .i64 0, .int .i64 0] 0 [.int .i64 0, .int .i64 2] (by kernel_rfl) (by kernel_rfl) b7 (by kernel_rfl) (by simp) rfl [.int .i64 0, .int .i64 2] rfl ?_
    intro w23 t8
    have zt8 := t8.z
    have BL_ := BL.ev t8.e (fun i h => show w.heap.size ≤ i by have h : i = w21.heap.size := h; omega)
    have O1_ := O1.ev t8.e (fun i hi => show ¬ (i = w21.heap.size) by have := lO1_2 i hi; omega)
    have O2_ := O2.ev t8.e (fun i hi => show ¬ (i = w21.heap.size) by have := lO2_2 i hi; omega)
    have b1_ := b1.ev t8.e (show ¬ (w1.heap.size = w21.heap.size) by omega)
    have sb21_ := sb21.ev t8.e (fun i hi => show ¬ (i = w21.heap.size) by have := lb21 i hi; omega)
    have sb24_ := sb24.ev t8.e (fun i hi => show ¬ (i = w21.heap.size) by have := lb24 i hi; omega)
    have b27_ := b27.ev t8.e (show ¬ (w7.heap.size = w21.heap.size) by omega)
    replace BL := BL_; clear BL_
    replace O1 := O1_; clear O1_
    replace O2 := O2_; clear O2_
    replace b1 := b1_; clear b1_
    replace sb21 := sb21_; clear sb21_
    replace sb24 := sb24_; clear sb24_
    replace b27 := b27_; clear b27_
    replace b7 : Cel w23 w21.heap.size 70 [.int .i64 0, .int .i64 2] := t8.c
    clear t8
    refine sv 8 (.bool true) .of ?_
    simp only [List.set_cons_zero, List.set_cons_succ]
    refine wpList_nil ?_
    refine hK21 _ _ ?_
    refine wp_seq_k fun K22 hK22 => ?_
    refine cPlain ?_
    refine sv 52 (.agg #[.slice AX 10 CX, .slice BX (stA 2).2.length EX]) (Val.cel 56 _ rfl 0 2 (by kernel_rfl) b1 _ Try.underlying56 rfl (by kernel_rfl) (by simp) [.slice AX 10 CX, .slice BX (stA 2).2.length EX] rfl) ?_
    simp only [List.set_cons_zero, List.set_cons_succ]
    refine xLit 53 29 5 3 _ #[(0, .int .u8 100), (1, .int .u8 101), (2, .int .u8 102)] [.int .u8 100, .int .u8 101, .int .u8 102] rfl (by kernel_rfl) (by kernel_rfl) ?_
    intro w24 n10
    have zn10 := n10.z
    have b53 := n10.c
    replace b53 : Blk .u8 w24 w23.heap.size 5 [100, 101, 102] := b53
    replace BL := BL.e0 n10.e
    replace O1 := O1.e0 n10.e
    replace O2 := O2.e0 n10.e
    replace b1 := b1.e0 n10.e
    replace sb21 := sb21.e0 n10.e
    replace sb24 := sb24.e0 n10.e
    replace b27 := b27.e0 n10.e
    replace b7 := b7.e0 n10.e
    have sb53 : SL .u8 w24 (.slice (some ⟨w23.heap.size, 0, none⟩) 3 3) [100, 101, 102] := SL.ofBlk b53 rfl (by unfold maxLen; omega)
    have lb53 : ∀ i, Value.ownBlock (.slice (some ⟨w23.heap.size, 0, none⟩) 3 3) = some i → w23.heap.size ≤ i ∧ i < w24.heap.size := ownB_lit (by omega)
    simp only [List.set_cons_zero, List.set_cons_succ]
    refine xMark 54 29 5 (.tmp 53) rfl Try.underlying29 Try.underlying5 w23.heap.size 3 [100, 101, 102] (by kernel_rfl) b53 rfl (by unfold maxLen; omega) ?_
    intro w25 b53m e7 ze7
    have BL_ := BL.ev e7 (fun i h => show w.heap.size ≤ i by have h : i = w23.heap.size := h; omega)
    have O1_ := O1.ev e7 (fun i hi => show ¬ (i = w23.heap.size) by have := lO1_2 i hi; omega)
    have O2_ := O2.ev e7 (fun i hi => show ¬ (i = w23.heap.size) by have := lO2_2 i hi; omega)
    have b1_ := b1.ev e7 (show ¬ (w1.heap.size = w23.heap.size) by omega)
    have sb21_ := sb21.ev e7 (fun i hi => show ¬ (i = w23.heap.size) by have := lb21 i hi; omega)
    have sb24_ := sb24.ev e7 (fun i hi => show ¬ (i = w23.heap.size) by have := lb24 i hi; omega)
    have b27_ := b27.ev e7 (show ¬ (w7.heap.size = w23.heap.size) by omega)
    have b7_ := b7.ev e7 (show ¬ (w21.heap.size = w23.heap.size) by omega)
    replace BL := BL_; clear BL_
    replace O1 := O1_; clear O1_
    replace O2 := O2_; clear O2_
    replace b1 := b1_; clear b1_
    replace sb21 := sb21_; clear sb21_
    replace sb24 := sb24_; clear sb24_
    replace b27 := b27_; clear b27_
    replace b7 := b7_; clear b7_
    replace sb53 := b53m; clear b53m b53 e7
    simp only [List.set_cons_zero, List.set_cons_succ]
    refine xCall 55 33 #[.agg #[.slice AX 10 CX, .slice BX (stA 2).2.length EX], .int .i64 3, .slice (some ⟨w23.heap.size, 0, none⟩) 3 3] (by kernel_rfl) ?_
    refine (put_any _ _ _ 3 (by decide) (stA 2).1 [100, 101, 102] (stA 2).2 w25 O1.sl sb53 O2.se (by decide) (by decide)).mono ?_
    rintro en w26 ⟨⟨dv3, hv3, he, P3, Q3⟩, hb1⟩
    simp only [putA3] at he P3 Q3
    obtain ⟨X3, Y3, hq⟩ := P3.len
    rw [show (nn yA.1).length = 10 from rfl] at hq
    subst hq
    obtain ⟨Z3, T3, hq, _⟩ := Q3.len
    rw [spS_len] at hq
    subst hq
    subst he
    have e8 := belE0 hb1
    have ze8 := e8.size
    replace BL := BL.e0 e8
    replace O1 := O1.e0 e8
    replace O2 := O2.e0 e8
    replace b1 := b1.e0 e8
    replace sb21 := sb21.e0 e8
    replace sb24 := sb24.e0 e8
    replace b27 := b27.e0 e8
    replace b7 := b7.e0 e8
    replace sb53 := sb53.e0 e8
    clear e8
    have lP3_1 := P3.ge
    have lQ3_1 := Q3.ge
    refine ⟨.tuple #[.agg #[.slice X3 10 Y3, .slice Z3 yA.2.length T3], .int .i64 0], rfl, ?_⟩
    simp only [List.set_cons_zero, List.set_cons_succ]
    refine sv 51 (.tuple #[.agg #[.slice X3 10 Y3, .slice Z3 yA.2.length T3], .int .i64 0]) .of ?_
    simp only [List.set_cons_zero, List.set_cons_succ]
    refine sv 56 (.agg #[.slice X3 10 Y3, .slice Z3 yA.2.length T3]) .of ?_
    simp only [List.set_cons_zero, List.set_cons_succ]
    refine sv 57 (.int .i64 0) .of ?_
    simp only [List.set_cons_zero, List.set_cons_succ]
    refine xAlloc 9 56 [.slice none 0 0, .slice none 0 0] rfl (by kernel_rfl) ?_
    intro w27 n11
    have zn11 := n11.z
    have b9 := n11.c
    replace BL := BL.e0 n11.e
    replace O1 := O1.e0 n11.e
    replace O2 := O2.e0 n11.e
    replace b1 := b1.e0 n11.e
    replace sb21 := sb21.e0 n11.e
    replace sb24 := sb24.e0 n11.e
    replace b27 := b27.e0 n11.e
    replace b7 := b7.e0 n11.e
    replace sb53 := sb53.e0 n11.e
    replace P3 := P3.e0 n11.e
    replace Q3 := Q3.e0 n11.e
    simp only [List.set_cons_zero, List.set_cons_succ]
    refine xStoreR 56 (.tmp 9) (.tmp 56) rfl w26.heap.size 56 [.slice none 0 0, .slice none 0 0] 0 [.slice X3 10 Y3, .slice Z3 yA.2.length T3] (by kernel_rfl) (by kernel_rfl) b9 (by kernel_rfl) (by simp) rfl [.slice X3 10 Y3, .slice Z3 yA.2.length T3] rfl ?_
    intro w28 t9
    have zt9 := t9.z
    have BL_ := BL.ev t9.e (fun i h => show w.heap.size ≤ i by have h : i = w26.heap.size := h; omega)
    have O1_ := O1.ev t9.e (fun i hi => show ¬ (i = w26.heap.size) by have := lO1_2 i hi; omega)
    have O2_ := O2.ev t9.e (fun i hi => show ¬ (i = w26.heap.size) by have := lO2_2 i hi; omega)
    have b1_ := b1.ev t9.e (show ¬ (w1.heap.size = w26.heap.size) by omega)
    have sb21_ := sb21.ev t9.e (fun i hi => show ¬ (i = w26.heap.size) by have := lb21 i hi; omega)
    have sb24_ := sb24.ev t9.e (fun i hi => show ¬ (i = w26.heap.size) by have := lb24 i hi; omega)
    have b27_ := b27.ev t9.e (show ¬ (w7.heap.size = w26.heap.size) by omega)
    have b7_ := b7.ev t9.e (show ¬ (w21.heap.size = w26.heap.size) by omega)
    have sb53_ := sb53.ev t9.e (fun i hi => show ¬ (i = w26.heap.size) by have := lb53 i hi; omega)
    have P3_ := P3.ev t9.e (fun i hi => show ¬ (i = w26.heap.size) by have := lP3_1 i hi; omega)
    have Q3_ := Q3.ev t9.e (fun i hi => show ¬ (i = w26.heap.size) by have := lQ3_1 i hi; omega)
    replace BL := BL_; clear BL_
    replace O1 := O1_; clear O1_
    replace O2 := O2_; clear O2_
    replace b1 := b1_; clear b1_
    replace sb21 := sb21_; clear sb21_
    replace sb24 := sb24_; clear sb24_
    replace b27 := b27_; clear b27_
    replace b7 := b7_; clear b7_
    replace sb53 := sb53_; clear sb53_
    replace P3 := P3_; clear P3_
    replace Q3 := Q3_; clear Q3_
    replace b9 : Cel w28 w26.heap.size 56 [.slice X3 10 Y3, .slice Z3 yA.2.length T3] := t9.c
    clear t9
    refine sv 10 (.int .i64 0) .of ?_
    simp only [List.set_cons_zero, List.set_cons_succ]
    refine wpList_nil ?_
    refine hK22 _ _ ?_
    refine wp_seq_k fun K23 hK23 => ?_
    refine cPlain ?_
    refine sv 59 (.agg #[.slice X3 10 Y3, .slice Z3 yA.2.length T3]) (Val.cel 56 _ rfl 0 2 (by kernel_rfl) b9 _ Try.underlying56 rfl (by kernel_rfl) (by simp) [.slice X3 10 Y3, .slice Z3 yA.2.length T3] rfl) ?_
    simp only [List.set_cons_zero, List.set_cons_succ]
    refine xLit 60 29 5 1 _ #[(0, .int .u8 120)] [.int .u8 120] rfl (by kernel_rfl) (by kernel_rfl) ?_
    intro w29 n12
    have zn12 := n12.z
    have b60 := n12.c
    replace b60 : Blk .u8 w29 w28.heap.size 5 [120] := b60
    replace BL := BL.e0 n12.e
    replace O1 := O1.e0 n12.e
    replace O2 := O2.e0 n12.e
    replace b1 := b1.e0 n12.e
    replace sb21 := sb21.e0 n12.e
    replace sb24 := sb24.e0 n12.e
    replace b27 := b27.e0 n12.e
    replace b7 := b7.e0 n12.e
    replace sb53 := sb53.e0 n12.e
    replace P3 := P3.e0 n12.e
    replace Q3 := Q3.e0 n12.e
    replace b9 := b9.e0 n12.e
    have sb60 : SL .u8 w29 (.slice (some ⟨w28.heap.size, 0, none⟩) 1 1) [120] := SL.ofBlk b60 rfl (by unfold maxLen; omega)
    have lb60 : ∀ i, Value.ownBlock (.slice (some ⟨w28.heap.size, 0, none⟩) 1 1) = some i → w28.heap.size ≤ i ∧ i < w29.heap.size := ownB_lit (by omega)
    simp only [List.set_cons_zero, List.set_cons_succ]
    refine xMark 61 29 5 (.tmp 60) rfl Try.underlying29 Try.underlying5 w28.heap.size 1 [120] (by kernel_rfl) b60 rfl (by unfold maxLen; omega) ?_
    intro w30 b60m e9 ze9
    have BL_ := BL.ev e9 (fun i h => show w.heap.size ≤ i by have h : i = w28.heap.size := h; omega)
    have O1_ := O1.ev e9 (fun i hi => show ¬ (i = w28.heap.size) by have := lO1_2 i hi; omega)
    have O2_ := O2.ev e9 (fun i hi => show ¬ (i = w28.heap.size) by have := lO2_2 i hi; omega)
    have b1_ := b1.ev e9 (show ¬ (w1.heap.size = w28.heap.size) by omega)
    have sb21_ := sb21.ev e9 (fun i hi => show ¬ (i = w28.heap.size) by have := lb21 i hi; omega)
    have sb24_ := sb24.ev e9 (fun i hi => show ¬ (i = w28.heap.size) by have := lb24 i hi; omega)
    have b27_ := b27.ev e9 (show ¬ (w7.heap.size = w28.heap.size) by omega)
    have b7_ := b7.ev e9 (show ¬ (w21.heap.size = w28.heap.size) by omega)
    have sb53_ := sb53.ev e9 (fun i hi => show ¬ (i = w28.heap.size) by have := lb53 i hi; omega)
    have P3_ := P3.ev e9 (fun i hi => show ¬ (i = w28.heap.size) by have := lP3_1 i hi; omega)
    have Q3_ := Q3.ev e9 (fun i hi => show ¬ (i = w28.heap.size) by have := lQ3_1 i hi; omega)
    have b9_ := b9.ev e9 (show ¬ (w26.heap.size = w28.heap.size) by omega)
    replace BL := BL_; clear BL_
    replace O1 := O1_; clear O1_
    replace O2 := O2_; clear O2_
    replace b1 := b1_; clear b1_
    replace sb21 := sb21_; clear sb21_
    replace sb24 := sb24_; clear sb24_
    replace b27 := b27_; clear b27_
    replace b7 := b7_; clear b7_
    replace sb53 := sb53_; clear sb53_
    replace P3 := P3_; clear P3_
    replace Q3 := Q3_; clear Q3_
    replace b9 := b9_; clear b9_
    replace sb60 := b60m; clear b60m b60 e9
    simp only [List.set_cons_zero, List.set_cons_succ]
    refine xCall 62 33 #[.agg #[.slice X3 10 Y3, .slice Z3 yA.2.length T3], .int .i64 2, .slice (some ⟨w28.heap.size, 0, none⟩) 1 1] (by kernel_rfl) ?_
    refine (put_any _ _ _ 2 (by decide) yA.1 [120] yA.2 w30 P3.sl sb60 Q3.se (by decide) (by decide)).mono ?_
    rintro en w31 ⟨⟨dv4, hv4, he, P4, Q4⟩, hb1⟩
    simp only [putA4] at he P4 Q4
    obtain ⟨X4, Y4, hq⟩ := P4.len
    rw [show (nn yA.1).length = 10 from rfl] at hq
    subst hq
    obtain ⟨Z4, T4, hq, _⟩ := Q4.len
    rw [spS_len] at hq
    subst hq
    subst he
    have e10 := belE0 hb1
    have ze10 := e10.size
    replace BL := BL.e0 e10
    replace O1 := O1.e0 e10
    replace O2 := O2.e0 e10
    replace b1 := b1.e0 e10
    replace sb21 := sb21.e0 e10
    replace sb24 := sb24.e0 e10
    replace b27 := b27.e0 e10
    replace b7 := b7.e0 e10
    replace sb53 := sb53.e0 e10
    replace P3 := P3.e0 e10
    replace Q3 := Q3.e0 e10
    replace b9 := b9.e0 e10
    replace sb60 := sb60.e0 e10
    clear e10
    have lP4_1 := P4.ge
    have lQ4_1 := Q4.ge
    refine ⟨.tuple #[.agg #[.slice X4 10 Y4, .slice Z4 yA.2.length T4], .int .i64 241], rfl, ?_⟩
    simp only [List.set_cons_zero, List.set_cons_succ]
    refine sv 58 (.tuple #[.agg #[.slice X4 10 Y4, .slice Z4 yA.2.length T4], .int .i64 241]) .of ?_
    simp only [List.set_cons_zero, List.set_cons_succ]
    refine sv 63 (.agg #[.slice X4 10 Y4, .slice Z4 yA.2.length T4]) .of ?_
    simp only [List.set_cons_zero, List.set_cons_succ]
    refine sv 64 (.int .i64 241) .of ?_
    simp only [List.set_cons_zero, List.set_cons_succ]
    refine xAlloc 11 56 [.slice none 0 0, .slice none 0 0] rfl (by kernel_rfl) ?_
    intro w32 n13
    have zn13 := n13.z
    have b11 := n13.c
    replace BL := BL.e0 n13.e
    replace O1 := O1.e0 n13.e
    replace O2 := O2.e0 n13.e
    replace b1 := b1.e0 n13.e
    replace sb21 := sb21.e0 n13.e
    replace sb24 := sb24.e0 n13.e
    replace b27 := b27.e0 n13.e
    replace b7 := b7.e0 n13.e
    replace sb53 := sb53.e0 n13.e
    replace P3 := P3.e0 n13.e
    replace Q3 := Q3.e0 n13.e
    replace b9 := b9.e0 n13.e
    replace sb60 := sb60.e0 n13.e
    replace P4 := P4.e0 n13.e
    replace Q4 := Q4.e0 n13.e
    simp only [List.set_cons_zero, List.set_cons_succ]
    refine xStoreR 56 (.tmp 11) (.tmp 63) rfl w31.heap.size 56 [.slice none 0 0, .slice none 0 0] 0 [.slice X4 10 Y4, .slice Z4 yA.2.length T4] (by kernel_rfl) (by kernel_rfl) b11 (by kernel_rfl) (by simp) rfl [.slice X4 10 Y4, .slice Z4 yA.2.length T4] rfl ?_
    intro w33 t10
    have zt10 := t10.z
    have BL_ := BL.ev t10.e (fun i h => show w.heap.size ≤ i by have h : i = w31.heap.size := h; omega)
    have O1_ := O1.ev t10.e (fun i hi => show ¬ (i = w31.heap.size) by have := lO1_2 i hi; omega)
    have O2_ := O2.ev t10.e (fun i hi => show ¬ (i = w31.heap.size) by have := lO2_2 i hi; omega)
    have b1_ := b1.ev t10.e (show ¬ (w1.heap.size = w31.heap.size) by omega)
    have sb21_ := sb21.ev t10.e (fun i hi => show ¬ (i = w31.heap.size) by have := lb21 i hi; omega)
    have sb24_ := sb24.ev t10.e (fun i hi => show ¬ (i = w31.heap.size) by have := lb24 i hi; omega)
    have b27_ := b27.ev t10.e (show ¬ (w7.heap.size = w31.heap.size) by omega)
    have b7_ := b7.ev t10.e (show ¬ (w21.heap.size = w31.heap.size) by omega)
    have sb53_ := sb53.ev t10.e (fun i hi => show ¬ (i = w31.heap.size) by have := lb53 i hi; omega)
    have P3_ := P3.ev t10.e (fun i hi => show ¬ (i = w31.heap.size) by have := lP3_1 i hi; omega)
    have Q3_ := Q3.ev t10.e (fun i hi => show ¬ (i = w31.heap.size) by have := lQ3_1 i hi; omega)
    have b9_ := b9.ev t10.e (show ¬ (w26.heap.size = w31.heap.size) by omega)
    have sb60_ := sb60.ev t10.e (fun i hi => show ¬ (i = w31.heap.size) by have := lb60 i hi; omega)
    have P4_ := P4.ev t10.e (fun i hi => show ¬ (i = w31.heap.size) by have := lP4_1 i hi; omega)
    have Q4_ := Q4.ev t10.e (fun i hi => show ¬ (i = w31.heap.size) by have := lQ4_1 i hi; omega)
    replace BL := BL_; clear BL_
    replace O1 := O1_; clear O1_
    replace O2 := O2_; clear O2_
    replace b1 := b1_; clear b1_
    replace sb21 := sb21_; clear sb21_
    replace sb24 := sb24_; clear sb24_
    replace b27 := b27_; clear b27_
    replace b7 := b7_; clear b7_
    replace sb53 := sb53_; clear sb53_
    replace P3 := P3_; clear P3_
    replace Q3 := Q3_; clear Q3_
    replace b9 := b9_; clear b9_
    replace sb60 := sb60_; clear sb60_
    replace P4 := P4_; clear P4_
    replace Q4 := Q4_; clear Q4_
    replace b11 : Cel w33 w31.heap.size 56 [.slice X4 10 Y4, .slice Z4 yA.2.length T4] := t10.c
    clear t10
    refine sv 12 (.int .i64 241) .of ?_
    simp only [List.set_cons_zero, List.set_cons_succ]
    refine wpList_nil ?_
    refine hK23 _ _ ?_
    refine wp_seq_k fun K24 hK24 => ?_
    refine cPlain ?_
    refine sv 66 (.agg #[.slice X3 10 Y3, .slice Z3 yA.2.length T3]) (Val.cel 56 _ rfl 0 2 (by kernel_rfl) b9 _ Try.underlying56 rfl (by kernel_rfl) (by simp) [.slice X3 10 Y3, .slice Z3 yA.2.length T3] rfl) ?_
    simp only [List.set_cons_zero, List.set_cons_succ]
    refine xLit 67 29 5 2 _ #[(0, .int .u8 97), (1, .int .u8 98)] [.int .u8 97, .int .u8 98] rfl (by kernel_rfl) (by kernel_rfl) ?_
    intro w34 n14
    have zn14 := n14.z
    have b67 := n14.c
    replace b67 : Blk .u8 w34 w33.heap.size 5 [97, 98] := b67
    replace BL := BL.e0 n14.e
    replace O1 := O1.e0 n14.e
    replace O2 := O2.e0 n14.e
    replace b1 := b1.e0 n14.e
    replace sb21 := sb21.e0 n14.e
    replace sb24 := sb24.e0 n14.e
    replace b27 := b27.e0 n14.e
    replace b7 := b7.e0 n14.e
    replace sb53 := sb53.e0 n14.e
    replace P3 := P3.e0 n14.e
    replace Q3 := Q3.e0 n14.e
    replace b9 := b9.e0 n14.e
    replace sb60 := sb60.e0 n14.e
    replace P4 := P4.e0 n14.e
    replace Q4 := Q4.e0 n14.e
    replace b11 := b11.e0 n14.e
    have sb67 : SL .u8 w34 (.slice (some ⟨w33.heap.size, 0, none⟩) 2 2) [97, 98] := SL.ofBlk b67 rfl (by unfold maxLen; omega)
    have lb67 : ∀ i, Value.ownBlock (.slice (some ⟨w33.heap.size, 0, none⟩) 2 2) = some i → w33.heap.size ≤ i ∧ i < w34.heap.size := ownB_lit (by omega)
    simp only [List.set_cons_zero, List.set_cons_succ]
    refine xMark 68 29 5 (.tmp 67) rfl Try.underlying29 Try.underlying5 w33.heap.size 2 [97, 98] (by kernel_rfl) b67 rfl (by unfold maxLen; omega) ?_
    intro w35 b67m e11 ze11
    have BL_ := BL.ev e11 (fun i h => show w.heap.size ≤ i by have h : i = w33.heap.size := h; omega)
    have O1_ := O1.ev e11 (fun i hi => show ¬ (i = w33.heap.size) by have := lO1_2 i hi; omega)
    have O2_ := O2.ev e11 (fun i hi => show ¬ (i = w33.heap.size) by have := lO2_2 i hi; omega)
    have b1_ := b1.ev e11 (show ¬ (w1.heap.size = w33.heap.size) by omega)
    have sb21_ := sb21.ev e11 (fun i hi => show ¬ (i = w33.heap.size) by have := lb21 i hi; omega)
    have sb24_ := sb24.ev e11 (fun i hi => show ¬ (i = w33.heap.size) by have := lb24 i hi; omega)
    have b27_ := b27.ev e11 (show ¬ (w7.heap.size = w33.heap.size) by omega)
    have b7_ := b7.ev e11 (show ¬ (w21.heap.size = w33.heap.size) by omega)
    have sb53_ := sb53.ev e11 (fun i hi => show ¬ (i = w33.heap.size) by have := lb53 i hi; omega)
    have P3_ := P3.ev e11 (fun i hi => show ¬ (i = w33.heap.size) by have := lP3_1 i hi; omega)
    have Q3_ := Q3.ev e11 (fun i hi => show ¬ (i = w33.heap.size) by have := lQ3_1 i hi; omega)
    have b9_ := b9.ev e11 (show ¬ (w26.heap.size = w33.heap.size) by omega)
    have sb60_ := sb60.ev e11 (fun i hi => show ¬ (i = w33.heap.size) by have := lb60 i hi; omega)
    have P4_ := P4.ev e11 (fun i hi => show ¬ (i = w33.heap.size) by have := lP4_1 i hi; omega)
    have Q4_ := Q4.ev e11 (fun i hi => show ¬ (i = w33.heap.size) by have := lQ4_1 i hi; omega)
    have b11_ := b11.ev e11 (show ¬ (w31.heap.size = w33.heap.size) by omega)
    replace BL := BL_; clear BL_
    replace O1 := O1_; clear O1_
    replace O2 := O2_; clear O2_
    replace b1 := b1_; clear b1_
    replace sb21 := sb21_; clear sb21_
    replace sb24 := sb24_; clear sb24_
    replace b27 := b27_; clear b27_
    replace b7 := b7_; clear b7_
    replace sb53 := sb53_; clear sb53_
    replace P3 := P3_; clear P3_
    replace Q3 := Q3_; clear Q3_
    replace b9 := b9_; clear b9_
    replace sb60 := sb60_; clear sb60_
    replace P4 := P4_; clear P4_
    replace Q4 := Q4_; clear Q4_
    replace b11 := b11_; clear b11_
    replace sb67 := b67m; clear b67m b67 e11
    simp only [List.set_cons_zero, List.set_cons_succ]
    refine xCall 69 33 #[.agg #[.slice X3 10 Y3, .slice Z3 yA.2.length T3], .int .i64 0, .slice (some ⟨w33.heap.size, 0, none⟩) 2 2] (by kernel_rfl) ?_
    refine (put_any _ _ _ 0 (by decide) yA.1 [97, 98] yA.2 w35 P3.sl sb67 Q3.se (by decide) (by decide)).mono ?_
    rintro en w36 ⟨⟨dv5, hv5, he, P5, Q5⟩, hb1⟩
    simp only [putA5] at he P5 Q5
    obtain ⟨X5, Y5, hq⟩ := P5.len
    rw [show (nn zA.1).length = 10 from rfl] at hq
    subst hq
    obtain ⟨Z5, T5, hq, _⟩ := Q5.len
    rw [spS_len] at hq
    subst hq
    subst he
    have e12 := belE0 hb1
    have ze12 := e12.size
    replace BL := BL.e0 e12
    replace O1 := O1.e0 e12
    replace O2 := O2.e0 e12
    replace b1 := b1.e0 e12
    replace sb21 := sb21.e0 e12
    replace sb24 := sb24.e0 e12
    replace b27 := b27.e0 e12
    replace b7 := b7.e0 e12
    replace sb53 := sb53.e0 e12
    replace P3 := P3.e0 e12
    replace Q3 := Q3.e0 e12
    replace b9 := b9.e0 e12
    replace sb60 := sb60.e0 e12
    replace P4 := P4.e0 e12
    replace Q4 := Q4.e0 e12
    replace b11 := b11.e0 e12
    replace sb67 := sb67.e0 e12
    clear e12
    have lP5_1 := P5.ge
    have lQ5_1 := Q5.ge
    refine ⟨.tuple #[.agg #[.slice X5 10 Y5, .slice Z5 zA.2.length T5], .int .i64 0], rfl, ?_⟩
    simp only [List.set_cons_zero, List.set_cons_succ]
    refine sv 65 (.tuple #[.agg #[.slice X5 10 Y5, .slice Z5 zA.2.length T5], .int .i64 0]) .of ?_
    simp only [List.set_cons_zero, List.set_cons_succ]
    refine sv 70 (.agg #[.slice X5 10 Y5, .slice Z5 zA.2.length T5]) .of ?_
    simp only [List.set_cons_zero, List.set_cons_succ]
    refine sv 71 (.int .i64 0) .of ?_
    simp only [List.set_cons_zero, List.set_cons_succ]
    refine xAlloc 13 56 [.slice none 0 0, .slice none 0 0] rfl (by kernel_rfl) ?_
    intro w37 n15
    have zn15 := n15.z
    have b13 := n15.c
    replace BL := BL.e0 n15.e
    replace O1 := O1.e0 n15.e
    replace O2 := O2.e0 n15.e
    replace b1 := b1.e0 n15.e
    replace sb21 := sb21.e0 n15.e
    replace sb24 := sb24.e0 n15.e
    replace b27 := b27.e0 n15.e
    replace b7 := b7.e0 n15.e
    replace sb53 := sb53.e0 n15.e
    replace P3 := P3.e0 n15.e
    replace Q3 := Q3.e0 n15.e
    replace b9 := b9.e0 n15.e
    replace sb60 := sb60.e0 n15.e
    replace P4 := P4.e0 n15.e
    replace Q4 := Q4.e0 n15.e
    replace b11 := b11.e0 n15.e
    replace sb67 := sb67.e0 n15.e
    replace P5 := P5.e0 n15.e
    replace Q5 := Q5.e0 n15.e
    simp only [List.set_cons_zero, List.set_cons_succ]
    refine xStoreR 56 (.tmp 13) (.tmp 70) rfl w36.heap.size 56 [.slice none 0 0, .slice none 0 0] 0 [.slice X5 10 Y5, .slice Z5 zA.2.length T5] (by kernel_rfl) (by kernel_rfl) b13 (by kernel_rfl) (by simp) rfl [.slice X5 10 Y5, .slice Z5 zA.2.length T5] rfl ?_
    intro w38 t11
    have zt11 := t11.z
    have BL_ := BL.ev t11.e (fun i h => show w.heap.size ≤ i by have h : i = w36.heap.size := h; omega)
    have O1_ := O1.ev t11.e (fun i hi => show ¬ (i = w36.heap.size) by have := lO1_2 i hi; omega)
    have O2_ := O2.ev t11.e (fun i hi => show ¬ (i = w36.heap.size) by have := lO2_2 i hi; omega)
    have b1_ := b1.ev t11.e (show ¬ (w1.heap.size = w36.heap.size) by omega)
    have sb21_ := sb21.ev t11.e (fun i hi => show ¬ (i = w36.heap.size) by have := lb21 i hi; omega)
    have sb24_ := sb24.ev t11.e (fun i hi => show ¬ (i = w36.heap.size) by have := lb24 i hi; omega)
    have b27_ := b27.ev t11.e (show ¬ (w7.heap.size = w36.heap.size) by omega)
    have b7_ := b7.ev t11.e (show ¬ (w21.heap.size = w36.heap.size) by omega)
    have sb53_ := sb53.ev t11.e (fun i hi => show ¬ (i = w36.heap.size) by have := lb53 i hi; omega)
    have P3_ := P3.ev t11.e (fun i hi => show ¬ (i = w36.heap.size) by have := lP3_1 i hi; omega)
    have Q3_ := Q3.ev t11.e (fun i hi => show ¬ (i = w36.heap.size) by have := lQ3_1 i hi; omega)
    have b9_ := b9.ev t11.e (show ¬ (w26.heap.size = w36.heap.size) by omega)
    have sb60_ := sb60.ev t11.e (fun i hi => show ¬ (i = w36.heap.size) by have := lb60 i hi; omega)
    have P4_ := P4.ev t11.e (fun i hi => show ¬ (i = w36.heap.size) by have := lP4_1 i hi; omega)
    have Q4_ := Q4.ev t11.e (fun i hi => show ¬ (i = w36.heap.size) by have := lQ4_1 i hi; omega)
    have b11_ := b11.ev t11.e (show ¬ (w31.heap.size = w36.heap.size) by omega)
    have sb67_ := sb67.ev t11.e (fun i hi => show ¬ (i = w36.heap.size) by have := lb67 i hi; omega)
    have P5_ := P5.ev t11.e (fun i hi => show ¬ (i = w36.heap.size) by have := lP5_1 i hi; omega)
    have Q5_ := Q5.ev t11.e (fun i hi => show ¬ (i = w36.heap.size) by have := lQ5_1 i hi; omega)
    replace BL := BL_; clear BL_
    replace O1 := O1_; clear O1_
    replace O2 := O2_; clear O2_
    replace b1 := b1_; clear b1_
    replace sb21 := sb21_; clear sb21_
    replace sb24 := sb24_; clear sb24_
    replace b27 := b27_; clear b27_
    replace b7 := b7_; clear b7_
    replace sb53 := sb53_; clear sb53_
    replace P3 := P3_; clear P3_
    replace Q3 := Q3_; clear Q3_
    replace b9 := b9_; clear b9_
    replace sb60 := sb60_; clear sb60_
    replace P4 := P4_; clear P4_
    replace Q4 := Q4_; clear Q4_
    replace b11 := b11_; clear b11_
    replace sb67 := sb67_; clear sb67_
    replace P5 := P5_; clear P5_
    replace Q5 := Q5_; clear Q5_
    replace b13 : Cel w38 w36.heap.size 56 [.slice X5 10 Y5, .slice Z5 zA.2.length T5] := t11.c
    clear t11
    refine sv 14 (.int .i64 0) .of ?_
    simp only [List.set_cons_zero, List.set_cons_succ]
    refine wpList_nil ?_
    refine hK24 _ _ ?_
    refine wp_seq_k fun K25 hK25 => ?_
    refine cPlain ?_
    refine sv 73 (.agg #[.slice X5 10 Y5, .slice Z5 zA.2.length T5]) (Val.cel 56 _ rfl 0 2 (by kernel_rfl) b13 _ Try.underlying56 rfl (by kernel_rfl) (by simp) [.slice X5 10 Y5, .slice Z5 zA.2.length T5] rfl) ?_
    simp only [List.set_cons_zero, List.set_cons_succ]
    refine xCall 74 38 #[.agg #[.slice X5 10 Y5, .slice Z5 zA.2.length T5], .int .i64 9] (by kernel_rfl) ?_
    refine (xnext_any _ _ zA.1 zA.2 9 w38 P5.sl Q5.se (by decide)).mono ?_
    rintro en w39 ⟨he, hb1⟩
    rw [nextA1] at he
    subst he
    have e13 := belE0 hb1
    have ze13 := e13.size
    replace BL := BL.e0 e13
    replace O1 := O1.e0 e13
    replace O2 := O2.e0 e13
    replace b1 := b1.e0 e13
    replace sb21 := sb21.e0 e13
    replace sb24 := sb24.e0 e13
    replace b27 := b27.e0 e13
    replace b7 := b7.e0 e13
    replace sb53 := sb53.e0 e13
    replace P3 := P3.e0 e13
    replace Q3 := Q3.e0 e13
    replace b9 := b9.e0 e13
    replace sb60 := sb60.e0 e13
    replace P4 := P4.e0 e13
    replace Q4 := Q4.e0 e13
    replace b11 := b11.e0 e13
    replace sb67 := sb67.e0 e13
    replace P5 := P5.e0 e13
    replace Q5 := Q5.e0 e13
    replace b13 := b13.e0 e13
    clear e13
    refine ⟨.tuple #[.agg #[.int .i64 8, .int .i64 10], .bool true], rfl, ?_⟩
    simp only [List.set_cons_zero, List.set_cons_succ]
    refine sv 72 (.tuple #[.agg #[.int .i64 8, .int .i64 10], .bool true]) .of ?_
    simp only [List.set_cons_zero, List.set_cons_succ]
    refine sv 75 (.agg #[.int .i64 8, .int .i64 10]) .of ?_
    simp only [List.set_cons_zero, List.set_cons_succ]
    refine sv 76 (.bool true) .of ?_
    simp only [List.set_cons_zero, List.set_cons_succ]
    refine xAlloc 15 70 [.int .i64 0, .int .i64 0] rfl (by kernel_rfl) ?_
    intro w40 n16
    have zn16 := n16.z
    have b15 := n16.c
    replace BL := BL.e0 n16.e
    replace O1 := O1.e0 n16.e
    replace O2 := O2.e0 n16.e
    replace b1 := b1.e0 n16.e
    replace sb21 := sb21.e0 n16.e
    replace sb24 := sb24.e0 n16.e
    replace b27 := b27.e0 n16.e
    replace b7 := b7.e0 n16.e
    replace sb53 := sb53.e0 n16.e
    replace P3 := P3.e0 n16.e
    replace Q3 := Q3.e0 n16.e
    replace b9 := b9.e0 n16.e
    replace sb60 := sb60.e0 n16.e
    replace P4 := P4.e0 n16.e
    replace Q4 := Q4.e0 n16.e
    replace b11 := b11.e0 n16.e
    replace sb67 := sb67.e0 n16.e
    replace P5 := P5.e0 n16.e
    replace Q5 := Q5.e0 n16.e
    replace b13 := b13.e0 n16.e
    simp only [List.set_cons_zero, List.set_cons_succ]
    refine xStoreR 70 (.tmp 15) (.tmp 75) rfl w39.heap.size 70 [.int .i64 0, .int .i64 0] 0 [.int .i64 8, .int .i64 10] (by kernel_rfl) (by kernel_rfl) b15 (by kernel_rfl) (by simp) rfl [.int .i64 8, .int .i64 10] rfl ?_
    intro w41 t12
    have zt12 := t12.z
    have BL_ := BL.ev t12.e (fun i h => show w.heap.size ≤ i by have h : i = w39.heap.size := h; omega)
    have O1_ := O1.ev t12.e (fun i hi => show ¬ (i = w39.heap.size) by have := lO1_2 i hi; omega)
    have O2_ := O2.ev t12.e (fun i hi => show ¬ (i = w39.heap.size) by have := lO2_2 i hi; omega)
    have b1_ := b1.ev t12.e (show ¬ (w1.heap.size = w39.heap.size) by omega)
    have sb21_ := sb21.ev t12.e (fun i hi => show ¬ (i = w39.heap.size) by have := lb21 i hi; omega)
    have sb24_ := sb24.ev t12.e (fun i hi => show ¬ (i = w39.heap.size) by have := lb24 i hi; omega)
    have b27_ := b27.ev t12.e (show ¬ (w7.heap.size = w39.heap.size) by omega)
    have b7_ := b7.ev t12.e (show ¬ (w21.heap.size = w39.heap.size) by omega)
    have sb53_ := sb53.ev t12.e (fun i hi => show ¬ (i = w39.heap.size) by have := lb53 i hi; omega)
    have P3_ := P3.ev t12.e (fun i hi => show ¬ (i = w39.heap.size) by have := lP3_1 i hi; omega)
    have Q3_ := Q3.ev t12.e (fun i hi => show ¬ (i = w39.heap.size) by have := lQ3_1 i hi; omega)
    have b9_ := b9.ev t12.e (show ¬ (w26.heap.size = w39.heap.size) by omega)
    have sb60_ := sb60.ev t12.e (fun i hi => show ¬ (i = w39.heap.size) by have := lb60 i hi; omega)
    have P4_ := P4.ev t12.e (fun i hi => show ¬ (i = w39.heap.size) by have := lP4_1 i hi; omega)
    have Q4_ := Q4.ev t12.e (fun i hi => show ¬ (i = w39.heap.size) by have := lQ4_1 i hi; omega)
    have b11_ := b11.ev t12.e (show ¬ (w31.heap.size = w39.heap.size) by omega)
    have sb67_ := sb67.ev t12.e (fun i hi => show ¬ (i = w39.heap.size) by have := lb67 i hi; omega)
    have P5_ := P5.ev t12.e (fun i hi => show ¬ (i = w39.heap.size) by have := lP5_1 i hi; omega)
    have Q5_ := Q5.ev t12.e (fun i hi => show ¬ (i = w39.heap.size) by have := lQ5_1 i hi; omega)
    have b13_ := b13.ev t12.e (show ¬ (w36.heap.size = w39.heap.size) by omega)
    replace BL := BL_; clear BL_
    replace O1 := O1_; clear O1_
    replace O2 := O2_; clear O2_
    replace b1 := b1_; clear b1_
    replace sb21 := sb21_; clear sb21_
    replace sb24 := sb24_; clear sb24_
    replace b27 := b27_; clear b27_
    replace b7 := b7_; clear b7_
    replace sb53 := sb53_; clear sb53_
    replace P3 := P3_; clear P3_
    replace Q3 := Q3_; clear Q3_
    replace b9 := b9_; clear b9_
    replace sb60 := sb60_; clear sb60_
    replace P4 := P4_; clear P4_
    replace Q4 := Q4_; clear Q4_
    replace b11 := b11_; clear b11_
    replace sb67 := sb67_; clear sb67_
    replace P5 := P5_; clear P5_
    replace Q5 := Q5_; clear Q5_
    replace b13 := b13_; clear b13_
    replace b15 : Cel w41 w39.heap.size 70 [.int .i64 8, .int .i64 10] := t12.c
    clear t12
    refine sv 16 (.bool true) .of ?_
    simp only [List.set_cons_zero, List.set_cons_succ]
    refine wpList_nil ?_
    refine hK25 _ _ ?_
    refine wp_seq_k fun K26 hK26 => ?_
    refine cPlain ?_
    refine sv 77 (.int .i64 0) .of ?_
    simp only [List.set_cons_zero, List.set_cons_succ]
    refine sv 78 (.bool true) (Val.cmp .eql 37 _ (.tmp 77) _ rfl .i64 0 0 (by kernel_rfl) (by kernel_rfl) (by simp) _ rfl) ?_
    simp only [List.set_cons_zero, List.set_cons_succ]
    refine sv 79 (.bool true) .of ?_
    simp only [List.set_cons_zero, List.set_cons_succ]
    refine sv 80 (.pointer (some ⟨w1.heap.size, 1, none⟩)) .of ?_
    simp only [List.set_cons_zero, List.set_cons_succ]
    refine sv 81 (.slice BX (stA 2).2.length EX) (Val.cel1 54 _ rfl w1.heap.size 1 _ (by kernel_rfl) (fun _ => (by kernel_rfl)) b1 rfl) ?_
    simp only [List.set_cons_zero, List.set_cons_succ]
    refine sv 82 (.int .i64 ((stA 2).2.length : Int)) .of ?_
    simp only [List.set_cons_zero, List.set_cons_succ]
    refine sv 83 (.bool true) (Val.cmp .eql 3 _ (.tmp 82) _ rfl .i64 ((stA 2).2.length : Int) 2 (by kernel_rfl) (by kernel_rfl) (by simp) _ (by decide)) ?_
    simp only [List.set_cons_zero, List.set_cons_succ]
    refine sv 84 (.bool true) .of ?_
    simp only [List.set_cons_zero, List.set_cons_succ]
    refine sv 85 (.bool true) .of ?_
    simp only [List.set_cons_zero, List.set_cons_succ]
    refine sv 86 (.pointer (some ⟨w1.heap.size, 1, none⟩)) .of ?_
    simp only [List.set_cons_zero, List.set_cons_succ]
    refine sv 87 (.slice BX (stA 2).2.length EX) (Val.cel1 54 _ rfl w1.heap.size 1 _ (by kernel_rfl) (fun _ => (by kernel_rfl)) b1 rfl) ?_
    simp only [List.set_cons_zero, List.set_cons_succ]
    refine sv 88 (elemE 2 (.slice BX (stA 2).2.length EX) 1) (Val.ixE 54 (.tmp 87) _ rfl (.slice BX (stA 2).2.length EX) 1 (by kernel_rfl) (by kernel_rfl) O2.se Try.underlying54 (by kernel_rfl) (by decide)) ?_
    simp only [List.set_cons_zero, List.set_cons_succ]
    refine sv 89 (.agg #[.int .i64 (((stA 2).2).getD 1 (0, 0)).1, .int .i64 (((stA 2).2).getD 1 (0, 0)).2]) (Val.ldS 70 _ rfl (.slice BX (stA 2).2.length EX) 1 (by kernel_rfl) O2.se _ Try.underlying70 rfl (by kernel_rfl) (by decide)) ?_
    simp only [List.set_cons_zero, List.set_cons_succ]
    refine sv 90 (.agg #[.int .i64 6, .int .i64 8]) .of ?_
    simp only [List.set_cons_zero, List.set_cons_succ]
    refine sv 91 (.bool true) (Val.eqS .eql _ (.tmp 89) (.tmp 90) rfl ((stA 2).2.getD 1 (0, 0)) (6, 8) (by kernel_rfl) (by kernel_rfl) (wfS_of (by decide) (by decide)) (wfS_of (by decide) (by decide)) (.inl rfl) true (by decide)) ?_
    simp only [List.set_cons_zero, List.set_cons_succ]
    refine sv 92 (.bool true) .of ?_
    simp only [List.set_cons_zero, List.set_cons_succ]
    refine sv 93 (.bool true) .of ?_
    simp only [List.set_cons_zero, List.set_cons_succ]
    refine sv 94 (.bool true) .of ?_
    simp only [List.set_cons_zero, List.set_cons_succ]
    refine sv 95 (.bool true) .of ?_
    simp only [List.set_cons_zero, List.set_cons_succ]
    refine sv 96 (.bool true) .of ?_
    simp only [List.set_cons_zero, List.set_cons_succ]
    refine sv 97 (.agg (cellsOf .i64 (nn [0, 2]))) (Val.cel 70 _ rfl 0 2 (by kernel_rfl) b7 _ Try.underlying70 rfl (by kernel_rfl) (by simp) ((nn [0, 2]).map (Value.int .i64)) rfl) ?_
    simp only [List.set_cons_zero, List.set_cons_succ]
    refine sv 98 (.agg #[.int .i64 0, .int .i64 2]) .of ?_
    simp only [List.set_cons_zero, List.set_cons_succ]
    refine sv 99 (.bool true) (Val.eqS .eql _ (.tmp 97) (.tmp 98) rfl (0, 2) (0, 2) (by kernel_rfl) (by kernel_rfl) (wfS_of (by decide) (by decide)) (wfS_of (by decide) (by decide)) (.inl rfl) true (by decide)) ?_
    simp only [List.set_cons_zero, List.set_cons_succ]
    refine sv 100 (.bool true) .of ?_
    simp only [List.set_cons_zero, List.set_cons_succ]
    refine sv 101 (.bool true) .of ?_
    simp only [List.set_cons_zero, List.set_cons_succ]
    refine sv 102 (.int .i64 0) .of ?_
    simp only [List.set_cons_zero, List.set_cons_succ]
    refine sv 103 (.bool true) (Val.cmp .eql 37 _ (.tmp 102) _ rfl .i64 0 0 (by kernel_rfl) (by kernel_rfl) (by simp) _ rfl) ?_
    simp only [List.set_cons_zero, List.set_cons_succ]
    refine sv 104 (.bool true) .of ?_
    simp only [List.set_cons_zero, List.set_cons_succ]
    refine sv 105 (.bool true) .of ?_
    simp only [List.set_cons_zero, List.set_cons_succ]
    refine sv 106 (.pointer (some ⟨w26.heap.size, 1, none⟩)) .of ?_
    simp only [List.set_cons_zero, List.set_cons_succ]
    refine sv 107 (.slice Z3 yA.2.length T3) (Val.cel1 54 _ rfl w26.heap.size 1 _ (by kernel_rfl) (fun _ => (by kernel_rfl)) b9 rfl) ?_
    simp only [List.set_cons_zero, List.set_cons_succ]
    refine sv 108 (.int .i64 (yA.2.length : Int)) .of ?_
    simp only [List.set_cons_zero, List.set_cons_succ]
    refine sv 109 (.bool true) (Val.cmp .eql 3 _ (.tmp 108) _ rfl .i64 (yA.2.length : Int) 1 (by kernel_rfl) (by kernel_rfl) (by simp) _ (by decide)) ?_
    simp only [List.set_cons_zero, List.set_cons_succ]
    refine sv 110 (.bool true) .of ?_
    simp only [List.set_cons_zero, List.set_cons_succ]
    refine sv 111 (.bool true) .of ?_
    simp only [List.set_cons_zero, List.set_cons_succ]
    refine sv 112 (.pointer (some ⟨w26.heap.size, 1, none⟩)) .of ?_
    simp only [List.set_cons_zero, List.set_cons_succ]
    refine sv 113 (.slice Z3 yA.2.length T3) (Val.cel1 54 _ rfl w26.heap.size 1 _ (by kernel_rfl) (fun _ => (by kernel_rfl)) b9 rfl) ?_
    simp only [List.set_cons_zero, List.set_cons_succ]
    refine sv 114 (elemE 2 (.slice Z3 yA.2.length T3) 0) (Val.ixE 54 (.tmp 113) _ rfl (.slice Z3 yA.2.length T3) 0 (by kernel_rfl) (by kernel_rfl) Q3.se Try.underlying54 (by kernel_rfl) (by decide)) ?_
    simp only [List.set_cons_zero, List.set_cons_succ]
    refine sv 115 (.agg #[.int .i64 (yA.2.getD 0 (0, 0)).1, .int .i64 (yA.2.getD 0 (0, 0)).2]) (Val.ldS 70 _ rfl (.slice Z3 yA.2.length T3) 0 (by kernel_rfl) Q3.se _ Try.underlying70 rfl (by kernel_rfl) (by decide)) ?_
    simp only [List.set_cons_zero, List.set_cons_succ]
    refine sv 116 (.agg #[.int .i64 2, .int .i64 8]) .of ?_
    simp only [List.set_cons_zero, List.set_cons_succ]
    refine sv 117 (.bool true) (Val.eqS .eql _ (.tmp 115) (.tmp 116) rfl (yA.2.getD 0 (0, 0)) (2, 8) (by kernel_rfl) (by kernel_rfl) (wfS_of (by decide) (by decide)) (wfS_of (by decide) (by decide)) (.inl rfl) true (by decide)) ?_
    simp only [List.set_cons_zero, List.set_cons_succ]
    refine sv 118 (.bool true) .of ?_
    simp only [List.set_cons_zero, List.set_cons_succ]
    refine sv 119 (.bool true) .of ?_
    simp only [List.set_cons_zero, List.set_cons_succ]
    refine sv 120 (.int .i64 241) .of ?_
    simp only [List.set_cons_zero, List.set_cons_succ]
    refine sv 121 (.bool true) (Val.cmp .eql 37 _ (.tmp 120) _ rfl .i64 241 241 (by kernel_rfl) (by kernel_rfl) (by simp) _ rfl) ?_
    simp only [List.set_cons_zero, List.set_cons_succ]
    refine sv 122 (.bool true) .of ?_
    simp only [List.set_cons_zero, List.set_cons_succ]
    refine sv 123 (.bool true) .of ?_
    simp only [List.set_cons_zero, List.set_cons_succ]
    refine sv 124 (.int .i64 0) .of ?_
    simp only [List.set_cons_zero, List.set_cons_succ]
    refine sv 125 (.bool true) (Val.cmp .eql 37 _ (.tmp 124) _ rfl .i64 0 0 (by kernel_rfl) (by kernel_rfl) (by simp) _ rfl) ?_
    simp only [List.set_cons_zero, List.set_cons_succ]
    refine sv 126 (.bool true) .of ?_
    simp only [List.set_cons_zero, List.set_cons_succ]
    refine sv 127 (.bool true) .of ?_
    simp only [List.set_cons_zero, List.set_cons_succ]
    refine sv 128 (.pointer (some ⟨w36.heap.size, 0, none⟩)) .of ?_
    simp only [List.set_cons_zero, List.set_cons_succ]
    refine sv 129 (.slice X5 10 Y5) (Val.cel1 29 _ rfl w36.heap.size 0 _ (by kernel_rfl) (fun _ => (by kernel_rfl)) b13 rfl) ?_
    simp only [List.set_cons_zero, List.set_cons_succ]
    refine sv 130 (.string (strOf (nn zA.1))) (Val.str 29 9 5 (.tmp 129) rfl Try.underlying29 Try.underlying5 Try.underlying9 (.slice X5 10 Y5) _ (by kernel_rfl) P5.sl) ?_
    simp only [List.set_cons_zero, List.set_cons_succ]
    refine sv 131 (.bool true) (Val.eqStr .eql 9 _ (.tmp 130) (.const _) rfl (nn zA.1) (nn zA.1) (by kernel_rfl) (by kernel_rfl) (bytes_nn zA_lt) (bytes_nn zA_lt) (.inl rfl) _ (by simp)) ?_
    simp only [List.set_cons_zero, List.set_cons_succ]
    refine sv 132 (.bool true) .of ?_
    simp only [List.set_cons_zero, List.set_cons_succ]
    refine sv 133 (.bool true) .of ?_
    simp only [List.set_cons_zero, List.set_cons_succ]
    refine sv 134 (.bool true) .of ?_
    simp only [List.set_cons_zero, List.set_cons_succ]
    refine sv 135 (.bool true) .of ?_
    simp only [List.set_cons_zero, List.set_cons_succ]
    refine sv 136 (.bool true) .of ?_
    simp only [List.set_cons_zero, List.set_cons_succ]
    refine sv 137 (.agg (cellsOf .i64 (nn [8, 10]))) (Val.cel 70 _ rfl 0 2 (by kernel_rfl) b15 _ Try.underlying70 rfl (by kernel_rfl) (by simp) ((nn [8, 10]).map (Value.int .i64)) rfl) ?_
    simp only [List.set_cons_zero, List.set_cons_succ]
    refine sv 138 (.agg #[.int .i64 8, .int .i64 10]) .of ?_
    simp only [List.set_cons_zero, List.set_cons_succ]
    refine sv 139 (.bool true) (Val.eqS .eql _ (.tmp 137) (.tmp 138) rfl (8, 10) (8, 10) (by kernel_rfl) (by kernel_rfl) (wfS_of (by decide) (by decide)) (wfS_of (by decide) (by decide)) (.inl rfl) true (by decide)) ?_
    simp only [List.set_cons_zero, List.set_cons_succ]
    refine sv 140 (.bool true) .of ?_
    simp only [List.set_cons_zero, List.set_cons_succ]
    refine sv 0 (.bool true) .of ?_
    simp only [List.set_cons_zero, List.set_cons_succ]
    refine wpList_nil ?_
    refine hK26 _ _ ?_
    refine wp_ret ?_
    (try simp only [Exit.then, Exit.inBlock])
    refine bodyPost_ret (v := .bool true) rT rfl ?_
    exact ⟨rfl, BL.b⟩

end Go.Proofs.Ytanggdnmoaflfaa
