/-
  XferOrder, the walk.
-/
import Derived.Test.YtanggdnmoaflfaaXferQ
import Derived.Test.YtanggdnmoaflfaaPk1
namespace Go.Proofs.Ytanggdnmoaflfaa
open Go.RowKit
set_option linter.unusedVariables false
set_option linter.unusedSimpArgs false
set_option maxRecDepth 100000
attribute [local irreducible] wpList Code.wp wpAnyZ
theorem runX_p (all : List Nat) (n : Nat) (l : List (Int × Int)) : runX all (pcs n l 0) = (List.replicate all.length 0, []) := rfl
theorem runX_r (all : List Nat) (n k : Nat) (l : List (Int × Int)) : runX all (pcr n l k 0) = (List.replicate all.length 0, []) := rfl
attribute [local irreducible] runX putX cutF cutT
theorem wf_at {l : List (Int × Int)} (h : ∀ y ∈ spS l, ∀ n ∈ y, (Lit.int .i64 n).wf = true) (j : Nat) : (-9223372036854775808 ≤ (l.getD j (0, 0)).1 ∧ (l.getD j (0, 0)).1 ≤ 9223372036854775807) ∧ (-9223372036854775808 ≤ (l.getD j (0, 0)).2 ∧ (l.getD j (0, 0)).2 ≤ 9223372036854775807) := by
  rw [List.getD_eq_getElem?_getD]
  cases hj : l[j]? with
  | none => exact ⟨by decide, by decide⟩
  | some s =>
    have hm := List.mem_of_getElem? hj
    have hy : [s.1, s.2] ∈ spS l := List.mem_map.2 ⟨s, hm, rfl⟩
    have h1 := h _ hy s.1 (by simp)
    have h2 := h _ hy s.2 (by simp)
    exact ⟨bounds_i64 h1, bounds_i64 h2⟩

set_option maxHeartbeats 4000000 in
theorem xferOrder_walk (w : World) (A B : Option Addr) (C E : Nat) (all : List Nat) (l : List (Int × Int)) (D : SL .u8 w (.slice A all.length C) (nn all)) (hb : ∀ x ∈ all, x < 256) (L : SE .i64 2 w (.slice B l.length E) (spS l)) (wl : ∀ y ∈ spS l, ∀ n ∈ y, (Lit.int .i64 n).wf = true) :
    Calls Try.prog 5 #[.slice A all.length C, .slice B l.length E] w fun e w' => e = .returned (.bool true) ∧ Below w.heap.size w w' := by
  have BL := Bl.refl w
  have hdl := D.lt
  have hll := L.lt
  have hna := nn_len all
  have hms := L.cap.2.2
  have hma : all.length ≤ maxLen := by obtain ⟨_, _, _, hm⟩ := D.len; rwa [nn_len] at hm
  unfold maxLen at hms hma
  go_enter Try.func5, Try.ntmps5
  refine wp_seq_k fun K1 hK1 => ?_
  refine cPlain ?_
  refine sv 4 (.bool false) .of ?_
  simp only [List.set_cons_zero, List.set_cons_succ]
  refine wpList_nil ?_
  refine hK1 _ _ ?_
  refine wp_seq_k fun K2 hK2 => ?_
  refine wp_seq_k fun K3 hK3 => ?_
  refine cPlain ?_
  refine sv 16 (.slice A all.length C) .of ?_
  simp only [List.set_cons_zero, List.set_cons_succ]
  refine sv 17 (.int .i64 (all.length : Int)) .of ?_
  simp only [List.set_cons_zero, List.set_cons_succ]
  refine sv 18 (.bool (decide ((all.length : Int) = 0))) (Val.cmp .eql 3 _ (.tmp 17) _ rfl .i64 (all.length : Int) 0 (by kernel_rfl) (by kernel_rfl) (by simp) _ rfl) ?_
  simp only [List.set_cons_zero, List.set_cons_succ]
  refine sv 19 (.bool (decide ((all.length : Int) = 0))) .of ?_
  simp only [List.set_cons_zero, List.set_cons_succ]
  by_cases g20 : (all.length : Int) = 0
  · skip
    have dg20 : decide ((all.length : Int) = 0) = true := decide_eq_true g20
    simp only [dg20]
    clear dg20
    refine xSkip 20 ?_
    simp only [List.set_cons_zero, List.set_cons_succ]
    refine xSkip 21 ?_
    simp only [List.set_cons_zero, List.set_cons_succ]
    refine xSkip 22 ?_
    simp only [List.set_cons_zero, List.set_cons_succ]
    refine sv 23 (.bool true) .of ?_
    simp only [List.set_cons_zero, List.set_cons_succ]
    refine wpList_nil ?_
    refine hK3 _ _ ?_
    refine cT ?_
    refine wp_seq_k fun K4 hK4 => ?_
    refine cPlain ?_
    refine xCall 24 31 #[] (by kernel_rfl) ?_
    refine (awake24 w).mono ?_
    rintro en w1 ⟨rfl, hb1⟩
    have e1 := belE0 hb1
    have ze1 := e1.size
    replace BL := BL.e0 e1
    replace D := D.e0 e1
    replace L := L.e0 e1
    clear e1
    refine ⟨.bool true, rfl, ?_⟩
    simp only [List.set_cons_zero, List.set_cons_succ]
    refine sv 4 (.bool true) .of ?_
    simp only [List.set_cons_zero, List.set_cons_succ]
    refine wpList_nil ?_
    refine hK4 _ _ ?_
    refine wp_ret ?_
    (try simp only [Exit.then, Exit.inBlock])
    refine bodyPost_ret (v := .bool true) rT rfl ?_
    exact ⟨rfl, BL.b⟩
  · skip
    have dg20 : decide ((all.length : Int) = 0) = false := decide_eq_false g20
    simp only [dg20]
    clear dg20
    refine sv 20 (.slice A all.length C) .of ?_
    simp only [List.set_cons_zero, List.set_cons_succ]
    refine sv 21 (.int .i64 (all.length : Int)) .of ?_
    simp only [List.set_cons_zero, List.set_cons_succ]
    refine sv 22 (.bool (decide (2000 < (all.length : Int)))) (Val.cmp .gtr 3 _ (.tmp 21) _ rfl .i64 (all.length : Int) 2000 (by kernel_rfl) (by kernel_rfl) (by simp) _ rfl) ?_
    simp only [List.set_cons_zero, List.set_cons_succ]
    refine sv 23 (.bool (decide (2000 < (all.length : Int)))) .of ?_
    simp only [List.set_cons_zero, List.set_cons_succ]
    refine wpList_nil ?_
    refine hK3 _ _ ?_
    refine cDec (2000 < (all.length : Int)) (by kernel_rfl) (fun c23 => ?_) (fun c23 => ?_)
    · skip
      refine wp_seq_k fun K5 hK5 => ?_
      refine cPlain ?_
      refine xCall 24 31 #[] (by kernel_rfl) ?_
      refine (awake24 w).mono ?_
      rintro en w2 ⟨rfl, hb1⟩
      have e2 := belE0 hb1
      have ze2 := e2.size
      replace BL := BL.e0 e2
      replace D := D.e0 e2
      replace L := L.e0 e2
      clear e2
      refine ⟨.bool true, rfl, ?_⟩
      simp only [List.set_cons_zero, List.set_cons_succ]
      refine sv 4 (.bool true) .of ?_
      simp only [List.set_cons_zero, List.set_cons_succ]
      refine wpList_nil ?_
      refine hK5 _ _ ?_
      refine wp_ret ?_
      (try simp only [Exit.then, Exit.inBlock])
      refine bodyPost_ret (v := .bool true) rT rfl ?_
      exact ⟨rfl, BL.b⟩
    · skip
      have h0 : 1 ≤ all.length := by omega
      have h2 : all.length ≤ 2000 := by omega
      refine wp_skip ?_
      refine hK2 _ _ ?_
      refine wp_seq_k fun K6 hK6 => ?_
      refine cPlain ?_
      refine sv 26 (.slice A all.length C) .of ?_
      simp only [List.set_cons_zero, List.set_cons_succ]
      refine sv 27 (.int .i64 (all.length : Int)) .of ?_
      simp only [List.set_cons_zero, List.set_cons_succ]
      refine xCall 28 32 #[.int .i64 (all.length : Int)] (by kernel_rfl) ?_
      refine (begin_any all.length (by omega) w).mono ?_
      rintro en w3 ⟨⟨dv0, rfl, O1⟩, hb1⟩
      obtain ⟨X0, Y0, hq⟩ := O1.len
      rw [nn_len, List.length_replicate] at hq
      subst hq
      have O2 := OwnE.nil 70 .i64 2 w.heap.size w3
      have e3 := belE0 hb1
      have ze3 := e3.size
      replace BL := BL.e0 e3
      replace D := D.e0 e3
      replace L := L.e0 e3
      clear e3
      have lO1_1 := O1.ge
      have lO2_1 := O2.ge
      refine ⟨.tuple #[.agg #[.slice X0 all.length Y0, .slice none 0 0], .int .i64 0], rfl, ?_⟩
      simp only [List.set_cons_zero, List.set_cons_succ]
      refine sv 25 (.tuple #[.agg #[.slice X0 all.length Y0, .slice none 0 0], .int .i64 0]) .of ?_
      simp only [List.set_cons_zero, List.set_cons_succ]
      refine sv 29 (.agg #[.slice X0 all.length Y0, .slice none 0 0]) .of ?_
      simp only [List.set_cons_zero, List.set_cons_succ]
      refine sv 30 (.int .i64 0) .of ?_
      simp only [List.set_cons_zero, List.set_cons_succ]
      refine xAlloc 5 56 [.slice none 0 0, .slice none 0 0] rfl (by kernel_rfl) ?_
      intro w4 n1
      have zn1 := n1.z
      have b5 := n1.c
      replace BL := BL.e0 n1.e
      replace D := D.e0 n1.e
      replace L := L.e0 n1.e
      replace O1 := O1.e0 n1.e
      replace O2 := O2.e0 n1.e
      simp only [List.set_cons_zero, List.set_cons_succ]
      refine xStoreR 56 (.tmp 5) (.tmp 29) rfl w3.heap.size 56 [.slice none 0 0, .slice none 0 0] 0 [.slice X0 all.length Y0, .slice none 0 0] (by kernel_rfl) (by kernel_rfl) b5 (by kernel_rfl) (by simp) rfl [.slice X0 all.length Y0, .slice none 0 0] rfl ?_
      intro w5 t1
      have zt1 := t1.z
      have BL_ := BL.ev t1.e (fun i h => show w.heap.size ≤ i by have h : i = w3.heap.size := h; omega)
      have D_ := D.ev t1.e (fun i hi => show ¬ (i = w3.heap.size) by have := hdl i hi; omega)
      have L_ := L.ev t1.e (fun i hi => show ¬ (i = w3.heap.size) by have := hll i hi; omega)
      have O1_ := O1.ev t1.e (fun i hi => show ¬ (i = w3.heap.size) by have := lO1_1 i hi; omega)
      have O2_ := O2.ev t1.e (fun i hi => show ¬ (i = w3.heap.size) by have := lO2_1 i hi; omega)
      replace BL := BL_; clear BL_
      replace D := D_; clear D_
      replace L := L_; clear L_
      replace O1 := O1_; clear O1_
      replace O2 := O2_; clear O2_
      replace b5 : Cel w5 w3.heap.size 56 [.slice X0 all.length Y0, .slice none 0 0] := t1.c
      clear t1
      refine sv 6 (.int .i64 0) .of ?_
      simp only [List.set_cons_zero, List.set_cons_succ]
      refine wpList_nil ?_
      refine hK6 _ _ ?_
      refine wp_seq_k fun K7 hK7 => ?_
      refine cPlain ?_
      refine sv 31 (.agg #[.slice X0 all.length Y0, .slice none 0 0]) (Val.cel 56 _ rfl 0 2 (by kernel_rfl) b5 _ Try.underlying56 rfl (by kernel_rfl) (by simp) [.slice X0 all.length Y0, .slice none 0 0] rfl) ?_
      simp only [List.set_cons_zero, List.set_cons_succ]
      refine xAlloc 7 56 [.slice none 0 0, .slice none 0 0] rfl (by kernel_rfl) ?_
      intro w6 n2
      have zn2 := n2.z
      have b7 := n2.c
      replace BL := BL.e0 n2.e
      replace D := D.e0 n2.e
      replace L := L.e0 n2.e
      replace O1 := O1.e0 n2.e
      replace O2 := O2.e0 n2.e
      replace b5 := b5.e0 n2.e
      simp only [List.set_cons_zero, List.set_cons_succ]
      refine xStoreR 56 (.tmp 7) (.tmp 31) rfl w5.heap.size 56 [.slice none 0 0, .slice none 0 0] 0 [.slice X0 all.length Y0, .slice none 0 0] (by kernel_rfl) (by kernel_rfl) b7 (by kernel_rfl) (by simp) rfl [.slice X0 all.length Y0, .slice none 0 0] rfl ?_
      intro w7 t2
      have zt2 := t2.z
      have BL_ := BL.ev t2.e (fun i h => show w.heap.size ≤ i by have h : i = w5.heap.size := h; omega)
      have D_ := D.ev t2.e (fun i hi => show ¬ (i = w5.heap.size) by have := hdl i hi; omega)
      have L_ := L.ev t2.e (fun i hi => show ¬ (i = w5.heap.size) by have := hll i hi; omega)
      have O1_ := O1.ev t2.e (fun i hi => show ¬ (i = w5.heap.size) by have := lO1_1 i hi; omega)
      have O2_ := O2.ev t2.e (fun i hi => show ¬ (i = w5.heap.size) by have := lO2_1 i hi; omega)
      have b5_ := b5.ev t2.e (show ¬ (w3.heap.size = w5.heap.size) by omega)
      replace BL := BL_; clear BL_
      replace D := D_; clear D_
      replace L := L_; clear L_
      replace O1 := O1_; clear O1_
      replace O2 := O2_; clear O2_
      replace b5 := b5_; clear b5_
      replace b7 : Cel w7 w5.heap.size 56 [.slice X0 all.length Y0, .slice none 0 0] := t2.c
      clear t2
      refine wpList_nil ?_
      refine hK7 _ _ ?_
      refine wp_seq_k fun K8 hK8 => ?_
      refine cPlain ?_
      refine sv 32 (.slice B l.length E) .of ?_
      simp only [List.set_cons_zero, List.set_cons_succ]
      refine sv 33 (.int .i64 (l.length : Int)) .of ?_
      simp only [List.set_cons_zero, List.set_cons_succ]
      refine sv 34 (.int .i64 (((min l.length 40) : Nat) : Int)) (Val.as (Val.minI (.tmp 33) _ _ rfl (l.length : Int) 40 (by kernel_rfl) (by kernel_rfl)) (congrArg (Value.int .i64) (show ((min (l.length : Int) 40) : Int) = (((min l.length 40) : Nat) : Int) by omega))) ?_
      simp only [List.set_cons_zero, List.set_cons_succ]
      refine sv 8 (.int .i64 (((min l.length 40) : Nat) : Int)) .of ?_
      simp only [List.set_cons_zero, List.set_cons_succ]
      refine wpList_nil ?_
      refine hK8 _ _ ?_
      refine wp_seq_k fun K9 hK9 => ?_
      refine wp_seq_k fun K10 hK10 => ?_
      refine cPlain ?_
      refine sv 35 (.int .i64 (((min l.length 40) : Nat) : Int)) .of ?_
      simp only [List.set_cons_zero, List.set_cons_succ]
      refine sv 36 (.int .i64 0) .of ?_
      simp only [List.set_cons_zero, List.set_cons_succ]
      refine wpList_nil ?_
      refine hK10 _ _ ?_
      refine wp_block ?_
      refine cLoop (fun N_ A_ w_ => ∃ (i : Nat) (AX BX AY BY : Option Addr) (CX EX CY EY : Nat), (N_ = (min l.length 40) - i ∧ (i ≤ (min l.length 40)) ∧ (∃ s1 : Nat → Value, A_ = ⟨[.slice A all.length C, .slice B l.length E, undef, undef, (s1 4), .pointer (some ⟨w3.heap.size, 0, none⟩), .int .i64 0, .pointer (some ⟨w5.heap.size, 0, none⟩), .int .i64 (((min l.length 40) : Nat) : Int), (s1 9), (s1 10), (s1 11), (s1 12), (s1 13), (s1 14), (s1 15), .slice A all.length C, .int .i64 (all.length : Int), .bool false, .bool false, .slice A all.length C, .int .i64 (all.length : Int), .bool (decide (2000 < (all.length : Int))), .bool (decide (2000 < (all.length : Int))), undef, .tuple #[.agg #[.slice X0 all.length Y0, .slice none 0 0], .int .i64 0], .slice A all.length C, .int .i64 (all.length : Int), .tuple #[.agg #[.slice X0 all.length Y0, .slice none 0 0], .int .i64 0], .agg #[.slice X0 all.length Y0, .slice none 0 0], .int .i64 0, .agg #[.slice X0 all.length Y0, .slice none 0 0], .slice B l.length E, .int .i64 (l.length : Int), .int .i64 (((min l.length 40) : Nat) : Int), .int .i64 (((min l.length 40) : Nat) : Int), .int .i64 ((i : Nat) : Int), (s1 37), (s1 38), (s1 39), (s1 40), (s1 41), (s1 42), (s1 43), (s1 44), (s1 45), (s1 46), (s1 47), (s1 48), (s1 49), (s1 50), (s1 51), (s1 52), (s1 53), (s1 54), (s1 55), (s1 56), (s1 57), (s1 58), (s1 59), (s1 60), (s1 61), (s1 62), (s1 63), (s1 64), (s1 65), (s1 66), (s1 67), (s1 68), (s1 69), (s1 70), (s1 71), (s1 72), (s1 73), (s1 74), (s1 75), (s1 76), (s1 77), (s1 78), (s1 79), (s1 80), (s1 81), (s1 82), (s1 83), (s1 84), (s1 85), (s1 86), (s1 87), (s1 88), (s1 89), (s1 90), (s1 91), (s1 92), (s1 93), (s1 94), (s1 95), undef, undef, undef, undef, undef, undef, undef, undef, undef, undef].toArray, []⟩) ∧ Bl w.heap.size w w_ ∧ SL .u8 w_ (.slice A all.length C) (nn all) ∧ SE .i64 2 w_ (.slice B l.length E) (spS l) ∧ Own 5 .u8 w.heap.size w_ (.slice AX all.length CX) (nn (runX all (pcs all.length l i)).1) ∧ OwnE 70 .i64 2 w.heap.size w_ (.slice BX (runX all (pcs all.length l i)).2.length EX) (spS (runX all (pcs all.length l i)).2) ∧ Cel w_ w3.heap.size 56 [.slice AX all.length CX, .slice BX (runX all (pcs all.length l i)).2.length EX] ∧ Cel w_ w5.heap.size 56 [.slice AY all.length CY, .slice BY (runX all (pcr all.length l (min l.length 40) i)).2.length EY] ∧ Own 5 .u8 w.heap.size w_ (.slice AY all.length CY) (nn (runX all (pcr all.length l (min l.length 40) i)).1) ∧ OwnE 70 .i64 2 w.heap.size w_ (.slice BY (runX all (pcr all.length l (min l.length 40) i)).2.length EY) (spS (runX all (pcr all.length l (min l.length 40) i)).2) ∧ w7.heap.size ≤ w_.heap.size)) _ ⟨0, X0, none, X0, none, Y0, 0, Y0, 0, rfl, (by omega), cutE, BL, D, L, (by rw [runX_p]; exact O1.mono (by omega)), (by rw [runX_p]; exact O2.mono (by omega)), (by rw [runX_p]; exact b5), (by rw [runX_r]; exact b7), (by rw [runX_r]; exact O1.mono (by omega)), (by rw [runX_r]; exact O2.mono (by omega)), Nat.le_refl _⟩ ?_
      clear BL D L O1 O2 b5 b7
      rintro n_ a_ wl0 ⟨i, AX, BX, AY, BY, CX, EX, CY, EY, rfl, hc0_0, ⟨s1, rfl⟩, BL, D, L, O1, O2, b5, b7, O3, O4, zl0⟩
      have lO1_2 := O1.ge
      have lO2_2 := O2.ge
      have lO3_1 := O3.ge
      have lO4_1 := O4.ge
      have kO1 := fun (i : Nat) hi => And.intro (O1.ge i hi) (And.intro (Own.ne O1 b5 (by decide) i hi) (Own.ne O1 b7 (by decide) i hi))
      have kO2 := fun (i : Nat) hi => And.intro (O2.ge i hi) (And.intro (OwnE.ne O2 b5 (by decide) i hi) (OwnE.ne O2 b7 (by decide) i hi))
      have kO3 := fun (i : Nat) hi => And.intro (O3.ge i hi) (And.intro (Own.ne O3 b5 (by decide) i hi) (Own.ne O3 b7 (by decide) i hi))
      have kO4 := fun (i : Nat) hi => And.intro (O4.ge i hi) (And.intro (OwnE.ne O4 b5 (by decide) i hi) (OwnE.ne O4 b7 (by decide) i hi))
      refine wp_seq_k fun K11 hK11 => ?_
      refine cPlain ?_
      refine sv 37 (.bool (decide (((i : Nat) : Int) < (((min l.length 40) : Nat) : Int)))) (Val.cmp .lss 3 _ (.tmp 36) (.tmp 35) rfl .i64 ((i : Nat) : Int) (((min l.length 40) : Nat) : Int) (by kernel_rfl) (by kernel_rfl) (by simp) _ rfl) ?_
      simp only [List.set_cons_zero, List.set_cons_succ]
      refine wpList_nil ?_
      refine hK11 _ _ ?_
      refine wp_seq_k fun K12 hK12 => ?_
      refine cDec (((i : Nat) : Int) < (((min l.length 40) : Nat) : Int)) (by kernel_rfl) (fun c37 => ?_) (fun c37 => ?_)
      · skip
        refine wp_skip ?_
        refine hK12 _ _ ?_
        refine wp_seq_k fun K13 hK13 => ?_
        refine wp_block ?_
        refine wp_seq_k fun K14 hK14 => ?_
        refine cPlain ?_
        refine sv 38 (.int .i64 ((i : Nat) : Int)) .of ?_
        simp only [List.set_cons_zero, List.set_cons_succ]
        refine sv 9 (.int .i64 ((i : Nat) : Int)) .of ?_
        simp only [List.set_cons_zero, List.set_cons_succ]
        refine wpList_nil ?_
        refine hK14 _ _ ?_
        refine wp_seq_k fun K15 hK15 => ?_
        have e4 := drew_e0 wl0
        refine zg (fun w_ => Bl w.heap.size w w_ ∧ SL .u8 w_ (.slice A all.length C) (nn all) ∧ SE .i64 2 w_ (.slice B l.length E) (spS l) ∧ Own 5 .u8 w.heap.size w_ (.slice AX all.length CX) (nn (runX all (pcs all.length l i)).1) ∧ OwnE 70 .i64 2 w.heap.size w_ (.slice BX (runX all (pcs all.length l i)).2.length EX) (spS (runX all (pcs all.length l i)).2) ∧ Cel w_ w3.heap.size 56 [.slice AX all.length CX, .slice BX (runX all (pcs all.length l i)).2.length EX] ∧ Cel w_ w5.heap.size 56 [.slice AY all.length CY, .slice BY (runX all (pcr all.length l (min l.length 40) i)).2.length EY] ∧ Own 5 .u8 w.heap.size w_ (.slice AY all.length CY) (nn (runX all (pcr all.length l (min l.length 40) i)).1) ∧ OwnE 70 .i64 2 w.heap.size w_ (.slice BY (runX all (pcr all.length l (min l.length 40) i)).2.length EY) (spS (runX all (pcr all.length l (min l.length 40) i)).2) ∧ wl0.heap.size ≤ w_.heap.size) (fun w_ => Bl w.heap.size w w_ ∧ SL .u8 w_ (.slice A all.length C) (nn all) ∧ SE .i64 2 w_ (.slice B l.length E) (spS l) ∧ Own 5 .u8 w.heap.size w_ (.slice AX all.length CX) (nn (runX all (pcs all.length l i)).1) ∧ OwnE 70 .i64 2 w.heap.size w_ (.slice BX (runX all (pcs all.length l i)).2.length EX) (spS (runX all (pcs all.length l i)).2) ∧ Cel w_ w3.heap.size 56 [.slice AX all.length CX, .slice BX (runX all (pcs all.length l i)).2.length EX] ∧ Cel w_ w5.heap.size 56 [.slice AY all.length CY, .slice BY (runX all (pcr all.length l (min l.length 40) i)).2.length EY] ∧ Own 5 .u8 w.heap.size w_ (.slice AY all.length CY) (nn (runX all (pcr all.length l (min l.length 40) i)).1) ∧ OwnE 70 .i64 2 w.heap.size w_ (.slice BY (runX all (pcr all.length l (min l.length 40) i)).2.length EY) (spS (runX all (pcr all.length l (min l.length 40) i)).2) ∧ wl0.heap.size ≤ w_.heap.size) 100000 17 ⟨BL.e0 e4, D.e0 e4, L.e0 e4, O1.e0 e4, O2.e0 e4, b5.e0 e4, b7.e0 e4, O3.e0 e4, O4.e0 e4, Nat.le_refl _⟩ ?_
        clear BL D L O1 O2 b5 b7 O3 O4
        clear e4
        intro w8
        rintro ⟨BL, D, L, O1, O2, b5, b7, O3, O4, z1⟩
        refine zv 0 40 (.slice A all.length C) (fun _ _ => .of) ⟨BL, D, L, O1, O2, b5, b7, O3, O4, by omega⟩ ?_
        simp only [List.set_cons_zero, List.set_cons_succ]
        refine zv 1 41 (.slice B l.length E) (fun _ _ => .of) ⟨BL, D, L, O1, O2, b5, b7, O3, O4, by omega⟩ ?_
        simp only [List.set_cons_zero, List.set_cons_succ]
        refine zv 2 42 (.int .i64 ((i : Nat) : Int)) (fun _ _ => .of) ⟨BL, D, L, O1, O2, b5, b7, O3, O4, by omega⟩ ?_
        simp only [List.set_cons_zero, List.set_cons_succ]
        refine zv 3 43 (elemE 2 (.slice B l.length E) i) (fun _ ⟨BL, D, L, O1, O2, b5, b7, O3, O4, z1⟩ => Val.ixE 62 (.tmp 41) (.tmp 42) rfl (.slice B l.length E) i (by kernel_rfl) (by kernel_rfl) L Try.underlying62 (by kernel_rfl) (by simp only [spS_len]; omega)) ⟨BL, D, L, O1, O2, b5, b7, O3, O4, by omega⟩ ?_
        simp only [List.set_cons_zero, List.set_cons_succ]
        refine zv 4 44 (elemF (.slice B l.length E) i 0) (fun _ ⟨BL, D, L, O1, O2, b5, b7, O3, O4, z1⟩ => Val.aixE 65 (.tmp 43) _ rfl (.slice B l.length E) i 0 (by kernel_rfl) (by kernel_rfl) L Try.underlying65 (by kernel_rfl) (by omega) (by omega)) ⟨BL, D, L, O1, O2, b5, b7, O3, O4, by omega⟩ ?_
        simp only [List.set_cons_zero, List.set_cons_succ]
        refine zv 5 45 (.int .i64 (l.getD i (0, 0)).1) (fun _ ⟨BL, D, L, O1, O2, b5, b7, O3, O4, z1⟩ => Val.ldF0 3 _ rfl (.slice B l.length E) i (by kernel_rfl) (fun _ => (by kernel_rfl)) L (by omega)) ⟨BL, D, L, O1, O2, b5, b7, O3, O4, by omega⟩ ?_
        simp only [List.set_cons_zero, List.set_cons_succ]
        refine zv 6 46 (.slice B l.length E) (fun _ _ => .of) ⟨BL, D, L, O1, O2, b5, b7, O3, O4, by omega⟩ ?_
        simp only [List.set_cons_zero, List.set_cons_succ]
        refine zv 7 47 (.int .i64 ((i : Nat) : Int)) (fun _ _ => .of) ⟨BL, D, L, O1, O2, b5, b7, O3, O4, by omega⟩ ?_
        simp only [List.set_cons_zero, List.set_cons_succ]
        refine zv 8 48 (elemE 2 (.slice B l.length E) i) (fun _ ⟨BL, D, L, O1, O2, b5, b7, O3, O4, z1⟩ => Val.ixE 62 (.tmp 46) (.tmp 47) rfl (.slice B l.length E) i (by kernel_rfl) (by kernel_rfl) L Try.underlying62 (by kernel_rfl) (by simp only [spS_len]; omega)) ⟨BL, D, L, O1, O2, b5, b7, O3, O4, by omega⟩ ?_
        simp only [List.set_cons_zero, List.set_cons_succ]
        refine zv 9 49 (elemF (.slice B l.length E) i 1) (fun _ ⟨BL, D, L, O1, O2, b5, b7, O3, O4, z1⟩ => Val.aixE 65 (.tmp 48) _ rfl (.slice B l.length E) i 1 (by kernel_rfl) (by kernel_rfl) L Try.underlying65 (by kernel_rfl) (by omega) (by omega)) ⟨BL, D, L, O1, O2, b5, b7, O3, O4, by omega⟩ ?_
        simp only [List.set_cons_zero, List.set_cons_succ]
        refine zv 10 50 (.int .i64 (l.getD i (0, 0)).2) (fun _ ⟨BL, D, L, O1, O2, b5, b7, O3, O4, z1⟩ => Val.ldF1 3 _ rfl (.slice B l.length E) i (by kernel_rfl) (fun _ => (by kernel_rfl)) L (by omega)) ⟨BL, D, L, O1, O2, b5, b7, O3, O4, by omega⟩ ?_
        simp only [List.set_cons_zero, List.set_cons_succ]
        refine zo1 11 rfl ?_
        refine xCall 51 35 #[.slice A all.length C, .int .i64 (l.getD i (0, 0)).1, .int .i64 (l.getD i (0, 0)).2] (by kernel_rfl) ?_
        refine (cut_any A C all (l.getD (i) (0, 0)).1 (l.getD (i) (0, 0)).2 w8 D h0 (by omega) (wf_at wl _).1 (wf_at wl _).2).mono ?_
        rintro en w9 ⟨rfl, hb1⟩
        have e5 := belE0 hb1
        have ze5 := e5.size
        replace BL := BL.e0 e5
        replace D := D.e0 e5
        replace L := L.e0 e5
        replace O1 := O1.e0 e5
        replace O2 := O2.e0 e5
        replace b5 := b5.e0 e5
        replace b7 := b7.e0 e5
        replace O3 := O3.e0 e5
        replace O4 := O4.e0 e5
        clear e5
        refine ⟨.tuple #[.int .i64 (((cutF all.length (l.getD (i) (0, 0)).1) : Nat) : Int), sliceV (.slice A all.length C) (cutF all.length (l.getD (i) (0, 0)).1) (cutT all.length (l.getD (i) (0, 0)).1 (l.getD (i) (0, 0)).2)], rfl, ?_⟩
        refine ze 11 ⟨BL, D, L, O1, O2, b5, b7, O3, O4, by omega⟩ ?_
        simp only [List.set_cons_zero, List.set_cons_succ]
        refine zv 12 39 (.tuple #[.int .i64 (((cutF all.length (l.getD (i) (0, 0)).1) : Nat) : Int), sliceV (.slice A all.length C) (cutF all.length (l.getD (i) (0, 0)).1) (cutT all.length (l.getD (i) (0, 0)).1 (l.getD (i) (0, 0)).2)]) (fun _ _ => .of) ⟨BL, D, L, O1, O2, b5, b7, O3, O4, by omega⟩ ?_
        simp only [List.set_cons_zero, List.set_cons_succ]
        refine zv 13 52 (.int .i64 (((cutF all.length (l.getD (i) (0, 0)).1) : Nat) : Int)) (fun _ _ => .of) ⟨BL, D, L, O1, O2, b5, b7, O3, O4, by omega⟩ ?_
        simp only [List.set_cons_zero, List.set_cons_succ]
        refine zv 14 53 (sliceV (.slice A all.length C) (cutF all.length (l.getD (i) (0, 0)).1) (cutT all.length (l.getD (i) (0, 0)).1 (l.getD (i) (0, 0)).2)) (fun _ _ => .of) ⟨BL, D, L, O1, O2, b5, b7, O3, O4, by omega⟩ ?_
        simp only [List.set_cons_zero, List.set_cons_succ]
        refine zv 15 10 (.int .i64 (((cutF all.length (l.getD (i) (0, 0)).1) : Nat) : Int)) (fun _ _ => .of) ⟨BL, D, L, O1, O2, b5, b7, O3, O4, by omega⟩ ?_
        simp only [List.set_cons_zero, List.set_cons_succ]
        refine zv 16 11 (sliceV (.slice A all.length C) (cutF all.length (l.getD (i) (0, 0)).1) (cutT all.length (l.getD (i) (0, 0)).1 (l.getD (i) (0, 0)).2)) (fun _ _ => .of) ⟨BL, D, L, O1, O2, b5, b7, O3, O4, by omega⟩ ?_
        simp only [List.set_cons_zero, List.set_cons_succ]
        refine zd (by kernel_rfl) ?_ _
        refine hK15 _ _ ?_
        refine wp_seq_k fun K16 hK16 => ?_
        have e6 := drew_e0 w9
        refine zg (fun w_ => Bl w.heap.size w w_ ∧ SL .u8 w_ (.slice A all.length C) (nn all) ∧ SE .i64 2 w_ (.slice B l.length E) (spS l) ∧ Own 5 .u8 w.heap.size w_ (.slice AX all.length CX) (nn (runX all (pcs all.length l i)).1) ∧ OwnE 70 .i64 2 w.heap.size w_ (.slice BX (runX all (pcs all.length l i)).2.length EX) (spS (runX all (pcs all.length l i)).2) ∧ Cel w_ w3.heap.size 56 [.slice AX all.length CX, .slice BX (runX all (pcs all.length l i)).2.length EX] ∧ Cel w_ w5.heap.size 56 [.slice AY all.length CY, .slice BY (runX all (pcr all.length l (min l.length 40) i)).2.length EY] ∧ Own 5 .u8 w.heap.size w_ (.slice AY all.length CY) (nn (runX all (pcr all.length l (min l.length 40) i)).1) ∧ OwnE 70 .i64 2 w.heap.size w_ (.slice BY (runX all (pcr all.length l (min l.length 40) i)).2.length EY) (spS (runX all (pcr all.length l (min l.length 40) i)).2) ∧ w9.heap.size ≤ w_.heap.size) (fun w_ => Bl w.heap.size w w_ ∧ SL .u8 w_ (.slice A all.length C) (nn all) ∧ SE .i64 2 w_ (.slice B l.length E) (spS l) ∧ Own 5 .u8 w.heap.size w_ (.slice AX all.length CX) (nn (runX all (pcs all.length l i)).1) ∧ OwnE 70 .i64 2 w.heap.size w_ (.slice BX (runX all (pcs all.length l i)).2.length EX) (spS (runX all (pcs all.length l i)).2) ∧ Cel w_ w3.heap.size 56 [.slice AX all.length CX, .slice BX (runX all (pcs all.length l i)).2.length EX] ∧ Cel w_ w5.heap.size 56 [.slice AY all.length CY, .slice BY (runX all (pcr all.length l (min l.length 40) i)).2.length EY] ∧ Own 5 .u8 w.heap.size w_ (.slice AY all.length CY) (nn (runX all (pcr all.length l (min l.length 40) i)).1) ∧ OwnE 70 .i64 2 w.heap.size w_ (.slice BY (runX all (pcr all.length l (min l.length 40) i)).2.length EY) (spS (runX all (pcr all.length l (min l.length 40) i)).2) ∧ w9.heap.size ≤ w_.heap.size) 100000 23 ⟨BL.e0 e6, D.e0 e6, L.e0 e6, O1.e0 e6, O2.e0 e6, b5.e0 e6, b7.e0 e6, O3.e0 e6, O4.e0 e6, Nat.le_refl _⟩ ?_
        clear BL D L O1 O2 b5 b7 O3 O4
        clear e6
        intro w10
        rintro ⟨BL, D, L, O1, O2, b5, b7, O3, O4, z2⟩
        refine zv 0 55 (.slice A all.length C) (fun _ _ => .of) ⟨BL, D, L, O1, O2, b5, b7, O3, O4, by omega⟩ ?_
        simp only [List.set_cons_zero, List.set_cons_succ]
        refine zv 1 56 (.slice B l.length E) (fun _ _ => .of) ⟨BL, D, L, O1, O2, b5, b7, O3, O4, by omega⟩ ?_
        simp only [List.set_cons_zero, List.set_cons_succ]
        refine zv 2 57 (.int .i64 (((min l.length 40) : Nat) : Int)) (fun _ _ => .of) ⟨BL, D, L, O1, O2, b5, b7, O3, O4, by omega⟩ ?_
        simp only [List.set_cons_zero, List.set_cons_succ]
        refine zv 3 58 (.int .i64 (((min l.length 40) - 1 : Nat) : Int)) (fun _ ⟨BL, D, L, O1, O2, b5, b7, O3, O4, z2⟩ => Val.as (Val.sub 3 _ (.tmp 57) _ rfl (((min l.length 40) : Nat) : Int) 1 (by kernel_rfl) (by kernel_rfl) (by omega)) (congrArg (Value.int .i64) (show (((((min l.length 40) : Nat) : Int) - 1) : Int) = (((min l.length 40) - 1 : Nat) : Int) by omega))) ⟨BL, D, L, O1, O2, b5, b7, O3, O4, by omega⟩ ?_
        simp only [List.set_cons_zero, List.set_cons_succ]
        refine zv 4 59 (.int .i64 ((i : Nat) : Int)) (fun _ _ => .of) ⟨BL, D, L, O1, O2, b5, b7, O3, O4, by omega⟩ ?_
        simp only [List.set_cons_zero, List.set_cons_succ]
        refine zv 5 60 (.int .i64 (((min l.length 40) - 1 - i : Nat) : Int)) (fun _ ⟨BL, D, L, O1, O2, b5, b7, O3, O4, z2⟩ => Val.as (Val.sub 3 _ (.tmp 58) (.tmp 59) rfl (((min l.length 40) - 1 : Nat) : Int) ((i : Nat) : Int) (by kernel_rfl) (by kernel_rfl) (by omega)) (congrArg (Value.int .i64) (show (((((min l.length 40) - 1 : Nat) : Int) - ((i : Nat) : Int)) : Int) = (((min l.length 40) - 1 - i : Nat) : Int) by omega))) ⟨BL, D, L, O1, O2, b5, b7, O3, O4, by omega⟩ ?_
        simp only [List.set_cons_zero, List.set_cons_succ]
        refine zv 6 61 (elemE 2 (.slice B l.length E) ((min l.length 40) - 1 - i)) (fun _ ⟨BL, D, L, O1, O2, b5, b7, O3, O4, z2⟩ => Val.ixE 62 (.tmp 56) (.tmp 60) rfl (.slice B l.length E) ((min l.length 40) - 1 - i) (by kernel_rfl) (by kernel_rfl) L Try.underlying62 (by kernel_rfl) (by simp only [spS_len]; omega)) ⟨BL, D, L, O1, O2, b5, b7, O3, O4, by omega⟩ ?_
        simp only [List.set_cons_zero, List.set_cons_succ]
        refine zv 7 62 (elemF (.slice B l.length E) ((min l.length 40) - 1 - i) 0) (fun _ ⟨BL, D, L, O1, O2, b5, b7, O3, O4, z2⟩ => Val.aixE 65 (.tmp 61) _ rfl (.slice B l.length E) ((min l.length 40) - 1 - i) 0 (by kernel_rfl) (by kernel_rfl) L Try.underlying65 (by kernel_rfl) (by omega) (by omega)) ⟨BL, D, L, O1, O2, b5, b7, O3, O4, by omega⟩ ?_
        simp only [List.set_cons_zero, List.set_cons_succ]
        refine zv 8 63 (.int .i64 (l.getD ((min l.length 40) - 1 - i) (0, 0)).1) (fun _ ⟨BL, D, L, O1, O2, b5, b7, O3, O4, z2⟩ => Val.ldF0 3 _ rfl (.slice B l.length E) ((min l.length 40) - 1 - i) (by kernel_rfl) (fun _ => (by kernel_rfl)) L (by omega)) ⟨BL, D, L, O1, O2, b5, b7, O3, O4, by omega⟩ ?_
        simp only [List.set_cons_zero, List.set_cons_succ]
        refine zv 9 64 (.slice B l.length E) (fun _ _ => .of) ⟨BL, D, L, O1, O2, b5, b7, O3, O4, by omega⟩ ?_
        simp only [List.set_cons_zero, List.set_cons_succ]
        refine zv 10 65 (.int .i64 (((min l.length 40) : Nat) : Int)) (fun _ _ => .of) ⟨BL, D, L, O1, O2, b5, b7, O3, O4, by omega⟩ ?_
        simp only [List.set_cons_zero, List.set_cons_succ]
        refine zv 11 66 (.int .i64 (((min l.length 40) - 1 : Nat) : Int)) (fun _ ⟨BL, D, L, O1, O2, b5, b7, O3, O4, z2⟩ => Val.as (Val.sub 3 _ (.tmp 65) _ rfl (((min l.length 40) : Nat) : Int) 1 (by kernel_rfl) (by kernel_rfl) (by omega)) (congrArg (Value.int .i64) (show (((((min l.length 40) : Nat) : Int) - 1) : Int) = (((min l.length 40) - 1 : Nat) : Int) by omega))) ⟨BL, D, L, O1, O2, b5, b7, O3, O4, by omega⟩ ?_
        simp only [List.set_cons_zero, List.set_cons_succ]
        refine zv 12 67 (.int .i64 ((i : Nat) : Int)) (fun _ _ => .of) ⟨BL, D, L, O1, O2, b5, b7, O3, O4, by omega⟩ ?_
        simp only [List.set_cons_zero, List.set_cons_succ]
        refine zv 13 68 (.int .i64 (((min l.length 40) - 1 - i : Nat) : Int)) (fun _ ⟨BL, D, L, O1, O2, b5, b7, O3, O4, z2⟩ => Val.as (Val.sub 3 _ (.tmp 66) (.tmp 67) rfl (((min l.length 40) - 1 : Nat) : Int) ((i : Nat) : Int) (by kernel_rfl) (by kernel_rfl) (by omega)) (congrArg (Value.int .i64) (show (((((min l.length 40) - 1 : Nat) : Int) - ((i : Nat) : Int)) : Int) = (((min l.length 40) - 1 - i : Nat) : Int) by omega))) ⟨BL, D, L, O1, O2, b5, b7, O3, O4, by omega⟩ ?_
        simp only [List.set_cons_zero, List.set_cons_succ]
        refine zv 14 69 (elemE 2 (.slice B l.length E) ((min l.length 40) - 1 - i)) (fun _ ⟨BL, D, L, O1, O2, b5, b7, O3, O4, z2⟩ => Val.ixE 62 (.tmp 64) (.tmp 68) rfl (.slice B l.length E) ((min l.length 40) - 1 - i) (by kernel_rfl) (by kernel_rfl) L Try.underlying62 (by kernel_rfl) (by simp only [spS_len]; omega)) ⟨BL, D, L, O1, O2, b5, b7, O3, O4, by omega⟩ ?_
        simp only [List.set_cons_zero, List.set_cons_succ]
        refine zv 15 70 (elemF (.slice B l.length E) ((min l.length 40) - 1 - i) 1) (fun _ ⟨BL, D, L, O1, O2, b5, b7, O3, O4, z2⟩ => Val.aixE 65 (.tmp 69) _ rfl (.slice B l.length E) ((min l.length 40) - 1 - i) 1 (by kernel_rfl) (by kernel_rfl) L Try.underlying65 (by kernel_rfl) (by omega) (by omega)) ⟨BL, D, L, O1, O2, b5, b7, O3, O4, by omega⟩ ?_
        simp only [List.set_cons_zero, List.set_cons_succ]
        refine zv 16 71 (.int .i64 (l.getD ((min l.length 40) - 1 - i) (0, 0)).2) (fun _ ⟨BL, D, L, O1, O2, b5, b7, O3, O4, z2⟩ => Val.ldF1 3 _ rfl (.slice B l.length E) ((min l.length 40) - 1 - i) (by kernel_rfl) (fun _ => (by kernel_rfl)) L (by omega)) ⟨BL, D, L, O1, O2, b5, b7, O3, O4, by omega⟩ ?_
        simp only [List.set_cons_zero, List.set_cons_succ]
        refine zo1 17 rfl ?_
        refine xCall 72 35 #[.slice A all.length C, .int .i64 (l.getD ((min l.length 40) - 1 - i) (0, 0)).1, .int .i64 (l.getD ((min l.length 40) - 1 - i) (0, 0)).2] (by kernel_rfl) ?_
        refine (cut_any A C all (l.getD ((min l.length 40) - 1 - i) (0, 0)).1 (l.getD ((min l.length 40) - 1 - i) (0, 0)).2 w10 D h0 (by omega) (wf_at wl _).1 (wf_at wl _).2).mono ?_
        rintro en w11 ⟨rfl, hb1⟩
        have e7 := belE0 hb1
        have ze7 := e7.size
        replace BL := BL.e0 e7
        replace D := D.e0 e7
        replace L := L.e0 e7
        replace O1 := O1.e0 e7
        replace O2 := O2.e0 e7
        replace b5 := b5.e0 e7
        replace b7 := b7.e0 e7
        replace O3 := O3.e0 e7
        replace O4 := O4.e0 e7
        clear e7
        refine ⟨.tuple #[.int .i64 (((cutF all.length (l.getD ((min l.length 40) - 1 - i) (0, 0)).1) : Nat) : Int), sliceV (.slice A all.length C) (cutF all.length (l.getD ((min l.length 40) - 1 - i) (0, 0)).1) (cutT all.length (l.getD ((min l.length 40) - 1 - i) (0, 0)).1 (l.getD ((min l.length 40) - 1 - i) (0, 0)).2)], rfl, ?_⟩
        refine ze 17 ⟨BL, D, L, O1, O2, b5, b7, O3, O4, by omega⟩ ?_
        simp only [List.set_cons_zero, List.set_cons_succ]
        refine zv 18 54 (.tuple #[.int .i64 (((cutF all.length (l.getD ((min l.length 40) - 1 - i) (0, 0)).1) : Nat) : Int), sliceV (.slice A all.length C) (cutF all.length (l.getD ((min l.length 40) - 1 - i) (0, 0)).1) (cutT all.length (l.getD ((min l.length 40) - 1 - i) (0, 0)).1 (l.getD ((min l.length 40) - 1 - i) (0, 0)).2)]) (fun _ _ => .of) ⟨BL, D, L, O1, O2, b5, b7, O3, O4, by omega⟩ ?_
        simp only [List.set_cons_zero, List.set_cons_succ]
        refine zv 19 73 (.int .i64 (((cutF all.length (l.getD ((min l.length 40) - 1 - i) (0, 0)).1) : Nat) : Int)) (fun _ _ => .of) ⟨BL, D, L, O1, O2, b5, b7, O3, O4, by omega⟩ ?_
        simp only [List.set_cons_zero, List.set_cons_succ]
        refine zv 20 74 (sliceV (.slice A all.length C) (cutF all.length (l.getD ((min l.length 40) - 1 - i) (0, 0)).1) (cutT all.length (l.getD ((min l.length 40) - 1 - i) (0, 0)).1 (l.getD ((min l.length 40) - 1 - i) (0, 0)).2)) (fun _ _ => .of) ⟨BL, D, L, O1, O2, b5, b7, O3, O4, by omega⟩ ?_
        simp only [List.set_cons_zero, List.set_cons_succ]
        refine zv 21 12 (.int .i64 (((cutF all.length (l.getD ((min l.length 40) - 1 - i) (0, 0)).1) : Nat) : Int)) (fun _ _ => .of) ⟨BL, D, L, O1, O2, b5, b7, O3, O4, by omega⟩ ?_
        simp only [List.set_cons_zero, List.set_cons_succ]
        refine zv 22 13 (sliceV (.slice A all.length C) (cutF all.length (l.getD ((min l.length 40) - 1 - i) (0, 0)).1) (cutT all.length (l.getD ((min l.length 40) - 1 - i) (0, 0)).1 (l.getD ((min l.length 40) - 1 - i) (0, 0)).2)) (fun _ _ => .of) ⟨BL, D, L, O1, O2, b5, b7, O3, O4, by omega⟩ ?_
        simp only [List.set_cons_zero, List.set_cons_succ]
        refine zd (by kernel_rfl) ?_ _
        refine hK16 _ _ ?_
        refine wp_seq_k fun K17 hK17 => ?_
        refine cPlain ?_
        refine sv 14 (.int .i64 0) .of ?_
        simp only [List.set_cons_zero, List.set_cons_succ]
        refine sv 15 (.int .i64 0) .of ?_
        simp only [List.set_cons_zero, List.set_cons_succ]
        refine wpList_nil ?_
        refine hK17 _ _ ?_
        refine wp_seq_k fun K18 hK18 => ?_
        refine cPlain ?_
        refine sv 76 (.agg #[.slice AX all.length CX, .slice BX (runX all (pcs all.length l i)).2.length EX]) (Val.cel 56 _ rfl 0 2 (by kernel_rfl) b5 _ Try.underlying56 rfl (by kernel_rfl) (by simp) [.slice AX all.length CX, .slice BX (runX all (pcs all.length l i)).2.length EX] rfl) ?_
        simp only [List.set_cons_zero, List.set_cons_succ]
        refine sv 77 (.int .i64 (((cutF all.length (l.getD (i) (0, 0)).1) : Nat) : Int)) .of ?_
        simp only [List.set_cons_zero, List.set_cons_succ]
        refine sv 78 (sliceV (.slice A all.length C) (cutF all.length (l.getD (i) (0, 0)).1) (cutT all.length (l.getD (i) (0, 0)).1 (l.getD (i) (0, 0)).2)) .of ?_
        simp only [List.set_cons_zero, List.set_cons_succ]
        refine xCall 79 33 #[.agg #[.slice AX all.length CX, .slice BX (runX all (pcs all.length l i)).2.length EX], .int .i64 (((cutF all.length (l.getD (i) (0, 0)).1) : Nat) : Int), sliceV (.slice A all.length C) (cutF all.length (l.getD (i) (0, 0)).1) (cutT all.length (l.getD (i) (0, 0)).1 (l.getD (i) (0, 0)).2)] (by kernel_rfl) ?_
        refine (runput_any all h2 (pcs all.length l i) (pcs_ok h0 l i) (pcO all.length (l.getD (i) (0, 0))) (pcO_ok h0 _) _ _ (.slice A all.length C) w11 O1.sl O2.se D).mono ?_
        rintro en w12 ⟨⟨X1, Y1, Z1, T1, he, P1, Q1⟩, hb1⟩
        rw [← pcs_succ (n := all.length) (l := l) (i := i) (by omega)] at he P1 Q1
        subst he
        have e8 := belE0 hb1
        have ze8 := e8.size
        replace BL := BL.e0 e8
        replace D := D.e0 e8
        replace L := L.e0 e8
        replace b5 := b5.e0 e8
        replace b7 := b7.e0 e8
        replace O3 := O3.e0 e8
        replace O4 := O4.e0 e8
        clear e8
        have lP1_1 := P1.ge
        have lQ1_1 := Q1.ge
        refine ⟨.tuple #[.agg #[.slice X1 all.length Y1, .slice Z1 (runX all (pcs all.length l (i + 1))).2.length T1], .int .i64 0], rfl, ?_⟩
        simp only [List.set_cons_zero, List.set_cons_succ]
        refine sv 75 (.tuple #[.agg #[.slice X1 all.length Y1, .slice Z1 (runX all (pcs all.length l (i + 1))).2.length T1], .int .i64 0]) .of ?_
        simp only [List.set_cons_zero, List.set_cons_succ]
        refine sv 80 (.agg #[.slice X1 all.length Y1, .slice Z1 (runX all (pcs all.length l (i + 1))).2.length T1]) .of ?_
        simp only [List.set_cons_zero, List.set_cons_succ]
        refine sv 81 (.int .i64 0) .of ?_
        simp only [List.set_cons_zero, List.set_cons_succ]
        refine xStoreR 56 (.tmp 5) (.tmp 80) rfl w3.heap.size 56 [.slice AX all.length CX, .slice BX (runX all (pcs all.length l i)).2.length EX] 0 [.slice X1 all.length Y1, .slice Z1 (runX all (pcs all.length l (i + 1))).2.length T1] (by kernel_rfl) (by kernel_rfl) b5 (by kernel_rfl) (by simp) rfl [.slice X1 all.length Y1, .slice Z1 (runX all (pcs all.length l (i + 1))).2.length T1] rfl ?_
        intro w13 t3
        have zt3 := t3.z
        have BL_ := BL.ev t3.e (fun i h => show w.heap.size ≤ i by have h : i = w3.heap.size := h; omega)
        have D_ := D.ev t3.e (fun i hi => show ¬ (i = w3.heap.size) by have := hdl i hi; omega)
        have L_ := L.ev t3.e (fun i hi => show ¬ (i = w3.heap.size) by have := hll i hi; omega)
        have b7_ := b7.ev t3.e (show ¬ (w5.heap.size = w3.heap.size) by omega)
        have O3_ := O3.ev t3.e (fun i hi => show ¬ (i = w3.heap.size) by have := kO3 i hi; omega)
        have O4_ := O4.ev t3.e (fun i hi => show ¬ (i = w3.heap.size) by have := kO4 i hi; omega)
        have P1_ := P1.ev t3.e (fun i hi => show ¬ (i = w3.heap.size) by have := lP1_1 i hi; omega)
        have Q1_ := Q1.ev t3.e (fun i hi => show ¬ (i = w3.heap.size) by have := lQ1_1 i hi; omega)
        replace BL := BL_; clear BL_
        replace D := D_; clear D_
        replace L := L_; clear L_
        replace b7 := b7_; clear b7_
        replace O3 := O3_; clear O3_
        replace O4 := O4_; clear O4_
        replace P1 := P1_; clear P1_
        replace Q1 := Q1_; clear Q1_
        replace b5 : Cel w13 w3.heap.size 56 [.slice X1 all.length Y1, .slice Z1 (runX all (pcs all.length l (i + 1))).2.length T1] := t3.c
        clear t3
        refine sv 14 (.int .i64 0) .of ?_
        simp only [List.set_cons_zero, List.set_cons_succ]
        refine wpList_nil ?_
        refine hK18 _ _ ?_
        refine wp_seq_k fun K19 hK19 => ?_
        refine cPlain ?_
        refine sv 83 (.agg #[.slice AY all.length CY, .slice BY (runX all (pcr all.length l (min l.length 40) i)).2.length EY]) (Val.cel 56 _ rfl 0 2 (by kernel_rfl) b7 _ Try.underlying56 rfl (by kernel_rfl) (by simp) [.slice AY all.length CY, .slice BY (runX all (pcr all.length l (min l.length 40) i)).2.length EY] rfl) ?_
        simp only [List.set_cons_zero, List.set_cons_succ]
        refine sv 84 (.int .i64 (((cutF all.length (l.getD ((min l.length 40) - 1 - i) (0, 0)).1) : Nat) : Int)) .of ?_
        simp only [List.set_cons_zero, List.set_cons_succ]
        refine sv 85 (sliceV (.slice A all.length C) (cutF all.length (l.getD ((min l.length 40) - 1 - i) (0, 0)).1) (cutT all.length (l.getD ((min l.length 40) - 1 - i) (0, 0)).1 (l.getD ((min l.length 40) - 1 - i) (0, 0)).2)) .of ?_
        simp only [List.set_cons_zero, List.set_cons_succ]
        refine xCall 86 33 #[.agg #[.slice AY all.length CY, .slice BY (runX all (pcr all.length l (min l.length 40) i)).2.length EY], .int .i64 (((cutF all.length (l.getD ((min l.length 40) - 1 - i) (0, 0)).1) : Nat) : Int), sliceV (.slice A all.length C) (cutF all.length (l.getD ((min l.length 40) - 1 - i) (0, 0)).1) (cutT all.length (l.getD ((min l.length 40) - 1 - i) (0, 0)).1 (l.getD ((min l.length 40) - 1 - i) (0, 0)).2)] (by kernel_rfl) ?_
        refine (runput_any all h2 (pcr all.length l (min l.length 40) i) (pcr_ok h0 l _ i) (pcO all.length (l.getD ((min l.length 40) - 1 - i) (0, 0))) (pcO_ok h0 _) _ _ (.slice A all.length C) w13 O3.sl O4.se D).mono ?_
        rintro en w14 ⟨⟨X2, Y2, Z2, T2, he, P2, Q2⟩, hb1⟩
        rw [← pcr_succ (n := all.length) (l := l) (k := (min l.length 40)) (i := i) (by omega) (by omega)] at he P2 Q2
        subst he
        have e9 := belE0 hb1
        have ze9 := e9.size
        replace BL := BL.e0 e9
        replace D := D.e0 e9
        replace L := L.e0 e9
        replace b5 := b5.e0 e9
        replace b7 := b7.e0 e9
        replace P1 := P1.e0 e9
        replace Q1 := Q1.e0 e9
        clear e9
        have lP2_1 := P2.ge
        have lQ2_1 := Q2.ge
        refine ⟨.tuple #[.agg #[.slice X2 all.length Y2, .slice Z2 (runX all (pcr all.length l (min l.length 40) (i + 1))).2.length T2], .int .i64 0], rfl, ?_⟩
        simp only [List.set_cons_zero, List.set_cons_succ]
        refine sv 82 (.tuple #[.agg #[.slice X2 all.length Y2, .slice Z2 (runX all (pcr all.length l (min l.length 40) (i + 1))).2.length T2], .int .i64 0]) .of ?_
        simp only [List.set_cons_zero, List.set_cons_succ]
        refine sv 87 (.agg #[.slice X2 all.length Y2, .slice Z2 (runX all (pcr all.length l (min l.length 40) (i + 1))).2.length T2]) .of ?_
        simp only [List.set_cons_zero, List.set_cons_succ]
        refine sv 88 (.int .i64 0) .of ?_
        simp only [List.set_cons_zero, List.set_cons_succ]
        refine xStoreR 56 (.tmp 7) (.tmp 87) rfl w5.heap.size 56 [.slice AY all.length CY, .slice BY (runX all (pcr all.length l (min l.length 40) i)).2.length EY] 0 [.slice X2 all.length Y2, .slice Z2 (runX all (pcr all.length l (min l.length 40) (i + 1))).2.length T2] (by kernel_rfl) (by kernel_rfl) b7 (by kernel_rfl) (by simp) rfl [.slice X2 all.length Y2, .slice Z2 (runX all (pcr all.length l (min l.length 40) (i + 1))).2.length T2] rfl ?_
        intro w15 t4
        have zt4 := t4.z
        have BL_ := BL.ev t4.e (fun i h => show w.heap.size ≤ i by have h : i = w5.heap.size := h; omega)
        have D_ := D.ev t4.e (fun i hi => show ¬ (i = w5.heap.size) by have := hdl i hi; omega)
        have L_ := L.ev t4.e (fun i hi => show ¬ (i = w5.heap.size) by have := hll i hi; omega)
        have b5_ := b5.ev t4.e (show ¬ (w3.heap.size = w5.heap.size) by omega)
        have P1_ := P1.ev t4.e (fun i hi => show ¬ (i = w5.heap.size) by have := lP1_1 i hi; omega)
        have Q1_ := Q1.ev t4.e (fun i hi => show ¬ (i = w5.heap.size) by have := lQ1_1 i hi; omega)
        have P2_ := P2.ev t4.e (fun i hi => show ¬ (i = w5.heap.size) by have := lP2_1 i hi; omega)
        have Q2_ := Q2.ev t4.e (fun i hi => show ¬ (i = w5.heap.size) by have := lQ2_1 i hi; omega)
        replace BL := BL_; clear BL_
        replace D := D_; clear D_
        replace L := L_; clear L_
        replace b5 := b5_; clear b5_
        replace P1 := P1_; clear P1_
        replace Q1 := Q1_; clear Q1_
        replace P2 := P2_; clear P2_
        replace Q2 := Q2_; clear Q2_
        replace b7 : Cel w15 w5.heap.size 56 [.slice X2 all.length Y2, .slice Z2 (runX all (pcr all.length l (min l.length 40) (i + 1))).2.length T2] := t4.c
        clear t4
        refine sv 15 (.int .i64 0) .of ?_
        simp only [List.set_cons_zero, List.set_cons_succ]
        refine wpList_nil ?_
        refine hK19 _ _ ?_
        refine wp_seq_k fun K20 hK20 => ?_
        refine cPlain ?_
        refine sv 89 (.int .i64 0) .of ?_
        simp only [List.set_cons_zero, List.set_cons_succ]
        refine sv 90 (.bool false) (Val.cmp .neq 37 _ (.tmp 89) _ rfl .i64 0 0 (by kernel_rfl) (by kernel_rfl) (by simp) _ rfl) ?_
        simp only [List.set_cons_zero, List.set_cons_succ]
        refine sv 91 (.bool false) .of ?_
        simp only [List.set_cons_zero, List.set_cons_succ]
        refine sv 92 (.int .i64 0) .of ?_
        simp only [List.set_cons_zero, List.set_cons_succ]
        refine sv 93 (.bool false) (Val.cmp .neq 37 _ (.tmp 92) _ rfl .i64 0 0 (by kernel_rfl) (by kernel_rfl) (by simp) _ rfl) ?_
        simp only [List.set_cons_zero, List.set_cons_succ]
        refine sv 94 (.bool false) .of ?_
        simp only [List.set_cons_zero, List.set_cons_succ]
        refine wpList_nil ?_
        refine hK20 _ _ ?_
        refine cF ?_
        refine wp_skip ?_
        refine hK13 _ _ ?_
        refine cPlain ?_
        refine sv 95 (.int .i64 (((i : Nat) : Int) + 1)) (Val.add 3 _ (.tmp 36) _ rfl ((i : Nat) : Int) 1 (by kernel_rfl) (by kernel_rfl) (by omega)) ?_
        simp only [List.set_cons_zero, List.set_cons_succ]
        refine sv 36 (.int .i64 (((i : Nat) : Int) + 1)) .of ?_
        simp only [List.set_cons_zero, List.set_cons_succ]
        refine wpList_nil ?_
        refine ⟨_, ?_, i + 1, X1, Z1, X2, Z2, Y1, T1, Y2, T2, rfl, (by omega), cutE, BL, D, L, (P1.mono (by omega)), (Q1.mono (by omega)), b5, b7, (P2.mono (by omega)), (Q2.mono (by omega)), by omega⟩
        omega
      · skip
        refine wp_exit ?_
        simp only [Exit.then, Exit.inBlock, ↓reduceIte, Nat.reduceEqDiff]
        refine hK9 _ _ ?_
        refine wp_seq_k fun K21 hK21 => ?_
        refine cPlain ?_
        refine sv 96 (.int .i64 0) .of ?_
        simp only [List.set_cons_zero, List.set_cons_succ]
        refine sv 97 (.bool true) (Val.cmp .eql 37 _ (.tmp 96) _ rfl .i64 0 0 (by kernel_rfl) (by kernel_rfl) (by simp) _ rfl) ?_
        simp only [List.set_cons_zero, List.set_cons_succ]
        refine sv 98 (.bool true) .of ?_
        simp only [List.set_cons_zero, List.set_cons_succ]
        refine sv 99 (.agg #[.slice AX all.length CX, .slice BX (runX all (pcs all.length l i)).2.length EX]) (Val.cel 56 _ rfl 0 2 (by kernel_rfl) b5 _ Try.underlying56 rfl (by kernel_rfl) (by simp) [.slice AX all.length CX, .slice BX (runX all (pcs all.length l i)).2.length EX] rfl) ?_
        simp only [List.set_cons_zero, List.set_cons_succ]
        refine sv 100 (.agg #[.slice AY all.length CY, .slice BY (runX all (pcr all.length l (min l.length 40) i)).2.length EY]) (Val.cel 56 _ rfl 0 2 (by kernel_rfl) b7 _ Try.underlying56 rfl (by kernel_rfl) (by simp) [.slice AY all.length CY, .slice BY (runX all (pcr all.length l (min l.length 40) i)).2.length EY] rfl) ?_
        simp only [List.set_cons_zero, List.set_cons_succ]
        refine xCall 101 36 #[.agg #[.slice AX all.length CX, .slice BX (runX all (pcs all.length l i)).2.length EX], .agg #[.slice AY all.length CY, .slice BY (runX all (pcr all.length l (min l.length 40) i)).2.length EY]] (by kernel_rfl) ?_
        refine (same_any _ _ _ _ _ _ _ _ wl0 O1.sl O2.se O3.sl O4.se ((runX_good (by omega) _ (pcs_ok h0 l _)).lt hb) ((runX_good (by omega) _ (pcr_ok h0 l _ _)).lt hb) ((runX_good (by omega) _ (pcs_ok h0 l _)).wf) ((runX_good (by omega) _ (pcr_ok h0 l _ _)).wf)).mono ?_
        rintro en w16 ⟨he, hb1⟩
        rw [decide_eq_true (show _ ∧ _ by rw [show i = (min l.length 40) by omega, order_same h0 (by omega) l (min l.length 40) (by omega)]; exact ⟨rfl, rfl⟩)] at he
        subst he
        have e10 := belE0 hb1
        have ze10 := e10.size
        replace BL := BL.e0 e10
        replace D := D.e0 e10
        replace L := L.e0 e10
        replace O1 := O1.e0 e10
        replace O2 := O2.e0 e10
        replace b5 := b5.e0 e10
        replace b7 := b7.e0 e10
        replace O3 := O3.e0 e10
        replace O4 := O4.e0 e10
        clear e10
        refine ⟨.bool true, rfl, ?_⟩
        simp only [List.set_cons_zero, List.set_cons_succ]
        refine sv 102 (.bool true) .of ?_
        simp only [List.set_cons_zero, List.set_cons_succ]
        refine sv 103 (.bool true) .of ?_
        simp only [List.set_cons_zero, List.set_cons_succ]
        refine xCall 104 31 #[] (by kernel_rfl) ?_
        refine (awake24 w16).mono ?_
        rintro en w17 ⟨rfl, hb1⟩
        have e11 := belE0 hb1
        have ze11 := e11.size
        replace BL := BL.e0 e11
        replace D := D.e0 e11
        replace L := L.e0 e11
        replace O1 := O1.e0 e11
        replace O2 := O2.e0 e11
        replace b5 := b5.e0 e11
        replace b7 := b7.e0 e11
        replace O3 := O3.e0 e11
        replace O4 := O4.e0 e11
        clear e11
        refine ⟨.bool true, rfl, ?_⟩
        simp only [List.set_cons_zero, List.set_cons_succ]
        refine sv 105 (.bool true) .of ?_
        simp only [List.set_cons_zero, List.set_cons_succ]
        refine sv 4 (.bool true) .of ?_
        simp only [List.set_cons_zero, List.set_cons_succ]
        refine wpList_nil ?_
        refine hK21 _ _ ?_
        refine wp_ret ?_
        (try simp only [Exit.then, Exit.inBlock])
        refine bodyPost_ret (v := .bool true) rT rfl ?_
        exact ⟨rfl, BL.b⟩

theorem xferOrder_any (w : World) (v0 : Value) (x0 : List Int) (D0 : SL .u8 w v0 x0) (h0 : ∀ y ∈ x0, 0 ≤ y ∧ y < 256) (v1 : Value) (es : List (List Int)) (D1 : SE .i64 2 w v1 es) (w1 : ∀ y ∈ es, ∀ n ∈ y, (Lit.int .i64 n).wf = true) :
    Calls Try.prog 5 #[v0, v1] w fun e w' => e = .returned (.bool true) ∧ Below w.heap.size w w' := by
  obtain ⟨all, rfl, _⟩ := nn_of (fun y hy => (h0 y hy).1)
  obtain ⟨l, rfl⟩ := spS_of D1.lens
  obtain ⟨A, C, hq, _⟩ := D0.len
  rw [nn_len] at hq
  subst hq
  obtain ⟨B, E, hq, _⟩ := D1.len
  rw [spS_len] at hq
  subst hq
  exact xferOrder_walk w A B C E all l D0 (fun y hy => by have := h0 (y : Int) (by unfold nn; exact List.mem_map.2 ⟨y, hy, rfl⟩); omega) D1 w1
end Go.Proofs.Ytanggdnmoaflfaa
