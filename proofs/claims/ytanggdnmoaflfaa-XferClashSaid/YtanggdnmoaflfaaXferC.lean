/-
  xfer.Next.
-/
import Derived.Test.YtanggdnmoaflfaaXferB
namespace Go.Proofs.Ytanggdnmoaflfaa
open Go.RowKit
set_option linter.unusedVariables false
set_option linter.unusedSimpArgs false
set_option maxRecDepth 100000
attribute [local irreducible] wpList Code.wp wpAnyZ
/-- What Next tells, as the program's value. -/
def nextV (p : (Int × Int) × Bool) : Value := .tuple #[.agg #[.int .i64 p.1.1, .int .i64 p.1.2], .bool p.2]
theorem nextX_no {d : List Nat} {h : List (Int × Int)} {m : Int} (hn : rightX d h = false ∨ m < 1) : nextX d h m = ((0, 0), false) := by
  unfold nextX; rw [if_pos hn]
theorem nextX_yes {d : List Nat} {h : List (Int × Int)} {m : Int} (hr : rightX d h = true) (hm : ¬ m < 1) {f t : Int} (hf : gapX d.length h = (f, t)) : nextX d h m = if f = min t (f + min m 65536) then ((0, 0), false) else ((f, min t (f + min m 65536)), true) := by
  unfold nextX; rw [hf, if_neg (by simp [hr, hm])]
attribute [local irreducible] rightX manyS gapX nextX
theorem xnext_any (dv hv : Value) (d : List Nat) (h : List (Int × Int)) (m : Int) (w : World) (D : SL .u8 w dv (nn d)) (H : SE .i64 2 w hv (spS h))
    (hm : -9223372036854775808 ≤ m ∧ m ≤ 9223372036854775807) : Calls Try.prog 38 #[.agg #[dv, hv], .int .i64 m] w fun e w' => e = .returned (nextV (nextX d h m)) ∧ Below w.heap.size w w' := by
  have BL := Bl.refl w
  have hdl := D.lt
  have hhl := H.lt
  obtain ⟨A, C, hv0, hmx⟩ := D.len
  rw [nn_len] at hv0 hmx
  obtain ⟨B, E, hv1, hmy⟩ := H.len
  rw [spS_len] at hv1 hmy
  subst hv0 hv1
  have hmz := H.cap.2.2
  unfold maxLen at hmx hmz
  go_enter Try.func38, Try.ntmps38
  refine wp_seq_k fun K1 hK1 => ?_
  refine cPlain ?_
  refine xBox 2 56 _ [.slice A d.length C, .slice B h.length E] rfl (by kernel_rfl) ?_
  intro w1 n1
  have zn1 := n1.z
  have b2 := n1.c
  replace BL := BL.e0 n1.e
  replace D := D.e0 n1.e
  replace H := H.e0 n1.e
  simp only [List.set_cons_zero, List.set_cons_succ]
  refine xAlloc 4 70 [.int .i64 0, .int .i64 0] rfl (by kernel_rfl) ?_
  intro w2 n2
  have zn2 := n2.z
  have b4 := n2.c
  replace BL := BL.e0 n2.e
  replace D := D.e0 n2.e
  replace H := H.e0 n2.e
  replace b2 := b2.e0 n2.e
  simp only [List.set_cons_zero, List.set_cons_succ]
  refine sv 5 (.bool false) .of ?_
  simp only [List.set_cons_zero, List.set_cons_succ]
  refine wpList_nil ?_
  refine hK1 _ _ ?_
  refine wp_seq_k fun K2 hK2 => ?_
  refine wp_seq_k fun K3 hK3 => ?_
  refine cPlain ?_
  refine sv 7 (.agg #[.slice A d.length C, .slice B h.length E]) (Val.cel 56 _ rfl 0 2 (by kernel_rfl) b2 _ Try.underlying56 rfl (by kernel_rfl) (by simp) [.slice A d.length C, .slice B h.length E] rfl) ?_
  simp only [List.set_cons_zero, List.set_cons_succ]
  refine xCall 8 40 #[.agg #[.slice A d.length C, .slice B h.length E]] (by kernel_rfl) ?_
  refine (xright_dec _ _ d h w2 D H).mono ?_
  rintro en w3 ⟨rfl, hb1⟩
  have e1 := belE0 hb1
  have ze1 := e1.size
  replace BL := BL.e0 e1
  replace D := D.e0 e1
  replace H := H.e0 e1
  replace b2 := b2.e0 e1
  replace b4 := b4.e0 e1
  clear e1
  refine ⟨.bool (decide (rightX d h = true)), rfl, ?_⟩
  simp only [List.set_cons_zero, List.set_cons_succ]
  refine sv 9 (.bool (decide (¬ (rightX d h = true)))) (Val.not _ _ rfl (decide (rightX d h = true)) (decide (¬ (rightX d h = true))) (by kernel_rfl) (by first | rw [decide_not] | simp)) ?_
  simp only [List.set_cons_zero, List.set_cons_succ]
  refine sv 10 (.bool (decide (¬ (rightX d h = true)))) .of ?_
  simp only [List.set_cons_zero, List.set_cons_succ]
  by_cases g11 : ¬ (rightX d h = true)
  · skip
    have dg11 : decide (¬ (rightX d h = true)) = true := decide_eq_true g11
    simp only [dg11]
    clear dg11
    refine xSkip 11 ?_
    simp only [List.set_cons_zero, List.set_cons_succ]
    refine xSkip 12 ?_
    simp only [List.set_cons_zero, List.set_cons_succ]
    refine sv 13 (.bool true) .of ?_
    simp only [List.set_cons_zero, List.set_cons_succ]
    refine wpList_nil ?_
    refine hK3 _ _ ?_
    refine cT ?_
    refine wp_seq_k fun K4 hK4 => ?_
    refine cPlain ?_
    refine sv 14 (.agg #[.int .i64 0, .int .i64 0]) .of ?_
    simp only [List.set_cons_zero, List.set_cons_succ]
    refine xStoreR 70 (.tmp 4) (.tmp 14) rfl w1.heap.size 70 [.int .i64 0, .int .i64 0] 0 [.int .i64 0, .int .i64 0] (by kernel_rfl) (by kernel_rfl) b4 (by kernel_rfl) (by simp) rfl [.int .i64 0, .int .i64 0] rfl ?_
    intro w4 t1
    have zt1 := t1.z
    have BL_ := BL.ev t1.e (fun i h => show w.heap.size ≤ i by have h : i = w1.heap.size := h; omega)
    have D_ := D.ev t1.e (fun i hi => show ¬ (i = w1.heap.size) by have := hdl i hi; omega)
    have H_ := H.ev t1.e (fun i hi => show ¬ (i = w1.heap.size) by have := hhl i hi; omega)
    have b2_ := b2.ev t1.e (show ¬ (w.heap.size = w1.heap.size) by omega)
    replace BL := BL_; clear BL_
    replace D := D_; clear D_
    replace H := H_; clear H_
    replace b2 := b2_; clear b2_
    replace b4 : Cel w4 w1.heap.size 70 [.int .i64 0, .int .i64 0] := t1.c
    clear t1
    refine sv 5 (.bool false) .of ?_
    simp only [List.set_cons_zero, List.set_cons_succ]
    refine wpList_nil ?_
    refine hK4 _ _ ?_
    refine wp_ret ?_
    (try simp only [Exit.then, Exit.inBlock])
    refine bodyPost_ret (rCT rfl _ w1.heap.size _ _ (.bool false) (by kernel_rfl) (by kernel_rfl) b4 _ Try.underlying70 rfl (by kernel_rfl)) rfl ?_
    rw [nextX_no (by first | exact .inl (by simpa using g11) | exact .inr (by omega))]
    exact ⟨rfl, BL.b⟩
  · skip
    have dg11 : decide (¬ (rightX d h = true)) = false := decide_eq_false g11
    simp only [dg11]
    clear dg11
    refine sv 11 (.int .i64 m) .of ?_
    simp only [List.set_cons_zero, List.set_cons_succ]
    refine sv 12 (.bool (decide (m < 1))) (Val.cmp .lss 3 _ (.tmp 11) _ rfl .i64 m 1 (by kernel_rfl) (by kernel_rfl) (by simp) _ rfl) ?_
    simp only [List.set_cons_zero, List.set_cons_succ]
    refine sv 13 (.bool (decide (m < 1))) .of ?_
    simp only [List.set_cons_zero, List.set_cons_succ]
    refine wpList_nil ?_
    refine hK3 _ _ ?_
    refine cDec (m < 1) (by kernel_rfl) (fun c13 => ?_) (fun c13 => ?_)
    · skip
      refine wp_seq_k fun K5 hK5 => ?_
      refine cPlain ?_
      refine sv 14 (.agg #[.int .i64 0, .int .i64 0]) .of ?_
      simp only [List.set_cons_zero, List.set_cons_succ]
      refine xStoreR 70 (.tmp 4) (.tmp 14) rfl w1.heap.size 70 [.int .i64 0, .int .i64 0] 0 [.int .i64 0, .int .i64 0] (by kernel_rfl) (by kernel_rfl) b4 (by kernel_rfl) (by simp) rfl [.int .i64 0, .int .i64 0] rfl ?_
      intro w5 t2
      have zt2 := t2.z
      have BL_ := BL.ev t2.e (fun i h => show w.heap.size ≤ i by have h : i = w1.heap.size := h; omega)
      have D_ := D.ev t2.e (fun i hi => show ¬ (i = w1.heap.size) by have := hdl i hi; omega)
      have H_ := H.ev t2.e (fun i hi => show ¬ (i = w1.heap.size) by have := hhl i hi; omega)
      have b2_ := b2.ev t2.e (show ¬ (w.heap.size = w1.heap.size) by omega)
      replace BL := BL_; clear BL_
      replace D := D_; clear D_
      replace H := H_; clear H_
      replace b2 := b2_; clear b2_
      replace b4 : Cel w5 w1.heap.size 70 [.int .i64 0, .int .i64 0] := t2.c
      clear t2
      refine sv 5 (.bool false) .of ?_
      simp only [List.set_cons_zero, List.set_cons_succ]
      refine wpList_nil ?_
      refine hK5 _ _ ?_
      refine wp_ret ?_
      (try simp only [Exit.then, Exit.inBlock])
      refine bodyPost_ret (rCT rfl _ w1.heap.size _ _ (.bool false) (by kernel_rfl) (by kernel_rfl) b4 _ Try.underlying70 rfl (by kernel_rfl)) rfl ?_
      rw [nextX_no (by first | exact .inl (by simpa using g11) | exact .inr (by omega))]
      exact ⟨rfl, BL.b⟩
    · skip
      have hr : rightX d h = true := Classical.not_not.1 g11
      have hcn := rightX_can hr
      have hln := rightX_len hr
      have hbd : 0 < h.length → 0 ≤ (h.getD 0 (0, 0)).1 ∧ (h.getD 0 (0, 0)).1 < (h.getD 0 (0, 0)).2 ∧ (h.getD 0 (0, 0)).2 ≤ d.length := fun hq => by have := manyS_bd (i := 0) hcn hq; omega
      refine wp_skip ?_
      refine hK2 _ _ ?_
      refine wp_seq_k fun K6 hK6 => ?_
      refine cPlain ?_
      refine sv 15 (.pointer (some ⟨w.heap.size, 0, none⟩)) .of ?_
      simp only [List.set_cons_zero, List.set_cons_succ]
      refine sv 16 (.slice A d.length C) (Val.cel1 29 _ rfl w.heap.size 0 _ (by kernel_rfl) (fun _ => (by kernel_rfl)) b2 rfl) ?_
      simp only [List.set_cons_zero, List.set_cons_succ]
      refine sv 17 (.int .i64 (d.length : Int)) .of ?_
      simp only [List.set_cons_zero, List.set_cons_succ]
      refine sv 18 (.agg #[.int .i64 0, .int .i64 (d.length : Int)]) .of ?_
      simp only [List.set_cons_zero, List.set_cons_succ]
      refine xAlloc 6 70 [.int .i64 0, .int .i64 0] rfl (by kernel_rfl) ?_
      intro w6 n3
      have zn3 := n3.z
      have b6 := n3.c
      replace BL := BL.e0 n3.e
      replace D := D.e0 n3.e
      replace H := H.e0 n3.e
      replace b2 := b2.e0 n3.e
      replace b4 := b4.e0 n3.e
      simp only [List.set_cons_zero, List.set_cons_succ]
      refine xStoreR 70 (.tmp 6) (.tmp 18) rfl w3.heap.size 70 [.int .i64 0, .int .i64 0] 0 [.int .i64 0, .int .i64 (d.length : Int)] (by kernel_rfl) (by kernel_rfl) b6 (by kernel_rfl) (by simp) rfl [.int .i64 0, .int .i64 (d.length : Int)] rfl ?_
      intro w7 t3
      have zt3 := t3.z
      have BL_ := BL.ev t3.e (fun i h => show w.heap.size ≤ i by have h : i = w3.heap.size := h; omega)
      have D_ := D.ev t3.e (fun i hi => show ¬ (i = w3.heap.size) by have := hdl i hi; omega)
      have H_ := H.ev t3.e (fun i hi => show ¬ (i = w3.heap.size) by have := hhl i hi; omega)
      have b2_ := b2.ev t3.e (show ¬ (w.heap.size = w3.heap.size) by omega)
      have b4_ := b4.ev t3.e (show ¬ (w1.heap.size = w3.heap.size) by omega)
      replace BL := BL_; clear BL_
      replace D := D_; clear D_
      replace H := H_; clear H_
      replace b2 := b2_; clear b2_
      replace b4 := b4_; clear b4_
      replace b6 : Cel w7 w3.heap.size 70 [.int .i64 0, .int .i64 (d.length : Int)] := t3.c
      clear t3
      refine wpList_nil ?_
      refine hK6 _ _ ?_
      refine wp_seq_k fun K7 hK7 => ?_
      refine wp_block ?_
      refine wp_seq_k fun K8 hK8 => ?_
      refine cPlain ?_
      refine sv 20 (.pointer (some ⟨w.heap.size, 1, none⟩)) .of ?_
      simp only [List.set_cons_zero, List.set_cons_succ]
      refine sv 21 (.slice B h.length E) (Val.cel1 54 _ rfl w.heap.size 1 _ (by kernel_rfl) (fun _ => (by kernel_rfl)) b2 rfl) ?_
      simp only [List.set_cons_zero, List.set_cons_succ]
      refine sv 22 (.int .i64 (h.length : Int)) .of ?_
      simp only [List.set_cons_zero, List.set_cons_succ]
      refine sv 23 (.bool (decide (0 < (h.length : Int)))) (Val.cmp .gtr 3 _ (.tmp 22) _ rfl .i64 (h.length : Int) 0 (by kernel_rfl) (by kernel_rfl) (by simp) _ rfl) ?_
      simp only [List.set_cons_zero, List.set_cons_succ]
      refine sv 24 (.bool (decide (0 < (h.length : Int)))) .of ?_
      simp only [List.set_cons_zero, List.set_cons_succ]
      by_cases g25 : 0 < (h.length : Int)
      · skip
        have dg25 : decide (0 < (h.length : Int)) = true := decide_eq_true g25
        simp only [dg25]
        clear dg25
        refine sv 25 (.pointer (some ⟨w.heap.size, 1, none⟩)) .of ?_
        simp only [List.set_cons_zero, List.set_cons_succ]
        refine sv 26 (.slice B h.length E) (Val.cel1 54 _ rfl w.heap.size 1 _ (by kernel_rfl) (fun _ => (by kernel_rfl)) b2 rfl) ?_
        simp only [List.set_cons_zero, List.set_cons_succ]
        refine sv 27 (elemE 2 (.slice B h.length E) 0) (Val.ixE 54 (.tmp 26) _ rfl (.slice B h.length E) 0 (by kernel_rfl) (by kernel_rfl) H Try.underlying54 (by kernel_rfl) (by simp only [spS_len]; omega)) ?_
        simp only [List.set_cons_zero, List.set_cons_succ]
        refine sv 28 (elemF (.slice B h.length E) 0 0) (Val.fldE 70 _ 0 rfl (.slice B h.length E) 0 (by kernel_rfl) H Try.underlying70 0 (by kernel_rfl) (by omega)) ?_
        simp only [List.set_cons_zero, List.set_cons_succ]
        refine sv 29 (.int .i64 (h.getD 0 (0, 0)).1) (Val.ldF0 3 _ rfl (.slice B h.length E) 0 (by kernel_rfl) (fun _ => (by kernel_rfl)) H (by omega)) ?_
        simp only [List.set_cons_zero, List.set_cons_succ]
        refine sv 30 (.bool (decide (0 < (h.getD 0 (0, 0)).1))) (Val.cmp .gtr 3 _ (.tmp 29) _ rfl .i64 ((h.getD 0 (0, 0)).1) 0 (by kernel_rfl) (by kernel_rfl) (by simp) _ rfl) ?_
        simp only [List.set_cons_zero, List.set_cons_succ]
        refine sv 31 (.bool (decide (0 < (h.getD 0 (0, 0)).1))) .of ?_
        simp only [List.set_cons_zero, List.set_cons_succ]
        refine sv 19 (.bool (decide (0 < (h.getD 0 (0, 0)).1))) .of ?_
        simp only [List.set_cons_zero, List.set_cons_succ]
        refine wpList_nil ?_
        refine hK8 _ _ ?_
        refine cDec (0 < (h.getD 0 (0, 0)).1) (by kernel_rfl) (fun c19 => ?_) (fun c19 => ?_)
        · skip
          refine cPlain ?_
          refine sv 32 (.pointer (some ⟨w.heap.size, 1, none⟩)) .of ?_
          simp only [List.set_cons_zero, List.set_cons_succ]
          refine sv 33 (.slice B h.length E) (Val.cel1 54 _ rfl w.heap.size 1 _ (by kernel_rfl) (fun _ => (by kernel_rfl)) b2 rfl) ?_
          simp only [List.set_cons_zero, List.set_cons_succ]
          refine sv 34 (elemE 2 (.slice B h.length E) 0) (Val.ixE 54 (.tmp 33) _ rfl (.slice B h.length E) 0 (by kernel_rfl) (by kernel_rfl) H Try.underlying54 (by kernel_rfl) (by simp only [spS_len]; omega)) ?_
          simp only [List.set_cons_zero, List.set_cons_succ]
          refine sv 35 (elemF (.slice B h.length E) 0 0) (Val.fldE 70 _ 0 rfl (.slice B h.length E) 0 (by kernel_rfl) H Try.underlying70 0 (by kernel_rfl) (by omega)) ?_
          simp only [List.set_cons_zero, List.set_cons_succ]
          refine sv 36 (.int .i64 (h.getD 0 (0, 0)).1) (Val.ldF0 3 _ rfl (.slice B h.length E) 0 (by kernel_rfl) (fun _ => (by kernel_rfl)) H (by omega)) ?_
          simp only [List.set_cons_zero, List.set_cons_succ]
          refine sv 37 (.pointer (some ⟨w3.heap.size, 1, none⟩)) .of ?_
          simp only [List.set_cons_zero, List.set_cons_succ]
          refine xStore 3 (.tmp 37) (.tmp 36) rfl w3.heap.size 70 [.int .i64 0, .int .i64 (d.length : Int)] 1 (.int .i64 (h.getD 0 (0, 0)).1) (by kernel_rfl) (by kernel_rfl) b6 (by kernel_rfl) (by simp) rfl [.int .i64 0, .int .i64 (h.getD 0 (0, 0)).1] rfl ?_
          intro w8 t4
          have zt4 := t4.z
          have BL_ := BL.ev t4.e (fun i h => show w.heap.size ≤ i by have h : i = w3.heap.size := h; omega)
          have D_ := D.ev t4.e (fun i hi => show ¬ (i = w3.heap.size) by have := hdl i hi; omega)
          have H_ := H.ev t4.e (fun i hi => show ¬ (i = w3.heap.size) by have := hhl i hi; omega)
          have b2_ := b2.ev t4.e (show ¬ (w.heap.size = w3.heap.size) by omega)
          have b4_ := b4.ev t4.e (show ¬ (w1.heap.size = w3.heap.size) by omega)
          replace BL := BL_; clear BL_
          replace D := D_; clear D_
          replace H := H_; clear H_
          replace b2 := b2_; clear b2_
          replace b4 := b4_; clear b4_
          replace b6 : Cel w8 w3.heap.size 70 [.int .i64 0, .int .i64 (h.getD 0 (0, 0)).1] := t4.c
          clear t4
          refine wpList_nil ?_
          refine hK7 _ _ ?_
          refine wp_seq_k fun K9 hK9 => ?_
          refine wp_seq_k fun K10 hK10 => ?_
          refine cPlain ?_
          refine sv 49 (.pointer (some ⟨w3.heap.size, 0, none⟩)) .of ?_
          simp only [List.set_cons_zero, List.set_cons_succ]
          refine sv 50 (.int .i64 0) (Val.cel1 3 _ rfl w3.heap.size 0 _ (by kernel_rfl) (fun _ => (by kernel_rfl)) b6 rfl) ?_
          simp only [List.set_cons_zero, List.set_cons_succ]
          refine sv 51 (.bool false) (Val.cmp .gtr 3 _ (.tmp 50) _ rfl .i64 0 0 (by kernel_rfl) (by kernel_rfl) (by simp) _ rfl) ?_
          simp only [List.set_cons_zero, List.set_cons_succ]
          refine sv 52 (.bool false) .of ?_
          simp only [List.set_cons_zero, List.set_cons_succ]
          refine xSkip 53 ?_
          simp only [List.set_cons_zero, List.set_cons_succ]
          refine xSkip 54 ?_
          simp only [List.set_cons_zero, List.set_cons_succ]
          refine xSkip 55 ?_
          simp only [List.set_cons_zero, List.set_cons_succ]
          refine xSkip 56 ?_
          simp only [List.set_cons_zero, List.set_cons_succ]
          refine sv 57 (.bool false) .of ?_
          simp only [List.set_cons_zero, List.set_cons_succ]
          refine wpList_nil ?_
          refine hK10 _ _ ?_
          refine cF ?_
          refine wp_skip ?_
          refine hK9 _ _ ?_
          refine wp_seq_k fun K11 hK11 => ?_
          refine cPlain ?_
          refine sv 64 (.pointer (some ⟨w3.heap.size, 1, none⟩)) .of ?_
          simp only [List.set_cons_zero, List.set_cons_succ]
          refine sv 65 (.int .i64 (h.getD 0 (0, 0)).1) (Val.cel1 3 _ rfl w3.heap.size 1 _ (by kernel_rfl) (fun _ => (by kernel_rfl)) b6 rfl) ?_
          simp only [List.set_cons_zero, List.set_cons_succ]
          refine sv 66 (.pointer (some ⟨w3.heap.size, 0, none⟩)) .of ?_
          simp only [List.set_cons_zero, List.set_cons_succ]
          refine sv 67 (.int .i64 0) (Val.cel1 3 _ rfl w3.heap.size 0 _ (by kernel_rfl) (fun _ => (by kernel_rfl)) b6 rfl) ?_
          simp only [List.set_cons_zero, List.set_cons_succ]
          refine sv 68 (.int .i64 m) .of ?_
          simp only [List.set_cons_zero, List.set_cons_succ]
          refine sv 69 (.int .i64 (min m 65536)) (Val.minI (.tmp 68) _ _ rfl m 65536 (by kernel_rfl) (by kernel_rfl)) ?_
          simp only [List.set_cons_zero, List.set_cons_succ]
          refine sv 70 (.int .i64 (0 + (min m 65536))) (Val.add 3 _ (.tmp 67) (.tmp 69) rfl 0 (min m 65536) (by kernel_rfl) (by kernel_rfl) (by omega)) ?_
          simp only [List.set_cons_zero, List.set_cons_succ]
          refine sv 71 (.int .i64 (min ((h.getD 0 (0, 0)).1) (0 + (min m 65536)))) (Val.minI (.tmp 65) (.tmp 70) _ rfl ((h.getD 0 (0, 0)).1) (0 + (min m 65536)) (by kernel_rfl) (by kernel_rfl)) ?_
          simp only [List.set_cons_zero, List.set_cons_succ]
          refine sv 72 (.pointer (some ⟨w3.heap.size, 1, none⟩)) .of ?_
          simp only [List.set_cons_zero, List.set_cons_succ]
          refine xStore 3 (.tmp 72) (.tmp 71) rfl w3.heap.size 70 [.int .i64 0, .int .i64 (h.getD 0 (0, 0)).1] 1 (.int .i64 (min ((h.getD 0 (0, 0)).1) (0 + (min m 65536)))) (by kernel_rfl) (by kernel_rfl) b6 (by kernel_rfl) (by simp) rfl [.int .i64 0, .int .i64 (min ((h.getD 0 (0, 0)).1) (0 + (min m 65536)))] rfl ?_
          intro w9 t5
          have zt5 := t5.z
          have BL_ := BL.ev t5.e (fun i h => show w.heap.size ≤ i by have h : i = w3.heap.size := h; omega)
          have D_ := D.ev t5.e (fun i hi => show ¬ (i = w3.heap.size) by have := hdl i hi; omega)
          have H_ := H.ev t5.e (fun i hi => show ¬ (i = w3.heap.size) by have := hhl i hi; omega)
          have b2_ := b2.ev t5.e (show ¬ (w.heap.size = w3.heap.size) by omega)
          have b4_ := b4.ev t5.e (show ¬ (w1.heap.size = w3.heap.size) by omega)
          replace BL := BL_; clear BL_
          replace D := D_; clear D_
          replace H := H_; clear H_
          replace b2 := b2_; clear b2_
          replace b4 := b4_; clear b4_
          replace b6 : Cel w9 w3.heap.size 70 [.int .i64 0, .int .i64 (min ((h.getD 0 (0, 0)).1) (0 + (min m 65536)))] := t5.c
          clear t5
          refine wpList_nil ?_
          refine hK11 _ _ ?_
          refine wp_seq_k fun K12 hK12 => ?_
          refine wp_seq_k fun K13 hK13 => ?_
          refine cPlain ?_
          refine sv 73 (.pointer (some ⟨w3.heap.size, 0, none⟩)) .of ?_
          simp only [List.set_cons_zero, List.set_cons_succ]
          refine sv 74 (.int .i64 0) (Val.cel1 3 _ rfl w3.heap.size 0 _ (by kernel_rfl) (fun _ => (by kernel_rfl)) b6 rfl) ?_
          simp only [List.set_cons_zero, List.set_cons_succ]
          refine sv 75 (.pointer (some ⟨w3.heap.size, 1, none⟩)) .of ?_
          simp only [List.set_cons_zero, List.set_cons_succ]
          refine sv 76 (.int .i64 (min ((h.getD 0 (0, 0)).1) (0 + (min m 65536)))) (Val.cel1 3 _ rfl w3.heap.size 1 _ (by kernel_rfl) (fun _ => (by kernel_rfl)) b6 rfl) ?_
          simp only [List.set_cons_zero, List.set_cons_succ]
          refine sv 77 (.bool (decide (0 = (min ((h.getD 0 (0, 0)).1) (0 + (min m 65536)))))) (Val.cmp .eql 3 _ (.tmp 74) (.tmp 76) rfl .i64 0 (min ((h.getD 0 (0, 0)).1) (0 + (min m 65536))) (by kernel_rfl) (by kernel_rfl) (by simp) _ rfl) ?_
          simp only [List.set_cons_zero, List.set_cons_succ]
          refine wpList_nil ?_
          refine hK13 _ _ ?_
          refine cDec (0 = (min ((h.getD 0 (0, 0)).1) (0 + (min m 65536)))) (by kernel_rfl) (fun c77 => ?_) (fun c77 => ?_)
          · skip
            refine wp_seq_k fun K14 hK14 => ?_
            refine cPlain ?_
            refine sv 78 (.agg #[.int .i64 0, .int .i64 0]) .of ?_
            simp only [List.set_cons_zero, List.set_cons_succ]
            refine xStoreR 70 (.tmp 4) (.tmp 78) rfl w1.heap.size 70 [.int .i64 0, .int .i64 0] 0 [.int .i64 0, .int .i64 0] (by kernel_rfl) (by kernel_rfl) b4 (by kernel_rfl) (by simp) rfl [.int .i64 0, .int .i64 0] rfl ?_
            intro w10 t6
            have zt6 := t6.z
            have BL_ := BL.ev t6.e (fun i h => show w.heap.size ≤ i by have h : i = w1.heap.size := h; omega)
            have D_ := D.ev t6.e (fun i hi => show ¬ (i = w1.heap.size) by have := hdl i hi; omega)
            have H_ := H.ev t6.e (fun i hi => show ¬ (i = w1.heap.size) by have := hhl i hi; omega)
            have b2_ := b2.ev t6.e (show ¬ (w.heap.size = w1.heap.size) by omega)
            have b6_ := b6.ev t6.e (show ¬ (w3.heap.size = w1.heap.size) by omega)
            replace BL := BL_; clear BL_
            replace D := D_; clear D_
            replace H := H_; clear H_
            replace b2 := b2_; clear b2_
            replace b6 := b6_; clear b6_
            replace b4 : Cel w10 w1.heap.size 70 [.int .i64 0, .int .i64 0] := t6.c
            clear t6
            refine sv 5 (.bool false) .of ?_
            simp only [List.set_cons_zero, List.set_cons_succ]
            refine wpList_nil ?_
            refine hK14 _ _ ?_
            refine wp_ret ?_
            (try simp only [Exit.then, Exit.inBlock])
            refine bodyPost_ret (rCT rfl _ w1.heap.size _ _ (.bool false) (by kernel_rfl) (by kernel_rfl) b4 _ Try.underlying70 rfl (by kernel_rfl)) rfl ?_
            have hg : gapX d.length h = (0, ((h.getD 0 (0, 0)).1)) := by
              rw [gapX_def]
              repeat' split
              all_goals (first | (exfalso; omega) | rfl)
            rw [nextX_yes hr (by omega) hg, if_pos c77]
            exact ⟨rfl, BL.b⟩
          · skip
            refine wp_skip ?_
            refine hK12 _ _ ?_
            refine wp_seq_k fun K15 hK15 => ?_
            refine cPlain ?_
            refine sv 79 (.agg #[.int .i64 0, .int .i64 (min ((h.getD 0 (0, 0)).1) (0 + (min m 65536)))]) (Val.cel 70 _ rfl 0 2 (by kernel_rfl) b6 _ Try.underlying70 rfl (by kernel_rfl) (by simp) [.int .i64 0, .int .i64 (min ((h.getD 0 (0, 0)).1) (0 + (min m 65536)))] rfl) ?_
            simp only [List.set_cons_zero, List.set_cons_succ]
            refine xStoreR 70 (.tmp 4) (.tmp 79) rfl w1.heap.size 70 [.int .i64 0, .int .i64 0] 0 [.int .i64 0, .int .i64 (min ((h.getD 0 (0, 0)).1) (0 + (min m 65536)))] (by kernel_rfl) (by kernel_rfl) b4 (by kernel_rfl) (by simp) rfl [.int .i64 0, .int .i64 (min ((h.getD 0 (0, 0)).1) (0 + (min m 65536)))] rfl ?_
            intro w11 t7
            have zt7 := t7.z
            have BL_ := BL.ev t7.e (fun i h => show w.heap.size ≤ i by have h : i = w1.heap.size := h; omega)
            have D_ := D.ev t7.e (fun i hi => show ¬ (i = w1.heap.size) by have := hdl i hi; omega)
            have H_ := H.ev t7.e (fun i hi => show ¬ (i = w1.heap.size) by have := hhl i hi; omega)
            have b2_ := b2.ev t7.e (show ¬ (w.heap.size = w1.heap.size) by omega)
            have b6_ := b6.ev t7.e (show ¬ (w3.heap.size = w1.heap.size) by omega)
            replace BL := BL_; clear BL_
            replace D := D_; clear D_
            replace H := H_; clear H_
            replace b2 := b2_; clear b2_
            replace b6 := b6_; clear b6_
            replace b4 : Cel w11 w1.heap.size 70 [.int .i64 0, .int .i64 (min ((h.getD 0 (0, 0)).1) (0 + (min m 65536)))] := t7.c
            clear t7
            refine sv 5 (.bool true) .of ?_
            simp only [List.set_cons_zero, List.set_cons_succ]
            refine wpList_nil ?_
            refine hK15 _ _ ?_
            refine wp_ret ?_
            (try simp only [Exit.then, Exit.inBlock])
            refine bodyPost_ret (rCT rfl _ w1.heap.size _ _ (.bool true) (by kernel_rfl) (by kernel_rfl) b4 _ Try.underlying70 rfl (by kernel_rfl)) rfl ?_
            have hg : gapX d.length h = (0, ((h.getD 0 (0, 0)).1)) := by
              rw [gapX_def]
              repeat' split
              all_goals (first | (exfalso; omega) | rfl)
            rw [nextX_yes hr (by omega) hg, if_neg c77]
            exact ⟨rfl, BL.b⟩
        · skip
          refine wp_seq_k fun K16 hK16 => ?_
          refine cPlain ?_
          refine sv 39 (.pointer (some ⟨w.heap.size, 1, none⟩)) .of ?_
          simp only [List.set_cons_zero, List.set_cons_succ]
          refine sv 40 (.slice B h.length E) (Val.cel1 54 _ rfl w.heap.size 1 _ (by kernel_rfl) (fun _ => (by kernel_rfl)) b2 rfl) ?_
          simp only [List.set_cons_zero, List.set_cons_succ]
          refine sv 41 (.int .i64 (h.length : Int)) .of ?_
          simp only [List.set_cons_zero, List.set_cons_succ]
          refine sv 42 (.bool (decide (0 < (h.length : Int)))) (Val.cmp .gtr 3 _ (.tmp 41) _ rfl .i64 (h.length : Int) 0 (by kernel_rfl) (by kernel_rfl) (by simp) _ rfl) ?_
          simp only [List.set_cons_zero, List.set_cons_succ]
          refine sv 38 (.bool (decide (0 < (h.length : Int)))) .of ?_
          simp only [List.set_cons_zero, List.set_cons_succ]
          refine wpList_nil ?_
          refine hK16 _ _ ?_
          refine cDec (0 < (h.length : Int)) (by kernel_rfl) (fun c38 => ?_) (fun c38 => ?_)
          · skip
            refine cPlain ?_
            refine sv 43 (.pointer (some ⟨w.heap.size, 1, none⟩)) .of ?_
            simp only [List.set_cons_zero, List.set_cons_succ]
            refine sv 44 (.slice B h.length E) (Val.cel1 54 _ rfl w.heap.size 1 _ (by kernel_rfl) (fun _ => (by kernel_rfl)) b2 rfl) ?_
            simp only [List.set_cons_zero, List.set_cons_succ]
            refine sv 45 (elemE 2 (.slice B h.length E) 0) (Val.ixE 54 (.tmp 44) _ rfl (.slice B h.length E) 0 (by kernel_rfl) (by kernel_rfl) H Try.underlying54 (by kernel_rfl) (by simp only [spS_len]; omega)) ?_
            simp only [List.set_cons_zero, List.set_cons_succ]
            refine sv 46 (elemF (.slice B h.length E) 0 1) (Val.fldE 70 _ 1 rfl (.slice B h.length E) 0 (by kernel_rfl) H Try.underlying70 1 (by kernel_rfl) (by omega)) ?_
            simp only [List.set_cons_zero, List.set_cons_succ]
            refine sv 47 (.int .i64 (h.getD 0 (0, 0)).2) (Val.ldF1 3 _ rfl (.slice B h.length E) 0 (by kernel_rfl) (fun _ => (by kernel_rfl)) H (by omega)) ?_
            simp only [List.set_cons_zero, List.set_cons_succ]
            refine sv 48 (.pointer (some ⟨w3.heap.size, 0, none⟩)) .of ?_
            simp only [List.set_cons_zero, List.set_cons_succ]
            refine xStore 3 (.tmp 48) (.tmp 47) rfl w3.heap.size 70 [.int .i64 0, .int .i64 (d.length : Int)] 0 (.int .i64 (h.getD 0 (0, 0)).2) (by kernel_rfl) (by kernel_rfl) b6 (by kernel_rfl) (by simp) rfl [.int .i64 (h.getD 0 (0, 0)).2, .int .i64 (d.length : Int)] rfl ?_
            intro w12 t8
            have zt8 := t8.z
            have BL_ := BL.ev t8.e (fun i h => show w.heap.size ≤ i by have h : i = w3.heap.size := h; omega)
            have D_ := D.ev t8.e (fun i hi => show ¬ (i = w3.heap.size) by have := hdl i hi; omega)
            have H_ := H.ev t8.e (fun i hi => show ¬ (i = w3.heap.size) by have := hhl i hi; omega)
            have b2_ := b2.ev t8.e (show ¬ (w.heap.size = w3.heap.size) by omega)
            have b4_ := b4.ev t8.e (show ¬ (w1.heap.size = w3.heap.size) by omega)
            replace BL := BL_; clear BL_
            replace D := D_; clear D_
            replace H := H_; clear H_
            replace b2 := b2_; clear b2_
            replace b4 := b4_; clear b4_
            replace b6 : Cel w12 w3.heap.size 70 [.int .i64 (h.getD 0 (0, 0)).2, .int .i64 (d.length : Int)] := t8.c
            clear t8
            refine wpList_nil ?_
            refine hK7 _ _ ?_
            refine wp_seq_k fun K17 hK17 => ?_
            refine wp_seq_k fun K18 hK18 => ?_
            refine cPlain ?_
            refine sv 49 (.pointer (some ⟨w3.heap.size, 0, none⟩)) .of ?_
            simp only [List.set_cons_zero, List.set_cons_succ]
            refine sv 50 (.int .i64 (h.getD 0 (0, 0)).2) (Val.cel1 3 _ rfl w3.heap.size 0 _ (by kernel_rfl) (fun _ => (by kernel_rfl)) b6 rfl) ?_
            simp only [List.set_cons_zero, List.set_cons_succ]
            refine sv 51 (.bool (decide (0 < (h.getD 0 (0, 0)).2))) (Val.cmp .gtr 3 _ (.tmp 50) _ rfl .i64 ((h.getD 0 (0, 0)).2) 0 (by kernel_rfl) (by kernel_rfl) (by simp) _ rfl) ?_
            simp only [List.set_cons_zero, List.set_cons_succ]
            refine sv 52 (.bool (decide (0 < (h.getD 0 (0, 0)).2))) .of ?_
            simp only [List.set_cons_zero, List.set_cons_succ]
            by_cases g53 : 0 < (h.getD 0 (0, 0)).2
            · skip
              have dg53 : decide (0 < (h.getD 0 (0, 0)).2) = true := decide_eq_true g53
              simp only [dg53]
              clear dg53
              refine sv 53 (.pointer (some ⟨w.heap.size, 1, none⟩)) .of ?_
              simp only [List.set_cons_zero, List.set_cons_succ]
              refine sv 54 (.slice B h.length E) (Val.cel1 54 _ rfl w.heap.size 1 _ (by kernel_rfl) (fun _ => (by kernel_rfl)) b2 rfl) ?_
              simp only [List.set_cons_zero, List.set_cons_succ]
              refine sv 55 (.int .i64 (h.length : Int)) .of ?_
              simp only [List.set_cons_zero, List.set_cons_succ]
              refine sv 56 (.bool (decide (1 < (h.length : Int)))) (Val.cmp .gtr 3 _ (.tmp 55) _ rfl .i64 (h.length : Int) 1 (by kernel_rfl) (by kernel_rfl) (by simp) _ rfl) ?_
              simp only [List.set_cons_zero, List.set_cons_succ]
              refine sv 57 (.bool (decide (1 < (h.length : Int)))) .of ?_
              simp only [List.set_cons_zero, List.set_cons_succ]
              refine wpList_nil ?_
              refine hK18 _ _ ?_
              refine cDec (1 < (h.length : Int)) (by kernel_rfl) (fun c57 => ?_) (fun c57 => ?_)
              · skip
                refine cPlain ?_
                refine sv 58 (.pointer (some ⟨w.heap.size, 1, none⟩)) .of ?_
                simp only [List.set_cons_zero, List.set_cons_succ]
                refine sv 59 (.slice B h.length E) (Val.cel1 54 _ rfl w.heap.size 1 _ (by kernel_rfl) (fun _ => (by kernel_rfl)) b2 rfl) ?_
                simp only [List.set_cons_zero, List.set_cons_succ]
                refine sv 60 (elemE 2 (.slice B h.length E) 1) (Val.ixE 54 (.tmp 59) _ rfl (.slice B h.length E) 1 (by kernel_rfl) (by kernel_rfl) H Try.underlying54 (by kernel_rfl) (by simp only [spS_len]; omega)) ?_
                simp only [List.set_cons_zero, List.set_cons_succ]
                refine sv 61 (elemF (.slice B h.length E) 1 0) (Val.fldE 70 _ 0 rfl (.slice B h.length E) 1 (by kernel_rfl) H Try.underlying70 0 (by kernel_rfl) (by omega)) ?_
                simp only [List.set_cons_zero, List.set_cons_succ]
                refine sv 62 (.int .i64 (h.getD 1 (0, 0)).1) (Val.ldF0 3 _ rfl (.slice B h.length E) 1 (by kernel_rfl) (fun _ => (by kernel_rfl)) H (by omega)) ?_
                simp only [List.set_cons_zero, List.set_cons_succ]
                refine sv 63 (.pointer (some ⟨w3.heap.size, 1, none⟩)) .of ?_
                simp only [List.set_cons_zero, List.set_cons_succ]
                refine xStore 3 (.tmp 63) (.tmp 62) rfl w3.heap.size 70 [.int .i64 (h.getD 0 (0, 0)).2, .int .i64 (d.length : Int)] 1 (.int .i64 (h.getD 1 (0, 0)).1) (by kernel_rfl) (by kernel_rfl) b6 (by kernel_rfl) (by simp) rfl [.int .i64 (h.getD 0 (0, 0)).2, .int .i64 (h.getD 1 (0, 0)).1] rfl ?_
                intro w13 t9
                have zt9 := t9.z
                have BL_ := BL.ev t9.e (fun i h => show w.heap.size ≤ i by have h : i = w3.heap.size := h; omega)
                have D_ := D.ev t9.e (fun i hi => show ¬ (i = w3.heap.size) by have := hdl i hi; omega)
                have H_ := H.ev t9.e (fun i hi => show ¬ (i = w3.heap.size) by have := hhl i hi; omega)
                have b2_ := b2.ev t9.e (show ¬ (w.heap.size = w3.heap.size) by omega)
                have b4_ := b4.ev t9.e (show ¬ (w1.heap.size = w3.heap.size) by omega)
                replace BL := BL_; clear BL_
                replace D := D_; clear D_
                replace H := H_; clear H_
                replace b2 := b2_; clear b2_
                replace b4 := b4_; clear b4_
                replace b6 : Cel w13 w3.heap.size 70 [.int .i64 (h.getD 0 (0, 0)).2, .int .i64 (h.getD 1 (0, 0)).1] := t9.c
                clear t9
                refine wpList_nil ?_
                refine hK17 _ _ ?_
                refine wp_seq_k fun K19 hK19 => ?_
                refine cPlain ?_
                refine sv 64 (.pointer (some ⟨w3.heap.size, 1, none⟩)) .of ?_
                simp only [List.set_cons_zero, List.set_cons_succ]
                refine sv 65 (.int .i64 (h.getD 1 (0, 0)).1) (Val.cel1 3 _ rfl w3.heap.size 1 _ (by kernel_rfl) (fun _ => (by kernel_rfl)) b6 rfl) ?_
                simp only [List.set_cons_zero, List.set_cons_succ]
                refine sv 66 (.pointer (some ⟨w3.heap.size, 0, none⟩)) .of ?_
                simp only [List.set_cons_zero, List.set_cons_succ]
                refine sv 67 (.int .i64 (h.getD 0 (0, 0)).2) (Val.cel1 3 _ rfl w3.heap.size 0 _ (by kernel_rfl) (fun _ => (by kernel_rfl)) b6 rfl) ?_
                simp only [List.set_cons_zero, List.set_cons_succ]
                refine sv 68 (.int .i64 m) .of ?_
                simp only [List.set_cons_zero, List.set_cons_succ]
                refine sv 69 (.int .i64 (min m 65536)) (Val.minI (.tmp 68) _ _ rfl m 65536 (by kernel_rfl) (by kernel_rfl)) ?_
                simp only [List.set_cons_zero, List.set_cons_succ]
                refine sv 70 (.int .i64 ((h.getD 0 (0, 0)).2 + (min m 65536))) (Val.add 3 _ (.tmp 67) (.tmp 69) rfl ((h.getD 0 (0, 0)).2) (min m 65536) (by kernel_rfl) (by kernel_rfl) (by omega)) ?_
                simp only [List.set_cons_zero, List.set_cons_succ]
                refine sv 71 (.int .i64 (min ((h.getD 1 (0, 0)).1) ((h.getD 0 (0, 0)).2 + (min m 65536)))) (Val.minI (.tmp 65) (.tmp 70) _ rfl ((h.getD 1 (0, 0)).1) ((h.getD 0 (0, 0)).2 + (min m 65536)) (by kernel_rfl) (by kernel_rfl)) ?_
                simp only [List.set_cons_zero, List.set_cons_succ]
                refine sv 72 (.pointer (some ⟨w3.heap.size, 1, none⟩)) .of ?_
                simp only [List.set_cons_zero, List.set_cons_succ]
                refine xStore 3 (.tmp 72) (.tmp 71) rfl w3.heap.size 70 [.int .i64 (h.getD 0 (0, 0)).2, .int .i64 (h.getD 1 (0, 0)).1] 1 (.int .i64 (min ((h.getD 1 (0, 0)).1) ((h.getD 0 (0, 0)).2 + (min m 65536)))) (by kernel_rfl) (by kernel_rfl) b6 (by kernel_rfl) (by simp) rfl [.int .i64 (h.getD 0 (0, 0)).2, .int .i64 (min ((h.getD 1 (0, 0)).1) ((h.getD 0 (0, 0)).2 + (min m 65536)))] rfl ?_
                intro w14 t10
                have zt10 := t10.z
                have BL_ := BL.ev t10.e (fun i h => show w.heap.size ≤ i by have h : i = w3.heap.size := h; omega)
                have D_ := D.ev t10.e (fun i hi => show ¬ (i = w3.heap.size) by have := hdl i hi; omega)
                have H_ := H.ev t10.e (fun i hi => show ¬ (i = w3.heap.size) by have := hhl i hi; omega)
                have b2_ := b2.ev t10.e (show ¬ (w.heap.size = w3.heap.size) by omega)
                have b4_ := b4.ev t10.e (show ¬ (w1.heap.size = w3.heap.size) by omega)
                replace BL := BL_; clear BL_
                replace D := D_; clear D_
                replace H := H_; clear H_
                replace b2 := b2_; clear b2_
                replace b4 := b4_; clear b4_
                replace b6 : Cel w14 w3.heap.size 70 [.int .i64 (h.getD 0 (0, 0)).2, .int .i64 (min ((h.getD 1 (0, 0)).1) ((h.getD 0 (0, 0)).2 + (min m 65536)))] := t10.c
                clear t10
                refine wpList_nil ?_
                refine hK19 _ _ ?_
                refine wp_seq_k fun K20 hK20 => ?_
                refine wp_seq_k fun K21 hK21 => ?_
                refine cPlain ?_
                refine sv 73 (.pointer (some ⟨w3.heap.size, 0, none⟩)) .of ?_
                simp only [List.set_cons_zero, List.set_cons_succ]
                refine sv 74 (.int .i64 (h.getD 0 (0, 0)).2) (Val.cel1 3 _ rfl w3.heap.size 0 _ (by kernel_rfl) (fun _ => (by kernel_rfl)) b6 rfl) ?_
                simp only [List.set_cons_zero, List.set_cons_succ]
                refine sv 75 (.pointer (some ⟨w3.heap.size, 1, none⟩)) .of ?_
                simp only [List.set_cons_zero, List.set_cons_succ]
                refine sv 76 (.int .i64 (min ((h.getD 1 (0, 0)).1) ((h.getD 0 (0, 0)).2 + (min m 65536)))) (Val.cel1 3 _ rfl w3.heap.size 1 _ (by kernel_rfl) (fun _ => (by kernel_rfl)) b6 rfl) ?_
                simp only [List.set_cons_zero, List.set_cons_succ]
                refine sv 77 (.bool (decide ((h.getD 0 (0, 0)).2 = (min ((h.getD 1 (0, 0)).1) ((h.getD 0 (0, 0)).2 + (min m 65536)))))) (Val.cmp .eql 3 _ (.tmp 74) (.tmp 76) rfl .i64 ((h.getD 0 (0, 0)).2) (min ((h.getD 1 (0, 0)).1) ((h.getD 0 (0, 0)).2 + (min m 65536))) (by kernel_rfl) (by kernel_rfl) (by simp) _ rfl) ?_
                simp only [List.set_cons_zero, List.set_cons_succ]
                refine wpList_nil ?_
                refine hK21 _ _ ?_
                refine cDec ((h.getD 0 (0, 0)).2 = (min ((h.getD 1 (0, 0)).1) ((h.getD 0 (0, 0)).2 + (min m 65536)))) (by kernel_rfl) (fun c77 => ?_) (fun c77 => ?_)
                · skip
                  refine wp_seq_k fun K22 hK22 => ?_
                  refine cPlain ?_
                  refine sv 78 (.agg #[.int .i64 0, .int .i64 0]) .of ?_
                  simp only [List.set_cons_zero, List.set_cons_succ]
                  refine xStoreR 70 (.tmp 4) (.tmp 78) rfl w1.heap.size 70 [.int .i64 0, .int .i64 0] 0 [.int .i64 0, .int .i64 0] (by kernel_rfl) (by kernel_rfl) b4 (by kernel_rfl) (by simp) rfl [.int .i64 0, .int .i64 0] rfl ?_
                  intro w15 t11
                  have zt11 := t11.z
                  have BL_ := BL.ev t11.e (fun i h => show w.heap.size ≤ i by have h : i = w1.heap.size := h; omega)
                  have D_ := D.ev t11.e (fun i hi => show ¬ (i = w1.heap.size) by have := hdl i hi; omega)
                  have H_ := H.ev t11.e (fun i hi => show ¬ (i = w1.heap.size) by have := hhl i hi; omega)
                  have b2_ := b2.ev t11.e (show ¬ (w.heap.size = w1.heap.size) by omega)
                  have b6_ := b6.ev t11.e (show ¬ (w3.heap.size = w1.heap.size) by omega)
                  replace BL := BL_; clear BL_
                  replace D := D_; clear D_
                  replace H := H_; clear H_
                  replace b2 := b2_; clear b2_
                  replace b6 := b6_; clear b6_
                  replace b4 : Cel w15 w1.heap.size 70 [.int .i64 0, .int .i64 0] := t11.c
                  clear t11
                  refine sv 5 (.bool false) .of ?_
                  simp only [List.set_cons_zero, List.set_cons_succ]
                  refine wpList_nil ?_
                  refine hK22 _ _ ?_
                  refine wp_ret ?_
                  (try simp only [Exit.then, Exit.inBlock])
                  refine bodyPost_ret (rCT rfl _ w1.heap.size _ _ (.bool false) (by kernel_rfl) (by kernel_rfl) b4 _ Try.underlying70 rfl (by kernel_rfl)) rfl ?_
                  have hg : gapX d.length h = ((h.getD 0 (0, 0)).2, ((h.getD 1 (0, 0)).1)) := by
                    rw [gapX_def]
                    repeat' split
                    all_goals (first | (exfalso; omega) | rfl)
                  rw [nextX_yes hr (by omega) hg, if_pos c77]
                  exact ⟨rfl, BL.b⟩
                · skip
                  refine wp_skip ?_
                  refine hK20 _ _ ?_
                  refine wp_seq_k fun K23 hK23 => ?_
                  refine cPlain ?_
                  refine sv 79 (.agg #[.int .i64 (h.getD 0 (0, 0)).2, .int .i64 (min ((h.getD 1 (0, 0)).1) ((h.getD 0 (0, 0)).2 + (min m 65536)))]) (Val.cel 70 _ rfl 0 2 (by kernel_rfl) b6 _ Try.underlying70 rfl (by kernel_rfl) (by simp) [.int .i64 (h.getD 0 (0, 0)).2, .int .i64 (min ((h.getD 1 (0, 0)).1) ((h.getD 0 (0, 0)).2 + (min m 65536)))] rfl) ?_
                  simp only [List.set_cons_zero, List.set_cons_succ]
                  refine xStoreR 70 (.tmp 4) (.tmp 79) rfl w1.heap.size 70 [.int .i64 0, .int .i64 0] 0 [.int .i64 (h.getD 0 (0, 0)).2, .int .i64 (min ((h.getD 1 (0, 0)).1) ((h.getD 0 (0, 0)).2 + (min m 65536)))] (by kernel_rfl) (by kernel_rfl) b4 (by kernel_rfl) (by simp) rfl [.int .i64 (h.getD 0 (0, 0)).2, .int .i64 (min ((h.getD 1 (0, 0)).1) ((h.getD 0 (0, 0)).2 + (min m 65536)))] rfl ?_
                  intro w16 t12
                  have zt12 := t12.z
                  have BL_ := BL.ev t12.e (fun i h => show w.heap.size ≤ i by have h : i = w1.heap.size := h; omega)
                  have D_ := D.ev t12.e (fun i hi => show ¬ (i = w1.heap.size) by have := hdl i hi; omega)
                  have H_ := H.ev t12.e (fun i hi => show ¬ (i = w1.heap.size) by have := hhl i hi; omega)
                  have b2_ := b2.ev t12.e (show ¬ (w.heap.size = w1.heap.size) by omega)
                  have b6_ := b6.ev t12.e (show ¬ (w3.heap.size = w1.heap.size) by omega)
                  replace BL := BL_; clear BL_
                  replace D := D_; clear D_
                  replace H := H_; clear H_
                  replace b2 := b2_; clear b2_
                  replace b6 := b6_; clear b6_
                  replace b4 : Cel w16 w1.heap.size 70 [.int .i64 (h.getD 0 (0, 0)).2, .int .i64 (min ((h.getD 1 (0, 0)).1) ((h.getD 0 (0, 0)).2 + (min m 65536)))] := t12.c
                  clear t12
                  refine sv 5 (.bool true) .of ?_
                  simp only [List.set_cons_zero, List.set_cons_succ]
                  refine wpList_nil ?_
                  refine hK23 _ _ ?_
                  refine wp_ret ?_
                  (try simp only [Exit.then, Exit.inBlock])
                  refine bodyPost_ret (rCT rfl _ w1.heap.size _ _ (.bool true) (by kernel_rfl) (by kernel_rfl) b4 _ Try.underlying70 rfl (by kernel_rfl)) rfl ?_
                  have hg : gapX d.length h = ((h.getD 0 (0, 0)).2, ((h.getD 1 (0, 0)).1)) := by
                    rw [gapX_def]
                    repeat' split
                    all_goals (first | (exfalso; omega) | rfl)
                  rw [nextX_yes hr (by omega) hg, if_neg c77]
                  exact ⟨rfl, BL.b⟩
              · skip
                refine wp_skip ?_
                refine hK17 _ _ ?_
                refine wp_seq_k fun K24 hK24 => ?_
                refine cPlain ?_
                refine sv 64 (.pointer (some ⟨w3.heap.size, 1, none⟩)) .of ?_
                simp only [List.set_cons_zero, List.set_cons_succ]
                refine sv 65 (.int .i64 (d.length : Int)) (Val.cel1 3 _ rfl w3.heap.size 1 _ (by kernel_rfl) (fun _ => (by kernel_rfl)) b6 rfl) ?_
                simp only [List.set_cons_zero, List.set_cons_succ]
                refine sv 66 (.pointer (some ⟨w3.heap.size, 0, none⟩)) .of ?_
                simp only [List.set_cons_zero, List.set_cons_succ]
                refine sv 67 (.int .i64 (h.getD 0 (0, 0)).2) (Val.cel1 3 _ rfl w3.heap.size 0 _ (by kernel_rfl) (fun _ => (by kernel_rfl)) b6 rfl) ?_
                simp only [List.set_cons_zero, List.set_cons_succ]
                refine sv 68 (.int .i64 m) .of ?_
                simp only [List.set_cons_zero, List.set_cons_succ]
                refine sv 69 (.int .i64 (min m 65536)) (Val.minI (.tmp 68) _ _ rfl m 65536 (by kernel_rfl) (by kernel_rfl)) ?_
                simp only [List.set_cons_zero, List.set_cons_succ]
                refine sv 70 (.int .i64 ((h.getD 0 (0, 0)).2 + (min m 65536))) (Val.add 3 _ (.tmp 67) (.tmp 69) rfl ((h.getD 0 (0, 0)).2) (min m 65536) (by kernel_rfl) (by kernel_rfl) (by omega)) ?_
                simp only [List.set_cons_zero, List.set_cons_succ]
                refine sv 71 (.int .i64 (min (d.length : Int) ((h.getD 0 (0, 0)).2 + (min m 65536)))) (Val.minI (.tmp 65) (.tmp 70) _ rfl (d.length : Int) ((h.getD 0 (0, 0)).2 + (min m 65536)) (by kernel_rfl) (by kernel_rfl)) ?_
                simp only [List.set_cons_zero, List.set_cons_succ]
                refine sv 72 (.pointer (some ⟨w3.heap.size, 1, none⟩)) .of ?_
                simp only [List.set_cons_zero, List.set_cons_succ]
                refine xStore 3 (.tmp 72) (.tmp 71) rfl w3.heap.size 70 [.int .i64 (h.getD 0 (0, 0)).2, .int .i64 (d.length : Int)] 1 (.int .i64 (min (d.length : Int) ((h.getD 0 (0, 0)).2 + (min m 65536)))) (by kernel_rfl) (by kernel_rfl) b6 (by kernel_rfl) (by simp) rfl [.int .i64 (h.getD 0 (0, 0)).2, .int .i64 (min (d.length : Int) ((h.getD 0 (0, 0)).2 + (min m 65536)))] rfl ?_
                intro w17 t13
                have zt13 := t13.z
                have BL_ := BL.ev t13.e (fun i h => show w.heap.size ≤ i by have h : i = w3.heap.size := h; omega)
                have D_ := D.ev t13.e (fun i hi => show ¬ (i = w3.heap.size) by have := hdl i hi; omega)
                have H_ := H.ev t13.e (fun i hi => show ¬ (i = w3.heap.size) by have := hhl i hi; omega)
                have b2_ := b2.ev t13.e (show ¬ (w.heap.size = w3.heap.size) by omega)
                have b4_ := b4.ev t13.e (show ¬ (w1.heap.size = w3.heap.size) by omega)
                replace BL := BL_; clear BL_
                replace D := D_; clear D_
                replace H := H_; clear H_
                replace b2 := b2_; clear b2_
                replace b4 := b4_; clear b4_
                replace b6 : Cel w17 w3.heap.size 70 [.int .i64 (h.getD 0 (0, 0)).2, .int .i64 (min (d.length : Int) ((h.getD 0 (0, 0)).2 + (min m 65536)))] := t13.c
                clear t13
                refine wpList_nil ?_
                refine hK24 _ _ ?_
                refine wp_seq_k fun K25 hK25 => ?_
                refine wp_seq_k fun K26 hK26 => ?_
                refine cPlain ?_
                refine sv 73 (.pointer (some ⟨w3.heap.size, 0, none⟩)) .of ?_
                simp only [List.set_cons_zero, List.set_cons_succ]
                refine sv 74 (.int .i64 (h.getD 0 (0, 0)).2) (Val.cel1 3 _ rfl w3.heap.size 0 _ (by kernel_rfl) (fun _ => (by kernel_rfl)) b6 rfl) ?_
                simp only [List.set_cons_zero, List.set_cons_succ]
                refine sv 75 (.pointer (some ⟨w3.heap.size, 1, none⟩)) .of ?_
                simp only [List.set_cons_zero, List.set_cons_succ]
                refine sv 76 (.int .i64 (min (d.length : Int) ((h.getD 0 (0, 0)).2 + (min m 65536)))) (Val.cel1 3 _ rfl w3.heap.size 1 _ (by kernel_rfl) (fun _ => (by kernel_rfl)) b6 rfl) ?_
                simp only [List.set_cons_zero, List.set_cons_succ]
                refine sv 77 (.bool (decide ((h.getD 0 (0, 0)).2 = (min (d.length : Int) ((h.getD 0 (0, 0)).2 + (min m 65536)))))) (Val.cmp .eql 3 _ (.tmp 74) (.tmp 76) rfl .i64 ((h.getD 0 (0, 0)).2) (min (d.length : Int) ((h.getD 0 (0, 0)).2 + (min m 65536))) (by kernel_rfl) (by kernel_rfl) (by simp) _ rfl) ?_
                simp only [List.set_cons_zero, List.set_cons_succ]
                refine wpList_nil ?_
                refine hK26 _ _ ?_
                refine cDec ((h.getD 0 (0, 0)).2 = (min (d.length : Int) ((h.getD 0 (0, 0)).2 + (min m 65536)))) (by kernel_rfl) (fun c77 => ?_) (fun c77 => ?_)
                · skip
                  refine wp_seq_k fun K27 hK27 => ?_
                  refine cPlain ?_
                  refine sv 78 (.agg #[.int .i64 0, .int .i64 0]) .of ?_
                  simp only [List.set_cons_zero, List.set_cons_succ]
                  refine xStoreR 70 (.tmp 4) (.tmp 78) rfl w1.heap.size 70 [.int .i64 0, .int .i64 0] 0 [.int .i64 0, .int .i64 0] (by kernel_rfl) (by kernel_rfl) b4 (by kernel_rfl) (by simp) rfl [.int .i64 0, .int .i64 0] rfl ?_
                  intro w18 t14
                  have zt14 := t14.z
                  have BL_ := BL.ev t14.e (fun i h => show w.heap.size ≤ i by have h : i = w1.heap.size := h; omega)
                  have D_ := D.ev t14.e (fun i hi => show ¬ (i = w1.heap.size) by have := hdl i hi; omega)
                  have H_ := H.ev t14.e (fun i hi => show ¬ (i = w1.heap.size) by have := hhl i hi; omega)
                  have b2_ := b2.ev t14.e (show ¬ (w.heap.size = w1.heap.size) by omega)
                  have b6_ := b6.ev t14.e (show ¬ (w3.heap.size = w1.heap.size) by omega)
                  replace BL := BL_; clear BL_
                  replace D := D_; clear D_
                  replace H := H_; clear H_
                  replace b2 := b2_; clear b2_
                  replace b6 := b6_; clear b6_
                  replace b4 : Cel w18 w1.heap.size 70 [.int .i64 0, .int .i64 0] := t14.c
                  clear t14
                  refine sv 5 (.bool false) .of ?_
                  simp only [List.set_cons_zero, List.set_cons_succ]
                  refine wpList_nil ?_
                  refine hK27 _ _ ?_
                  refine wp_ret ?_
                  (try simp only [Exit.then, Exit.inBlock])
                  refine bodyPost_ret (rCT rfl _ w1.heap.size _ _ (.bool false) (by kernel_rfl) (by kernel_rfl) b4 _ Try.underlying70 rfl (by kernel_rfl)) rfl ?_
                  have hg : gapX d.length h = ((h.getD 0 (0, 0)).2, (d.length : Int)) := by
                    rw [gapX_def]
                    repeat' split
                    all_goals (first | (exfalso; omega) | rfl)
                  rw [nextX_yes hr (by omega) hg, if_pos c77]
                  exact ⟨rfl, BL.b⟩
                · skip
                  refine wp_skip ?_
                  refine hK25 _ _ ?_
                  refine wp_seq_k fun K28 hK28 => ?_
                  refine cPlain ?_
                  refine sv 79 (.agg #[.int .i64 (h.getD 0 (0, 0)).2, .int .i64 (min (d.length : Int) ((h.getD 0 (0, 0)).2 + (min m 65536)))]) (Val.cel 70 _ rfl 0 2 (by kernel_rfl) b6 _ Try.underlying70 rfl (by kernel_rfl) (by simp) [.int .i64 (h.getD 0 (0, 0)).2, .int .i64 (min (d.length : Int) ((h.getD 0 (0, 0)).2 + (min m 65536)))] rfl) ?_
                  simp only [List.set_cons_zero, List.set_cons_succ]
                  refine xStoreR 70 (.tmp 4) (.tmp 79) rfl w1.heap.size 70 [.int .i64 0, .int .i64 0] 0 [.int .i64 (h.getD 0 (0, 0)).2, .int .i64 (min (d.length : Int) ((h.getD 0 (0, 0)).2 + (min m 65536)))] (by kernel_rfl) (by kernel_rfl) b4 (by kernel_rfl) (by simp) rfl [.int .i64 (h.getD 0 (0, 0)).2, .int .i64 (min (d.length : Int) ((h.getD 0 (0, 0)).2 + (min m 65536)))] rfl ?_
                  intro w19 t15
                  have zt15 := t15.z
                  have BL_ := BL.ev t15.e (fun i h => show w.heap.size ≤ i by have h : i = w1.heap.size := h; omega)
                  have D_ := D.ev t15.e (fun i hi => show ¬ (i = w1.heap.size) by have := hdl i hi; omega)
                  have H_ := H.ev t15.e (fun i hi => show ¬ (i = w1.heap.size) by have := hhl i hi; omega)
                  have b2_ := b2.ev t15.e (show ¬ (w.heap.size = w1.heap.size) by omega)
                  have b6_ := b6.ev t15.e (show ¬ (w3.heap.size = w1.heap.size) by omega)
                  replace BL := BL_; clear BL_
                  replace D := D_; clear D_
                  replace H := H_; clear H_
                  replace b2 := b2_; clear b2_
                  replace b6 := b6_; clear b6_
                  replace b4 : Cel w19 w1.heap.size 70 [.int .i64 (h.getD 0 (0, 0)).2, .int .i64 (min (d.length : Int) ((h.getD 0 (0, 0)).2 + (min m 65536)))] := t15.c
                  clear t15
                  refine sv 5 (.bool true) .of ?_
                  simp only [List.set_cons_zero, List.set_cons_succ]
                  refine wpList_nil ?_
                  refine hK28 _ _ ?_
                  refine wp_ret ?_
                  (try simp only [Exit.then, Exit.inBlock])
                  refine bodyPost_ret (rCT rfl _ w1.heap.size _ _ (.bool true) (by kernel_rfl) (by kernel_rfl) b4 _ Try.underlying70 rfl (by kernel_rfl)) rfl ?_
                  have hg : gapX d.length h = ((h.getD 0 (0, 0)).2, (d.length : Int)) := by
                    rw [gapX_def]
                    repeat' split
                    all_goals (first | (exfalso; omega) | rfl)
                  rw [nextX_yes hr (by omega) hg, if_neg c77]
                  exact ⟨rfl, BL.b⟩
            · skip
              have dg53 : decide (0 < (h.getD 0 (0, 0)).2) = false := decide_eq_false g53
              simp only [dg53]
              clear dg53
              refine xSkip 53 ?_
              simp only [List.set_cons_zero, List.set_cons_succ]
              refine xSkip 54 ?_
              simp only [List.set_cons_zero, List.set_cons_succ]
              refine xSkip 55 ?_
              simp only [List.set_cons_zero, List.set_cons_succ]
              refine xSkip 56 ?_
              simp only [List.set_cons_zero, List.set_cons_succ]
              refine sv 57 (.bool false) .of ?_
              simp only [List.set_cons_zero, List.set_cons_succ]
              refine wpList_nil ?_
              refine hK18 _ _ ?_
              refine cF ?_
              refine wp_skip ?_
              refine hK17 _ _ ?_
              refine wp_seq_k fun K29 hK29 => ?_
              refine cPlain ?_
              refine sv 64 (.pointer (some ⟨w3.heap.size, 1, none⟩)) .of ?_
              simp only [List.set_cons_zero, List.set_cons_succ]
              refine sv 65 (.int .i64 (d.length : Int)) (Val.cel1 3 _ rfl w3.heap.size 1 _ (by kernel_rfl) (fun _ => (by kernel_rfl)) b6 rfl) ?_
              simp only [List.set_cons_zero, List.set_cons_succ]
              refine sv 66 (.pointer (some ⟨w3.heap.size, 0, none⟩)) .of ?_
              simp only [List.set_cons_zero, List.set_cons_succ]
              refine sv 67 (.int .i64 (h.getD 0 (0, 0)).2) (Val.cel1 3 _ rfl w3.heap.size 0 _ (by kernel_rfl) (fun _ => (by kernel_rfl)) b6 rfl) ?_
              simp only [List.set_cons_zero, List.set_cons_succ]
              refine sv 68 (.int .i64 m) .of ?_
              simp only [List.set_cons_zero, List.set_cons_succ]
              refine sv 69 (.int .i64 (min m 65536)) (Val.minI (.tmp 68) _ _ rfl m 65536 (by kernel_rfl) (by kernel_rfl)) ?_
              simp only [List.set_cons_zero, List.set_cons_succ]
              refine sv 70 (.int .i64 ((h.getD 0 (0, 0)).2 + (min m 65536))) (Val.add 3 _ (.tmp 67) (.tmp 69) rfl ((h.getD 0 (0, 0)).2) (min m 65536) (by kernel_rfl) (by kernel_rfl) (by omega)) ?_
              simp only [List.set_cons_zero, List.set_cons_succ]
              refine sv 71 (.int .i64 (min (d.length : Int) ((h.getD 0 (0, 0)).2 + (min m 65536)))) (Val.minI (.tmp 65) (.tmp 70) _ rfl (d.length : Int) ((h.getD 0 (0, 0)).2 + (min m 65536)) (by kernel_rfl) (by kernel_rfl)) ?_
              simp only [List.set_cons_zero, List.set_cons_succ]
              refine sv 72 (.pointer (some ⟨w3.heap.size, 1, none⟩)) .of ?_
              simp only [List.set_cons_zero, List.set_cons_succ]
              refine xStore 3 (.tmp 72) (.tmp 71) rfl w3.heap.size 70 [.int .i64 (h.getD 0 (0, 0)).2, .int .i64 (d.length : Int)] 1 (.int .i64 (min (d.length : Int) ((h.getD 0 (0, 0)).2 + (min m 65536)))) (by kernel_rfl) (by kernel_rfl) b6 (by kernel_rfl) (by simp) rfl [.int .i64 (h.getD 0 (0, 0)).2, .int .i64 (min (d.length : Int) ((h.getD 0 (0, 0)).2 + (min m 65536)))] rfl ?_
              intro w20 t16
              have zt16 := t16.z
              have BL_ := BL.ev t16.e (fun i h => show w.heap.size ≤ i by have h : i = w3.heap.size := h; omega)
              have D_ := D.ev t16.e (fun i hi => show ¬ (i = w3.heap.size) by have := hdl i hi; omega)
              have H_ := H.ev t16.e (fun i hi => show ¬ (i = w3.heap.size) by have := hhl i hi; omega)
              have b2_ := b2.ev t16.e (show ¬ (w.heap.size = w3.heap.size) by omega)
              have b4_ := b4.ev t16.e (show ¬ (w1.heap.size = w3.heap.size) by omega)
              replace BL := BL_; clear BL_
              replace D := D_; clear D_
              replace H := H_; clear H_
              replace b2 := b2_; clear b2_
              replace b4 := b4_; clear b4_
              replace b6 : Cel w20 w3.heap.size 70 [.int .i64 (h.getD 0 (0, 0)).2, .int .i64 (min (d.length : Int) ((h.getD 0 (0, 0)).2 + (min m 65536)))] := t16.c
              clear t16
              refine wpList_nil ?_
              refine hK29 _ _ ?_
              refine wp_seq_k fun K30 hK30 => ?_
              refine wp_seq_k fun K31 hK31 => ?_
              refine cPlain ?_
              refine sv 73 (.pointer (some ⟨w3.heap.size, 0, none⟩)) .of ?_
              simp only [List.set_cons_zero, List.set_cons_succ]
              refine sv 74 (.int .i64 (h.getD 0 (0, 0)).2) (Val.cel1 3 _ rfl w3.heap.size 0 _ (by kernel_rfl) (fun _ => (by kernel_rfl)) b6 rfl) ?_
              simp only [List.set_cons_zero, List.set_cons_succ]
              refine sv 75 (.pointer (some ⟨w3.heap.size, 1, none⟩)) .of ?_
              simp only [List.set_cons_zero, List.set_cons_succ]
              refine sv 76 (.int .i64 (min (d.length : Int) ((h.getD 0 (0, 0)).2 + (min m 65536)))) (Val.cel1 3 _ rfl w3.heap.size 1 _ (by kernel_rfl) (fun _ => (by kernel_rfl)) b6 rfl) ?_
              simp only [List.set_cons_zero, List.set_cons_succ]
              refine sv 77 (.bool (decide ((h.getD 0 (0, 0)).2 = (min (d.length : Int) ((h.getD 0 (0, 0)).2 + (min m 65536)))))) (Val.cmp .eql 3 _ (.tmp 74) (.tmp 76) rfl .i64 ((h.getD 0 (0, 0)).2) (min (d.length : Int) ((h.getD 0 (0, 0)).2 + (min m 65536))) (by kernel_rfl) (by kernel_rfl) (by simp) _ rfl) ?_
              simp only [List.set_cons_zero, List.set_cons_succ]
              refine wpList_nil ?_
              refine hK31 _ _ ?_
              refine cDec ((h.getD 0 (0, 0)).2 = (min (d.length : Int) ((h.getD 0 (0, 0)).2 + (min m 65536)))) (by kernel_rfl) (fun c77 => ?_) (fun c77 => ?_)
              · skip
                refine wp_seq_k fun K32 hK32 => ?_
                refine cPlain ?_
                refine sv 78 (.agg #[.int .i64 0, .int .i64 0]) .of ?_
                simp only [List.set_cons_zero, List.set_cons_succ]
                refine xStoreR 70 (.tmp 4) (.tmp 78) rfl w1.heap.size 70 [.int .i64 0, .int .i64 0] 0 [.int .i64 0, .int .i64 0] (by kernel_rfl) (by kernel_rfl) b4 (by kernel_rfl) (by simp) rfl [.int .i64 0, .int .i64 0] rfl ?_
                intro w21 t17
                have zt17 := t17.z
                have BL_ := BL.ev t17.e (fun i h => show w.heap.size ≤ i by have h : i = w1.heap.size := h; omega)
                have D_ := D.ev t17.e (fun i hi => show ¬ (i = w1.heap.size) by have := hdl i hi; omega)
                have H_ := H.ev t17.e (fun i hi => show ¬ (i = w1.heap.size) by have := hhl i hi; omega)
                have b2_ := b2.ev t17.e (show ¬ (w.heap.size = w1.heap.size) by omega)
                have b6_ := b6.ev t17.e (show ¬ (w3.heap.size = w1.heap.size) by omega)
                replace BL := BL_; clear BL_
                replace D := D_; clear D_
                replace H := H_; clear H_
                replace b2 := b2_; clear b2_
                replace b6 := b6_; clear b6_
                replace b4 : Cel w21 w1.heap.size 70 [.int .i64 0, .int .i64 0] := t17.c
                clear t17
                refine sv 5 (.bool false) .of ?_
                simp only [List.set_cons_zero, List.set_cons_succ]
                refine wpList_nil ?_
                refine hK32 _ _ ?_
                refine wp_ret ?_
                (try simp only [Exit.then, Exit.inBlock])
                refine bodyPost_ret (rCT rfl _ w1.heap.size _ _ (.bool false) (by kernel_rfl) (by kernel_rfl) b4 _ Try.underlying70 rfl (by kernel_rfl)) rfl ?_
                have hg : gapX d.length h = ((h.getD 0 (0, 0)).2, (d.length : Int)) := by
                  rw [gapX_def]
                  repeat' split
                  all_goals (first | (exfalso; omega) | rfl)
                rw [nextX_yes hr (by omega) hg, if_pos c77]
                exact ⟨rfl, BL.b⟩
              · skip
                refine wp_skip ?_
                refine hK30 _ _ ?_
                refine wp_seq_k fun K33 hK33 => ?_
                refine cPlain ?_
                refine sv 79 (.agg #[.int .i64 (h.getD 0 (0, 0)).2, .int .i64 (min (d.length : Int) ((h.getD 0 (0, 0)).2 + (min m 65536)))]) (Val.cel 70 _ rfl 0 2 (by kernel_rfl) b6 _ Try.underlying70 rfl (by kernel_rfl) (by simp) [.int .i64 (h.getD 0 (0, 0)).2, .int .i64 (min (d.length : Int) ((h.getD 0 (0, 0)).2 + (min m 65536)))] rfl) ?_
                simp only [List.set_cons_zero, List.set_cons_succ]
                refine xStoreR 70 (.tmp 4) (.tmp 79) rfl w1.heap.size 70 [.int .i64 0, .int .i64 0] 0 [.int .i64 (h.getD 0 (0, 0)).2, .int .i64 (min (d.length : Int) ((h.getD 0 (0, 0)).2 + (min m 65536)))] (by kernel_rfl) (by kernel_rfl) b4 (by kernel_rfl) (by simp) rfl [.int .i64 (h.getD 0 (0, 0)).2, .int .i64 (min (d.length : Int) ((h.getD 0 (0, 0)).2 + (min m 65536)))] rfl ?_
                intro w22 t18
                have zt18 := t18.z
                have BL_ := BL.ev t18.e (fun i h => show w.heap.size ≤ i by have h : i = w1.heap.size := h; omega)
                have D_ := D.ev t18.e (fun i hi => show ¬ (i = w1.heap.size) by have := hdl i hi; omega)
                have H_ := H.ev t18.e (fun i hi => show ¬ (i = w1.heap.size) by have := hhl i hi; omega)
                have b2_ := b2.ev t18.e (show ¬ (w.heap.size = w1.heap.size) by omega)
                have b6_ := b6.ev t18.e (show ¬ (w3.heap.size = w1.heap.size) by omega)
                replace BL := BL_; clear BL_
                replace D := D_; clear D_
                replace H := H_; clear H_
                replace b2 := b2_; clear b2_
                replace b6 := b6_; clear b6_
                replace b4 : Cel w22 w1.heap.size 70 [.int .i64 (h.getD 0 (0, 0)).2, .int .i64 (min (d.length : Int) ((h.getD 0 (0, 0)).2 + (min m 65536)))] := t18.c
                clear t18
                refine sv 5 (.bool true) .of ?_
                simp only [List.set_cons_zero, List.set_cons_succ]
                refine wpList_nil ?_
                refine hK33 _ _ ?_
                refine wp_ret ?_
                (try simp only [Exit.then, Exit.inBlock])
                refine bodyPost_ret (rCT rfl _ w1.heap.size _ _ (.bool true) (by kernel_rfl) (by kernel_rfl) b4 _ Try.underlying70 rfl (by kernel_rfl)) rfl ?_
                have hg : gapX d.length h = ((h.getD 0 (0, 0)).2, (d.length : Int)) := by
                  rw [gapX_def]
                  repeat' split
                  all_goals (first | (exfalso; omega) | rfl)
                rw [nextX_yes hr (by omega) hg, if_neg c77]
                exact ⟨rfl, BL.b⟩
          · skip
            refine wp_skip ?_
            refine hK7 _ _ ?_
            refine wp_seq_k fun K34 hK34 => ?_
            refine wp_seq_k fun K35 hK35 => ?_
            refine cPlain ?_
            refine sv 49 (.pointer (some ⟨w3.heap.size, 0, none⟩)) .of ?_
            simp only [List.set_cons_zero, List.set_cons_succ]
            refine sv 50 (.int .i64 0) (Val.cel1 3 _ rfl w3.heap.size 0 _ (by kernel_rfl) (fun _ => (by kernel_rfl)) b6 rfl) ?_
            simp only [List.set_cons_zero, List.set_cons_succ]
            refine sv 51 (.bool false) (Val.cmp .gtr 3 _ (.tmp 50) _ rfl .i64 0 0 (by kernel_rfl) (by kernel_rfl) (by simp) _ rfl) ?_
            simp only [List.set_cons_zero, List.set_cons_succ]
            refine sv 52 (.bool false) .of ?_
            simp only [List.set_cons_zero, List.set_cons_succ]
            refine xSkip 53 ?_
            simp only [List.set_cons_zero, List.set_cons_succ]
            refine xSkip 54 ?_
            simp only [List.set_cons_zero, List.set_cons_succ]
            refine xSkip 55 ?_
            simp only [List.set_cons_zero, List.set_cons_succ]
            refine xSkip 56 ?_
            simp only [List.set_cons_zero, List.set_cons_succ]
            refine sv 57 (.bool false) .of ?_
            simp only [List.set_cons_zero, List.set_cons_succ]
            refine wpList_nil ?_
            refine hK35 _ _ ?_
            refine cF ?_
            refine wp_skip ?_
            refine hK34 _ _ ?_
            refine wp_seq_k fun K36 hK36 => ?_
            refine cPlain ?_
            refine sv 64 (.pointer (some ⟨w3.heap.size, 1, none⟩)) .of ?_
            simp only [List.set_cons_zero, List.set_cons_succ]
            refine sv 65 (.int .i64 (d.length : Int)) (Val.cel1 3 _ rfl w3.heap.size 1 _ (by kernel_rfl) (fun _ => (by kernel_rfl)) b6 rfl) ?_
            simp only [List.set_cons_zero, List.set_cons_succ]
            refine sv 66 (.pointer (some ⟨w3.heap.size, 0, none⟩)) .of ?_
            simp only [List.set_cons_zero, List.set_cons_succ]
            refine sv 67 (.int .i64 0) (Val.cel1 3 _ rfl w3.heap.size 0 _ (by kernel_rfl) (fun _ => (by kernel_rfl)) b6 rfl) ?_
            simp only [List.set_cons_zero, List.set_cons_succ]
            refine sv 68 (.int .i64 m) .of ?_
            simp only [List.set_cons_zero, List.set_cons_succ]
            refine sv 69 (.int .i64 (min m 65536)) (Val.minI (.tmp 68) _ _ rfl m 65536 (by kernel_rfl) (by kernel_rfl)) ?_
            simp only [List.set_cons_zero, List.set_cons_succ]
            refine sv 70 (.int .i64 (0 + (min m 65536))) (Val.add 3 _ (.tmp 67) (.tmp 69) rfl 0 (min m 65536) (by kernel_rfl) (by kernel_rfl) (by omega)) ?_
            simp only [List.set_cons_zero, List.set_cons_succ]
            refine sv 71 (.int .i64 (min (d.length : Int) (0 + (min m 65536)))) (Val.minI (.tmp 65) (.tmp 70) _ rfl (d.length : Int) (0 + (min m 65536)) (by kernel_rfl) (by kernel_rfl)) ?_
            simp only [List.set_cons_zero, List.set_cons_succ]
            refine sv 72 (.pointer (some ⟨w3.heap.size, 1, none⟩)) .of ?_
            simp only [List.set_cons_zero, List.set_cons_succ]
            refine xStore 3 (.tmp 72) (.tmp 71) rfl w3.heap.size 70 [.int .i64 0, .int .i64 (d.length : Int)] 1 (.int .i64 (min (d.length : Int) (0 + (min m 65536)))) (by kernel_rfl) (by kernel_rfl) b6 (by kernel_rfl) (by simp) rfl [.int .i64 0, .int .i64 (min (d.length : Int) (0 + (min m 65536)))] rfl ?_
            intro w23 t19
            have zt19 := t19.z
            have BL_ := BL.ev t19.e (fun i h => show w.heap.size ≤ i by have h : i = w3.heap.size := h; omega)
            have D_ := D.ev t19.e (fun i hi => show ¬ (i = w3.heap.size) by have := hdl i hi; omega)
            have H_ := H.ev t19.e (fun i hi => show ¬ (i = w3.heap.size) by have := hhl i hi; omega)
            have b2_ := b2.ev t19.e (show ¬ (w.heap.size = w3.heap.size) by omega)
            have b4_ := b4.ev t19.e (show ¬ (w1.heap.size = w3.heap.size) by omega)
            replace BL := BL_; clear BL_
            replace D := D_; clear D_
            replace H := H_; clear H_
            replace b2 := b2_; clear b2_
            replace b4 := b4_; clear b4_
            replace b6 : Cel w23 w3.heap.size 70 [.int .i64 0, .int .i64 (min (d.length : Int) (0 + (min m 65536)))] := t19.c
            clear t19
            refine wpList_nil ?_
            refine hK36 _ _ ?_
            refine wp_seq_k fun K37 hK37 => ?_
            refine wp_seq_k fun K38 hK38 => ?_
            refine cPlain ?_
            refine sv 73 (.pointer (some ⟨w3.heap.size, 0, none⟩)) .of ?_
            simp only [List.set_cons_zero, List.set_cons_succ]
            refine sv 74 (.int .i64 0) (Val.cel1 3 _ rfl w3.heap.size 0 _ (by kernel_rfl) (fun _ => (by kernel_rfl)) b6 rfl) ?_
            simp only [List.set_cons_zero, List.set_cons_succ]
            refine sv 75 (.pointer (some ⟨w3.heap.size, 1, none⟩)) .of ?_
            simp only [List.set_cons_zero, List.set_cons_succ]
            refine sv 76 (.int .i64 (min (d.length : Int) (0 + (min m 65536)))) (Val.cel1 3 _ rfl w3.heap.size 1 _ (by kernel_rfl) (fun _ => (by kernel_rfl)) b6 rfl) ?_
            simp only [List.set_cons_zero, List.set_cons_succ]
            refine sv 77 (.bool (decide (0 = (min (d.length : Int) (0 + (min m 65536)))))) (Val.cmp .eql 3 _ (.tmp 74) (.tmp 76) rfl .i64 0 (min (d.length : Int) (0 + (min m 65536))) (by kernel_rfl) (by kernel_rfl) (by simp) _ rfl) ?_
            simp only [List.set_cons_zero, List.set_cons_succ]
            refine wpList_nil ?_
            refine hK38 _ _ ?_
            refine cDec (0 = (min (d.length : Int) (0 + (min m 65536)))) (by kernel_rfl) (fun c77 => ?_) (fun c77 => ?_)
            · skip
              refine wp_seq_k fun K39 hK39 => ?_
              refine cPlain ?_
              refine sv 78 (.agg #[.int .i64 0, .int .i64 0]) .of ?_
              simp only [List.set_cons_zero, List.set_cons_succ]
              refine xStoreR 70 (.tmp 4) (.tmp 78) rfl w1.heap.size 70 [.int .i64 0, .int .i64 0] 0 [.int .i64 0, .int .i64 0] (by kernel_rfl) (by kernel_rfl) b4 (by kernel_rfl) (by simp) rfl [.int .i64 0, .int .i64 0] rfl ?_
              intro w24 t20
              have zt20 := t20.z
              have BL_ := BL.ev t20.e (fun i h => show w.heap.size ≤ i by have h : i = w1.heap.size := h; omega)
              have D_ := D.ev t20.e (fun i hi => show ¬ (i = w1.heap.size) by have := hdl i hi; omega)
              have H_ := H.ev t20.e (fun i hi => show ¬ (i = w1.heap.size) by have := hhl i hi; omega)
              have b2_ := b2.ev t20.e (show ¬ (w.heap.size = w1.heap.size) by omega)
              have b6_ := b6.ev t20.e (show ¬ (w3.heap.size = w1.heap.size) by omega)
              replace BL := BL_; clear BL_
              replace D := D_; clear D_
              replace H := H_; clear H_
              replace b2 := b2_; clear b2_
              replace b6 := b6_; clear b6_
              replace b4 : Cel w24 w1.heap.size 70 [.int .i64 0, .int .i64 0] := t20.c
              clear t20
              refine sv 5 (.bool false) .of ?_
              simp only [List.set_cons_zero, List.set_cons_succ]
              refine wpList_nil ?_
              refine hK39 _ _ ?_
              refine wp_ret ?_
              (try simp only [Exit.then, Exit.inBlock])
              refine bodyPost_ret (rCT rfl _ w1.heap.size _ _ (.bool false) (by kernel_rfl) (by kernel_rfl) b4 _ Try.underlying70 rfl (by kernel_rfl)) rfl ?_
              have hg : gapX d.length h = (0, (d.length : Int)) := by
                rw [gapX_def]
                repeat' split
                all_goals (first | (exfalso; omega) | rfl)
              rw [nextX_yes hr (by omega) hg, if_pos c77]
              exact ⟨rfl, BL.b⟩
            · skip
              refine wp_skip ?_
              refine hK37 _ _ ?_
              refine wp_seq_k fun K40 hK40 => ?_
              refine cPlain ?_
              refine sv 79 (.agg #[.int .i64 0, .int .i64 (min (d.length : Int) (0 + (min m 65536)))]) (Val.cel 70 _ rfl 0 2 (by kernel_rfl) b6 _ Try.underlying70 rfl (by kernel_rfl) (by simp) [.int .i64 0, .int .i64 (min (d.length : Int) (0 + (min m 65536)))] rfl) ?_
              simp only [List.set_cons_zero, List.set_cons_succ]
              refine xStoreR 70 (.tmp 4) (.tmp 79) rfl w1.heap.size 70 [.int .i64 0, .int .i64 0] 0 [.int .i64 0, .int .i64 (min (d.length : Int) (0 + (min m 65536)))] (by kernel_rfl) (by kernel_rfl) b4 (by kernel_rfl) (by simp) rfl [.int .i64 0, .int .i64 (min (d.length : Int) (0 + (min m 65536)))] rfl ?_
              intro w25 t21
              have zt21 := t21.z
              have BL_ := BL.ev t21.e (fun i h => show w.heap.size ≤ i by have h : i = w1.heap.size := h; omega)
              have D_ := D.ev t21.e (fun i hi => show ¬ (i = w1.heap.size) by have := hdl i hi; omega)
              have H_ := H.ev t21.e (fun i hi => show ¬ (i = w1.heap.size) by have := hhl i hi; omega)
              have b2_ := b2.ev t21.e (show ¬ (w.heap.size = w1.heap.size) by omega)
              have b6_ := b6.ev t21.e (show ¬ (w3.heap.size = w1.heap.size) by omega)
              replace BL := BL_; clear BL_
              replace D := D_; clear D_
              replace H := H_; clear H_
              replace b2 := b2_; clear b2_
              replace b6 := b6_; clear b6_
              replace b4 : Cel w25 w1.heap.size 70 [.int .i64 0, .int .i64 (min (d.length : Int) (0 + (min m 65536)))] := t21.c
              clear t21
              refine sv 5 (.bool true) .of ?_
              simp only [List.set_cons_zero, List.set_cons_succ]
              refine wpList_nil ?_
              refine hK40 _ _ ?_
              refine wp_ret ?_
              (try simp only [Exit.then, Exit.inBlock])
              refine bodyPost_ret (rCT rfl _ w1.heap.size _ _ (.bool true) (by kernel_rfl) (by kernel_rfl) b4 _ Try.underlying70 rfl (by kernel_rfl)) rfl ?_
              have hg : gapX d.length h = (0, (d.length : Int)) := by
                rw [gapX_def]
                repeat' split
                all_goals (first | (exfalso; omega) | rfl)
              rw [nextX_yes hr (by omega) hg, if_neg c77]
              exact ⟨rfl, BL.b⟩
      · skip
        have dg25 : decide (0 < (h.length : Int)) = false := decide_eq_false g25
        simp only [dg25]
        clear dg25
        refine xSkip 25 ?_
        simp only [List.set_cons_zero, List.set_cons_succ]
        refine xSkip 26 ?_
        simp only [List.set_cons_zero, List.set_cons_succ]
        refine xSkip 27 ?_
        simp only [List.set_cons_zero, List.set_cons_succ]
        refine xSkip 28 ?_
        simp only [List.set_cons_zero, List.set_cons_succ]
        refine xSkip 29 ?_
        simp only [List.set_cons_zero, List.set_cons_succ]
        refine xSkip 30 ?_
        simp only [List.set_cons_zero, List.set_cons_succ]
        refine sv 31 (.bool false) .of ?_
        simp only [List.set_cons_zero, List.set_cons_succ]
        refine sv 19 (.bool false) .of ?_
        simp only [List.set_cons_zero, List.set_cons_succ]
        refine wpList_nil ?_
        refine hK8 _ _ ?_
        refine cF ?_
        refine wp_seq_k fun K41 hK41 => ?_
        refine cPlain ?_
        refine sv 39 (.pointer (some ⟨w.heap.size, 1, none⟩)) .of ?_
        simp only [List.set_cons_zero, List.set_cons_succ]
        refine sv 40 (.slice B h.length E) (Val.cel1 54 _ rfl w.heap.size 1 _ (by kernel_rfl) (fun _ => (by kernel_rfl)) b2 rfl) ?_
        simp only [List.set_cons_zero, List.set_cons_succ]
        refine sv 41 (.int .i64 (h.length : Int)) .of ?_
        simp only [List.set_cons_zero, List.set_cons_succ]
        refine sv 42 (.bool (decide (0 < (h.length : Int)))) (Val.cmp .gtr 3 _ (.tmp 41) _ rfl .i64 (h.length : Int) 0 (by kernel_rfl) (by kernel_rfl) (by simp) _ rfl) ?_
        simp only [List.set_cons_zero, List.set_cons_succ]
        refine sv 38 (.bool (decide (0 < (h.length : Int)))) .of ?_
        simp only [List.set_cons_zero, List.set_cons_succ]
        refine wpList_nil ?_
        refine hK41 _ _ ?_
        refine cDec (0 < (h.length : Int)) (by kernel_rfl) (fun c38 => ?_) (fun c38 => ?_)
        · skip
          refine cPlain ?_
          refine sv 43 (.pointer (some ⟨w.heap.size, 1, none⟩)) .of ?_
          simp only [List.set_cons_zero, List.set_cons_succ]
          refine sv 44 (.slice B h.length E) (Val.cel1 54 _ rfl w.heap.size 1 _ (by kernel_rfl) (fun _ => (by kernel_rfl)) b2 rfl) ?_
          simp only [List.set_cons_zero, List.set_cons_succ]
          refine sv 45 (elemE 2 (.slice B h.length E) 0) (Val.ixE 54 (.tmp 44) _ rfl (.slice B h.length E) 0 (by kernel_rfl) (by kernel_rfl) H Try.underlying54 (by kernel_rfl) (by simp only [spS_len]; omega)) ?_
          simp only [List.set_cons_zero, List.set_cons_succ]
          refine sv 46 (elemF (.slice B h.length E) 0 1) (Val.fldE 70 _ 1 rfl (.slice B h.length E) 0 (by kernel_rfl) H Try.underlying70 1 (by kernel_rfl) (by omega)) ?_
          simp only [List.set_cons_zero, List.set_cons_succ]
          refine sv 47 (.int .i64 (h.getD 0 (0, 0)).2) (Val.ldF1 3 _ rfl (.slice B h.length E) 0 (by kernel_rfl) (fun _ => (by kernel_rfl)) H (by omega)) ?_
          simp only [List.set_cons_zero, List.set_cons_succ]
          refine sv 48 (.pointer (some ⟨w3.heap.size, 0, none⟩)) .of ?_
          simp only [List.set_cons_zero, List.set_cons_succ]
          refine xStore 3 (.tmp 48) (.tmp 47) rfl w3.heap.size 70 [.int .i64 0, .int .i64 (d.length : Int)] 0 (.int .i64 (h.getD 0 (0, 0)).2) (by kernel_rfl) (by kernel_rfl) b6 (by kernel_rfl) (by simp) rfl [.int .i64 (h.getD 0 (0, 0)).2, .int .i64 (d.length : Int)] rfl ?_
          intro w26 t22
          have zt22 := t22.z
          have BL_ := BL.ev t22.e (fun i h => show w.heap.size ≤ i by have h : i = w3.heap.size := h; omega)
          have D_ := D.ev t22.e (fun i hi => show ¬ (i = w3.heap.size) by have := hdl i hi; omega)
          have H_ := H.ev t22.e (fun i hi => show ¬ (i = w3.heap.size) by have := hhl i hi; omega)
          have b2_ := b2.ev t22.e (show ¬ (w.heap.size = w3.heap.size) by omega)
          have b4_ := b4.ev t22.e (show ¬ (w1.heap.size = w3.heap.size) by omega)
          replace BL := BL_; clear BL_
          replace D := D_; clear D_
          replace H := H_; clear H_
          replace b2 := b2_; clear b2_
          replace b4 := b4_; clear b4_
          replace b6 : Cel w26 w3.heap.size 70 [.int .i64 (h.getD 0 (0, 0)).2, .int .i64 (d.length : Int)] := t22.c
          clear t22
          refine wpList_nil ?_
          refine hK7 _ _ ?_
          refine wp_seq_k fun K42 hK42 => ?_
          refine wp_seq_k fun K43 hK43 => ?_
          refine cPlain ?_
          refine sv 49 (.pointer (some ⟨w3.heap.size, 0, none⟩)) .of ?_
          simp only [List.set_cons_zero, List.set_cons_succ]
          refine sv 50 (.int .i64 (h.getD 0 (0, 0)).2) (Val.cel1 3 _ rfl w3.heap.size 0 _ (by kernel_rfl) (fun _ => (by kernel_rfl)) b6 rfl) ?_
          simp only [List.set_cons_zero, List.set_cons_succ]
          refine sv 51 (.bool (decide (0 < (h.getD 0 (0, 0)).2))) (Val.cmp .gtr 3 _ (.tmp 50) _ rfl .i64 ((h.getD 0 (0, 0)).2) 0 (by kernel_rfl) (by kernel_rfl) (by simp) _ rfl) ?_
          simp only [List.set_cons_zero, List.set_cons_succ]
          refine sv 52 (.bool (decide (0 < (h.getD 0 (0, 0)).2))) .of ?_
          simp only [List.set_cons_zero, List.set_cons_succ]
          by_cases g53 : 0 < (h.getD 0 (0, 0)).2
          · skip
            have dg53 : decide (0 < (h.getD 0 (0, 0)).2) = true := decide_eq_true g53
            simp only [dg53]
            clear dg53
            refine sv 53 (.pointer (some ⟨w.heap.size, 1, none⟩)) .of ?_
            simp only [List.set_cons_zero, List.set_cons_succ]
            refine sv 54 (.slice B h.length E) (Val.cel1 54 _ rfl w.heap.size 1 _ (by kernel_rfl) (fun _ => (by kernel_rfl)) b2 rfl) ?_
            simp only [List.set_cons_zero, List.set_cons_succ]
            refine sv 55 (.int .i64 (h.length : Int)) .of ?_
            simp only [List.set_cons_zero, List.set_cons_succ]
            refine sv 56 (.bool (decide (1 < (h.length : Int)))) (Val.cmp .gtr 3 _ (.tmp 55) _ rfl .i64 (h.length : Int) 1 (by kernel_rfl) (by kernel_rfl) (by simp) _ rfl) ?_
            simp only [List.set_cons_zero, List.set_cons_succ]
            refine sv 57 (.bool (decide (1 < (h.length : Int)))) .of ?_
            simp only [List.set_cons_zero, List.set_cons_succ]
            refine wpList_nil ?_
            refine hK43 _ _ ?_
            refine cDec (1 < (h.length : Int)) (by kernel_rfl) (fun c57 => ?_) (fun c57 => ?_)
            · skip
              refine cPlain ?_
              refine sv 58 (.pointer (some ⟨w.heap.size, 1, none⟩)) .of ?_
              simp only [List.set_cons_zero, List.set_cons_succ]
              refine sv 59 (.slice B h.length E) (Val.cel1 54 _ rfl w.heap.size 1 _ (by kernel_rfl) (fun _ => (by kernel_rfl)) b2 rfl) ?_
              simp only [List.set_cons_zero, List.set_cons_succ]
              refine sv 60 (elemE 2 (.slice B h.length E) 1) (Val.ixE 54 (.tmp 59) _ rfl (.slice B h.length E) 1 (by kernel_rfl) (by kernel_rfl) H Try.underlying54 (by kernel_rfl) (by simp only [spS_len]; omega)) ?_
              simp only [List.set_cons_zero, List.set_cons_succ]
              refine sv 61 (elemF (.slice B h.length E) 1 0) (Val.fldE 70 _ 0 rfl (.slice B h.length E) 1 (by kernel_rfl) H Try.underlying70 0 (by kernel_rfl) (by omega)) ?_
              simp only [List.set_cons_zero, List.set_cons_succ]
              refine sv 62 (.int .i64 (h.getD 1 (0, 0)).1) (Val.ldF0 3 _ rfl (.slice B h.length E) 1 (by kernel_rfl) (fun _ => (by kernel_rfl)) H (by omega)) ?_
              simp only [List.set_cons_zero, List.set_cons_succ]
              refine sv 63 (.pointer (some ⟨w3.heap.size, 1, none⟩)) .of ?_
              simp only [List.set_cons_zero, List.set_cons_succ]
              refine xStore 3 (.tmp 63) (.tmp 62) rfl w3.heap.size 70 [.int .i64 (h.getD 0 (0, 0)).2, .int .i64 (d.length : Int)] 1 (.int .i64 (h.getD 1 (0, 0)).1) (by kernel_rfl) (by kernel_rfl) b6 (by kernel_rfl) (by simp) rfl [.int .i64 (h.getD 0 (0, 0)).2, .int .i64 (h.getD 1 (0, 0)).1] rfl ?_
              intro w27 t23
              have zt23 := t23.z
              have BL_ := BL.ev t23.e (fun i h => show w.heap.size ≤ i by have h : i = w3.heap.size := h; omega)
              have D_ := D.ev t23.e (fun i hi => show ¬ (i = w3.heap.size) by have := hdl i hi; omega)
              have H_ := H.ev t23.e (fun i hi => show ¬ (i = w3.heap.size) by have := hhl i hi; omega)
              have b2_ := b2.ev t23.e (show ¬ (w.heap.size = w3.heap.size) by omega)
              have b4_ := b4.ev t23.e (show ¬ (w1.heap.size = w3.heap.size) by omega)
              replace BL := BL_; clear BL_
              replace D := D_; clear D_
              replace H := H_; clear H_
              replace b2 := b2_; clear b2_
              replace b4 := b4_; clear b4_
              replace b6 : Cel w27 w3.heap.size 70 [.int .i64 (h.getD 0 (0, 0)).2, .int .i64 (h.getD 1 (0, 0)).1] := t23.c
              clear t23
              refine wpList_nil ?_
              refine hK42 _ _ ?_
              refine wp_seq_k fun K44 hK44 => ?_
              refine cPlain ?_
              refine sv 64 (.pointer (some ⟨w3.heap.size, 1, none⟩)) .of ?_
              simp only [List.set_cons_zero, List.set_cons_succ]
              refine sv 65 (.int .i64 (h.getD 1 (0, 0)).1) (Val.cel1 3 _ rfl w3.heap.size 1 _ (by kernel_rfl) (fun _ => (by kernel_rfl)) b6 rfl) ?_
              simp only [List.set_cons_zero, List.set_cons_succ]
              refine sv 66 (.pointer (some ⟨w3.heap.size, 0, none⟩)) .of ?_
              simp only [List.set_cons_zero, List.set_cons_succ]
              refine sv 67 (.int .i64 (h.getD 0 (0, 0)).2) (Val.cel1 3 _ rfl w3.heap.size 0 _ (by kernel_rfl) (fun _ => (by kernel_rfl)) b6 rfl) ?_
              simp only [List.set_cons_zero, List.set_cons_succ]
              refine sv 68 (.int .i64 m) .of ?_
              simp only [List.set_cons_zero, List.set_cons_succ]
              refine sv 69 (.int .i64 (min m 65536)) (Val.minI (.tmp 68) _ _ rfl m 65536 (by kernel_rfl) (by kernel_rfl)) ?_
              simp only [List.set_cons_zero, List.set_cons_succ]
              refine sv 70 (.int .i64 ((h.getD 0 (0, 0)).2 + (min m 65536))) (Val.add 3 _ (.tmp 67) (.tmp 69) rfl ((h.getD 0 (0, 0)).2) (min m 65536) (by kernel_rfl) (by kernel_rfl) (by omega)) ?_
              simp only [List.set_cons_zero, List.set_cons_succ]
              refine sv 71 (.int .i64 (min ((h.getD 1 (0, 0)).1) ((h.getD 0 (0, 0)).2 + (min m 65536)))) (Val.minI (.tmp 65) (.tmp 70) _ rfl ((h.getD 1 (0, 0)).1) ((h.getD 0 (0, 0)).2 + (min m 65536)) (by kernel_rfl) (by kernel_rfl)) ?_
              simp only [List.set_cons_zero, List.set_cons_succ]
              refine sv 72 (.pointer (some ⟨w3.heap.size, 1, none⟩)) .of ?_
              simp only [List.set_cons_zero, List.set_cons_succ]
              refine xStore 3 (.tmp 72) (.tmp 71) rfl w3.heap.size 70 [.int .i64 (h.getD 0 (0, 0)).2, .int .i64 (h.getD 1 (0, 0)).1] 1 (.int .i64 (min ((h.getD 1 (0, 0)).1) ((h.getD 0 (0, 0)).2 + (min m 65536)))) (by kernel_rfl) (by kernel_rfl) b6 (by kernel_rfl) (by simp) rfl [.int .i64 (h.getD 0 (0, 0)).2, .int .i64 (min ((h.getD 1 (0, 0)).1) ((h.getD 0 (0, 0)).2 + (min m 65536)))] rfl ?_
              intro w28 t24
              have zt24 := t24.z
              have BL_ := BL.ev t24.e (fun i h => show w.heap.size ≤ i by have h : i = w3.heap.size := h; omega)
              have D_ := D.ev t24.e (fun i hi => show ¬ (i = w3.heap.size) by have := hdl i hi; omega)
              have H_ := H.ev t24.e (fun i hi => show ¬ (i = w3.heap.size) by have := hhl i hi; omega)
              have b2_ := b2.ev t24.e (show ¬ (w.heap.size = w3.heap.size) by omega)
              have b4_ := b4.ev t24.e (show ¬ (w1.heap.size = w3.heap.size) by omega)
              replace BL := BL_; clear BL_
              replace D := D_; clear D_
              replace H := H_; clear H_
              replace b2 := b2_; clear b2_
              replace b4 := b4_; clear b4_
              replace b6 : Cel w28 w3.heap.size 70 [.int .i64 (h.getD 0 (0, 0)).2, .int .i64 (min ((h.getD 1 (0, 0)).1) ((h.getD 0 (0, 0)).2 + (min m 65536)))] := t24.c
              clear t24
              refine wpList_nil ?_
              refine hK44 _ _ ?_
              refine wp_seq_k fun K45 hK45 => ?_
              refine wp_seq_k fun K46 hK46 => ?_
              refine cPlain ?_
              refine sv 73 (.pointer (some ⟨w3.heap.size, 0, none⟩)) .of ?_
              simp only [List.set_cons_zero, List.set_cons_succ]
              refine sv 74 (.int .i64 (h.getD 0 (0, 0)).2) (Val.cel1 3 _ rfl w3.heap.size 0 _ (by kernel_rfl) (fun _ => (by kernel_rfl)) b6 rfl) ?_
              simp only [List.set_cons_zero, List.set_cons_succ]
              refine sv 75 (.pointer (some ⟨w3.heap.size, 1, none⟩)) .of ?_
              simp only [List.set_cons_zero, List.set_cons_succ]
              refine sv 76 (.int .i64 (min ((h.getD 1 (0, 0)).1) ((h.getD 0 (0, 0)).2 + (min m 65536)))) (Val.cel1 3 _ rfl w3.heap.size 1 _ (by kernel_rfl) (fun _ => (by kernel_rfl)) b6 rfl) ?_
              simp only [List.set_cons_zero, List.set_cons_succ]
              refine sv 77 (.bool (decide ((h.getD 0 (0, 0)).2 = (min ((h.getD 1 (0, 0)).1) ((h.getD 0 (0, 0)).2 + (min m 65536)))))) (Val.cmp .eql 3 _ (.tmp 74) (.tmp 76) rfl .i64 ((h.getD 0 (0, 0)).2) (min ((h.getD 1 (0, 0)).1) ((h.getD 0 (0, 0)).2 + (min m 65536))) (by kernel_rfl) (by kernel_rfl) (by simp) _ rfl) ?_
              simp only [List.set_cons_zero, List.set_cons_succ]
              refine wpList_nil ?_
              refine hK46 _ _ ?_
              refine cDec ((h.getD 0 (0, 0)).2 = (min ((h.getD 1 (0, 0)).1) ((h.getD 0 (0, 0)).2 + (min m 65536)))) (by kernel_rfl) (fun c77 => ?_) (fun c77 => ?_)
              · skip
                refine wp_seq_k fun K47 hK47 => ?_
                refine cPlain ?_
                refine sv 78 (.agg #[.int .i64 0, .int .i64 0]) .of ?_
                simp only [List.set_cons_zero, List.set_cons_succ]
                refine xStoreR 70 (.tmp 4) (.tmp 78) rfl w1.heap.size 70 [.int .i64 0, .int .i64 0] 0 [.int .i64 0, .int .i64 0] (by kernel_rfl) (by kernel_rfl) b4 (by kernel_rfl) (by simp) rfl [.int .i64 0, .int .i64 0] rfl ?_
                intro w29 t25
                have zt25 := t25.z
                have BL_ := BL.ev t25.e (fun i h => show w.heap.size ≤ i by have h : i = w1.heap.size := h; omega)
                have D_ := D.ev t25.e (fun i hi => show ¬ (i = w1.heap.size) by have := hdl i hi; omega)
                have H_ := H.ev t25.e (fun i hi => show ¬ (i = w1.heap.size) by have := hhl i hi; omega)
                have b2_ := b2.ev t25.e (show ¬ (w.heap.size = w1.heap.size) by omega)
                have b6_ := b6.ev t25.e (show ¬ (w3.heap.size = w1.heap.size) by omega)
                replace BL := BL_; clear BL_
                replace D := D_; clear D_
                replace H := H_; clear H_
                replace b2 := b2_; clear b2_
                replace b6 := b6_; clear b6_
                replace b4 : Cel w29 w1.heap.size 70 [.int .i64 0, .int .i64 0] := t25.c
                clear t25
                refine sv 5 (.bool false) .of ?_
                simp only [List.set_cons_zero, List.set_cons_succ]
                refine wpList_nil ?_
                refine hK47 _ _ ?_
                refine wp_ret ?_
                (try simp only [Exit.then, Exit.inBlock])
                refine bodyPost_ret (rCT rfl _ w1.heap.size _ _ (.bool false) (by kernel_rfl) (by kernel_rfl) b4 _ Try.underlying70 rfl (by kernel_rfl)) rfl ?_
                have hg : gapX d.length h = ((h.getD 0 (0, 0)).2, ((h.getD 1 (0, 0)).1)) := by
                  rw [gapX_def]
                  repeat' split
                  all_goals (first | (exfalso; omega) | rfl)
                rw [nextX_yes hr (by omega) hg, if_pos c77]
                exact ⟨rfl, BL.b⟩
              · skip
                refine wp_skip ?_
                refine hK45 _ _ ?_
                refine wp_seq_k fun K48 hK48 => ?_
                refine cPlain ?_
                refine sv 79 (.agg #[.int .i64 (h.getD 0 (0, 0)).2, .int .i64 (min ((h.getD 1 (0, 0)).1) ((h.getD 0 (0, 0)).2 + (min m 65536)))]) (Val.cel 70 _ rfl 0 2 (by kernel_rfl) b6 _ Try.underlying70 rfl (by kernel_rfl) (by simp) [.int .i64 (h.getD 0 (0, 0)).2, .int .i64 (min ((h.getD 1 (0, 0)).1) ((h.getD 0 (0, 0)).2 + (min m 65536)))] rfl) ?_
                simp only [List.set_cons_zero, List.set_cons_succ]
                refine xStoreR 70 (.tmp 4) (.tmp 79) rfl w1.heap.size 70 [.int .i64 0, .int .i64 0] 0 [.int .i64 (h.getD 0 (0, 0)).2, .int .i64 (min ((h.getD 1 (0, 0)).1) ((h.getD 0 (0, 0)).2 + (min m 65536)))] (by kernel_rfl) (by kernel_rfl) b4 (by kernel_rfl) (by simp) rfl [.int .i64 (h.getD 0 (0, 0)).2, .int .i64 (min ((h.getD 1 (0, 0)).1) ((h.getD 0 (0, 0)).2 + (min m 65536)))] rfl ?_
                intro w30 t26
                have zt26 := t26.z
                have BL_ := BL.ev t26.e (fun i h => show w.heap.size ≤ i by have h : i = w1.heap.size := h; omega)
                have D_ := D.ev t26.e (fun i hi => show ¬ (i = w1.heap.size) by have := hdl i hi; omega)
                have H_ := H.ev t26.e (fun i hi => show ¬ (i = w1.heap.size) by have := hhl i hi; omega)
                have b2_ := b2.ev t26.e (show ¬ (w.heap.size = w1.heap.size) by omega)
                have b6_ := b6.ev t26.e (show ¬ (w3.heap.size = w1.heap.size) by omega)
                replace BL := BL_; clear BL_
                replace D := D_; clear D_
                replace H := H_; clear H_
                replace b2 := b2_; clear b2_
                replace b6 := b6_; clear b6_
                replace b4 : Cel w30 w1.heap.size 70 [.int .i64 (h.getD 0 (0, 0)).2, .int .i64 (min ((h.getD 1 (0, 0)).1) ((h.getD 0 (0, 0)).2 + (min m 65536)))] := t26.c
                clear t26
                refine sv 5 (.bool true) .of ?_
                simp only [List.set_cons_zero, List.set_cons_succ]
                refine wpList_nil ?_
                refine hK48 _ _ ?_
                refine wp_ret ?_
                (try simp only [Exit.then, Exit.inBlock])
                refine bodyPost_ret (rCT rfl _ w1.heap.size _ _ (.bool true) (by kernel_rfl) (by kernel_rfl) b4 _ Try.underlying70 rfl (by kernel_rfl)) rfl ?_
                have hg : gapX d.length h = ((h.getD 0 (0, 0)).2, ((h.getD 1 (0, 0)).1)) := by
                  rw [gapX_def]
                  repeat' split
                  all_goals (first | (exfalso; omega) | rfl)
                rw [nextX_yes hr (by omega) hg, if_neg c77]
                exact ⟨rfl, BL.b⟩
            · skip
              refine wp_skip ?_
              refine hK42 _ _ ?_
              refine wp_seq_k fun K49 hK49 => ?_
              refine cPlain ?_
              refine sv 64 (.pointer (some ⟨w3.heap.size, 1, none⟩)) .of ?_
              simp only [List.set_cons_zero, List.set_cons_succ]
              refine sv 65 (.int .i64 (d.length : Int)) (Val.cel1 3 _ rfl w3.heap.size 1 _ (by kernel_rfl) (fun _ => (by kernel_rfl)) b6 rfl) ?_
              simp only [List.set_cons_zero, List.set_cons_succ]
              refine sv 66 (.pointer (some ⟨w3.heap.size, 0, none⟩)) .of ?_
              simp only [List.set_cons_zero, List.set_cons_succ]
              refine sv 67 (.int .i64 (h.getD 0 (0, 0)).2) (Val.cel1 3 _ rfl w3.heap.size 0 _ (by kernel_rfl) (fun _ => (by kernel_rfl)) b6 rfl) ?_
              simp only [List.set_cons_zero, List.set_cons_succ]
              refine sv 68 (.int .i64 m) .of ?_
              simp only [List.set_cons_zero, List.set_cons_succ]
              refine sv 69 (.int .i64 (min m 65536)) (Val.minI (.tmp 68) _ _ rfl m 65536 (by kernel_rfl) (by kernel_rfl)) ?_
              simp only [List.set_cons_zero, List.set_cons_succ]
              refine sv 70 (.int .i64 ((h.getD 0 (0, 0)).2 + (min m 65536))) (Val.add 3 _ (.tmp 67) (.tmp 69) rfl ((h.getD 0 (0, 0)).2) (min m 65536) (by kernel_rfl) (by kernel_rfl) (by omega)) ?_
              simp only [List.set_cons_zero, List.set_cons_succ]
              refine sv 71 (.int .i64 (min (d.length : Int) ((h.getD 0 (0, 0)).2 + (min m 65536)))) (Val.minI (.tmp 65) (.tmp 70) _ rfl (d.length : Int) ((h.getD 0 (0, 0)).2 + (min m 65536)) (by kernel_rfl) (by kernel_rfl)) ?_
              simp only [List.set_cons_zero, List.set_cons_succ]
              refine sv 72 (.pointer (some ⟨w3.heap.size, 1, none⟩)) .of ?_
              simp only [List.set_cons_zero, List.set_cons_succ]
              refine xStore 3 (.tmp 72) (.tmp 71) rfl w3.heap.size 70 [.int .i64 (h.getD 0 (0, 0)).2, .int .i64 (d.length : Int)] 1 (.int .i64 (min (d.length : Int) ((h.getD 0 (0, 0)).2 + (min m 65536)))) (by kernel_rfl) (by kernel_rfl) b6 (by kernel_rfl) (by simp) rfl [.int .i64 (h.getD 0 (0, 0)).2, .int .i64 (min (d.length : Int) ((h.getD 0 (0, 0)).2 + (min m 65536)))] rfl ?_
              intro w31 t27
              have zt27 := t27.z
              have BL_ := BL.ev t27.e (fun i h => show w.heap.size ≤ i by have h : i = w3.heap.size := h; omega)
              have D_ := D.ev t27.e (fun i hi => show ¬ (i = w3.heap.size) by have := hdl i hi; omega)
              have H_ := H.ev t27.e (fun i hi => show ¬ (i = w3.heap.size) by have := hhl i hi; omega)
              have b2_ := b2.ev t27.e (show ¬ (w.heap.size = w3.heap.size) by omega)
              have b4_ := b4.ev t27.e (show ¬ (w1.heap.size = w3.heap.size) by omega)
              replace BL := BL_; clear BL_
              replace D := D_; clear D_
              replace H := H_; clear H_
              replace b2 := b2_; clear b2_
              replace b4 := b4_; clear b4_
              replace b6 : Cel w31 w3.heap.size 70 [.int .i64 (h.getD 0 (0, 0)).2, .int .i64 (min (d.length : Int) ((h.getD 0 (0, 0)).2 + (min m 65536)))] := t27.c
              clear t27
              refine wpList_nil ?_
              refine hK49 _ _ ?_
              refine wp_seq_k fun K50 hK50 => ?_
              refine wp_seq_k fun K51 hK51 => ?_
              refine cPlain ?_
              refine sv 73 (.pointer (some ⟨w3.heap.size, 0, none⟩)) .of ?_
              simp only [List.set_cons_zero, List.set_cons_succ]
              refine sv 74 (.int .i64 (h.getD 0 (0, 0)).2) (Val.cel1 3 _ rfl w3.heap.size 0 _ (by kernel_rfl) (fun _ => (by kernel_rfl)) b6 rfl) ?_
              simp only [List.set_cons_zero, List.set_cons_succ]
              refine sv 75 (.pointer (some ⟨w3.heap.size, 1, none⟩)) .of ?_
              simp only [List.set_cons_zero, List.set_cons_succ]
              refine sv 76 (.int .i64 (min (d.length : Int) ((h.getD 0 (0, 0)).2 + (min m 65536)))) (Val.cel1 3 _ rfl w3.heap.size 1 _ (by kernel_rfl) (fun _ => (by kernel_rfl)) b6 rfl) ?_
              simp only [List.set_cons_zero, List.set_cons_succ]
              refine sv 77 (.bool (decide ((h.getD 0 (0, 0)).2 = (min (d.length : Int) ((h.getD 0 (0, 0)).2 + (min m 65536)))))) (Val.cmp .eql 3 _ (.tmp 74) (.tmp 76) rfl .i64 ((h.getD 0 (0, 0)).2) (min (d.length : Int) ((h.getD 0 (0, 0)).2 + (min m 65536))) (by kernel_rfl) (by kernel_rfl) (by simp) _ rfl) ?_
              simp only [List.set_cons_zero, List.set_cons_succ]
              refine wpList_nil ?_
              refine hK51 _ _ ?_
              refine cDec ((h.getD 0 (0, 0)).2 = (min (d.length : Int) ((h.getD 0 (0, 0)).2 + (min m 65536)))) (by kernel_rfl) (fun c77 => ?_) (fun c77 => ?_)
              · skip
                refine wp_seq_k fun K52 hK52 => ?_
                refine cPlain ?_
                refine sv 78 (.agg #[.int .i64 0, .int .i64 0]) .of ?_
                simp only [List.set_cons_zero, List.set_cons_succ]
                refine xStoreR 70 (.tmp 4) (.tmp 78) rfl w1.heap.size 70 [.int .i64 0, .int .i64 0] 0 [.int .i64 0, .int .i64 0] (by kernel_rfl) (by kernel_rfl) b4 (by kernel_rfl) (by simp) rfl [.int .i64 0, .int .i64 0] rfl ?_
                intro w32 t28
                have zt28 := t28.z
                have BL_ := BL.ev t28.e (fun i h => show w.heap.size ≤ i by have h : i = w1.heap.size := h; omega)
                have D_ := D.ev t28.e (fun i hi => show ¬ (i = w1.heap.size) by have := hdl i hi; omega)
                have H_ := H.ev t28.e (fun i hi => show ¬ (i = w1.heap.size) by have := hhl i hi; omega)
                have b2_ := b2.ev t28.e (show ¬ (w.heap.size = w1.heap.size) by omega)
                have b6_ := b6.ev t28.e (show ¬ (w3.heap.size = w1.heap.size) by omega)
                replace BL := BL_; clear BL_
                replace D := D_; clear D_
                replace H := H_; clear H_
                replace b2 := b2_; clear b2_
                replace b6 := b6_; clear b6_
                replace b4 : Cel w32 w1.heap.size 70 [.int .i64 0, .int .i64 0] := t28.c
                clear t28
                refine sv 5 (.bool false) .of ?_
                simp only [List.set_cons_zero, List.set_cons_succ]
                refine wpList_nil ?_
                refine hK52 _ _ ?_
                refine wp_ret ?_
                (try simp only [Exit.then, Exit.inBlock])
                refine bodyPost_ret (rCT rfl _ w1.heap.size _ _ (.bool false) (by kernel_rfl) (by kernel_rfl) b4 _ Try.underlying70 rfl (by kernel_rfl)) rfl ?_
                have hg : gapX d.length h = ((h.getD 0 (0, 0)).2, (d.length : Int)) := by
                  rw [gapX_def]
                  repeat' split
                  all_goals (first | (exfalso; omega) | rfl)
                rw [nextX_yes hr (by omega) hg, if_pos c77]
                exact ⟨rfl, BL.b⟩
              · skip
                refine wp_skip ?_
                refine hK50 _ _ ?_
                refine wp_seq_k fun K53 hK53 => ?_
                refine cPlain ?_
                refine sv 79 (.agg #[.int .i64 (h.getD 0 (0, 0)).2, .int .i64 (min (d.length : Int) ((h.getD 0 (0, 0)).2 + (min m 65536)))]) (Val.cel 70 _ rfl 0 2 (by kernel_rfl) b6 _ Try.underlying70 rfl (by kernel_rfl) (by simp) [.int .i64 (h.getD 0 (0, 0)).2, .int .i64 (min (d.length : Int) ((h.getD 0 (0, 0)).2 + (min m 65536)))] rfl) ?_
                simp only [List.set_cons_zero, List.set_cons_succ]
                refine xStoreR 70 (.tmp 4) (.tmp 79) rfl w1.heap.size 70 [.int .i64 0, .int .i64 0] 0 [.int .i64 (h.getD 0 (0, 0)).2, .int .i64 (min (d.length : Int) ((h.getD 0 (0, 0)).2 + (min m 65536)))] (by kernel_rfl) (by kernel_rfl) b4 (by kernel_rfl) (by simp) rfl [.int .i64 (h.getD 0 (0, 0)).2, .int .i64 (min (d.length : Int) ((h.getD 0 (0, 0)).2 + (min m 65536)))] rfl ?_
                intro w33 t29
                have zt29 := t29.z
                have BL_ := BL.ev t29.e (fun i h => show w.heap.size ≤ i by have h : i = w1.heap.size := h; omega)
                have D_ := D.ev t29.e (fun i hi => show ¬ (i = w1.heap.size) by have := hdl i hi; omega)
                have H_ := H.ev t29.e (fun i hi => show ¬ (i = w1.heap.size) by have := hhl i hi; omega)
                have b2_ := b2.ev t29.e (show ¬ (w.heap.size = w1.heap.size) by omega)
                have b6_ := b6.ev t29.e (show ¬ (w3.heap.size = w1.heap.size) by omega)
                replace BL := BL_; clear BL_
                replace D := D_; clear D_
                replace H := H_; clear H_
                replace b2 := b2_; clear b2_
                replace b6 := b6_; clear b6_
                replace b4 : Cel w33 w1.heap.size 70 [.int .i64 (h.getD 0 (0, 0)).2, .int .i64 (min (d.length : Int) ((h.getD 0 (0, 0)).2 + (min m 65536)))] := t29.c
                clear t29
                refine sv 5 (.bool true) .of ?_
                simp only [List.set_cons_zero, List.set_cons_succ]
                refine wpList_nil ?_
                refine hK53 _ _ ?_
                refine wp_ret ?_
                (try simp only [Exit.then, Exit.inBlock])
                refine bodyPost_ret (rCT rfl _ w1.heap.size _ _ (.bool true) (by kernel_rfl) (by kernel_rfl) b4 _ Try.underlying70 rfl (by kernel_rfl)) rfl ?_
                have hg : gapX d.length h = ((h.getD 0 (0, 0)).2, (d.length : Int)) := by
                  rw [gapX_def]
                  repeat' split
                  all_goals (first | (exfalso; omega) | rfl)
                rw [nextX_yes hr (by omega) hg, if_neg c77]
                exact ⟨rfl, BL.b⟩
          · skip
            have dg53 : decide (0 < (h.getD 0 (0, 0)).2) = false := decide_eq_false g53
            simp only [dg53]
            clear dg53
            refine xSkip 53 ?_
            simp only [List.set_cons_zero, List.set_cons_succ]
            refine xSkip 54 ?_
            simp only [List.set_cons_zero, List.set_cons_succ]
            refine xSkip 55 ?_
            simp only [List.set_cons_zero, List.set_cons_succ]
            refine xSkip 56 ?_
            simp only [List.set_cons_zero, List.set_cons_succ]
            refine sv 57 (.bool false) .of ?_
            simp only [List.set_cons_zero, List.set_cons_succ]
            refine wpList_nil ?_
            refine hK43 _ _ ?_
            refine cF ?_
            refine wp_skip ?_
            refine hK42 _ _ ?_
            refine wp_seq_k fun K54 hK54 => ?_
            refine cPlain ?_
            refine sv 64 (.pointer (some ⟨w3.heap.size, 1, none⟩)) .of ?_
            simp only [List.set_cons_zero, List.set_cons_succ]
            refine sv 65 (.int .i64 (d.length : Int)) (Val.cel1 3 _ rfl w3.heap.size 1 _ (by kernel_rfl) (fun _ => (by kernel_rfl)) b6 rfl) ?_
            simp only [List.set_cons_zero, List.set_cons_succ]
            refine sv 66 (.pointer (some ⟨w3.heap.size, 0, none⟩)) .of ?_
            simp only [List.set_cons_zero, List.set_cons_succ]
            refine sv 67 (.int .i64 (h.getD 0 (0, 0)).2) (Val.cel1 3 _ rfl w3.heap.size 0 _ (by kernel_rfl) (fun _ => (by kernel_rfl)) b6 rfl) ?_
            simp only [List.set_cons_zero, List.set_cons_succ]
            refine sv 68 (.int .i64 m) .of ?_
            simp only [List.set_cons_zero, List.set_cons_succ]
            refine sv 69 (.int .i64 (min m 65536)) (Val.minI (.tmp 68) _ _ rfl m 65536 (by kernel_rfl) (by kernel_rfl)) ?_
            simp only [List.set_cons_zero, List.set_cons_succ]
            refine sv 70 (.int .i64 ((h.getD 0 (0, 0)).2 + (min m 65536))) (Val.add 3 _ (.tmp 67) (.tmp 69) rfl ((h.getD 0 (0, 0)).2) (min m 65536) (by kernel_rfl) (by kernel_rfl) (by omega)) ?_
            simp only [List.set_cons_zero, List.set_cons_succ]
            refine sv 71 (.int .i64 (min (d.length : Int) ((h.getD 0 (0, 0)).2 + (min m 65536)))) (Val.minI (.tmp 65) (.tmp 70) _ rfl (d.length : Int) ((h.getD 0 (0, 0)).2 + (min m 65536)) (by kernel_rfl) (by kernel_rfl)) ?_
            simp only [List.set_cons_zero, List.set_cons_succ]
            refine sv 72 (.pointer (some ⟨w3.heap.size, 1, none⟩)) .of ?_
            simp only [List.set_cons_zero, List.set_cons_succ]
            refine xStore 3 (.tmp 72) (.tmp 71) rfl w3.heap.size 70 [.int .i64 (h.getD 0 (0, 0)).2, .int .i64 (d.length : Int)] 1 (.int .i64 (min (d.length : Int) ((h.getD 0 (0, 0)).2 + (min m 65536)))) (by kernel_rfl) (by kernel_rfl) b6 (by kernel_rfl) (by simp) rfl [.int .i64 (h.getD 0 (0, 0)).2, .int .i64 (min (d.length : Int) ((h.getD 0 (0, 0)).2 + (min m 65536)))] rfl ?_
            intro w34 t30
            have zt30 := t30.z
            have BL_ := BL.ev t30.e (fun i h => show w.heap.size ≤ i by have h : i = w3.heap.size := h; omega)
            have D_ := D.ev t30.e (fun i hi => show ¬ (i = w3.heap.size) by have := hdl i hi; omega)
            have H_ := H.ev t30.e (fun i hi => show ¬ (i = w3.heap.size) by have := hhl i hi; omega)
            have b2_ := b2.ev t30.e (show ¬ (w.heap.size = w3.heap.size) by omega)
            have b4_ := b4.ev t30.e (show ¬ (w1.heap.size = w3.heap.size) by omega)
            replace BL := BL_; clear BL_
            replace D := D_; clear D_
            replace H := H_; clear H_
            replace b2 := b2_; clear b2_
            replace b4 := b4_; clear b4_
            replace b6 : Cel w34 w3.heap.size 70 [.int .i64 (h.getD 0 (0, 0)).2, .int .i64 (min (d.length : Int) ((h.getD 0 (0, 0)).2 + (min m 65536)))] := t30.c
            clear t30
            refine wpList_nil ?_
            refine hK54 _ _ ?_
            refine wp_seq_k fun K55 hK55 => ?_
            refine wp_seq_k fun K56 hK56 => ?_
            refine cPlain ?_
            refine sv 73 (.pointer (some ⟨w3.heap.size, 0, none⟩)) .of ?_
            simp only [List.set_cons_zero, List.set_cons_succ]
            refine sv 74 (.int .i64 (h.getD 0 (0, 0)).2) (Val.cel1 3 _ rfl w3.heap.size 0 _ (by kernel_rfl) (fun _ => (by kernel_rfl)) b6 rfl) ?_
            simp only [List.set_cons_zero, List.set_cons_succ]
            refine sv 75 (.pointer (some ⟨w3.heap.size, 1, none⟩)) .of ?_
            simp only [List.set_cons_zero, List.set_cons_succ]
            refine sv 76 (.int .i64 (min (d.length : Int) ((h.getD 0 (0, 0)).2 + (min m 65536)))) (Val.cel1 3 _ rfl w3.heap.size 1 _ (by kernel_rfl) (fun _ => (by kernel_rfl)) b6 rfl) ?_
            simp only [List.set_cons_zero, List.set_cons_succ]
            refine sv 77 (.bool (decide ((h.getD 0 (0, 0)).2 = (min (d.length : Int) ((h.getD 0 (0, 0)).2 + (min m 65536)))))) (Val.cmp .eql 3 _ (.tmp 74) (.tmp 76) rfl .i64 ((h.getD 0 (0, 0)).2) (min (d.length : Int) ((h.getD 0 (0, 0)).2 + (min m 65536))) (by kernel_rfl) (by kernel_rfl) (by simp) _ rfl) ?_
            simp only [List.set_cons_zero, List.set_cons_succ]
            refine wpList_nil ?_
            refine hK56 _ _ ?_
            refine cDec ((h.getD 0 (0, 0)).2 = (min (d.length : Int) ((h.getD 0 (0, 0)).2 + (min m 65536)))) (by kernel_rfl) (fun c77 => ?_) (fun c77 => ?_)
            · skip
              refine wp_seq_k fun K57 hK57 => ?_
              refine cPlain ?_
              refine sv 78 (.agg #[.int .i64 0, .int .i64 0]) .of ?_
              simp only [List.set_cons_zero, List.set_cons_succ]
              refine xStoreR 70 (.tmp 4) (.tmp 78) rfl w1.heap.size 70 [.int .i64 0, .int .i64 0] 0 [.int .i64 0, .int .i64 0] (by kernel_rfl) (by kernel_rfl) b4 (by kernel_rfl) (by simp) rfl [.int .i64 0, .int .i64 0] rfl ?_
              intro w35 t31
              have zt31 := t31.z
              have BL_ := BL.ev t31.e (fun i h => show w.heap.size ≤ i by have h : i = w1.heap.size := h; omega)
              have D_ := D.ev t31.e (fun i hi => show ¬ (i = w1.heap.size) by have := hdl i hi; omega)
              have H_ := H.ev t31.e (fun i hi => show ¬ (i = w1.heap.size) by have := hhl i hi; omega)
              have b2_ := b2.ev t31.e (show ¬ (w.heap.size = w1.heap.size) by omega)
              have b6_ := b6.ev t31.e (show ¬ (w3.heap.size = w1.heap.size) by omega)
              replace BL := BL_; clear BL_
              replace D := D_; clear D_
              replace H := H_; clear H_
              replace b2 := b2_; clear b2_
              replace b6 := b6_; clear b6_
              replace b4 : Cel w35 w1.heap.size 70 [.int .i64 0, .int .i64 0] := t31.c
              clear t31
              refine sv 5 (.bool false) .of ?_
              simp only [List.set_cons_zero, List.set_cons_succ]
              refine wpList_nil ?_
              refine hK57 _ _ ?_
              refine wp_ret ?_
              (try simp only [Exit.then, Exit.inBlock])
              refine bodyPost_ret (rCT rfl _ w1.heap.size _ _ (.bool false) (by kernel_rfl) (by kernel_rfl) b4 _ Try.underlying70 rfl (by kernel_rfl)) rfl ?_
              have hg : gapX d.length h = ((h.getD 0 (0, 0)).2, (d.length : Int)) := by
                rw [gapX_def]
                repeat' split
                all_goals (first | (exfalso; omega) | rfl)
              rw [nextX_yes hr (by omega) hg, if_pos c77]
              exact ⟨rfl, BL.b⟩
            · skip
              refine wp_skip ?_
              refine hK55 _ _ ?_
              refine wp_seq_k fun K58 hK58 => ?_
              refine cPlain ?_
              refine sv 79 (.agg #[.int .i64 (h.getD 0 (0, 0)).2, .int .i64 (min (d.length : Int) ((h.getD 0 (0, 0)).2 + (min m 65536)))]) (Val.cel 70 _ rfl 0 2 (by kernel_rfl) b6 _ Try.underlying70 rfl (by kernel_rfl) (by simp) [.int .i64 (h.getD 0 (0, 0)).2, .int .i64 (min (d.length : Int) ((h.getD 0 (0, 0)).2 + (min m 65536)))] rfl) ?_
              simp only [List.set_cons_zero, List.set_cons_succ]
              refine xStoreR 70 (.tmp 4) (.tmp 79) rfl w1.heap.size 70 [.int .i64 0, .int .i64 0] 0 [.int .i64 (h.getD 0 (0, 0)).2, .int .i64 (min (d.length : Int) ((h.getD 0 (0, 0)).2 + (min m 65536)))] (by kernel_rfl) (by kernel_rfl) b4 (by kernel_rfl) (by simp) rfl [.int .i64 (h.getD 0 (0, 0)).2, .int .i64 (min (d.length : Int) ((h.getD 0 (0, 0)).2 + (min m 65536)))] rfl ?_
              intro w36 t32
              have zt32 := t32.z
              have BL_ := BL.ev t32.e (fun i h => show w.heap.size ≤ i by have h : i = w1.heap.size := h; omega)
              have D_ := D.ev t32.e (fun i hi => show ¬ (i = w1.heap.size) by have := hdl i hi; omega)
              have H_ := H.ev t32.e (fun i hi => show ¬ (i = w1.heap.size) by have := hhl i hi; omega)
              have b2_ := b2.ev t32.e (show ¬ (w.heap.size = w1.heap.size) by omega)
              have b6_ := b6.ev t32.e (show ¬ (w3.heap.size = w1.heap.size) by omega)
              replace BL := BL_; clear BL_
              replace D := D_; clear D_
              replace H := H_; clear H_
              replace b2 := b2_; clear b2_
              replace b6 := b6_; clear b6_
              replace b4 : Cel w36 w1.heap.size 70 [.int .i64 (h.getD 0 (0, 0)).2, .int .i64 (min (d.length : Int) ((h.getD 0 (0, 0)).2 + (min m 65536)))] := t32.c
              clear t32
              refine sv 5 (.bool true) .of ?_
              simp only [List.set_cons_zero, List.set_cons_succ]
              refine wpList_nil ?_
              refine hK58 _ _ ?_
              refine wp_ret ?_
              (try simp only [Exit.then, Exit.inBlock])
              refine bodyPost_ret (rCT rfl _ w1.heap.size _ _ (.bool true) (by kernel_rfl) (by kernel_rfl) b4 _ Try.underlying70 rfl (by kernel_rfl)) rfl ?_
              have hg : gapX d.length h = ((h.getD 0 (0, 0)).2, (d.length : Int)) := by
                rw [gapX_def]
                repeat' split
                all_goals (first | (exfalso; omega) | rfl)
              rw [nextX_yes hr (by omega) hg, if_neg c77]
              exact ⟨rfl, BL.b⟩
        · skip
          refine wp_skip ?_
          refine hK7 _ _ ?_
          refine wp_seq_k fun K59 hK59 => ?_
          refine wp_seq_k fun K60 hK60 => ?_
          refine cPlain ?_
          refine sv 49 (.pointer (some ⟨w3.heap.size, 0, none⟩)) .of ?_
          simp only [List.set_cons_zero, List.set_cons_succ]
          refine sv 50 (.int .i64 0) (Val.cel1 3 _ rfl w3.heap.size 0 _ (by kernel_rfl) (fun _ => (by kernel_rfl)) b6 rfl) ?_
          simp only [List.set_cons_zero, List.set_cons_succ]
          refine sv 51 (.bool false) (Val.cmp .gtr 3 _ (.tmp 50) _ rfl .i64 0 0 (by kernel_rfl) (by kernel_rfl) (by simp) _ rfl) ?_
          simp only [List.set_cons_zero, List.set_cons_succ]
          refine sv 52 (.bool false) .of ?_
          simp only [List.set_cons_zero, List.set_cons_succ]
          refine xSkip 53 ?_
          simp only [List.set_cons_zero, List.set_cons_succ]
          refine xSkip 54 ?_
          simp only [List.set_cons_zero, List.set_cons_succ]
          refine xSkip 55 ?_
          simp only [List.set_cons_zero, List.set_cons_succ]
          refine xSkip 56 ?_
          simp only [List.set_cons_zero, List.set_cons_succ]
          refine sv 57 (.bool false) .of ?_
          simp only [List.set_cons_zero, List.set_cons_succ]
          refine wpList_nil ?_
          refine hK60 _ _ ?_
          refine cF ?_
          refine wp_skip ?_
          refine hK59 _ _ ?_
          refine wp_seq_k fun K61 hK61 => ?_
          refine cPlain ?_
          refine sv 64 (.pointer (some ⟨w3.heap.size, 1, none⟩)) .of ?_
          simp only [List.set_cons_zero, List.set_cons_succ]
          refine sv 65 (.int .i64 (d.length : Int)) (Val.cel1 3 _ rfl w3.heap.size 1 _ (by kernel_rfl) (fun _ => (by kernel_rfl)) b6 rfl) ?_
          simp only [List.set_cons_zero, List.set_cons_succ]
          refine sv 66 (.pointer (some ⟨w3.heap.size, 0, none⟩)) .of ?_
          simp only [List.set_cons_zero, List.set_cons_succ]
          refine sv 67 (.int .i64 0) (Val.cel1 3 _ rfl w3.heap.size 0 _ (by kernel_rfl) (fun _ => (by kernel_rfl)) b6 rfl) ?_
          simp only [List.set_cons_zero, List.set_cons_succ]
          refine sv 68 (.int .i64 m) .of ?_
          simp only [List.set_cons_zero, List.set_cons_succ]
          refine sv 69 (.int .i64 (min m 65536)) (Val.minI (.tmp 68) _ _ rfl m 65536 (by kernel_rfl) (by kernel_rfl)) ?_
          simp only [List.set_cons_zero, List.set_cons_succ]
          refine sv 70 (.int .i64 (0 + (min m 65536))) (Val.add 3 _ (.tmp 67) (.tmp 69) rfl 0 (min m 65536) (by kernel_rfl) (by kernel_rfl) (by omega)) ?_
          simp only [List.set_cons_zero, List.set_cons_succ]
          refine sv 71 (.int .i64 (min (d.length : Int) (0 + (min m 65536)))) (Val.minI (.tmp 65) (.tmp 70) _ rfl (d.length : Int) (0 + (min m 65536)) (by kernel_rfl) (by kernel_rfl)) ?_
          simp only [List.set_cons_zero, List.set_cons_succ]
          refine sv 72 (.pointer (some ⟨w3.heap.size, 1, none⟩)) .of ?_
          simp only [List.set_cons_zero, List.set_cons_succ]
          refine xStore 3 (.tmp 72) (.tmp 71) rfl w3.heap.size 70 [.int .i64 0, .int .i64 (d.length : Int)] 1 (.int .i64 (min (d.length : Int) (0 + (min m 65536)))) (by kernel_rfl) (by kernel_rfl) b6 (by kernel_rfl) (by simp) rfl [.int .i64 0, .int .i64 (min (d.length : Int) (0 + (min m 65536)))] rfl ?_
          intro w37 t33
          have zt33 := t33.z
          have BL_ := BL.ev t33.e (fun i h => show w.heap.size ≤ i by have h : i = w3.heap.size := h; omega)
          have D_ := D.ev t33.e (fun i hi => show ¬ (i = w3.heap.size) by have := hdl i hi; omega)
          have H_ := H.ev t33.e (fun i hi => show ¬ (i = w3.heap.size) by have := hhl i hi; omega)
          have b2_ := b2.ev t33.e (show ¬ (w.heap.size = w3.heap.size) by omega)
          have b4_ := b4.ev t33.e (show ¬ (w1.heap.size = w3.heap.size) by omega)
          replace BL := BL_; clear BL_
          replace D := D_; clear D_
          replace H := H_; clear H_
          replace b2 := b2_; clear b2_
          replace b4 := b4_; clear b4_
          replace b6 : Cel w37 w3.heap.size 70 [.int .i64 0, .int .i64 (min (d.length : Int) (0 + (min m 65536)))] := t33.c
          clear t33
          refine wpList_nil ?_
          refine hK61 _ _ ?_
          refine wp_seq_k fun K62 hK62 => ?_
          refine wp_seq_k fun K63 hK63 => ?_
          refine cPlain ?_
          refine sv 73 (.pointer (some ⟨w3.heap.size, 0, none⟩)) .of ?_
          simp only [List.set_cons_zero, List.set_cons_succ]
          refine sv 74 (.int .i64 0) (Val.cel1 3 _ rfl w3.heap.size 0 _ (by kernel_rfl) (fun _ => (by kernel_rfl)) b6 rfl) ?_
          simp only [List.set_cons_zero, List.set_cons_succ]
          refine sv 75 (.pointer (some ⟨w3.heap.size, 1, none⟩)) .of ?_
          simp only [List.set_cons_zero, List.set_cons_succ]
          refine sv 76 (.int .i64 (min (d.length : Int) (0 + (min m 65536)))) (Val.cel1 3 _ rfl w3.heap.size 1 _ (by kernel_rfl) (fun _ => (by kernel_rfl)) b6 rfl) ?_
          simp only [List.set_cons_zero, List.set_cons_succ]
          refine sv 77 (.bool (decide (0 = (min (d.length : Int) (0 + (min m 65536)))))) (Val.cmp .eql 3 _ (.tmp 74) (.tmp 76) rfl .i64 0 (min (d.length : Int) (0 + (min m 65536))) (by kernel_rfl) (by kernel_rfl) (by simp) _ rfl) ?_
          simp only [List.set_cons_zero, List.set_cons_succ]
          refine wpList_nil ?_
          refine hK63 _ _ ?_
          refine cDec (0 = (min (d.length : Int) (0 + (min m 65536)))) (by kernel_rfl) (fun c77 => ?_) (fun c77 => ?_)
          · skip
            refine wp_seq_k fun K64 hK64 => ?_
            refine cPlain ?_
            refine sv 78 (.agg #[.int .i64 0, .int .i64 0]) .of ?_
            simp only [List.set_cons_zero, List.set_cons_succ]
            refine xStoreR 70 (.tmp 4) (.tmp 78) rfl w1.heap.size 70 [.int .i64 0, .int .i64 0] 0 [.int .i64 0, .int .i64 0] (by kernel_rfl) (by kernel_rfl) b4 (by kernel_rfl) (by simp) rfl [.int .i64 0, .int .i64 0] rfl ?_
            intro w38 t34
            have zt34 := t34.z
            have BL_ := BL.ev t34.e (fun i h => show w.heap.size ≤ i by have h : i = w1.heap.size := h; omega)
            have D_ := D.ev t34.e (fun i hi => show ¬ (i = w1.heap.size) by have := hdl i hi; omega)
            have H_ := H.ev t34.e (fun i hi => show ¬ (i = w1.heap.size) by have := hhl i hi; omega)
            have b2_ := b2.ev t34.e (show ¬ (w.heap.size = w1.heap.size) by omega)
            have b6_ := b6.ev t34.e (show ¬ (w3.heap.size = w1.heap.size) by omega)
            replace BL := BL_; clear BL_
            replace D := D_; clear D_
            replace H := H_; clear H_
            replace b2 := b2_; clear b2_
            replace b6 := b6_; clear b6_
            replace b4 : Cel w38 w1.heap.size 70 [.int .i64 0, .int .i64 0] := t34.c
            clear t34
            refine sv 5 (.bool false) .of ?_
            simp only [List.set_cons_zero, List.set_cons_succ]
            refine wpList_nil ?_
            refine hK64 _ _ ?_
            refine wp_ret ?_
            (try simp only [Exit.then, Exit.inBlock])
            refine bodyPost_ret (rCT rfl _ w1.heap.size _ _ (.bool false) (by kernel_rfl) (by kernel_rfl) b4 _ Try.underlying70 rfl (by kernel_rfl)) rfl ?_
            have hg : gapX d.length h = (0, (d.length : Int)) := by
              rw [gapX_def]
              repeat' split
              all_goals (first | (exfalso; omega) | rfl)
            rw [nextX_yes hr (by omega) hg, if_pos c77]
            exact ⟨rfl, BL.b⟩
          · skip
            refine wp_skip ?_
            refine hK62 _ _ ?_
            refine wp_seq_k fun K65 hK65 => ?_
            refine cPlain ?_
            refine sv 79 (.agg #[.int .i64 0, .int .i64 (min (d.length : Int) (0 + (min m 65536)))]) (Val.cel 70 _ rfl 0 2 (by kernel_rfl) b6 _ Try.underlying70 rfl (by kernel_rfl) (by simp) [.int .i64 0, .int .i64 (min (d.length : Int) (0 + (min m 65536)))] rfl) ?_
            simp only [List.set_cons_zero, List.set_cons_succ]
            refine xStoreR 70 (.tmp 4) (.tmp 79) rfl w1.heap.size 70 [.int .i64 0, .int .i64 0] 0 [.int .i64 0, .int .i64 (min (d.length : Int) (0 + (min m 65536)))] (by kernel_rfl) (by kernel_rfl) b4 (by kernel_rfl) (by simp) rfl [.int .i64 0, .int .i64 (min (d.length : Int) (0 + (min m 65536)))] rfl ?_
            intro w39 t35
            have zt35 := t35.z
            have BL_ := BL.ev t35.e (fun i h => show w.heap.size ≤ i by have h : i = w1.heap.size := h; omega)
            have D_ := D.ev t35.e (fun i hi => show ¬ (i = w1.heap.size) by have := hdl i hi; omega)
            have H_ := H.ev t35.e (fun i hi => show ¬ (i = w1.heap.size) by have := hhl i hi; omega)
            have b2_ := b2.ev t35.e (show ¬ (w.heap.size = w1.heap.size) by omega)
            have b6_ := b6.ev t35.e (show ¬ (w3.heap.size = w1.heap.size) by omega)
            replace BL := BL_; clear BL_
            replace D := D_; clear D_
            replace H := H_; clear H_
            replace b2 := b2_; clear b2_
            replace b6 := b6_; clear b6_
            replace b4 : Cel w39 w1.heap.size 70 [.int .i64 0, .int .i64 (min (d.length : Int) (0 + (min m 65536)))] := t35.c
            clear t35
            refine sv 5 (.bool true) .of ?_
            simp only [List.set_cons_zero, List.set_cons_succ]
            refine wpList_nil ?_
            refine hK65 _ _ ?_
            refine wp_ret ?_
            (try simp only [Exit.then, Exit.inBlock])
            refine bodyPost_ret (rCT rfl _ w1.heap.size _ _ (.bool true) (by kernel_rfl) (by kernel_rfl) b4 _ Try.underlying70 rfl (by kernel_rfl)) rfl ?_
            have hg : gapX d.length h = (0, (d.length : Int)) := by
              rw [gapX_def]
              repeat' split
              all_goals (first | (exfalso; omega) | rfl)
            rw [nextX_yes hr (by omega) hg, if_neg c77]
            exact ⟨rfl, BL.b⟩

end Go.Proofs.Ytanggdnmoaflfaa
