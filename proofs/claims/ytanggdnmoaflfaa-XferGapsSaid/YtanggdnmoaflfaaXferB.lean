/-
  xfer.Begin, xfer.Many, xfer.Over, xfer.Next.
-/
import Derived.Test.YtanggdnmoaflfaaXferA
namespace Go.Proofs.Ytanggdnmoaflfaa
open Go.RowKit
set_option linter.unusedVariables false
set_option linter.unusedSimpArgs false
set_option maxRecDepth 100000
attribute [local irreducible] wpList Code.wp wpAnyZ
theorem xright_dec (dv hv : Value) (d : List Nat) (h : List (Int × Int)) (w : World) (D : SL .u8 w dv (nn d)) (H : SE .i64 2 w hv (spS h)) :
    Calls Try.prog 40 #[.agg #[dv, hv]] w fun e w' => e = .returned (.bool (decide (rightX d h = true))) ∧ Below w.heap.size w w' := by
  have := xright_any dv hv d h w D H
  rwa [← Bool.decide_eq_true (b := rightX d h)] at this
theorem manyS_next {h : List (Int × Int)} {i : Nat} (hi : i < h.length) : manyS (h.take (i + 1)) = manyS (h.take i) + ((h.getD i (0, 0)).2 - (h.getD i (0, 0)).1) := by
  induction h generalizing i with
  | nil => simp at hi
  | cons s h ih =>
    cases i with
    | zero => simp [manyS]
    | succ i =>
      simp only [List.length_cons] at hi
      have := ih (i := i) (by omega)
      simp only [List.take_succ_cons, manyS, List.getD_cons_succ]
      rw [this]; omega
theorem manyS_bd {n : Int} : ∀ {h : List (Int × Int)} {lo : Int} {i : Nat}, canonS n lo h → i < h.length → 0 ≤ manyS (h.take i) ∧ manyS (h.take i) + lo ≤ (h.getD i (0, 0)).1 ∧ lo < (h.getD i (0, 0)).1 ∧ (h.getD i (0, 0)).1 < (h.getD i (0, 0)).2 ∧ (h.getD i (0, 0)).2 ≤ n
  | [], lo, i, _, hi => by simp at hi
  | s :: h, lo, 0, hc, hi => by
    obtain ⟨h1, h2, h3, h4⟩ := hc
    simp only [List.take_zero, manyS, List.getD_cons_zero]; omega
  | s :: h, lo, i + 1, hc, hi => by
    obtain ⟨h1, h2, h3, h4⟩ := hc
    simp only [List.length_cons] at hi
    have := manyS_bd (i := i) h4 (by omega)
    simp only [List.take_succ_cons, manyS, List.getD_cons_succ]; omega
theorem gapX_def (n : Int) (h : List (Int × Int)) : gapX n h = if 0 < h.length ∧ 0 < (h.getD 0 (0, 0)).1 then (0, (h.getD 0 (0, 0)).1) else if 0 < h.length then ((h.getD 0 (0, 0)).2, if 1 < h.length then (h.getD 1 (0, 0)).1 else n) else (0, n) := by
  cases h with
  | nil => simp [gapX]
  | cons s h =>
    cases h with
    | nil => simp [gapX]
    | cons t h => simp [gapX]
attribute [local irreducible] rightX manyS gapX
theorem begin_any (n : Nat) (hn : n ≤ 65536) (w : World) :
    Calls Try.prog 32 #[.int .i64 ((n : Nat) : Int)] w fun e w' => (∃ dv, e = .returned (.tuple #[.agg #[dv, .slice none 0 0], .int .i64 0]) ∧ Own 5 .u8 w.heap.size w' dv (nn (List.replicate n 0))) ∧ Below w.heap.size w w' := by
  have BL := Bl.refl w
  go_enter Try.func32, Try.ntmps32
  refine wp_seq_k fun K1 hK1 => ?_
  refine cPlain ?_
  refine xAlloc 2 56 [.slice none 0 0, .slice none 0 0] rfl (by kernel_rfl) ?_
  intro w1 n1
  have zn1 := n1.z
  have b2 := n1.c
  replace BL := BL.e0 n1.e
  simp only [List.set_cons_zero, List.set_cons_succ]
  refine sv 3 (.int .i64 0) .of ?_
  simp only [List.set_cons_zero, List.set_cons_succ]
  refine wpList_nil ?_
  refine hK1 _ _ ?_
  refine wp_seq_k fun K2 hK2 => ?_
  refine wp_seq_k fun K3 hK3 => ?_
  refine cPlain ?_
  refine sv 4 (.int .i64 ((n : Nat) : Int)) .of ?_
  simp only [List.set_cons_zero, List.set_cons_succ]
  refine sv 5 (.bool false) (Val.cmp .lss 3 _ (.tmp 4) _ rfl .i64 ((n : Nat) : Int) 0 (by kernel_rfl) (by kernel_rfl) (by simp) _ (by first | (simp [cmpB]; done) | (simp [cmpB]; omega))) ?_
  simp only [List.set_cons_zero, List.set_cons_succ]
  refine sv 6 (.bool false) .of ?_
  simp only [List.set_cons_zero, List.set_cons_succ]
  refine sv 7 (.int .i64 ((n : Nat) : Int)) .of ?_
  simp only [List.set_cons_zero, List.set_cons_succ]
  refine sv 8 (.bool false) (Val.cmp .gtr 3 _ (.tmp 7) _ rfl .i64 ((n : Nat) : Int) 65536 (by kernel_rfl) (by kernel_rfl) (by simp) _ (by first | (simp [cmpB]; done) | (simp [cmpB]; omega))) ?_
  simp only [List.set_cons_zero, List.set_cons_succ]
  refine sv 9 (.bool false) .of ?_
  simp only [List.set_cons_zero, List.set_cons_succ]
  refine wpList_nil ?_
  refine hK3 _ _ ?_
  refine cF ?_
  refine wp_skip ?_
  refine hK2 _ _ ?_
  refine wp_seq_k fun K4 hK4 => ?_
  refine cPlain ?_
  refine sv 11 (.int .i64 ((n : Nat) : Int)) .of ?_
  simp only [List.set_cons_zero, List.set_cons_succ]
  refine xMakeN 12 (.tmp 11) (.tmp 11) 29 5 .u8 1 rfl Try.underlying29 (by kernel_rfl) n (by kernel_rfl) (by kernel_rfl) (by unfold maxLen; omega) (by omega) ?_
  intro w2 n2
  have zn2 := n2.z
  have b12 := Own.ofNw n2 (Nat.le_refl _) (by unfold maxLen; simp only [List.length_replicate]; omega)
  rw [List.length_replicate] at b12
  replace BL := BL.e0 n2.e
  replace b2 := b2.e0 n2.e
  have lb12_1 := b12.ge
  simp only [List.set_cons_zero, List.set_cons_succ]
  refine sv 13 (.agg #[.slice (some ⟨w1.heap.size, 0, none⟩) n n, .slice none 0 0]) .of ?_
  simp only [List.set_cons_zero, List.set_cons_succ]
  refine xStoreR 56 (.tmp 2) (.tmp 13) rfl w.heap.size 56 [.slice none 0 0, .slice none 0 0] 0 [.slice (some ⟨w1.heap.size, 0, none⟩) n n, .slice none 0 0] (by kernel_rfl) (by kernel_rfl) b2 (by kernel_rfl) (by simp) rfl [.slice (some ⟨w1.heap.size, 0, none⟩) n n, .slice none 0 0] rfl ?_
  intro w3 t1
  have zt1 := t1.z
  have BL_ := BL.ev t1.e (fun i h => show w.heap.size ≤ i by have h : i = w.heap.size := h; omega)
  have b12_ := b12.ev t1.e (fun i hi => show ¬ (i = w.heap.size) by have := lb12_1 i hi; omega)
  replace BL := BL_; clear BL_
  replace b12 := b12_; clear b12_
  replace b2 : Cel w3 w.heap.size 56 [.slice (some ⟨w1.heap.size, 0, none⟩) n n, .slice none 0 0] := t1.c
  clear t1
  refine sv 3 (.int .i64 0) .of ?_
  simp only [List.set_cons_zero, List.set_cons_succ]
  refine wpList_nil ?_
  refine hK4 _ _ ?_
  refine wp_ret ?_
  (try simp only [Exit.then, Exit.inBlock])
  refine bodyPost_ret (rCT rfl _ w.heap.size _ _ (.int .i64 0) (by kernel_rfl) (by kernel_rfl) b2 _ Try.underlying56 rfl (by kernel_rfl)) rfl ?_
  refine ⟨⟨_, rfl, ?_⟩, BL.b⟩
  rw [nn_rep]
  exact b12.mono (by omega)

theorem xmany_any (dv hv : Value) (d : List Nat) (h : List (Int × Int)) (w : World) (D : SL .u8 w dv (nn d)) (H : SE .i64 2 w hv (spS h)) :
    Calls Try.prog 34 #[.agg #[dv, hv]] w fun e w' => e = .returned (.int .i64 (manyX d h)) ∧ Below w.heap.size w w' := by
  have BL := Bl.refl w
  have hdl := D.lt
  have hhl := H.lt
  obtain ⟨A, C, hv0, hmx⟩ := D.len
  rw [nn_len] at hv0 hmx
  obtain ⟨B, E, hv1, hmy⟩ := H.len
  rw [spS_len] at hv1 hmy
  subst hv0 hv1
  have hmz := H.cap.2.2
  unfold maxLen at hmx hmz
  go_enter Try.func34, Try.ntmps34
  refine wp_seq_k fun K1 hK1 => ?_
  refine cPlain ?_
  refine xBox 1 56 _ [.slice A d.length C, .slice B h.length E] rfl (by kernel_rfl) ?_
  intro w1 n1
  have zn1 := n1.z
  have b1 := n1.c
  replace BL := BL.e0 n1.e
  replace D := D.e0 n1.e
  replace H := H.e0 n1.e
  simp only [List.set_cons_zero, List.set_cons_succ]
  refine sv 2 (.int .i64 0) .of ?_
  simp only [List.set_cons_zero, List.set_cons_succ]
  refine wpList_nil ?_
  refine hK1 _ _ ?_
  refine wp_seq_k fun K2 hK2 => ?_
  refine wp_seq_k fun K3 hK3 => ?_
  refine cPlain ?_
  refine sv 6 (.agg #[.slice A d.length C, .slice B h.length E]) (Val.cel 56 _ rfl 0 2 (by kernel_rfl) b1 _ Try.underlying56 rfl (by kernel_rfl) (by simp) [.slice A d.length C, .slice B h.length E] rfl) ?_
  simp only [List.set_cons_zero, List.set_cons_succ]
  refine xCall 7 40 #[.agg #[.slice A d.length C, .slice B h.length E]] (by kernel_rfl) ?_
  refine (xright_dec _ _ d h w1 D H).mono ?_
  rintro en w2 ⟨rfl, hb1⟩
  have e1 := belE0 hb1
  have ze1 := e1.size
  replace BL := BL.e0 e1
  replace D := D.e0 e1
  replace H := H.e0 e1
  replace b1 := b1.e0 e1
  clear e1
  refine ⟨.bool (decide (rightX d h = true)), rfl, ?_⟩
  simp only [List.set_cons_zero, List.set_cons_succ]
  refine sv 8 (.bool (decide (¬ (rightX d h = true)))) (Val.not _ _ rfl (decide (rightX d h = true)) (decide (¬ (rightX d h = true))) (by kernel_rfl) (by first | rw [decide_not] | simp)) ?_
  simp only [List.set_cons_zero, List.set_cons_succ]
  refine wpList_nil ?_
  refine hK3 _ _ ?_
  refine cDec (¬ (rightX d h = true)) (by kernel_rfl) (fun c8 => ?_) (fun c8 => ?_)
  · skip
    refine wp_seq_k fun K4 hK4 => ?_
    refine cPlain ?_
    refine sv 2 (.int .i64 0) .of ?_
    simp only [List.set_cons_zero, List.set_cons_succ]
    refine wpList_nil ?_
    refine hK4 _ _ ?_
    refine wp_ret ?_
    (try simp only [Exit.then, Exit.inBlock])
    refine bodyPost_ret (v := .int .i64 0) rT rfl ?_
    unfold manyX
    rw [if_neg (by simpa using c8)]
    exact ⟨rfl, BL.b⟩
  · skip
    have hr : rightX d h = true := by cases hq : rightX d h with | false => exact absurd (by rw [hq]; decide) c8 | true => rfl
    have hcn := rightX_can hr
    have hln := rightX_len hr
    refine wp_skip ?_
    refine hK2 _ _ ?_
    refine wp_seq_k fun K5 hK5 => ?_
    refine cPlain ?_
    refine sv 3 (.int .i64 0) .of ?_
    simp only [List.set_cons_zero, List.set_cons_succ]
    refine wpList_nil ?_
    refine hK5 _ _ ?_
    refine wp_seq_k fun K6 hK6 => ?_
    refine wp_seq_k fun K7 hK7 => ?_
    refine cPlain ?_
    refine sv 9 (.pointer (some ⟨w.heap.size, 1, none⟩)) .of ?_
    simp only [List.set_cons_zero, List.set_cons_succ]
    refine sv 10 (.slice B h.length E) (Val.cel1 54 _ rfl w.heap.size 1 _ (by kernel_rfl) (fun _ => (by kernel_rfl)) b1 rfl) ?_
    simp only [List.set_cons_zero, List.set_cons_succ]
    refine sv 11 (.int .i64 (h.length : Int)) .of ?_
    simp only [List.set_cons_zero, List.set_cons_succ]
    refine sv 12 (.int .i64 0) .of ?_
    simp only [List.set_cons_zero, List.set_cons_succ]
    refine wpList_nil ?_
    refine hK7 _ _ ?_
    refine wp_block ?_
    refine cLoop (fun N_ A_ w_ => ∃ (i : Nat) (m : Int), (N_ = h.length - i ∧ (i ≤ h.length) ∧ (m = manyS (h.take i)) ∧ (∃ s1 : Nat → Value, A_ = ⟨[.agg #[.slice A d.length C, .slice B h.length E], .pointer (some ⟨w.heap.size, 0, none⟩), .int .i64 0, .int .i64 (m), undef, (s1 5), .agg #[.slice A d.length C, .slice B h.length E], .bool (decide (rightX d h = true)), .bool (decide (¬ (rightX d h = true))), .pointer (some ⟨w.heap.size, 1, none⟩), .slice B h.length E, .int .i64 (h.length : Int), .int .i64 ((i : Nat) : Int), (s1 13), (s1 14), (s1 15), (s1 16), (s1 17), (s1 18), (s1 19), (s1 20), (s1 21), (s1 22), (s1 23), undef].toArray, []⟩) ∧ Bl w.heap.size w w_ ∧ SL .u8 w_ (.slice A d.length C) (nn d) ∧ SE .i64 2 w_ (.slice B h.length E) (spS h) ∧ Cel w_ w.heap.size 56 [.slice A d.length C, .slice B h.length E] ∧ w2.heap.size ≤ w_.heap.size)) _ ⟨0, 0, rfl, (Nat.zero_le _), (by simp only [List.take_zero]; unfold manyS; rfl), cutE, BL, D, H, b1, Nat.le_refl _⟩ ?_
    clear BL D H b1
    rintro n_ a_ wl0 ⟨i, m, rfl, hc0_0, hc0_1, ⟨s1, rfl⟩, BL, D, H, b1, zl0⟩
    refine wp_seq_k fun K8 hK8 => ?_
    refine cPlain ?_
    refine sv 13 (.bool (decide (((i : Nat) : Int) < (h.length : Int)))) (Val.cmp .lss 3 _ (.tmp 12) (.tmp 11) rfl .i64 ((i : Nat) : Int) (h.length : Int) (by kernel_rfl) (by kernel_rfl) (by simp) _ rfl) ?_
    simp only [List.set_cons_zero, List.set_cons_succ]
    refine wpList_nil ?_
    refine hK8 _ _ ?_
    refine wp_seq_k fun K9 hK9 => ?_
    refine cDec (((i : Nat) : Int) < (h.length : Int)) (by kernel_rfl) (fun c13 => ?_) (fun c13 => ?_)
    · skip
      refine wp_skip ?_
      refine hK9 _ _ ?_
      refine wp_seq_k fun K10 hK10 => ?_
      refine wp_block ?_
      refine wp_seq_k fun K11 hK11 => ?_
      refine cPlain ?_
      refine sv 14 (elemE 2 (.slice B h.length E) i) (Val.ixE 54 (.tmp 10) (.tmp 12) rfl (.slice B h.length E) i (by kernel_rfl) (by kernel_rfl) H Try.underlying54 (by kernel_rfl) (by simp only [spS_len]; omega)) ?_
      simp only [List.set_cons_zero, List.set_cons_succ]
      refine sv 15 (.agg #[.int .i64 (h.getD i (0, 0)).1, .int .i64 (h.getD i (0, 0)).2]) (Val.ldS 70 _ rfl (.slice B h.length E) i (by kernel_rfl) H _ Try.underlying70 rfl (by kernel_rfl) (by omega)) ?_
      simp only [List.set_cons_zero, List.set_cons_succ]
      refine xAlloc 5 70 [.int .i64 0, .int .i64 0] rfl (by kernel_rfl) ?_
      intro w3 n2
      have zn2 := n2.z
      have b5 := n2.c
      replace BL := BL.e0 n2.e
      replace D := D.e0 n2.e
      replace H := H.e0 n2.e
      replace b1 := b1.e0 n2.e
      simp only [List.set_cons_zero, List.set_cons_succ]
      refine xStoreR 70 (.tmp 5) (.tmp 15) rfl wl0.heap.size 70 [.int .i64 0, .int .i64 0] 0 [.int .i64 (h.getD i (0, 0)).1, .int .i64 (h.getD i (0, 0)).2] (by kernel_rfl) (by kernel_rfl) b5 (by kernel_rfl) (by simp) rfl [.int .i64 (h.getD i (0, 0)).1, .int .i64 (h.getD i (0, 0)).2] rfl ?_
      intro w4 t1
      have zt1 := t1.z
      have BL_ := BL.ev t1.e (fun i h => show w.heap.size ≤ i by have h : i = wl0.heap.size := h; omega)
      have D_ := D.ev t1.e (fun i hi => show ¬ (i = wl0.heap.size) by have := hdl i hi; omega)
      have H_ := H.ev t1.e (fun i hi => show ¬ (i = wl0.heap.size) by have := hhl i hi; omega)
      have b1_ := b1.ev t1.e (show ¬ (w.heap.size = wl0.heap.size) by omega)
      replace BL := BL_; clear BL_
      replace D := D_; clear D_
      replace H := H_; clear H_
      replace b1 := b1_; clear b1_
      replace b5 : Cel w4 wl0.heap.size 70 [.int .i64 (h.getD i (0, 0)).1, .int .i64 (h.getD i (0, 0)).2] := t1.c
      clear t1
      refine wpList_nil ?_
      refine hK11 _ _ ?_
      have hbd := manyS_bd (i := i) hcn (by omega)
      refine cPlain ?_
      refine sv 16 (.int .i64 (m)) .of ?_
      simp only [List.set_cons_zero, List.set_cons_succ]
      refine sv 17 (.pointer (some ⟨wl0.heap.size, 1, none⟩)) .of ?_
      simp only [List.set_cons_zero, List.set_cons_succ]
      refine sv 18 (.int .i64 (h.getD i (0, 0)).2) (Val.cel1 3 _ rfl wl0.heap.size 1 _ (by kernel_rfl) (fun _ => (by kernel_rfl)) b5 rfl) ?_
      simp only [List.set_cons_zero, List.set_cons_succ]
      refine sv 19 (.pointer (some ⟨wl0.heap.size, 0, none⟩)) .of ?_
      simp only [List.set_cons_zero, List.set_cons_succ]
      refine sv 20 (.int .i64 (h.getD i (0, 0)).1) (Val.cel1 3 _ rfl wl0.heap.size 0 _ (by kernel_rfl) (fun _ => (by kernel_rfl)) b5 rfl) ?_
      simp only [List.set_cons_zero, List.set_cons_succ]
      refine sv 21 (.int .i64 ((h.getD i (0, 0)).2 - (h.getD i (0, 0)).1)) (Val.sub 3 _ (.tmp 18) (.tmp 20) rfl ((h.getD i (0, 0)).2) ((h.getD i (0, 0)).1) (by kernel_rfl) (by kernel_rfl) (by omega)) ?_
      simp only [List.set_cons_zero, List.set_cons_succ]
      refine sv 22 (.int .i64 ((m) + ((h.getD i (0, 0)).2 - (h.getD i (0, 0)).1))) (Val.add 3 _ (.tmp 16) (.tmp 21) rfl (m) ((h.getD i (0, 0)).2 - (h.getD i (0, 0)).1) (by kernel_rfl) (by kernel_rfl) (by omega)) ?_
      simp only [List.set_cons_zero, List.set_cons_succ]
      refine sv 3 (.int .i64 ((m) + ((h.getD i (0, 0)).2 - (h.getD i (0, 0)).1))) .of ?_
      simp only [List.set_cons_zero, List.set_cons_succ]
      refine wpList_nil ?_
      refine hK10 _ _ ?_
      refine cPlain ?_
      refine sv 23 (.int .i64 (((i : Nat) : Int) + 1)) (Val.add 3 _ (.tmp 12) _ rfl ((i : Nat) : Int) 1 (by kernel_rfl) (by kernel_rfl) (by omega)) ?_
      simp only [List.set_cons_zero, List.set_cons_succ]
      refine sv 12 (.int .i64 (((i : Nat) : Int) + 1)) .of ?_
      simp only [List.set_cons_zero, List.set_cons_succ]
      refine wpList_nil ?_
      refine ⟨_, ?_, i + 1, m + ((h.getD i (0, 0)).2 - (h.getD i (0, 0)).1), rfl, (by omega), (by rw [manyS_next (by omega), hc0_1]), cutE, BL, D, H, b1, by omega⟩
      omega
    · skip
      refine wp_exit ?_
      simp only [Exit.then, Exit.inBlock, ↓reduceIte, Nat.reduceEqDiff]
      refine hK6 _ _ ?_
      refine wp_seq_k fun K12 hK12 => ?_
      refine cPlain ?_
      refine sv 24 (.int .i64 (m)) .of ?_
      simp only [List.set_cons_zero, List.set_cons_succ]
      refine sv 2 (.int .i64 (m)) .of ?_
      simp only [List.set_cons_zero, List.set_cons_succ]
      refine wpList_nil ?_
      refine hK12 _ _ ?_
      refine wp_ret ?_
      (try simp only [Exit.then, Exit.inBlock])
      refine bodyPost_ret (v := .int .i64 (m)) rT rfl ?_
      unfold manyX
      rw [if_pos hr, hc0_1, show i = h.length by omega, List.take_length]
      exact ⟨rfl, BL.b⟩

theorem xover_any (dv hv : Value) (d : List Nat) (h : List (Int × Int)) (w : World) (D : SL .u8 w dv (nn d)) (H : SE .i64 2 w hv (spS h)) :
    Calls Try.prog 42 #[.agg #[dv, hv]] w fun e w' => e = .returned (.bool (overX d h)) ∧ Below w.heap.size w w' := by
  have BL := Bl.refl w
  have hdl := D.lt
  have hhl := H.lt
  obtain ⟨A, C, hv0, hmx⟩ := D.len
  rw [nn_len] at hv0 hmx
  obtain ⟨B, E, hv1, hmy⟩ := H.len
  rw [spS_len] at hv1 hmy
  subst hv0 hv1
  have hmz := H.cap.2.2
  unfold maxLen at hmx hmz
  go_enter Try.func42, Try.ntmps42
  refine wp_seq_k fun K1 hK1 => ?_
  refine cPlain ?_
  refine xBox 1 56 _ [.slice A d.length C, .slice B h.length E] rfl (by kernel_rfl) ?_
  intro w1 n1
  have zn1 := n1.z
  have b1 := n1.c
  replace BL := BL.e0 n1.e
  replace D := D.e0 n1.e
  replace H := H.e0 n1.e
  simp only [List.set_cons_zero, List.set_cons_succ]
  refine sv 2 (.bool false) .of ?_
  simp only [List.set_cons_zero, List.set_cons_succ]
  refine wpList_nil ?_
  refine hK1 _ _ ?_
  refine wp_seq_k fun K2 hK2 => ?_
  have e1 := drew_e0 w1
  refine zg (fun w_ => Bl w.heap.size w w_ ∧ SL .u8 w_ (.slice A d.length C) (nn d) ∧ SE .i64 2 w_ (.slice B h.length E) (spS h) ∧ Cel w_ w.heap.size 56 [.slice A d.length C, .slice B h.length E] ∧ w1.heap.size ≤ w_.heap.size) (fun w_ => Bl w.heap.size w w_ ∧ SL .u8 w_ (.slice A d.length C) (nn d) ∧ SE .i64 2 w_ (.slice B h.length E) (spS h) ∧ Cel w_ w.heap.size 56 [.slice A d.length C, .slice B h.length E] ∧ w1.heap.size ≤ w_.heap.size) 100000 11 ⟨BL.e0 e1, D.e0 e1, H.e0 e1, b1.e0 e1, Nat.le_refl _⟩ ?_
  clear BL D H b1
  clear e1
  intro w2
  rintro ⟨BL, D, H, b1, z1⟩
  refine zv 0 3 (.agg #[.slice A d.length C, .slice B h.length E]) (fun _ ⟨BL, D, H, b1, z1⟩ => Val.cel 56 _ rfl 0 2 (by kernel_rfl) b1 _ Try.underlying56 rfl (by kernel_rfl) (by simp) [.slice A d.length C, .slice B h.length E] rfl) ⟨BL, D, H, b1, by omega⟩ ?_
  simp only [List.set_cons_zero, List.set_cons_succ]
  refine zo1 1 rfl ?_
  refine xCall 4 40 #[.agg #[.slice A d.length C, .slice B h.length E]] (by kernel_rfl) ?_
  refine (xright_dec _ _ d h w2 D H).mono ?_
  rintro en w3 ⟨rfl, hb1⟩
  have e2 := belE0 hb1
  have ze2 := e2.size
  replace BL := BL.e0 e2
  replace D := D.e0 e2
  replace H := H.e0 e2
  replace b1 := b1.e0 e2
  clear e2
  refine ⟨.bool (decide (rightX d h = true)), rfl, ?_⟩
  refine ze 1 ⟨BL, D, H, b1, by omega⟩ ?_
  simp only [List.set_cons_zero, List.set_cons_succ]
  refine zv 2 5 (.bool (decide (rightX d h = true))) (fun _ _ => .of) ⟨BL, D, H, b1, by omega⟩ ?_
  simp only [List.set_cons_zero, List.set_cons_succ]
  by_cases g6 : rightX d h = true
  · skip
    have dg6 : decide (rightX d h = true) = true := decide_eq_true g6
    simp only [dg6]
    clear dg6
    refine zv 3 6 (.agg #[.slice A d.length C, .slice B h.length E]) (fun _ ⟨BL, D, H, b1, z1⟩ => Val.cel 56 _ rfl 0 2 (by kernel_rfl) b1 _ Try.underlying56 rfl (by kernel_rfl) (by simp) [.slice A d.length C, .slice B h.length E] rfl) ⟨BL, D, H, b1, by omega⟩ ?_
    simp only [List.set_cons_zero, List.set_cons_succ]
    refine zv 5 8 (.pointer (some ⟨w.heap.size, 0, none⟩)) (fun _ _ => .of) ⟨BL, D, H, b1, by omega⟩ ?_
    simp only [List.set_cons_zero, List.set_cons_succ]
    refine zv 6 9 (.slice A d.length C) (fun _ ⟨BL, D, H, b1, z1⟩ => Val.cel1 29 _ rfl w.heap.size 0 _ (by kernel_rfl) (fun _ => (by kernel_rfl)) b1 rfl) ⟨BL, D, H, b1, by omega⟩ ?_
    simp only [List.set_cons_zero, List.set_cons_succ]
    refine zv 7 10 (.int .i64 (d.length : Int)) (fun _ _ => .of) ⟨BL, D, H, b1, by omega⟩ ?_
    simp only [List.set_cons_zero, List.set_cons_succ]
    refine zo1 4 rfl ?_
    refine xCall 7 34 #[.agg #[.slice A d.length C, .slice B h.length E]] (by kernel_rfl) ?_
    refine (xmany_any _ _ d h w3 D H).mono ?_
    rintro en w4 ⟨rfl, hb1⟩
    have e3 := belE0 hb1
    have ze3 := e3.size
    replace BL := BL.e0 e3
    replace D := D.e0 e3
    replace H := H.e0 e3
    replace b1 := b1.e0 e3
    clear e3
    refine ⟨.int .i64 (manyX d h), rfl, ?_⟩
    refine ze 4 ⟨BL, D, H, b1, by omega⟩ ?_
    simp only [List.set_cons_zero, List.set_cons_succ]
    refine zv 8 11 (.bool (decide ((manyX d h) = (d.length : Int)))) (fun _ ⟨BL, D, H, b1, z1⟩ => Val.cmp .eql 3 _ (.tmp 7) (.tmp 10) rfl .i64 (manyX d h) (d.length : Int) (by kernel_rfl) (by kernel_rfl) (by simp) _ rfl) ⟨BL, D, H, b1, by omega⟩ ?_
    simp only [List.set_cons_zero, List.set_cons_succ]
    refine zv 9 12 (.bool (decide ((manyX d h) = (d.length : Int)))) (fun _ _ => .of) ⟨BL, D, H, b1, by omega⟩ ?_
    simp only [List.set_cons_zero, List.set_cons_succ]
    refine zv 10 2 (.bool (decide ((manyX d h) = (d.length : Int)))) (fun _ _ => .of) ⟨BL, D, H, b1, by omega⟩ ?_
    simp only [List.set_cons_zero, List.set_cons_succ]
    refine zd (by kernel_rfl) ?_ _
    refine hK2 _ _ ?_
    refine wp_ret ?_
    (try simp only [Exit.then, Exit.inBlock])
    refine bodyPost_ret (v := .bool (decide ((manyX d h) = (d.length : Int)))) rT rfl ?_
    unfold overX
    rw [g6, Bool.true_and]
    exact ⟨rfl, BL.b⟩
  · skip
    have dg6 : decide (rightX d h = true) = false := decide_eq_false g6
    simp only [dg6]
    clear dg6
    refine zs 3 6 ⟨BL, D, H, b1, by omega⟩ ?_
    simp only [List.set_cons_zero, List.set_cons_succ]
    refine zs 4 7 ⟨BL, D, H, b1, by omega⟩ ?_
    simp only [List.set_cons_zero, List.set_cons_succ]
    refine zs 5 8 ⟨BL, D, H, b1, by omega⟩ ?_
    simp only [List.set_cons_zero, List.set_cons_succ]
    refine zs 6 9 ⟨BL, D, H, b1, by omega⟩ ?_
    simp only [List.set_cons_zero, List.set_cons_succ]
    refine zs 7 10 ⟨BL, D, H, b1, by omega⟩ ?_
    simp only [List.set_cons_zero, List.set_cons_succ]
    refine zs 8 11 ⟨BL, D, H, b1, by omega⟩ ?_
    simp only [List.set_cons_zero, List.set_cons_succ]
    refine zv 9 12 (.bool false) (fun _ _ => .of) ⟨BL, D, H, b1, by omega⟩ ?_
    simp only [List.set_cons_zero, List.set_cons_succ]
    refine zv 10 2 (.bool false) (fun _ _ => .of) ⟨BL, D, H, b1, by omega⟩ ?_
    simp only [List.set_cons_zero, List.set_cons_succ]
    refine zd (by kernel_rfl) ?_ _
    refine hK2 _ _ ?_
    refine wp_ret ?_
    (try simp only [Exit.then, Exit.inBlock])
    refine bodyPost_ret (v := .bool false) rT rfl ?_
    unfold overX
    rw [show rightX d h = false by simpa using g6]
    exact ⟨rfl, BL.b⟩

end Go.Proofs.Ytanggdnmoaflfaa
