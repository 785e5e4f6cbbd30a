/-
  ref02.root, ref02.Table.
-/
import Derived.Test.YteaijjefbadnbaaRefT2
namespace Go.Proofs.Yteaijjefbadnbaa
open Go.RowKit
set_option linter.unusedVariables false
set_option linter.unusedSimpArgs false
set_option maxRecDepth 100000
attribute [local irreducible] wpList Code.wp wpAnyZ
def yR (q : Nat) (d : List Nat) : List Nat := if q = 3 then timesR (timesR d d) d else timesR d d
theorem stepR_eq (p q c bit : Nat) : stepR p q c bit = if greaterR (yR q (dgsR 4 (c + bit))) (powR p q) then c else c + bit := rfl
def bitR (j : Nat) : Nat := 2 ^ 35 / 2 ^ j
theorem bitR_succ (j : Nat) : bitR j / 2 = bitR (j + 1) := by unfold bitR; rw [Nat.div_div_eq_div_mul, ← Nat.pow_succ]
theorem bitR_pow {j : Nat} (h : j < 36) : bitR j = 2 ^ (35 - j) := Nat.pow_div (by omega) (by omega)
theorem bitR_36 : bitR 36 = 0 := rfl
def cR (p q n : Nat) : Nat := (List.range n).foldl (fun c j => stepR p q c (2 ^ (35 - j))) 0
theorem cR_succ (p q n : Nat) : cR p q (n + 1) = stepR p q (cR p q n) (2 ^ (35 - n)) := by
  unfold cR; rw [List.range_succ, List.foldl_append]; rfl
theorem rootR_eq (p q : Nat) : rootR p q = cR p q 36 % 4294967296 := rfl
theorem dgs16 (f m : Nat) : D16 (dgsR f m) := dgsR_lt f m
theorem timesR_len (a b : List Nat) : (timesR a b).length = a.length + b.length + 1 := timesG_len a b _
theorem powR_len (p q : Nat) (hq : q ≤ 3) : (powR p q).length ≤ 10 := by
  have := dgsR_le 4 p
  unfold powR; rw [List.length_append, List.length_replicate]; omega
theorem tabG_succ (r : Nat → Nat → Nat) (j : Nat) : tabG r (j + 1) = tabS r (tabG r j) (j + 2) := by
  unfold tabG; rw [List.range_succ, List.foldl_append]; rfl
theorem tabS_le (r : Nat → Nat → Nat) (s : Nat × List Nat) (p : Nat) : s.1 ≤ (tabS r s p).1 := by
  unfold tabS; split
  · exact Nat.le_succ _
  · exact Nat.le_refl _
theorem tabG_mono (r : Nat → Nat → Nat) (j : Nat) : ∀ d, (tabG r j).1 ≤ (tabG r (j + d)).1
  | 0 => Nat.le_refl _
  | d + 1 => Nat.le_trans (tabG_mono r j d) (by rw [← Nat.add_assoc, tabG_succ]; exact tabS_le _ _ _)
theorem tab_309 (r : Nat → Nat → Nat) : (tabG r 309).1 = 63 := by kernel_rfl
theorem tab_lt {j n : Nat} {X : List Nat} (h : tabG rootR j = (n, X)) (hj : j ≤ 310) : (n < 64 → j < 310) ∧ (¬ n < 64 → n = 64 ∧ X = tabL) := by
  rcases Nat.lt_or_ge j 310 with h1 | h1
  · have h2 := tabG_mono rootR j (309 - j)
    rw [show j + (309 - j) = 309 by omega, tab_309, h] at h2
    replace h2 : n ≤ 63 := h2
    exact ⟨fun _ => h1, fun h3 => absurd h2 (by omega)⟩
  · obtain rfl : j = 310 := by omega
    rw [tab_all] at h
    have h3 := congrArg Prod.fst h
    have h4 := congrArg Prod.snd h
    replace h3 : 64 = n := h3
    replace h4 : tabL = X := h4
    exact ⟨fun h5 => absurd h5 (by omega), fun _ => ⟨h3.symm, h4.symm⟩⟩
attribute [local irreducible] dgsR timesR greaterR powR stepR bitR rootR primeR tabG cR yR D16 tabL
set_option maxHeartbeats 4000000 in
theorem rroot_any (p q : Nat) (hp : p ≤ 1000) (hq : q = 2 ∨ q = 3) (w : World) :
    Calls Try.prog 79 #[.int .u64 ((p : Nat) : Int), .int .i64 ((q : Nat) : Int)] w fun e w' => e = .returned (.int .u32 ((rootR p q : Nat) : Int)) ∧ Below w.heap.size w w' := by
  have BL := Bl.refl w
  have hpl := powR_len p q (by omega)
  have hdp := dgsR_le 4 p
  go_enter Try.func79, Try.ntmps79
  refine wp_seq_k fun K1 hK1 => ?_
  refine cPlain ?_
  refine sv 4 (.int .u32 0) .of ?_
  simp only [List.set_cons_zero, List.set_cons_succ]
  refine wpList_nil ?_
  refine hK1 _ _ ?_
  refine wp_seq_k fun K2 hK2 => ?_
  refine cPlain ?_
  refine sv 10 (.int .i64 ((q : Nat) : Int)) .of ?_
  simp only [List.set_cons_zero, List.set_cons_succ]
  refine sv 11 (.int .i64 ((2 * q : Nat) : Int)) (Val.as (Val.mul 3 _ _ (.tmp 10) rfl 2 ((q : Nat) : Int) (by kernel_rfl) (by kernel_rfl) (by omega)) (congrArg (Value.int .i64) (by omega))) ?_
  simp only [List.set_cons_zero, List.set_cons_succ]
  refine xMakeN 12 (.tmp 11) (.tmp 11) 147 22 .u32 4 rfl Try.underlying147 (by kernel_rfl) (2 * q) (by kernel_rfl) (by kernel_rfl) (by unfold maxLen; omega) (by omega) ?_
  intro w1 n1
  have zn1 := n1.z
  have O := Own.ofNw n1 (Nat.le_refl _) (by unfold maxLen; simp only [List.length_replicate]; omega)
  rw [List.length_replicate] at O
  replace BL := BL.e0 n1.e
  have lO_1 := O.ge
  simp only [List.set_cons_zero, List.set_cons_succ]
  refine sv 5 (.slice (some ⟨w.heap.size, 0, none⟩) (2 * q) (2 * q)) .of ?_
  simp only [List.set_cons_zero, List.set_cons_succ]
  refine wpList_nil ?_
  refine hK2 _ _ ?_
  refine wp_seq_k fun K3 hK3 => ?_
  refine cPlain ?_
  refine sv 13 (.slice (some ⟨w.heap.size, 0, none⟩) (2 * q) (2 * q)) .of ?_
  simp only [List.set_cons_zero, List.set_cons_succ]
  refine sv 14 (.int .u64 ((p : Nat) : Int)) .of ?_
  simp only [List.set_cons_zero, List.set_cons_succ]
  refine xCall 15 113 #[.int .u64 ((p : Nat) : Int)] (by kernel_rfl) ?_
  refine (rdigits_any p (by omega) w1).mono ?_
  rintro en w2 ⟨u0, rfl, hO, hb1⟩
  have e1 := belE0 hb1
  have ze1 := e1.size
  replace BL := BL.e0 e1
  replace O := O.e0 e1
  clear e1
  have U : Own 22 .u32 w1.heap.size w2 u0 (nn (dgsR 4 p)) := hO
  have lU_1 := U.ge
  refine ⟨u0, rfl, ?_⟩
  simp only [List.set_cons_zero, List.set_cons_succ]
  refine xApp 16 (.tmp 13) (.tmp 15) 147 22 .u32 4 rfl Try.underlying147 (by kernel_rfl) w.heap.size (.slice (some ⟨w.heap.size, 0, none⟩) (2 * q) (2 * q)) (List.replicate (2 * q) 0) (by kernel_rfl) O u0 (nn (dgsR 4 p)) (by kernel_rfl) U.sl ?va1_1 ?va1_2 ?va1_3 ?_
  case va1_1 => simp only [nn_len, List.length_replicate]; omega
  case va1_2 => simp only [nn_len, List.length_replicate]; unfold maxLen; omega
  case va1_3 => omega
  intro va1 w3 rva1 e2
  have ze2 := e2.size
  have BL_ := BL.ev e2 (fun i h => by have := lO_1 _ h; omega)
  have U_ := U.ev e2 (fun i hi h => by have := lU_1 i hi; have := lO_1 _ h; omega)
  replace BL := BL_; clear BL_
  replace U := U_; clear U_
  replace O := rva1
  clear rva1 e2
  have lO_2 := O.ge
  simp only [List.set_cons_zero, List.set_cons_succ]
  refine sv 5 (va1) .of ?_
  simp only [List.set_cons_zero, List.set_cons_succ]
  refine wpList_nil ?_
  refine hK3 _ _ ?_
  refine wp_seq_k fun K4 hK4 => ?_
  have L : Own 22 .u32 w.heap.size w3 va1 (nn (powR p q)) := (O.cast (by unfold powR; rw [nn_app, nn_rep]))
  clear O
  clear U
  have lL_1 := L.ge
  refine cPlain ?_
  refine sv 6 (.int .u64 0) .of ?_
  simp only [List.set_cons_zero, List.set_cons_succ]
  refine wpList_nil ?_
  refine hK4 _ _ ?_
  refine wp_seq_k fun K5 hK5 => ?_
  refine wp_seq_k fun K6 hK6 => ?_
  refine cPlain ?_
  refine sv 7 (.int .u64 34359738368) .of ?_
  simp only [List.set_cons_zero, List.set_cons_succ]
  refine wpList_nil ?_
  refine hK6 _ _ ?_
  refine wp_block ?_
  refine cLoop (fun N_ A_ w_ => ∃ (j c bt : Nat), (N_ = 37 - j ∧ (c = cR p q j) ∧ (bt = bitR j) ∧ (j ≤ 36) ∧ (c + 2 * bt ≤ 68719476736) ∧ (∃ s1 : Nat → Value, A_ = ⟨[.int .u64 ((p : Nat) : Int), .int .i64 ((q : Nat) : Int), undef, undef, .int .u32 0, va1, .int .u64 ((c : Nat) : Int), .int .u64 ((bt : Nat) : Int), (s1 8), (s1 9), .int .i64 ((q : Nat) : Int), .int .i64 ((2 * q : Nat) : Int), .slice (some ⟨w.heap.size, 0, none⟩) (2 * q) (2 * q), .slice (some ⟨w.heap.size, 0, none⟩) (2 * q) (2 * q), .int .u64 ((p : Nat) : Int), u0, va1, (s1 17), (s1 18), (s1 19), (s1 20), (s1 21), (s1 22), (s1 23), (s1 24), (s1 25), (s1 26), (s1 27), (s1 28), (s1 29), (s1 30), (s1 31), (s1 32), (s1 33), (s1 34), (s1 35), (s1 36), (s1 37), (s1 38), (s1 39), undef, undef, undef].toArray, []⟩) ∧ Bl w.heap.size w w_ ∧ Own 22 .u32 w.heap.size w_ va1 (nn (powR p q)) ∧ w3.heap.size ≤ w_.heap.size)) _ ⟨0, 0, 34359738368, rfl, (by unfold cR; rfl), (by unfold bitR; rfl), (by omega), (by omega), cutE, BL, L, Nat.le_refl _⟩ ?_
  clear BL L
  rintro n_ a_ wl0 ⟨j, c, bt, rfl, hc0_0, hc0_1, hc0_2, hc0_3, ⟨s1, rfl⟩, BL, L, zl0⟩
  have lL_2 := L.ge
  refine wp_seq_k fun K7 hK7 => ?_
  refine wp_seq_k fun K8 hK8 => ?_
  refine cPlain ?_
  refine sv 17 (.int .u64 ((bt : Nat) : Int)) .of ?_
  simp only [List.set_cons_zero, List.set_cons_succ]
  refine sv 18 (.bool (decide (0 < ((bt : Nat) : Int)))) (Val.cmp .gtr 109 _ (.tmp 17) _ rfl .u64 ((bt : Nat) : Int) 0 (by kernel_rfl) (by kernel_rfl) (by simp) _ rfl) ?_
  simp only [List.set_cons_zero, List.set_cons_succ]
  refine wpList_nil ?_
  refine hK8 _ _ ?_
  refine cDec (0 < ((bt : Nat) : Int)) (by kernel_rfl) (fun c18 => ?_) (fun c18 => ?_)
  · skip
    refine wp_skip ?_
    refine hK7 _ _ ?_
    refine wp_seq_k fun K9 hK9 => ?_
    refine wp_block ?_
    refine wp_seq_k fun K10 hK10 => ?_
    have hdl := dgsR_le 4 (c + bt)
    have htl := timesR_len (dgsR 4 (c + bt)) (dgsR 4 (c + bt))
    have htl2 := timesR_len (timesR (dgsR 4 (c + bt)) (dgsR 4 (c + bt))) (dgsR 4 (c + bt))
    have hj36 : j < 36 := by
      rcases Nat.lt_or_ge j 36 with h1 | h1
      · exact h1
      · have : j = 36 := by omega
        rw [this, bitR_36] at hc0_1; omega
    have hbp : bt = 2 ^ (35 - j) := by rw [hc0_1, bitR_pow hj36]
    have hcs : cR p q (j + 1) = if greaterR (yR q (dgsR 4 (c + bt))) (powR p q) then c else c + bt := by rw [cR_succ, ← hc0_0, ← hbp, stepR_eq]
    refine cPlain ?_
    refine sv 21 (.int .u64 ((c : Nat) : Int)) .of ?_
    simp only [List.set_cons_zero, List.set_cons_succ]
    refine sv 22 (.int .u64 ((bt : Nat) : Int)) .of ?_
    simp only [List.set_cons_zero, List.set_cons_succ]
    refine sv 23 (.int .u64 ((c + bt : Nat) : Int)) (Val.asN (Val.addN 109 _ (.tmp 21) (.tmp 22) rfl .u64 c bt 18446744073709551616 (by kernel_rfl) (by kernel_rfl)) (Nat.mod_eq_of_lt (by omega))) ?_
    simp only [List.set_cons_zero, List.set_cons_succ]
    refine xCall 24 113 #[.int .u64 ((c + bt : Nat) : Int)] (by kernel_rfl) ?_
    refine (rdigits_any (c + bt) (by omega) wl0).mono ?_
    rintro en w4 ⟨u, rfl, hO, hb1⟩
    have e3 := belE0 hb1
    have ze3 := e3.size
    replace BL := BL.e0 e3
    replace L := L.e0 e3
    clear e3
    have DD : Own 22 .u32 wl0.heap.size w4 u (nn (dgsR 4 (c + bt))) := hO
    have lDD_1 := DD.ge
    refine ⟨u, rfl, ?_⟩
    simp only [List.set_cons_zero, List.set_cons_succ]
    refine sv 8 (u) .of ?_
    simp only [List.set_cons_zero, List.set_cons_succ]
    refine wpList_nil ?_
    refine hK10 _ _ ?_
    refine wp_seq_k fun K11 hK11 => ?_
    refine cPlain ?_
    refine sv 25 (u) .of ?_
    simp only [List.set_cons_zero, List.set_cons_succ]
    refine sv 26 (u) .of ?_
    simp only [List.set_cons_zero, List.set_cons_succ]
    refine xCall 27 114 #[u, u] (by kernel_rfl) ?_
    refine (rtimes_any (dgsR 4 (c + bt)) (dgsR 4 (c + bt)) u u w4 DD.sl DD.sl (by omega) (by omega) (dgs16 _ _) (dgs16 _ _)).mono ?_
    rintro en w5 ⟨u1, rfl, hO, h16, hb1⟩
    have e4 := belE0 hb1
    have ze4 := e4.size
    replace BL := BL.e0 e4
    replace L := L.e0 e4
    replace DD := DD.e0 e4
    clear e4
    have T1 : Own 22 .u32 w4.heap.size w5 u1 (nn (timesR (dgsR 4 (c + bt)) (dgsR 4 (c + bt)))) := hO
    have lT1_1 := T1.ge
    refine ⟨u1, rfl, ?_⟩
    simp only [List.set_cons_zero, List.set_cons_succ]
    refine sv 9 (u1) .of ?_
    simp only [List.set_cons_zero, List.set_cons_succ]
    refine wpList_nil ?_
    refine hK11 _ _ ?_
    refine cCut (fun A_ w_ => ∃ (y : List Nat) (yv : Value), ((y = yR q (dgsR 4 (c + bt))) ∧ (y.length ≤ 1000) ∧ (∀ i, Value.ownBlock yv = some i → 0 ≤ i) ∧ (∃ s2 : Nat → Value, A_ = ⟨[.int .u64 ((p : Nat) : Int), .int .i64 ((q : Nat) : Int), undef, undef, .int .u32 0, va1, .int .u64 ((c : Nat) : Int), .int .u64 ((bt : Nat) : Int), u, yv, .int .i64 ((q : Nat) : Int), .int .i64 ((2 * q : Nat) : Int), .slice (some ⟨w.heap.size, 0, none⟩) (2 * q) (2 * q), .slice (some ⟨w.heap.size, 0, none⟩) (2 * q) (2 * q), .int .u64 ((p : Nat) : Int), u0, va1, .int .u64 ((bt : Nat) : Int), .bool (decide (0 < ((bt : Nat) : Int))), (s1 19), (s1 20), .int .u64 ((c : Nat) : Int), .int .u64 ((bt : Nat) : Int), .int .u64 ((c + bt : Nat) : Int), u, u, u, u1, (s2 28), (s2 29), (s2 30), (s2 31), (s2 32), (s1 33), (s1 34), (s1 35), (s1 36), (s1 37), (s1 38), (s1 39), undef, undef, undef].toArray, []⟩) ∧ Bl w.heap.size w w_ ∧ Own 22 .u32 w.heap.size w_ va1 (nn (powR p q)) ∧ SL .u32 w_ yv (nn y) ∧ w5.heap.size ≤ w_.heap.size)) ?_ ?_
    · skip
      refine wp_seq_k fun K12 hK12 => ?_
      refine cPlain ?_
      refine sv 28 (.int .i64 ((q : Nat) : Int)) .of ?_
      simp only [List.set_cons_zero, List.set_cons_succ]
      refine sv 29 (.bool (decide (((q : Nat) : Int) = 3))) (Val.cmp .eql 3 _ (.tmp 28) _ rfl .i64 ((q : Nat) : Int) 3 (by kernel_rfl) (by kernel_rfl) (by simp) _ rfl) ?_
      simp only [List.set_cons_zero, List.set_cons_succ]
      refine wpList_nil ?_
      refine hK12 _ _ ?_
      refine cDec (((q : Nat) : Int) = 3) (by kernel_rfl) (fun c29 => ?_) (fun c29 => ?_)
      · skip
        refine cPlain ?_
        refine sv 30 (u1) .of ?_
        simp only [List.set_cons_zero, List.set_cons_succ]
        refine sv 31 (u) .of ?_
        simp only [List.set_cons_zero, List.set_cons_succ]
        refine xCall 32 114 #[u1, u] (by kernel_rfl) ?_
        refine (rtimes_any (timesR (dgsR 4 (c + bt)) (dgsR 4 (c + bt))) (dgsR 4 (c + bt)) u1 u w5 T1.sl DD.sl (by omega) (by omega) h16 (dgs16 _ _)).mono ?_
        rintro en w6 ⟨u2, rfl, hO, h162, hb1⟩
        have e5 := belE0 hb1
        have ze5 := e5.size
        replace BL := BL.e0 e5
        replace L := L.e0 e5
        replace DD := DD.e0 e5
        replace T1 := T1.e0 e5
        clear e5
        have T2 : Own 22 .u32 w5.heap.size w6 u2 (nn (timesR (timesR (dgsR 4 (c + bt)) (dgsR 4 (c + bt))) (dgsR 4 (c + bt)))) := hO
        have lT2_1 := T2.ge
        refine ⟨u2, rfl, ?_⟩
        simp only [List.set_cons_zero, List.set_cons_succ]
        refine sv 9 (u2) .of ?_
        simp only [List.set_cons_zero, List.set_cons_succ]
        refine wpList_nil ?_
        exact ⟨timesR (timesR (dgsR 4 (c + bt)) (dgsR 4 (c + bt))) (dgsR 4 (c + bt)), u2, (by unfold yR; first | rw [if_pos (by omega)] | rw [if_neg (by omega)]), (by omega), (fun i _ => Nat.zero_le i), cutE, BL, L, (by first | exact T2.sl | exact T1.sl), by omega⟩
      · skip
        refine wp_skip ?_
        exact ⟨timesR (dgsR 4 (c + bt)) (dgsR 4 (c + bt)), u1, (by unfold yR; first | rw [if_pos (by omega)] | rw [if_neg (by omega)]), (by omega), (fun i _ => Nat.zero_le i), cutE, BL, L, (by first | exact T2.sl | exact T1.sl), by omega⟩
    · skip
      clear BL L DD T1
      rintro a_ wJ1 ⟨y, yv, hJ1_0, hJ1_1, hJ1_2, ⟨s2, rfl⟩, BL, L, Y, zJ1⟩
      have lL_3 := L.ge
      refine wp_seq_k fun K13 hK13 => ?_
      refine cPlain ?_
      refine sv 33 (yv) .of ?_
      simp only [List.set_cons_zero, List.set_cons_succ]
      refine sv 34 (va1) .of ?_
      simp only [List.set_cons_zero, List.set_cons_succ]
      refine xCall 35 115 #[yv, va1] (by kernel_rfl) ?_
      refine (rgreater_any y (powR p q) yv _ wJ1 Y L.sl (by omega) (by omega)).mono ?_
      rintro en w7 ⟨rfl, hb1⟩
      have e6 := belE0 hb1
      have ze6 := e6.size
      replace BL := BL.e0 e6
      replace L := L.e0 e6
      replace Y := Y.e0 e6
      clear e6
      refine ⟨.bool (greaterR y (powR p q)), rfl, ?_⟩
      simp only [List.set_cons_zero, List.set_cons_succ]
      refine sv 36 (.bool (decide ((greaterR y (powR p q)) = false))) (Val.not _ _ rfl (greaterR y (powR p q)) _ (by kernel_rfl) eval_not) ?_
      simp only [List.set_cons_zero, List.set_cons_succ]
      refine wpList_nil ?_
      refine hK13 _ _ ?_
      refine cDec ((greaterR y (powR p q)) = false) (by kernel_rfl) (fun c36 => ?_) (fun c36 => ?_)
      · skip
        have hg : greaterR (yR q (dgsR 4 (c + bt))) (powR p q) = false := by rw [← hJ1_0]; exact c36
        refine cPlain ?_
        refine sv 37 (.int .u64 ((c : Nat) : Int)) .of ?_
        simp only [List.set_cons_zero, List.set_cons_succ]
        refine sv 38 (.int .u64 ((bt : Nat) : Int)) .of ?_
        simp only [List.set_cons_zero, List.set_cons_succ]
        refine sv 39 (.int .u64 ((c + bt : Nat) : Int)) (Val.asN (Val.addN 109 _ (.tmp 37) (.tmp 38) rfl .u64 c bt 18446744073709551616 (by kernel_rfl) (by kernel_rfl)) (Nat.mod_eq_of_lt (by omega))) ?_
        simp only [List.set_cons_zero, List.set_cons_succ]
        refine sv 6 (.int .u64 ((c + bt : Nat) : Int)) .of ?_
        simp only [List.set_cons_zero, List.set_cons_succ]
        refine wpList_nil ?_
        refine hK9 _ _ ?_
        refine cPlain ?_
        refine sv 19 (.int .u64 ((bt : Nat) : Int)) .of ?_
        simp only [List.set_cons_zero, List.set_cons_succ]
        refine sv 20 (.int .u64 ((bitR (j + 1) : Nat) : Int)) (Val.asN (Val.quoN 109 _ (.tmp 19) _ rfl .u64 bt 2 18446744073709551616 (by kernel_rfl) (by kernel_rfl) (by omega)) (by have := bitR_succ j; rw [← hc0_1] at this; omega)) ?_
        simp only [List.set_cons_zero, List.set_cons_succ]
        refine sv 7 (.int .u64 ((bitR (j + 1) : Nat) : Int)) .of ?_
        simp only [List.set_cons_zero, List.set_cons_succ]
        refine wpList_nil ?_
        refine ⟨_, ?_, j + 1, c + bt, bitR (j + 1), rfl, (by rw [hcs, hg]; rfl), rfl, (by omega), (by have := bitR_succ j; rw [← hc0_1] at this; omega), cutE, BL, L, by omega⟩
        omega
      · skip
        have hg : greaterR (yR q (dgsR 4 (c + bt))) (powR p q) = true := by rw [← hJ1_0]; simpa using c36
        refine wp_skip ?_
        refine hK9 _ _ ?_
        refine cPlain ?_
        refine sv 19 (.int .u64 ((bt : Nat) : Int)) .of ?_
        simp only [List.set_cons_zero, List.set_cons_succ]
        refine sv 20 (.int .u64 ((bitR (j + 1) : Nat) : Int)) (Val.asN (Val.quoN 109 _ (.tmp 19) _ rfl .u64 bt 2 18446744073709551616 (by kernel_rfl) (by kernel_rfl) (by omega)) (by have := bitR_succ j; rw [← hc0_1] at this; omega)) ?_
        simp only [List.set_cons_zero, List.set_cons_succ]
        refine sv 7 (.int .u64 ((bitR (j + 1) : Nat) : Int)) .of ?_
        simp only [List.set_cons_zero, List.set_cons_succ]
        refine wpList_nil ?_
        refine ⟨_, ?_, j + 1, c, bitR (j + 1), rfl, (by rw [hcs, hg]; rfl), rfl, (by omega), (by have := bitR_succ j; rw [← hc0_1] at this; omega), cutE, BL, L, by omega⟩
        omega
  · skip
    refine wp_exit ?_
    simp only [Exit.then, Exit.inBlock, ↓reduceIte, Nat.reduceEqDiff]
    refine hK5 _ _ ?_
    refine wp_seq_k fun K14 hK14 => ?_
    have hj36 : j = 36 := by
      rcases Nat.lt_or_ge j 36 with h1 | h1
      · have := Nat.two_pow_pos (35 - j)
        rw [bitR_pow h1] at hc0_1; omega
      · omega
    have hfin : c = cR p q 36 := by rw [hc0_0, hj36]
    have hrl : rootR p q < 4294967296 := by rw [rootR_eq]; exact Nat.mod_lt _ (by omega)
    refine cPlain ?_
    refine sv 40 (.int .u64 ((c : Nat) : Int)) .of ?_
    simp only [List.set_cons_zero, List.set_cons_succ]
    refine sv 41 (.int .u64 ((rootR p q : Nat) : Int)) (Val.asN (Val.remN 109 _ (.tmp 40) _ rfl .u64 c 4294967296 (by kernel_rfl) (by kernel_rfl) (by omega)) (by rw [hfin, ← rootR_eq])) ?_
    simp only [List.set_cons_zero, List.set_cons_succ]
    refine sv 42 (.int .u32 ((rootR p q : Nat) : Int)) (Val.asN (Val.convN 109 22 (.tmp 41) rfl .u32 (rootR p q) 4294967296 Try.underlying109 Try.underlying22 (by kernel_rfl)) (Nat.mod_eq_of_lt hrl)) ?_
    simp only [List.set_cons_zero, List.set_cons_succ]
    refine sv 4 (.int .u32 ((rootR p q : Nat) : Int)) .of ?_
    simp only [List.set_cons_zero, List.set_cons_succ]
    refine wpList_nil ?_
    refine hK14 _ _ ?_
    refine wp_ret ?_
    (try simp only [Exit.then, Exit.inBlock])
    refine bodyPost_ret (v := .int .u32 ((rootR p q : Nat) : Int)) rT rfl ?_
    exact ⟨rfl, BL.b⟩

theorem tabS_not {r : Nat → Nat → Nat} {s : Nat × List Nat} {p : Nat} (h : primeR p = false) : tabS r s p = s := by unfold tabS; rw [h]; rfl
theorem tabS_lo {r : Nat → Nat → Nat} {n : Nat} {X : List Nat} {p : Nat} (h : primeR p = true) (hn : n < 8) : tabS r (n, X) p = (n + 1, (X.set n (r p 2)).set (8 + n) (r p 3)) := by
  unfold tabS; rw [h, if_pos rfl]; simp only [if_pos hn]
theorem tabS_hi {r : Nat → Nat → Nat} {n : Nat} {X : List Nat} {p : Nat} (h : primeR p = true) (hn : ¬ n < 8) : tabS r (n, X) p = (n + 1, X.set (8 + n) (r p 3)) := by
  unfold tabS; rw [h, if_pos rfl]; simp only [if_neg hn]

set_option maxHeartbeats 4000000 in
theorem rtable_any (w : World) :
    Calls Try.prog 14 #[] w fun e w' => e = .returned (.agg (cellsOf .u32 (nn tabL))) ∧ Below w.heap.size w w' := by
  have BL := Bl.refl w
  have hTL := tabL_len
  go_enter Try.func14, Try.ntmps14
  refine wp_seq_k fun K1 hK1 => ?_
  refine cPlain ?_
  refine xAlloc 0 26 ((nn (List.replicate 72 0)).map (Value.int .u32)) rfl (by kernel_rfl) ?_
  intro w1 n1
  have zn1 := n1.z
  have b0 := n1.c
  replace b0 : Blk .u32 w1 w.heap.size 26 (nn (List.replicate 72 0)) := b0
  replace BL := BL.e0 n1.e
  simp only [List.set_cons_zero, List.set_cons_succ]
  refine wpList_nil ?_
  refine hK1 _ _ ?_
  refine wp_seq_k fun K2 hK2 => ?_
  refine cPlain ?_
  refine xAlloc 1 26 ((nn (List.replicate 72 0)).map (Value.int .u32)) rfl (by kernel_rfl) ?_
  intro w2 n2
  have zn2 := n2.z
  have b1 := n2.c
  replace b1 : Blk .u32 w2 w1.heap.size 26 (nn (List.replicate 72 0)) := b1
  replace BL := BL.e0 n2.e
  replace b0 := b0.e0 n2.e
  simp only [List.set_cons_zero, List.set_cons_succ]
  refine wpList_nil ?_
  refine hK2 _ _ ?_
  refine wp_seq_k fun K3 hK3 => ?_
  refine cPlain ?_
  refine sv 2 (.int .i64 0) .of ?_
  simp only [List.set_cons_zero, List.set_cons_succ]
  refine wpList_nil ?_
  refine hK3 _ _ ?_
  refine wp_seq_k fun K4 hK4 => ?_
  refine wp_seq_k fun K5 hK5 => ?_
  refine cPlain ?_
  refine sv 3 (.int .u64 2) .of ?_
  simp only [List.set_cons_zero, List.set_cons_succ]
  refine wpList_nil ?_
  refine hK5 _ _ ?_
  refine wp_block ?_
  refine cLoop (fun N_ A_ w_ => ∃ (j m : Nat) (X : List Nat), (N_ = 311 - j ∧ (tabG rootR j = (m, X)) ∧ (X.length = 72) ∧ (j ≤ 310) ∧ (∃ s1 : Nat → Value, A_ = ⟨[.pointer (some ⟨w.heap.size, 0, none⟩), .pointer (some ⟨w1.heap.size, 0, none⟩), .int .i64 ((m : Nat) : Int), .int .u64 ((j + 2 : Nat) : Int), (s1 4), (s1 5), (s1 6), (s1 7), (s1 8), (s1 9), (s1 10), (s1 11), (s1 12), (s1 13), (s1 14), (s1 15), (s1 16), (s1 17), (s1 18), (s1 19), (s1 20), (s1 21), (s1 22), (s1 23), (s1 24), undef].toArray, []⟩) ∧ Bl w.heap.size w w_ ∧ Blk .u32 w_ w.heap.size 26 (nn (List.replicate 72 0)) ∧ Blk .u32 w_ w1.heap.size 26 (nn X) ∧ w2.heap.size ≤ w_.heap.size)) _ ⟨0, 0, List.replicate 72 0, rfl, (by unfold tabG; rfl), List.length_replicate, (by omega), cutE, BL, b0, b1, Nat.le_refl _⟩ ?_
  clear BL b0 b1
  rintro n_ a_ wl0 ⟨j, m, X, rfl, hc0_0, hc0_1, hc0_2, ⟨s1, rfl⟩, BL, b0, b1, zl0⟩
  refine wp_seq_k fun K6 hK6 => ?_
  refine wp_seq_k fun K7 hK7 => ?_
  refine cPlain ?_
  refine sv 4 (.int .i64 ((m : Nat) : Int)) .of ?_
  simp only [List.set_cons_zero, List.set_cons_succ]
  refine sv 5 (.bool (decide (((m : Nat) : Int) < 64))) (Val.cmp .lss 3 _ (.tmp 4) _ rfl .i64 ((m : Nat) : Int) 64 (by kernel_rfl) (by kernel_rfl) (by simp) _ rfl) ?_
  simp only [List.set_cons_zero, List.set_cons_succ]
  refine wpList_nil ?_
  refine hK7 _ _ ?_
  refine cDec (((m : Nat) : Int) < 64) (by kernel_rfl) (fun c5 => ?_) (fun c5 => ?_)
  · skip
    refine wp_skip ?_
    refine hK6 _ _ ?_
    refine wp_seq_k fun K8 hK8 => ?_
    refine wp_block ?_
    refine wp_seq_k fun K9 hK9 => ?_
    refine wp_seq_k fun K10 hK10 => ?_
    have hlt := (tab_lt hc0_0 hc0_2).1 (by omega)
    refine cPlain ?_
    refine sv 8 (.int .u64 ((j + 2 : Nat) : Int)) .of ?_
    simp only [List.set_cons_zero, List.set_cons_succ]
    refine xCall 9 78 #[.int .u64 ((j + 2 : Nat) : Int)] (by kernel_rfl) ?_
    refine (rprime_any (j + 2) (by omega) wl0).mono ?_
    rintro en w3 ⟨rfl, hw⟩
    have e1 : E0 wl0 w3 := (hw ▸ Ev.refl _ _)
    have ze1 := e1.size
    replace BL := BL.e0 e1
    replace b0 := b0.e0 e1
    replace b1 := b1.e0 e1
    clear e1
    refine ⟨.bool (primeR (j + 2)), rfl, ?_⟩
    simp only [List.set_cons_zero, List.set_cons_succ]
    refine sv 10 (.bool (decide ((primeR (j + 2)) = false))) (Val.not _ _ rfl (primeR (j + 2)) _ (by kernel_rfl) eval_not) ?_
    simp only [List.set_cons_zero, List.set_cons_succ]
    refine wpList_nil ?_
    refine hK10 _ _ ?_
    refine cDec ((primeR (j + 2)) = false) (by kernel_rfl) (fun c10 => ?_) (fun c10 => ?_)
    · skip
      refine wp_exit ?_
      simp only [Exit.then, Exit.inBlock, ↓reduceIte, Nat.reduceEqDiff]
      refine hK8 _ _ ?_
      refine cPlain ?_
      refine sv 6 (.int .u64 ((j + 2 : Nat) : Int)) .of ?_
      simp only [List.set_cons_zero, List.set_cons_succ]
      refine sv 7 (.int .u64 ((j + 1 + 2 : Nat) : Int)) (Val.asN (Val.addN 109 _ (.tmp 6) _ rfl .u64 (j + 2) 1 18446744073709551616 (by kernel_rfl) (by kernel_rfl)) (by rw [Nat.mod_eq_of_lt (by omega)])) ?_
      simp only [List.set_cons_zero, List.set_cons_succ]
      refine sv 3 (.int .u64 ((j + 1 + 2 : Nat) : Int)) .of ?_
      simp only [List.set_cons_zero, List.set_cons_succ]
      refine wpList_nil ?_
      refine ⟨_, ?_, j + 1, m, X, rfl, (by rw [tabG_succ, hc0_0, tabS_not c10]), hc0_1, (by omega), cutE, BL, b0, b1, by omega⟩
      omega
    · skip
      have hpr : primeR (j + 2) = true := by simpa using c10
      refine wp_skip ?_
      refine hK9 _ _ ?_
      refine wp_seq_k fun K11 hK11 => ?_
      refine wp_seq_k fun K12 hK12 => ?_
      refine cPlain ?_
      refine sv 11 (.int .i64 ((m : Nat) : Int)) .of ?_
      simp only [List.set_cons_zero, List.set_cons_succ]
      refine sv 12 (.bool (decide (((m : Nat) : Int) < 8))) (Val.cmp .lss 3 _ (.tmp 11) _ rfl .i64 ((m : Nat) : Int) 8 (by kernel_rfl) (by kernel_rfl) (by simp) _ rfl) ?_
      simp only [List.set_cons_zero, List.set_cons_succ]
      refine wpList_nil ?_
      refine hK12 _ _ ?_
      refine cDec (((m : Nat) : Int) < 8) (by kernel_rfl) (fun c12 => ?_) (fun c12 => ?_)
      · skip
        refine cPlain ?_
        refine sv 13 (.int .i64 ((m : Nat) : Int)) .of ?_
        simp only [List.set_cons_zero, List.set_cons_succ]
        refine sv 14 (.int .u64 ((j + 2 : Nat) : Int)) .of ?_
        simp only [List.set_cons_zero, List.set_cons_succ]
        refine xCall 15 79 #[.int .u64 ((j + 2 : Nat) : Int), .int .i64 2] (by kernel_rfl) ?_
        refine (rroot_any (j + 2) 2 (by omega) (by omega) w3).mono ?_
        rintro en w4 ⟨rfl, hb1⟩
        have e2 := belE0 hb1
        have ze2 := e2.size
        replace BL := BL.e0 e2
        replace b0 := b0.e0 e2
        replace b1 := b1.e0 e2
        clear e2
        refine ⟨.int .u32 ((rootR (j + 2) 2 : Nat) : Int), rfl, ?_⟩
        simp only [List.set_cons_zero, List.set_cons_succ]
        refine sv 16 (.pointer (some ⟨w1.heap.size, 0, none⟩)) .of ?_
        simp only [List.set_cons_zero, List.set_cons_succ]
        refine sv 17 (.pointer (some ⟨w1.heap.size, m, none⟩)) (Val.idxA01 23 (.tmp 16) (.tmp 13) rfl w1.heap.size m (by kernel_rfl) (by kernel_rfl) Try.underlying23 (by kernel_rfl) (by omega)) ?_
        simp only [List.set_cons_zero, List.set_cons_succ]
        refine xStoreNN 22 (.tmp 17) (.tmp 15) rfl .u32 w1.heap.size 26 X m (rootR (j + 2) 2) (by kernel_rfl) (by kernel_rfl) b1 (by kernel_rfl) (by omega) ?_
        intro w5 t1
        have zt1 := t1.z
        have BL_ := BL.ev t1.e (fun i h => show w.heap.size ≤ i by have h : i = w1.heap.size := h; omega)
        have b0_ := b0.ev t1.e (show ¬ (w.heap.size = w1.heap.size) by omega)
        replace BL := BL_; clear BL_
        replace b0 := b0_; clear b0_
        replace b1 : Blk .u32 w5 w1.heap.size 26 (nn (X.set m (rootR (j + 2) 2))) := t1.c
        clear t1
        refine wpList_nil ?_
        refine hK11 _ _ ?_
        refine wp_seq_k fun K13 hK13 => ?_
        refine cPlain ?_
        refine sv 18 (.int .i64 ((m : Nat) : Int)) .of ?_
        simp only [List.set_cons_zero, List.set_cons_succ]
        refine sv 19 (.int .u64 ((j + 2 : Nat) : Int)) .of ?_
        simp only [List.set_cons_zero, List.set_cons_succ]
        refine xCall 20 79 #[.int .u64 ((j + 2 : Nat) : Int), .int .i64 3] (by kernel_rfl) ?_
        refine (rroot_any (j + 2) 3 (by omega) (by omega) w5).mono ?_
        rintro en w6 ⟨rfl, hb1⟩
        have e3 := belE0 hb1
        have ze3 := e3.size
        replace BL := BL.e0 e3
        replace b0 := b0.e0 e3
        replace b1 := b1.e0 e3
        clear e3
        refine ⟨.int .u32 ((rootR (j + 2) 3 : Nat) : Int), rfl, ?_⟩
        simp only [List.set_cons_zero, List.set_cons_succ]
        refine sv 21 (.pointer (some ⟨w1.heap.size, 8, none⟩)) .of ?_
        simp only [List.set_cons_zero, List.set_cons_succ]
        refine sv 22 (.pointer (some ⟨w1.heap.size, 8 + m, none⟩)) (Val.idxA1 24 (.tmp 21) (.tmp 18) rfl w1.heap.size 8 m (by kernel_rfl) (by kernel_rfl) Try.underlying24 (by kernel_rfl) (by omega)) ?_
        simp only [List.set_cons_zero, List.set_cons_succ]
        refine xStoreNN 22 (.tmp 22) (.tmp 20) rfl .u32 w1.heap.size 26 (X.set m (rootR (j + 2) 2)) (8 + m) (rootR (j + 2) 3) (by kernel_rfl) (by kernel_rfl) b1 (by kernel_rfl) (by first | omega | (rw [List.length_set]; omega)) ?_
        intro w7 t2
        have zt2 := t2.z
        have BL_ := BL.ev t2.e (fun i h => show w.heap.size ≤ i by have h : i = w1.heap.size := h; omega)
        have b0_ := b0.ev t2.e (show ¬ (w.heap.size = w1.heap.size) by omega)
        replace BL := BL_; clear BL_
        replace b0 := b0_; clear b0_
        replace b1 : Blk .u32 w7 w1.heap.size 26 (nn ((X.set m (rootR (j + 2) 2)).set (8 + m) (rootR (j + 2) 3))) := t2.c
        clear t2
        refine wpList_nil ?_
        refine hK13 _ _ ?_
        refine cPlain ?_
        refine sv 23 (.int .i64 ((m : Nat) : Int)) .of ?_
        simp only [List.set_cons_zero, List.set_cons_succ]
        refine sv 24 (.int .i64 ((m + 1 : Nat) : Int)) (Val.as (Val.add 3 _ (.tmp 23) _ rfl ((m : Nat) : Int) 1 (by kernel_rfl) (by kernel_rfl) (by omega)) (congrArg (Value.int .i64) (by omega))) ?_
        simp only [List.set_cons_zero, List.set_cons_succ]
        refine sv 2 (.int .i64 ((m + 1 : Nat) : Int)) .of ?_
        simp only [List.set_cons_zero, List.set_cons_succ]
        refine wpList_nil ?_
        refine hK8 _ _ ?_
        refine cPlain ?_
        refine sv 6 (.int .u64 ((j + 2 : Nat) : Int)) .of ?_
        simp only [List.set_cons_zero, List.set_cons_succ]
        refine sv 7 (.int .u64 ((j + 1 + 2 : Nat) : Int)) (Val.asN (Val.addN 109 _ (.tmp 6) _ rfl .u64 (j + 2) 1 18446744073709551616 (by kernel_rfl) (by kernel_rfl)) (by rw [Nat.mod_eq_of_lt (by omega)])) ?_
        simp only [List.set_cons_zero, List.set_cons_succ]
        refine sv 3 (.int .u64 ((j + 1 + 2 : Nat) : Int)) .of ?_
        simp only [List.set_cons_zero, List.set_cons_succ]
        refine wpList_nil ?_
        refine ⟨_, ?_, j + 1, m + 1, ((X.set m (rootR (j + 2) 2)).set (8 + m) (rootR (j + 2) 3)), rfl, (by rw [tabG_succ, hc0_0]; first | rw [tabS_lo hpr (by omega)] | rw [tabS_hi hpr (by omega)]), (by simp only [List.length_set]; exact hc0_1), (by omega), cutE, BL, b0, b1, by omega⟩
        omega
      · skip
        refine wp_skip ?_
        refine hK11 _ _ ?_
        refine wp_seq_k fun K14 hK14 => ?_
        refine cPlain ?_
        refine sv 18 (.int .i64 ((m : Nat) : Int)) .of ?_
        simp only [List.set_cons_zero, List.set_cons_succ]
        refine sv 19 (.int .u64 ((j + 2 : Nat) : Int)) .of ?_
        simp only [List.set_cons_zero, List.set_cons_succ]
        refine xCall 20 79 #[.int .u64 ((j + 2 : Nat) : Int), .int .i64 3] (by kernel_rfl) ?_
        refine (rroot_any (j + 2) 3 (by omega) (by omega) w3).mono ?_
        rintro en w8 ⟨rfl, hb1⟩
        have e4 := belE0 hb1
        have ze4 := e4.size
        replace BL := BL.e0 e4
        replace b0 := b0.e0 e4
        replace b1 := b1.e0 e4
        clear e4
        refine ⟨.int .u32 ((rootR (j + 2) 3 : Nat) : Int), rfl, ?_⟩
        simp only [List.set_cons_zero, List.set_cons_succ]
        refine sv 21 (.pointer (some ⟨w1.heap.size, 8, none⟩)) .of ?_
        simp only [List.set_cons_zero, List.set_cons_succ]
        refine sv 22 (.pointer (some ⟨w1.heap.size, 8 + m, none⟩)) (Val.idxA1 24 (.tmp 21) (.tmp 18) rfl w1.heap.size 8 m (by kernel_rfl) (by kernel_rfl) Try.underlying24 (by kernel_rfl) (by omega)) ?_
        simp only [List.set_cons_zero, List.set_cons_succ]
        refine xStoreNN 22 (.tmp 22) (.tmp 20) rfl .u32 w1.heap.size 26 X (8 + m) (rootR (j + 2) 3) (by kernel_rfl) (by kernel_rfl) b1 (by kernel_rfl) (by first | omega | (rw [List.length_set]; omega)) ?_
        intro w9 t3
        have zt3 := t3.z
        have BL_ := BL.ev t3.e (fun i h => show w.heap.size ≤ i by have h : i = w1.heap.size := h; omega)
        have b0_ := b0.ev t3.e (show ¬ (w.heap.size = w1.heap.size) by omega)
        replace BL := BL_; clear BL_
        replace b0 := b0_; clear b0_
        replace b1 : Blk .u32 w9 w1.heap.size 26 (nn (X.set (8 + m) (rootR (j + 2) 3))) := t3.c
        clear t3
        refine wpList_nil ?_
        refine hK14 _ _ ?_
        refine cPlain ?_
        refine sv 23 (.int .i64 ((m : Nat) : Int)) .of ?_
        simp only [List.set_cons_zero, List.set_cons_succ]
        refine sv 24 (.int .i64 ((m + 1 : Nat) : Int)) (Val.as (Val.add 3 _ (.tmp 23) _ rfl ((m : Nat) : Int) 1 (by kernel_rfl) (by kernel_rfl) (by omega)) (congrArg (Value.int .i64) (by omega))) ?_
        simp only [List.set_cons_zero, List.set_cons_succ]
        refine sv 2 (.int .i64 ((m + 1 : Nat) : Int)) .of ?_
        simp only [List.set_cons_zero, List.set_cons_succ]
        refine wpList_nil ?_
        refine hK8 _ _ ?_
        refine cPlain ?_
        refine sv 6 (.int .u64 ((j + 2 : Nat) : Int)) .of ?_
        simp only [List.set_cons_zero, List.set_cons_succ]
        refine sv 7 (.int .u64 ((j + 1 + 2 : Nat) : Int)) (Val.asN (Val.addN 109 _ (.tmp 6) _ rfl .u64 (j + 2) 1 18446744073709551616 (by kernel_rfl) (by kernel_rfl)) (by rw [Nat.mod_eq_of_lt (by omega)])) ?_
        simp only [List.set_cons_zero, List.set_cons_succ]
        refine sv 3 (.int .u64 ((j + 1 + 2 : Nat) : Int)) .of ?_
        simp only [List.set_cons_zero, List.set_cons_succ]
        refine wpList_nil ?_
        refine ⟨_, ?_, j + 1, m + 1, (X.set (8 + m) (rootR (j + 2) 3)), rfl, (by rw [tabG_succ, hc0_0]; first | rw [tabS_lo hpr (by omega)] | rw [tabS_hi hpr (by omega)]), (by simp only [List.length_set]; exact hc0_1), (by omega), cutE, BL, b0, b1, by omega⟩
        omega
  · skip
    refine wp_exit ?_
    simp only [Exit.then, Exit.inBlock, ↓reduceIte, Nat.reduceEqDiff]
    refine hK4 _ _ ?_
    refine wp_seq_k fun K15 hK15 => ?_
    obtain ⟨hm64, hXL⟩ := (tab_lt hc0_0 hc0_2).2 (by omega)
    refine cPlain ?_
    refine sv 25 (.agg (cellsOf .u32 (nn X))) (Val.blk 26 _ rfl 0 72 (by kernel_rfl) b1 _ Try.underlying26 rfl (by kernel_rfl) (by (try simp only [nn_len, List.length_replicate, List.length_set]); try omega) _ (seg_all' _ (by (try simp only [nn_len, List.length_replicate, List.length_set]); try omega))) ?_
    simp only [List.set_cons_zero, List.set_cons_succ]
    refine xStoreA 26 (.tmp 0) (.tmp 25) rfl .u32 w.heap.size 26 (nn (List.replicate 72 0)) 0 (nn X) (by kernel_rfl) (by kernel_rfl) b0 (by rw [show (nn X).length = 72 by ((try simp only [nn_len, List.length_replicate, List.length_set]); try omega)]; kernel_rfl) (by (try simp only [nn_len, List.length_replicate, List.length_set]); try omega) (nn X) (over_whole _ _ (by (try simp only [nn_len, List.length_replicate, List.length_set]); try omega)) ?_
    intro w10 t4
    have zt4 := t4.z
    have BL_ := BL.ev t4.e (fun i h => show w.heap.size ≤ i by have h : i = w.heap.size := h; omega)
    have b1_ := b1.ev t4.e (show ¬ (w1.heap.size = w.heap.size) by omega)
    replace BL := BL_; clear BL_
    replace b1 := b1_; clear b1_
    replace b0 : Blk .u32 w10 w.heap.size 26 (nn X) := t4.c
    clear t4
    refine wpList_nil ?_
    refine hK15 _ _ ?_
    refine wp_ret ?_
    (try simp only [Exit.then, Exit.inBlock])
    refine bodyPost_ret (rC rfl _ w.heap.size _ _ (by kernel_rfl) b0.cel _ Try.underlying26 rfl (by rw [List.length_map, show (nn X).length = 72 by ((try simp only [nn_len, List.length_replicate, List.length_set]); try omega)]; kernel_rfl)) rfl ?_
    rw [hXL]
    exact ⟨rfl, BL.b⟩

end Go.Proofs.Yteaijjefbadnbaa
