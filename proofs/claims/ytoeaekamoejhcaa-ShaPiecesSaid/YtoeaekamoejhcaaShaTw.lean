/-
  ShaTwice: the walk.
-/
import Derived.Test.YtoeaekamoejhcaaShaLow
import Derived.Test.YtoeaekamoejhcaaShaLaw
namespace Go.Proofs.Ytoeaekamoejhcaa
open Go.RowKit
set_option linter.unusedVariables false
set_option linter.unusedSimpArgs false
set_option maxRecDepth 100000
attribute [local irreducible] wpList Code.wp wpAnyZ

/-- Writing to a hasher that has had bytes. -/
theorem write_run (T : Nat) (tab s bs cs S R S' R' : List Nat) (L L' : Int) (hX : runH tab s bs = (S, R, L)) (hX' : runH tab s (bs ++ cs) = (S', R', L')) (hs : s.length = 8) (hb : bs.length ≤ 1000000000000) (hc : cs.length ≤ 1000000000000) (v bv : Value) (ht : tab.length = 72) (w : World) (TB : Blk .u32 w T 61 (nn tab)) (RR : SL .u8 w v (nn R)) (D : SL .u8 w bv (nn cs)) :
    Calls Try.prog 31 #[.pointer (some ⟨T, 0, none⟩), hashV S v L, bv] w fun e w' => ∃ u, e = .returned (hashV S' u L') ∧ Own 5 .u8 w.heap.size w' u (nn R') ∧ Below w.heap.size w w' := by
  have hr := runH_right tab s bs (by omega)
  have hS : S.length = 8 := by have := goB_len tab s bs hs (bs.length / 64); have e : goB tab s bs (bs.length / 64) = S := congrArg Prod.fst hX; rw [e] at this; exact this
  have hR : R.length ≤ 64 := by
    have e : bs.drop (64 * (bs.length / 64)) = R := congrArg (fun x => x.2.1) hX
    rw [← e, List.length_drop]; omega
  have hw := runH_write tab s bs cs (by omega)
  rw [hX] at hr hw
  rw [hX'] at hw
  refine (write_any T tab (S, R, L) cs hS v bv ht w TB RR D (by show R.length + _ ≤ _; omega)).mono ?_
  rintro e w' ⟨u, he, _, hb1, hO⟩
  rw [hw] at he hO
  exact ⟨u, he, hO hr, hb1⟩
theorem runH_b {tab s bs S R : List Nat} {L : Int} (hX : runH tab s bs = (S, R, L)) (h : ∀ x ∈ bs, x < 256) : ∀ x ∈ R, x < 256 := by
  have e : bs.drop (64 * (bs.length / 64)) = R := congrArg (fun x => x.2.1) hX
  subst e
  exact fun x hx => h x (List.mem_of_mem_drop hx)
theorem runH_8 (tab s bs : List Nat) (hs : s.length = 8) : ∃ a b c d e f g i R, ∃ L : Int, runH tab s bs = ([a, b, c, d, e, f, g, i], R, L) := by
  obtain ⟨a, b, c, d, e, f, g, i, h⟩ := list8 _ (goB_len tab s bs hs (bs.length / 64))
  exact ⟨a, b, c, d, e, f, g, i, _, _, by unfold runH; rw [h]⟩
theorem runH_R {tab s bs S R : List Nat} {L : Int} (hX : runH tab s bs = (S, R, L)) : R.length ≤ 64 := by
  have e : bs.drop (64 * (bs.length / 64)) = R := congrArg (fun x => x.2.1) hX
  rw [← e, List.length_drop]; omega
theorem of_run (T : Nat) (tab cs S R : List Nat) (L : Int) (hX : runH tab (tab.take 8) cs = (S, R, L)) (bv : Value) (ht : tab.length = 72) (w : World) (TB : Blk .u32 w T 61 (nn tab)) (D : SL .u8 w bv (nn cs)) (hl : cs.length ≤ 140737488355328) :
    Calls Try.prog 35 #[.pointer (some ⟨T, 0, none⟩), bv] w fun e w' => e = .returned (.agg (cellsOf .u8 (nn (sumN tab (S, R, L))))) ∧ Below w.heap.size w w' := by
  rw [← hX, ← ofN_run]
  exact of_any T tab cs bv ht w TB D hl
theorem runH_nil (tab s : List Nat) : runH tab s [] = (s, [], 0) := rfl

theorem SL.cast {k : IntKind} {w : World} {v : Value} {xs ys : List Int} (h : SL k w v xs) (he : xs = ys) : SL k w v ys := he ▸ h
set_option maxHeartbeats 4000000 in
theorem shaTwice_walk (tab xs0 xs1 xs2 : List Nat) (v0 v1 v2 : Value) (w : World) (ht : tab.length = 72) (hy : ∀ x ∈ xs0, x < 256) (D0 : SL .u8 w v0 (nn xs0)) (D1 : SL .u8 w v1 (nn xs1)) (D2 : SL .u8 w v2 (nn xs2)) :
    Calls Try.prog 10 #[.agg (cellsOf .u32 (nn tab)), v0, v1, v2] w fun e w' => e = .returned (.bool true) ∧ Below w.heap.size w w' := by
  have BL := Bl.refl w
  have hd0 := D0.lt
  have hd1 := D1.lt
  have hd2 := D2.lt
  have h8 : (tab.take 8).length = 8 := by rw [List.length_take]; omega
  obtain ⟨q0, q1, q2, q3, q4, q5, q6, q7, r0, L0, hX0⟩ := runH_8 tab (tab.take 8) xs0 h8
  obtain ⟨p0, p1, p2, p3, p4, p5, p6, p7, r1, L1, hX1⟩ := runH_8 tab (tab.take 8) (xs0 ++ xs1) h8
  obtain ⟨z0, z1, z2, z3, z4, z5, z6, z7, r2, L2, hX2⟩ := runH_8 tab (tab.take 8) (xs0 ++ xs2) h8
  have hy0 := runH_b hX0 hy
  have hR0 := runH_R hX0
  have hR1 := runH_R hX1
  have hR2 := runH_R hX2
  go_enter Try.func10, Try.ntmps10
  refine wp_seq_k fun K1 hK1 => ?_
  refine cPlain ?_
  refine xBox 4 61 _ ((nn tab).map (Value.int .u32)) rfl (cells_toList _ _) ?_
  intro w1 n1
  have zn1 := n1.z
  have b4 := n1.c
  replace b4 : Blk .u32 w1 w.heap.size 61 (nn tab) := b4
  replace BL := BL.e0 n1.e
  replace D0 := D0.e0 n1.e
  replace D1 := D1.e0 n1.e
  replace D2 := D2.e0 n1.e
  simp only [List.set_cons_zero, List.set_cons_succ]
  refine sv 8 (.bool false) .of ?_
  simp only [List.set_cons_zero, List.set_cons_succ]
  refine wpList_nil ?_
  refine hK1 _ _ ?_
  refine wp_seq_k fun K2 hK2 => ?_
  refine wp_seq_k fun K3 hK3 => ?_
  refine cPlain ?_
  refine sv 16 (v0) .of ?_
  simp only [List.set_cons_zero, List.set_cons_succ]
  refine sv 17 (.int .i64 ((xs0.length : Nat) : Int)) (Val.lenS (.tmp 16) 28 rfl (by kernel_rfl) D0 xs0.length (nn_len xs0) Try.underlying28) ?_
  simp only [List.set_cons_zero, List.set_cons_succ]
  refine sv 18 (.bool (decide (200 < ((xs0.length : Nat) : Int)))) (Val.cmp .gtr 3 _ (.tmp 17) _ rfl .i64 ((xs0.length : Nat) : Int) 200 (by kernel_rfl) (by kernel_rfl) (by simp) _ rfl) ?_
  simp only [List.set_cons_zero, List.set_cons_succ]
  refine sv 19 (.bool (decide (200 < ((xs0.length : Nat) : Int)))) .of ?_
  simp only [List.set_cons_zero, List.set_cons_succ]
  by_cases g20 : 200 < ((xs0.length : Nat) : Int)
  · skip
    have dg20 : decide (200 < ((xs0.length : Nat) : Int)) = true := decide_eq_true g20
    simp only [dg20]
    clear dg20
    refine xSkip 20 ?_
    simp only [List.set_cons_zero, List.set_cons_succ]
    refine xSkip 21 ?_
    simp only [List.set_cons_zero, List.set_cons_succ]
    refine xSkip 22 ?_
    simp only [List.set_cons_zero, List.set_cons_succ]
    refine sv 23 (.bool true) .of ?_
    simp only [List.set_cons_zero, List.set_cons_succ]
    refine sv 24 (.bool true) .of ?_
    simp only [List.set_cons_zero, List.set_cons_succ]
    refine xSkip 25 ?_
    simp only [List.set_cons_zero, List.set_cons_succ]
    refine xSkip 26 ?_
    simp only [List.set_cons_zero, List.set_cons_succ]
    refine xSkip 27 ?_
    simp only [List.set_cons_zero, List.set_cons_succ]
    refine sv 28 (.bool true) .of ?_
    simp only [List.set_cons_zero, List.set_cons_succ]
    refine wpList_nil ?_
    refine hK3 _ _ ?_
    refine cT ?_
    refine wp_seq_k fun K4 hK4 => ?_
    refine cPlain ?_
    refine xCall 29 38 #[] (by kernel_rfl) ?_
    refine (awake02_any w1).mono ?_
    rintro en w2 ⟨rfl, hb1⟩
    have e1 := belE0 hb1
    have ze1 := e1.size
    replace BL := BL.e0 e1
    replace D0 := D0.e0 e1
    replace D1 := D1.e0 e1
    replace D2 := D2.e0 e1
    replace b4 := b4.e0 e1
    clear e1
    refine ⟨.bool true, rfl, ?_⟩
    simp only [List.set_cons_zero, List.set_cons_succ]
    refine sv 8 (.bool true) .of ?_
    simp only [List.set_cons_zero, List.set_cons_succ]
    refine wpList_nil ?_
    refine hK4 _ _ ?_
    refine wp_ret ?_
    (try simp only [Exit.then, Exit.inBlock])
    refine bodyPost_ret (v := .bool true) rT rfl ?_
    exact ⟨rfl, BL.b⟩
  · skip
    have dg20 : decide (200 < ((xs0.length : Nat) : Int)) = false := decide_eq_false g20
    simp only [dg20]
    clear dg20
    refine sv 20 (v1) .of ?_
    simp only [List.set_cons_zero, List.set_cons_succ]
    refine sv 21 (.int .i64 ((xs1.length : Nat) : Int)) (Val.lenS (.tmp 20) 28 rfl (by kernel_rfl) D1 xs1.length (nn_len xs1) Try.underlying28) ?_
    simp only [List.set_cons_zero, List.set_cons_succ]
    refine sv 22 (.bool (decide (200 < ((xs1.length : Nat) : Int)))) (Val.cmp .gtr 3 _ (.tmp 21) _ rfl .i64 ((xs1.length : Nat) : Int) 200 (by kernel_rfl) (by kernel_rfl) (by simp) _ rfl) ?_
    simp only [List.set_cons_zero, List.set_cons_succ]
    refine sv 23 (.bool (decide (200 < ((xs1.length : Nat) : Int)))) .of ?_
    simp only [List.set_cons_zero, List.set_cons_succ]
    refine sv 24 (.bool (decide (200 < ((xs1.length : Nat) : Int)))) .of ?_
    simp only [List.set_cons_zero, List.set_cons_succ]
    by_cases g25 : 200 < ((xs1.length : Nat) : Int)
    · skip
      have dg25 : decide (200 < ((xs1.length : Nat) : Int)) = true := decide_eq_true g25
      simp only [dg25]
      clear dg25
      refine xSkip 25 ?_
      simp only [List.set_cons_zero, List.set_cons_succ]
      refine xSkip 26 ?_
      simp only [List.set_cons_zero, List.set_cons_succ]
      refine xSkip 27 ?_
      simp only [List.set_cons_zero, List.set_cons_succ]
      refine sv 28 (.bool true) .of ?_
      simp only [List.set_cons_zero, List.set_cons_succ]
      refine wpList_nil ?_
      refine hK3 _ _ ?_
      refine cT ?_
      refine wp_seq_k fun K5 hK5 => ?_
      refine cPlain ?_
      refine xCall 29 38 #[] (by kernel_rfl) ?_
      refine (awake02_any w1).mono ?_
      rintro en w3 ⟨rfl, hb1⟩
      have e2 := belE0 hb1
      have ze2 := e2.size
      replace BL := BL.e0 e2
      replace D0 := D0.e0 e2
      replace D1 := D1.e0 e2
      replace D2 := D2.e0 e2
      replace b4 := b4.e0 e2
      clear e2
      refine ⟨.bool true, rfl, ?_⟩
      simp only [List.set_cons_zero, List.set_cons_succ]
      refine sv 8 (.bool true) .of ?_
      simp only [List.set_cons_zero, List.set_cons_succ]
      refine wpList_nil ?_
      refine hK5 _ _ ?_
      refine wp_ret ?_
      (try simp only [Exit.then, Exit.inBlock])
      refine bodyPost_ret (v := .bool true) rT rfl ?_
      exact ⟨rfl, BL.b⟩
    · skip
      have dg25 : decide (200 < ((xs1.length : Nat) : Int)) = false := decide_eq_false g25
      simp only [dg25]
      clear dg25
      refine sv 25 (v2) .of ?_
      simp only [List.set_cons_zero, List.set_cons_succ]
      refine sv 26 (.int .i64 ((xs2.length : Nat) : Int)) (Val.lenS (.tmp 25) 28 rfl (by kernel_rfl) D2 xs2.length (nn_len xs2) Try.underlying28) ?_
      simp only [List.set_cons_zero, List.set_cons_succ]
      refine sv 27 (.bool (decide (200 < ((xs2.length : Nat) : Int)))) (Val.cmp .gtr 3 _ (.tmp 26) _ rfl .i64 ((xs2.length : Nat) : Int) 200 (by kernel_rfl) (by kernel_rfl) (by simp) _ rfl) ?_
      simp only [List.set_cons_zero, List.set_cons_succ]
      refine sv 28 (.bool (decide (200 < ((xs2.length : Nat) : Int)))) .of ?_
      simp only [List.set_cons_zero, List.set_cons_succ]
      refine wpList_nil ?_
      refine hK3 _ _ ?_
      refine cDec (200 < ((xs2.length : Nat) : Int)) (by kernel_rfl) (fun c28 => ?_) (fun c28 => ?_)
      · skip
        refine wp_seq_k fun K6 hK6 => ?_
        refine cPlain ?_
        refine xCall 29 38 #[] (by kernel_rfl) ?_
        refine (awake02_any w1).mono ?_
        rintro en w4 ⟨rfl, hb1⟩
        have e3 := belE0 hb1
        have ze3 := e3.size
        replace BL := BL.e0 e3
        replace D0 := D0.e0 e3
        replace D1 := D1.e0 e3
        replace D2 := D2.e0 e3
        replace b4 := b4.e0 e3
        clear e3
        refine ⟨.bool true, rfl, ?_⟩
        simp only [List.set_cons_zero, List.set_cons_succ]
        refine sv 8 (.bool true) .of ?_
        simp only [List.set_cons_zero, List.set_cons_succ]
        refine wpList_nil ?_
        refine hK6 _ _ ?_
        refine wp_ret ?_
        (try simp only [Exit.then, Exit.inBlock])
        refine bodyPost_ret (v := .bool true) rT rfl ?_
        exact ⟨rfl, BL.b⟩
      · skip
        refine wp_skip ?_
        refine hK2 _ _ ?_
        refine wp_seq_k fun K7 hK7 => ?_
        refine cPlain ?_
        refine xCall 30 34 #[.pointer (some ⟨w.heap.size, 0, none⟩)] (by kernel_rfl) ?_
        refine (new_any w.heap.size tab ht w1 b4).mono ?_
        rintro en w5 ⟨rfl, hb1⟩
        have e4 := belE0 hb1
        have ze4 := e4.size
        replace BL := BL.e0 e4
        replace D0 := D0.e0 e4
        replace D1 := D1.e0 e4
        replace D2 := D2.e0 e4
        replace b4 := b4.e0 e4
        clear e4
        refine ⟨hashV (tab.take 8) (.slice none 0 0) 0, rfl, ?_⟩
        simp only [List.set_cons_zero, List.set_cons_succ]
        refine sv 31 (v0) .of ?_
        simp only [List.set_cons_zero, List.set_cons_succ]
        refine xCall 32 31 #[.pointer (some ⟨w.heap.size, 0, none⟩), hashV (tab.take 8) (.slice none 0 0) 0, v0] (by kernel_rfl) ?_
        refine (write_run w.heap.size tab (tab.take 8) [] xs0 (tab.take 8) [] [q0, q1, q2, q3, q4, q5, q6, q7] r0 0 L0 (runH_nil _ _) (by rw [List.nil_append]; exact hX0) h8 (by first | omega | simp) (by omega) (.slice none 0 0) _ ht w5 b4 (SL.nil _ _) D0).mono ?_
        rintro en w6 ⟨u0, he0, hO0, hb1⟩
        obtain ⟨A0, C0, hu0⟩ := hO0.len
        rw [nn_len] at hu0
        rw [hu0] at he0 hO0
        subst he0
        have e5 := belE0 hb1
        have ze5 := e5.size
        replace BL := BL.e0 e5
        replace D0 := D0.e0 e5
        replace D1 := D1.e0 e5
        replace D2 := D2.e0 e5
        replace b4 := b4.e0 e5
        clear e5
        have U0 : Own 5 .u8 w5.heap.size w6 (.slice A0 r0.length C0) (nn r0) := hO0
        have lU0_1 := U0.ge
        refine ⟨.agg #[.int .u32 ((q0 : Nat) : Int), .int .u32 ((q1 : Nat) : Int), .int .u32 ((q2 : Nat) : Int), .int .u32 ((q3 : Nat) : Int), .int .u32 ((q4 : Nat) : Int), .int .u32 ((q5 : Nat) : Int), .int .u32 ((q6 : Nat) : Int), .int .u32 ((q7 : Nat) : Int), .slice A0 r0.length C0, .int .i64 L0], rfl, ?_⟩
        simp only [List.set_cons_zero, List.set_cons_succ]
        refine xAlloc 9 66 [.int .u32 0, .int .u32 0, .int .u32 0, .int .u32 0, .int .u32 0, .int .u32 0, .int .u32 0, .int .u32 0, .slice none 0 0, .int .i64 0] rfl (by kernel_rfl) ?_
        intro w7 n2
        have zn2 := n2.z
        have b9 := n2.c
        replace BL := BL.e0 n2.e
        replace D0 := D0.e0 n2.e
        replace D1 := D1.e0 n2.e
        replace D2 := D2.e0 n2.e
        replace b4 := b4.e0 n2.e
        replace U0 := U0.e0 n2.e
        simp only [List.set_cons_zero, List.set_cons_succ]
        refine xStoreR 66 (.tmp 9) (.tmp 32) rfl w6.heap.size 66 [.int .u32 0, .int .u32 0, .int .u32 0, .int .u32 0, .int .u32 0, .int .u32 0, .int .u32 0, .int .u32 0, .slice none 0 0, .int .i64 0] 0 [.int .u32 ((q0 : Nat) : Int), .int .u32 ((q1 : Nat) : Int), .int .u32 ((q2 : Nat) : Int), .int .u32 ((q3 : Nat) : Int), .int .u32 ((q4 : Nat) : Int), .int .u32 ((q5 : Nat) : Int), .int .u32 ((q6 : Nat) : Int), .int .u32 ((q7 : Nat) : Int), .slice A0 r0.length C0, .int .i64 L0] (by kernel_rfl) (by kernel_rfl) b9 (by kernel_rfl) (by simp) rfl [.int .u32 ((q0 : Nat) : Int), .int .u32 ((q1 : Nat) : Int), .int .u32 ((q2 : Nat) : Int), .int .u32 ((q3 : Nat) : Int), .int .u32 ((q4 : Nat) : Int), .int .u32 ((q5 : Nat) : Int), .int .u32 ((q6 : Nat) : Int), .int .u32 ((q7 : Nat) : Int), .slice A0 r0.length C0, .int .i64 L0] rfl ?_
        intro w8 t1
        have zt1 := t1.z
        have BL_ := BL.ev t1.e (fun i h => show w.heap.size ≤ i by have h : i = w6.heap.size := h; omega)
        have D0_ := D0.ev t1.e (fun i hi => show ¬ (i = w6.heap.size) by have := hd0 i hi; omega)
        have D1_ := D1.ev t1.e (fun i hi => show ¬ (i = w6.heap.size) by have := hd1 i hi; omega)
        have D2_ := D2.ev t1.e (fun i hi => show ¬ (i = w6.heap.size) by have := hd2 i hi; omega)
        have b4_ := b4.ev t1.e (show ¬ (w.heap.size = w6.heap.size) by omega)
        have U0_ := U0.ev t1.e (fun i hi => show ¬ (i = w6.heap.size) by have := lU0_1 i hi; omega)
        replace BL := BL_; clear BL_
        replace D0 := D0_; clear D0_
        replace D1 := D1_; clear D1_
        replace D2 := D2_; clear D2_
        replace b4 := b4_; clear b4_
        replace U0 := U0_; clear U0_
        replace b9 : Cel w8 w6.heap.size 66 [.int .u32 ((q0 : Nat) : Int), .int .u32 ((q1 : Nat) : Int), .int .u32 ((q2 : Nat) : Int), .int .u32 ((q3 : Nat) : Int), .int .u32 ((q4 : Nat) : Int), .int .u32 ((q5 : Nat) : Int), .int .u32 ((q6 : Nat) : Int), .int .u32 ((q7 : Nat) : Int), .slice A0 r0.length C0, .int .i64 L0] := t1.c
        clear t1
        refine wpList_nil ?_
        refine hK7 _ _ ?_
        refine wp_seq_k fun K8 hK8 => ?_
        refine cPlain ?_
        refine sv 33 (.agg #[.int .u32 ((q0 : Nat) : Int), .int .u32 ((q1 : Nat) : Int), .int .u32 ((q2 : Nat) : Int), .int .u32 ((q3 : Nat) : Int), .int .u32 ((q4 : Nat) : Int), .int .u32 ((q5 : Nat) : Int), .int .u32 ((q6 : Nat) : Int), .int .u32 ((q7 : Nat) : Int), .slice A0 r0.length C0, .int .i64 L0]) (Val.cel 66 _ rfl 0 10 (by kernel_rfl) b9 _ Try.underlying66 rfl (by kernel_rfl) (by simp) [.int .u32 ((q0 : Nat) : Int), .int .u32 ((q1 : Nat) : Int), .int .u32 ((q2 : Nat) : Int), .int .u32 ((q3 : Nat) : Int), .int .u32 ((q4 : Nat) : Int), .int .u32 ((q5 : Nat) : Int), .int .u32 ((q6 : Nat) : Int), .int .u32 ((q7 : Nat) : Int), .slice A0 r0.length C0, .int .i64 L0] rfl) ?_
        simp only [List.set_cons_zero, List.set_cons_succ]
        refine xCall 34 40 #[.agg #[.int .u32 ((q0 : Nat) : Int), .int .u32 ((q1 : Nat) : Int), .int .u32 ((q2 : Nat) : Int), .int .u32 ((q3 : Nat) : Int), .int .u32 ((q4 : Nat) : Int), .int .u32 ((q5 : Nat) : Int), .int .u32 ((q6 : Nat) : Int), .int .u32 ((q7 : Nat) : Int), .slice A0 r0.length C0, .int .i64 L0]] (by kernel_rfl) ?_
        refine (copyH_any ([q0, q1, q2, q3, q4, q5, q6, q7], r0, L0) rfl (.slice A0 r0.length C0) w8 U0.sl (by show r0.length ≤ _; omega)).mono ?_
        rintro en w9 ⟨uw, hew, hOw, hb1⟩
        obtain ⟨Aw, Cw, huw⟩ := hOw.len
        rw [nn_len] at huw
        rw [huw] at hew hOw
        subst hew
        have e6 := belE0 hb1
        have ze6 := e6.size
        replace BL := BL.e0 e6
        replace D0 := D0.e0 e6
        replace D1 := D1.e0 e6
        replace D2 := D2.e0 e6
        replace b4 := b4.e0 e6
        replace U0 := U0.e0 e6
        replace b9 := b9.e0 e6
        clear e6
        have Uw : Own 5 .u8 w8.heap.size w9 (.slice Aw r0.length Cw) (nn r0) := hOw
        have lUw_1 := Uw.ge
        refine ⟨.agg #[.int .u32 ((q0 : Nat) : Int), .int .u32 ((q1 : Nat) : Int), .int .u32 ((q2 : Nat) : Int), .int .u32 ((q3 : Nat) : Int), .int .u32 ((q4 : Nat) : Int), .int .u32 ((q5 : Nat) : Int), .int .u32 ((q6 : Nat) : Int), .int .u32 ((q7 : Nat) : Int), .slice Aw r0.length Cw, .int .i64 L0], rfl, ?_⟩
        simp only [List.set_cons_zero, List.set_cons_succ]
        refine xAlloc 10 66 [.int .u32 0, .int .u32 0, .int .u32 0, .int .u32 0, .int .u32 0, .int .u32 0, .int .u32 0, .int .u32 0, .slice none 0 0, .int .i64 0] rfl (by kernel_rfl) ?_
        intro w10 n3
        have zn3 := n3.z
        have b10 := n3.c
        replace BL := BL.e0 n3.e
        replace D0 := D0.e0 n3.e
        replace D1 := D1.e0 n3.e
        replace D2 := D2.e0 n3.e
        replace b4 := b4.e0 n3.e
        replace U0 := U0.e0 n3.e
        replace b9 := b9.e0 n3.e
        replace Uw := Uw.e0 n3.e
        simp only [List.set_cons_zero, List.set_cons_succ]
        refine xStoreR 66 (.tmp 10) (.tmp 34) rfl w9.heap.size 66 [.int .u32 0, .int .u32 0, .int .u32 0, .int .u32 0, .int .u32 0, .int .u32 0, .int .u32 0, .int .u32 0, .slice none 0 0, .int .i64 0] 0 [.int .u32 ((q0 : Nat) : Int), .int .u32 ((q1 : Nat) : Int), .int .u32 ((q2 : Nat) : Int), .int .u32 ((q3 : Nat) : Int), .int .u32 ((q4 : Nat) : Int), .int .u32 ((q5 : Nat) : Int), .int .u32 ((q6 : Nat) : Int), .int .u32 ((q7 : Nat) : Int), .slice Aw r0.length Cw, .int .i64 L0] (by kernel_rfl) (by kernel_rfl) b10 (by kernel_rfl) (by simp) rfl [.int .u32 ((q0 : Nat) : Int), .int .u32 ((q1 : Nat) : Int), .int .u32 ((q2 : Nat) : Int), .int .u32 ((q3 : Nat) : Int), .int .u32 ((q4 : Nat) : Int), .int .u32 ((q5 : Nat) : Int), .int .u32 ((q6 : Nat) : Int), .int .u32 ((q7 : Nat) : Int), .slice Aw r0.length Cw, .int .i64 L0] rfl ?_
        intro w11 t2
        have zt2 := t2.z
        have BL_ := BL.ev t2.e (fun i h => show w.heap.size ≤ i by have h : i = w9.heap.size := h; omega)
        have D0_ := D0.ev t2.e (fun i hi => show ¬ (i = w9.heap.size) by have := hd0 i hi; omega)
        have D1_ := D1.ev t2.e (fun i hi => show ¬ (i = w9.heap.size) by have := hd1 i hi; omega)
        have D2_ := D2.ev t2.e (fun i hi => show ¬ (i = w9.heap.size) by have := hd2 i hi; omega)
        have b4_ := b4.ev t2.e (show ¬ (w.heap.size = w9.heap.size) by omega)
        have U0_ := U0.ev t2.e (fun i hi => show ¬ (i = w9.heap.size) by have := lU0_1 i hi; omega)
        have b9_ := b9.ev t2.e (show ¬ (w6.heap.size = w9.heap.size) by omega)
        have Uw_ := Uw.ev t2.e (fun i hi => show ¬ (i = w9.heap.size) by have := lUw_1 i hi; omega)
        replace BL := BL_; clear BL_
        replace D0 := D0_; clear D0_
        replace D1 := D1_; clear D1_
        replace D2 := D2_; clear D2_
        replace b4 := b4_; clear b4_
        replace U0 := U0_; clear U0_
        replace b9 := b9_; clear b9_
        replace Uw := Uw_; clear Uw_
        replace b10 : Cel w11 w9.heap.size 66 [.int .u32 ((q0 : Nat) : Int), .int .u32 ((q1 : Nat) : Int), .int .u32 ((q2 : Nat) : Int), .int .u32 ((q3 : Nat) : Int), .int .u32 ((q4 : Nat) : Int), .int .u32 ((q5 : Nat) : Int), .int .u32 ((q6 : Nat) : Int), .int .u32 ((q7 : Nat) : Int), .slice Aw r0.length Cw, .int .i64 L0] := t2.c
        clear t2
        refine wpList_nil ?_
        refine hK8 _ _ ?_
        refine wp_seq_k fun K9 hK9 => ?_
        refine cPlain ?_
        refine sv 35 (.agg #[.int .u32 ((q0 : Nat) : Int), .int .u32 ((q1 : Nat) : Int), .int .u32 ((q2 : Nat) : Int), .int .u32 ((q3 : Nat) : Int), .int .u32 ((q4 : Nat) : Int), .int .u32 ((q5 : Nat) : Int), .int .u32 ((q6 : Nat) : Int), .int .u32 ((q7 : Nat) : Int), .slice A0 r0.length C0, .int .i64 L0]) (Val.cel 66 _ rfl 0 10 (by kernel_rfl) b9 _ Try.underlying66 rfl (by kernel_rfl) (by simp) [.int .u32 ((q0 : Nat) : Int), .int .u32 ((q1 : Nat) : Int), .int .u32 ((q2 : Nat) : Int), .int .u32 ((q3 : Nat) : Int), .int .u32 ((q4 : Nat) : Int), .int .u32 ((q5 : Nat) : Int), .int .u32 ((q6 : Nat) : Int), .int .u32 ((q7 : Nat) : Int), .slice A0 r0.length C0, .int .i64 L0] rfl) ?_
        simp only [List.set_cons_zero, List.set_cons_succ]
        refine xCall 36 33 #[.pointer (some ⟨w.heap.size, 0, none⟩), .agg #[.int .u32 ((q0 : Nat) : Int), .int .u32 ((q1 : Nat) : Int), .int .u32 ((q2 : Nat) : Int), .int .u32 ((q3 : Nat) : Int), .int .u32 ((q4 : Nat) : Int), .int .u32 ((q5 : Nat) : Int), .int .u32 ((q6 : Nat) : Int), .int .u32 ((q7 : Nat) : Int), .slice A0 r0.length C0, .int .i64 L0]] (by kernel_rfl) ?_
        refine (sum_any w.heap.size tab ([q0, q1, q2, q3, q4, q5, q6, q7], r0, L0) rfl (.slice A0 r0.length C0) ht w11 b4 U0.sl).mono ?_
        rintro en w12 ⟨rfl, hb1⟩
        have e7 := belE0 hb1
        have ze7 := e7.size
        replace BL := BL.e0 e7
        replace D0 := D0.e0 e7
        replace D1 := D1.e0 e7
        replace D2 := D2.e0 e7
        replace b4 := b4.e0 e7
        replace U0 := U0.e0 e7
        replace b9 := b9.e0 e7
        replace Uw := Uw.e0 e7
        replace b10 := b10.e0 e7
        clear e7
        refine ⟨.agg (cellsOf .u8 (nn (sumN tab ([q0, q1, q2, q3, q4, q5, q6, q7], r0, L0)))), rfl, ?_⟩
        simp only [List.set_cons_zero, List.set_cons_succ]
        refine wpList_nil ?_
        refine hK9 _ _ ?_
        refine wp_seq_k fun K10 hK10 => ?_
        refine cPlain ?_
        refine sv 37 (.agg #[.int .u32 ((q0 : Nat) : Int), .int .u32 ((q1 : Nat) : Int), .int .u32 ((q2 : Nat) : Int), .int .u32 ((q3 : Nat) : Int), .int .u32 ((q4 : Nat) : Int), .int .u32 ((q5 : Nat) : Int), .int .u32 ((q6 : Nat) : Int), .int .u32 ((q7 : Nat) : Int), .slice A0 r0.length C0, .int .i64 L0]) (Val.cel 66 _ rfl 0 10 (by kernel_rfl) b9 _ Try.underlying66 rfl (by kernel_rfl) (by simp) [.int .u32 ((q0 : Nat) : Int), .int .u32 ((q1 : Nat) : Int), .int .u32 ((q2 : Nat) : Int), .int .u32 ((q3 : Nat) : Int), .int .u32 ((q4 : Nat) : Int), .int .u32 ((q5 : Nat) : Int), .int .u32 ((q6 : Nat) : Int), .int .u32 ((q7 : Nat) : Int), .slice A0 r0.length C0, .int .i64 L0] rfl) ?_
        simp only [List.set_cons_zero, List.set_cons_succ]
        refine sv 38 (v1) .of ?_
        simp only [List.set_cons_zero, List.set_cons_succ]
        refine xCall 39 31 #[.pointer (some ⟨w.heap.size, 0, none⟩), .agg #[.int .u32 ((q0 : Nat) : Int), .int .u32 ((q1 : Nat) : Int), .int .u32 ((q2 : Nat) : Int), .int .u32 ((q3 : Nat) : Int), .int .u32 ((q4 : Nat) : Int), .int .u32 ((q5 : Nat) : Int), .int .u32 ((q6 : Nat) : Int), .int .u32 ((q7 : Nat) : Int), .slice A0 r0.length C0, .int .i64 L0], v1] (by kernel_rfl) ?_
        refine (write_run w.heap.size tab (tab.take 8) xs0 xs1 [q0, q1, q2, q3, q4, q5, q6, q7] r0 [p0, p1, p2, p3, p4, p5, p6, p7] r1 L0 L1 hX0 hX1 h8 (by first | omega | simp) (by omega) (.slice A0 r0.length C0) _ ht w12 b4 U0.sl D1).mono ?_
        rintro en w13 ⟨u1, he1, hO1, hb1⟩
        obtain ⟨A1, C1, hu1⟩ := hO1.len
        rw [nn_len] at hu1
        rw [hu1] at he1 hO1
        subst he1
        have e8 := belE0 hb1
        have ze8 := e8.size
        replace BL := BL.e0 e8
        replace D0 := D0.e0 e8
        replace D1 := D1.e0 e8
        replace D2 := D2.e0 e8
        replace b4 := b4.e0 e8
        replace U0 := U0.e0 e8
        replace b9 := b9.e0 e8
        replace Uw := Uw.e0 e8
        replace b10 := b10.e0 e8
        clear e8
        have U1 : Own 5 .u8 w12.heap.size w13 (.slice A1 r1.length C1) (nn r1) := hO1
        have lU1_1 := U1.ge
        refine ⟨.agg #[.int .u32 ((p0 : Nat) : Int), .int .u32 ((p1 : Nat) : Int), .int .u32 ((p2 : Nat) : Int), .int .u32 ((p3 : Nat) : Int), .int .u32 ((p4 : Nat) : Int), .int .u32 ((p5 : Nat) : Int), .int .u32 ((p6 : Nat) : Int), .int .u32 ((p7 : Nat) : Int), .slice A1 r1.length C1, .int .i64 L1], rfl, ?_⟩
        simp only [List.set_cons_zero, List.set_cons_succ]
        refine xAlloc 11 66 [.int .u32 0, .int .u32 0, .int .u32 0, .int .u32 0, .int .u32 0, .int .u32 0, .int .u32 0, .int .u32 0, .slice none 0 0, .int .i64 0] rfl (by kernel_rfl) ?_
        intro w14 n4
        have zn4 := n4.z
        have b11 := n4.c
        replace BL := BL.e0 n4.e
        replace D0 := D0.e0 n4.e
        replace D1 := D1.e0 n4.e
        replace D2 := D2.e0 n4.e
        replace b4 := b4.e0 n4.e
        replace U0 := U0.e0 n4.e
        replace b9 := b9.e0 n4.e
        replace Uw := Uw.e0 n4.e
        replace b10 := b10.e0 n4.e
        replace U1 := U1.e0 n4.e
        simp only [List.set_cons_zero, List.set_cons_succ]
        refine xStoreR 66 (.tmp 11) (.tmp 39) rfl w13.heap.size 66 [.int .u32 0, .int .u32 0, .int .u32 0, .int .u32 0, .int .u32 0, .int .u32 0, .int .u32 0, .int .u32 0, .slice none 0 0, .int .i64 0] 0 [.int .u32 ((p0 : Nat) : Int), .int .u32 ((p1 : Nat) : Int), .int .u32 ((p2 : Nat) : Int), .int .u32 ((p3 : Nat) : Int), .int .u32 ((p4 : Nat) : Int), .int .u32 ((p5 : Nat) : Int), .int .u32 ((p6 : Nat) : Int), .int .u32 ((p7 : Nat) : Int), .slice A1 r1.length C1, .int .i64 L1] (by kernel_rfl) (by kernel_rfl) b11 (by kernel_rfl) (by simp) rfl [.int .u32 ((p0 : Nat) : Int), .int .u32 ((p1 : Nat) : Int), .int .u32 ((p2 : Nat) : Int), .int .u32 ((p3 : Nat) : Int), .int .u32 ((p4 : Nat) : Int), .int .u32 ((p5 : Nat) : Int), .int .u32 ((p6 : Nat) : Int), .int .u32 ((p7 : Nat) : Int), .slice A1 r1.length C1, .int .i64 L1] rfl ?_
        intro w15 t3
        have zt3 := t3.z
        have BL_ := BL.ev t3.e (fun i h => show w.heap.size ≤ i by have h : i = w13.heap.size := h; omega)
        have D0_ := D0.ev t3.e (fun i hi => show ¬ (i = w13.heap.size) by have := hd0 i hi; omega)
        have D1_ := D1.ev t3.e (fun i hi => show ¬ (i = w13.heap.size) by have := hd1 i hi; omega)
        have D2_ := D2.ev t3.e (fun i hi => show ¬ (i = w13.heap.size) by have := hd2 i hi; omega)
        have b4_ := b4.ev t3.e (show ¬ (w.heap.size = w13.heap.size) by omega)
        have U0_ := U0.ev t3.e (fun i hi => show ¬ (i = w13.heap.size) by have := lU0_1 i hi; omega)
        have b9_ := b9.ev t3.e (show ¬ (w6.heap.size = w13.heap.size) by omega)
        have Uw_ := Uw.ev t3.e (fun i hi => show ¬ (i = w13.heap.size) by have := lUw_1 i hi; omega)
        have b10_ := b10.ev t3.e (show ¬ (w9.heap.size = w13.heap.size) by omega)
        have U1_ := U1.ev t3.e (fun i hi => show ¬ (i = w13.heap.size) by have := lU1_1 i hi; omega)
        replace BL := BL_; clear BL_
        replace D0 := D0_; clear D0_
        replace D1 := D1_; clear D1_
        replace D2 := D2_; clear D2_
        replace b4 := b4_; clear b4_
        replace U0 := U0_; clear U0_
        replace b9 := b9_; clear b9_
        replace Uw := Uw_; clear Uw_
        replace b10 := b10_; clear b10_
        replace U1 := U1_; clear U1_
        replace b11 : Cel w15 w13.heap.size 66 [.int .u32 ((p0 : Nat) : Int), .int .u32 ((p1 : Nat) : Int), .int .u32 ((p2 : Nat) : Int), .int .u32 ((p3 : Nat) : Int), .int .u32 ((p4 : Nat) : Int), .int .u32 ((p5 : Nat) : Int), .int .u32 ((p6 : Nat) : Int), .int .u32 ((p7 : Nat) : Int), .slice A1 r1.length C1, .int .i64 L1] := t3.c
        clear t3
        refine wpList_nil ?_
        refine hK10 _ _ ?_
        refine wp_seq_k fun K11 hK11 => ?_
        refine cPlain ?_
        refine sv 40 (.agg #[.int .u32 ((q0 : Nat) : Int), .int .u32 ((q1 : Nat) : Int), .int .u32 ((q2 : Nat) : Int), .int .u32 ((q3 : Nat) : Int), .int .u32 ((q4 : Nat) : Int), .int .u32 ((q5 : Nat) : Int), .int .u32 ((q6 : Nat) : Int), .int .u32 ((q7 : Nat) : Int), .slice A0 r0.length C0, .int .i64 L0]) (Val.cel 66 _ rfl 0 10 (by kernel_rfl) b9 _ Try.underlying66 rfl (by kernel_rfl) (by simp) [.int .u32 ((q0 : Nat) : Int), .int .u32 ((q1 : Nat) : Int), .int .u32 ((q2 : Nat) : Int), .int .u32 ((q3 : Nat) : Int), .int .u32 ((q4 : Nat) : Int), .int .u32 ((q5 : Nat) : Int), .int .u32 ((q6 : Nat) : Int), .int .u32 ((q7 : Nat) : Int), .slice A0 r0.length C0, .int .i64 L0] rfl) ?_
        simp only [List.set_cons_zero, List.set_cons_succ]
        refine sv 41 (v2) .of ?_
        simp only [List.set_cons_zero, List.set_cons_succ]
        refine xCall 42 31 #[.pointer (some ⟨w.heap.size, 0, none⟩), .agg #[.int .u32 ((q0 : Nat) : Int), .int .u32 ((q1 : Nat) : Int), .int .u32 ((q2 : Nat) : Int), .int .u32 ((q3 : Nat) : Int), .int .u32 ((q4 : Nat) : Int), .int .u32 ((q5 : Nat) : Int), .int .u32 ((q6 : Nat) : Int), .int .u32 ((q7 : Nat) : Int), .slice A0 r0.length C0, .int .i64 L0], v2] (by kernel_rfl) ?_
        refine (write_run w.heap.size tab (tab.take 8) xs0 xs2 [q0, q1, q2, q3, q4, q5, q6, q7] r0 [z0, z1, z2, z3, z4, z5, z6, z7] r2 L0 L2 hX0 hX2 h8 (by first | omega | simp) (by omega) (.slice A0 r0.length C0) _ ht w15 b4 U0.sl D2).mono ?_
        rintro en w16 ⟨u2, he2, hO2, hb1⟩
        obtain ⟨A2, C2, hu2⟩ := hO2.len
        rw [nn_len] at hu2
        rw [hu2] at he2 hO2
        subst he2
        have e9 := belE0 hb1
        have ze9 := e9.size
        replace BL := BL.e0 e9
        replace D0 := D0.e0 e9
        replace D1 := D1.e0 e9
        replace D2 := D2.e0 e9
        replace b4 := b4.e0 e9
        replace U0 := U0.e0 e9
        replace b9 := b9.e0 e9
        replace Uw := Uw.e0 e9
        replace b10 := b10.e0 e9
        replace U1 := U1.e0 e9
        replace b11 := b11.e0 e9
        clear e9
        have U2 : Own 5 .u8 w15.heap.size w16 (.slice A2 r2.length C2) (nn r2) := hO2
        have lU2_1 := U2.ge
        refine ⟨.agg #[.int .u32 ((z0 : Nat) : Int), .int .u32 ((z1 : Nat) : Int), .int .u32 ((z2 : Nat) : Int), .int .u32 ((z3 : Nat) : Int), .int .u32 ((z4 : Nat) : Int), .int .u32 ((z5 : Nat) : Int), .int .u32 ((z6 : Nat) : Int), .int .u32 ((z7 : Nat) : Int), .slice A2 r2.length C2, .int .i64 L2], rfl, ?_⟩
        simp only [List.set_cons_zero, List.set_cons_succ]
        refine xAlloc 12 66 [.int .u32 0, .int .u32 0, .int .u32 0, .int .u32 0, .int .u32 0, .int .u32 0, .int .u32 0, .int .u32 0, .slice none 0 0, .int .i64 0] rfl (by kernel_rfl) ?_
        intro w17 n5
        have zn5 := n5.z
        have b12 := n5.c
        replace BL := BL.e0 n5.e
        replace D0 := D0.e0 n5.e
        replace D1 := D1.e0 n5.e
        replace D2 := D2.e0 n5.e
        replace b4 := b4.e0 n5.e
        replace U0 := U0.e0 n5.e
        replace b9 := b9.e0 n5.e
        replace Uw := Uw.e0 n5.e
        replace b10 := b10.e0 n5.e
        replace U1 := U1.e0 n5.e
        replace b11 := b11.e0 n5.e
        replace U2 := U2.e0 n5.e
        simp only [List.set_cons_zero, List.set_cons_succ]
        refine xStoreR 66 (.tmp 12) (.tmp 42) rfl w16.heap.size 66 [.int .u32 0, .int .u32 0, .int .u32 0, .int .u32 0, .int .u32 0, .int .u32 0, .int .u32 0, .int .u32 0, .slice none 0 0, .int .i64 0] 0 [.int .u32 ((z0 : Nat) : Int), .int .u32 ((z1 : Nat) : Int), .int .u32 ((z2 : Nat) : Int), .int .u32 ((z3 : Nat) : Int), .int .u32 ((z4 : Nat) : Int), .int .u32 ((z5 : Nat) : Int), .int .u32 ((z6 : Nat) : Int), .int .u32 ((z7 : Nat) : Int), .slice A2 r2.length C2, .int .i64 L2] (by kernel_rfl) (by kernel_rfl) b12 (by kernel_rfl) (by simp) rfl [.int .u32 ((z0 : Nat) : Int), .int .u32 ((z1 : Nat) : Int), .int .u32 ((z2 : Nat) : Int), .int .u32 ((z3 : Nat) : Int), .int .u32 ((z4 : Nat) : Int), .int .u32 ((z5 : Nat) : Int), .int .u32 ((z6 : Nat) : Int), .int .u32 ((z7 : Nat) : Int), .slice A2 r2.length C2, .int .i64 L2] rfl ?_
        intro w18 t4
        have zt4 := t4.z
        have BL_ := BL.ev t4.e (fun i h => show w.heap.size ≤ i by have h : i = w16.heap.size := h; omega)
        have D0_ := D0.ev t4.e (fun i hi => show ¬ (i = w16.heap.size) by have := hd0 i hi; omega)
        have D1_ := D1.ev t4.e (fun i hi => show ¬ (i = w16.heap.size) by have := hd1 i hi; omega)
        have D2_ := D2.ev t4.e (fun i hi => show ¬ (i = w16.heap.size) by have := hd2 i hi; omega)
        have b4_ := b4.ev t4.e (show ¬ (w.heap.size = w16.heap.size) by omega)
        have U0_ := U0.ev t4.e (fun i hi => show ¬ (i = w16.heap.size) by have := lU0_1 i hi; omega)
        have b9_ := b9.ev t4.e (show ¬ (w6.heap.size = w16.heap.size) by omega)
        have Uw_ := Uw.ev t4.e (fun i hi => show ¬ (i = w16.heap.size) by have := lUw_1 i hi; omega)
        have b10_ := b10.ev t4.e (show ¬ (w9.heap.size = w16.heap.size) by omega)
        have U1_ := U1.ev t4.e (fun i hi => show ¬ (i = w16.heap.size) by have := lU1_1 i hi; omega)
        have b11_ := b11.ev t4.e (show ¬ (w13.heap.size = w16.heap.size) by omega)
        have U2_ := U2.ev t4.e (fun i hi => show ¬ (i = w16.heap.size) by have := lU2_1 i hi; omega)
        replace BL := BL_; clear BL_
        replace D0 := D0_; clear D0_
        replace D1 := D1_; clear D1_
        replace D2 := D2_; clear D2_
        replace b4 := b4_; clear b4_
        replace U0 := U0_; clear U0_
        replace b9 := b9_; clear b9_
        replace Uw := Uw_; clear Uw_
        replace b10 := b10_; clear b10_
        replace U1 := U1_; clear U1_
        replace b11 := b11_; clear b11_
        replace U2 := U2_; clear U2_
        replace b12 : Cel w18 w16.heap.size 66 [.int .u32 ((z0 : Nat) : Int), .int .u32 ((z1 : Nat) : Int), .int .u32 ((z2 : Nat) : Int), .int .u32 ((z3 : Nat) : Int), .int .u32 ((z4 : Nat) : Int), .int .u32 ((z5 : Nat) : Int), .int .u32 ((z6 : Nat) : Int), .int .u32 ((z7 : Nat) : Int), .slice A2 r2.length C2, .int .i64 L2] := t4.c
        clear t4
        refine wpList_nil ?_
        refine hK11 _ _ ?_
        refine wp_seq_k fun K12 hK12 => ?_
        refine wp_seq_k fun K13 hK13 => ?_
        refine cPlain ?_
        refine sv 43 (.pointer (some ⟨w13.heap.size, 8, none⟩)) .of ?_
        simp only [List.set_cons_zero, List.set_cons_succ]
        refine sv 44 (.slice A1 r1.length C1) (Val.cel1 28 _ rfl w13.heap.size 8 _ (by kernel_rfl) (fun _ => (by kernel_rfl)) b11 rfl) ?_
        simp only [List.set_cons_zero, List.set_cons_succ]
        refine sv 45 (.int .i64 (r1.length : Int)) .of ?_
        simp only [List.set_cons_zero, List.set_cons_succ]
        refine sv 46 (.int .i64 0) .of ?_
        simp only [List.set_cons_zero, List.set_cons_succ]
        refine wpList_nil ?_
        refine hK13 _ _ ?_
        refine wp_block ?_
        refine cLoop (fun N_ A_ w_ => ∃ (j : Nat) (zs : List Nat), (N_ = r1.length - j ∧ (j ≤ r1.length) ∧ (zs.length = r1.length) ∧ (∃ s1 : Nat → Value, A_ = ⟨[.agg (cellsOf .u32 (nn tab)), v0, v1, v2, .pointer (some ⟨w.heap.size, 0, none⟩), undef, undef, undef, .bool false, .pointer (some ⟨w6.heap.size, 0, none⟩), .pointer (some ⟨w9.heap.size, 0, none⟩), .pointer (some ⟨w13.heap.size, 0, none⟩), .pointer (some ⟨w16.heap.size, 0, none⟩), (s1 13), undef, undef, v0, .int .i64 ((xs0.length : Nat) : Int), .bool false, .bool false, v1, .int .i64 ((xs1.length : Nat) : Int), .bool false, .bool false, .bool false, v2, .int .i64 ((xs2.length : Nat) : Int), .bool (decide (200 < ((xs2.length : Nat) : Int))), .bool (decide (200 < ((xs2.length : Nat) : Int))), undef, hashV (tab.take 8) (.slice none 0 0) 0, v0, .agg #[.int .u32 ((q0 : Nat) : Int), .int .u32 ((q1 : Nat) : Int), .int .u32 ((q2 : Nat) : Int), .int .u32 ((q3 : Nat) : Int), .int .u32 ((q4 : Nat) : Int), .int .u32 ((q5 : Nat) : Int), .int .u32 ((q6 : Nat) : Int), .int .u32 ((q7 : Nat) : Int), .slice A0 r0.length C0, .int .i64 L0], .agg #[.int .u32 ((q0 : Nat) : Int), .int .u32 ((q1 : Nat) : Int), .int .u32 ((q2 : Nat) : Int), .int .u32 ((q3 : Nat) : Int), .int .u32 ((q4 : Nat) : Int), .int .u32 ((q5 : Nat) : Int), .int .u32 ((q6 : Nat) : Int), .int .u32 ((q7 : Nat) : Int), .slice A0 r0.length C0, .int .i64 L0], .agg #[.int .u32 ((q0 : Nat) : Int), .int .u32 ((q1 : Nat) : Int), .int .u32 ((q2 : Nat) : Int), .int .u32 ((q3 : Nat) : Int), .int .u32 ((q4 : Nat) : Int), .int .u32 ((q5 : Nat) : Int), .int .u32 ((q6 : Nat) : Int), .int .u32 ((q7 : Nat) : Int), .slice Aw r0.length Cw, .int .i64 L0], .agg #[.int .u32 ((q0 : Nat) : Int), .int .u32 ((q1 : Nat) : Int), .int .u32 ((q2 : Nat) : Int), .int .u32 ((q3 : Nat) : Int), .int .u32 ((q4 : Nat) : Int), .int .u32 ((q5 : Nat) : Int), .int .u32 ((q6 : Nat) : Int), .int .u32 ((q7 : Nat) : Int), .slice A0 r0.length C0, .int .i64 L0], .agg (cellsOf .u8 (nn (sumN tab ([q0, q1, q2, q3, q4, q5, q6, q7], r0, L0)))), .agg #[.int .u32 ((q0 : Nat) : Int), .int .u32 ((q1 : Nat) : Int), .int .u32 ((q2 : Nat) : Int), .int .u32 ((q3 : Nat) : Int), .int .u32 ((q4 : Nat) : Int), .int .u32 ((q5 : Nat) : Int), .int .u32 ((q6 : Nat) : Int), .int .u32 ((q7 : Nat) : Int), .slice A0 r0.length C0, .int .i64 L0], v1, .agg #[.int .u32 ((p0 : Nat) : Int), .int .u32 ((p1 : Nat) : Int), .int .u32 ((p2 : Nat) : Int), .int .u32 ((p3 : Nat) : Int), .int .u32 ((p4 : Nat) : Int), .int .u32 ((p5 : Nat) : Int), .int .u32 ((p6 : Nat) : Int), .int .u32 ((p7 : Nat) : Int), .slice A1 r1.length C1, .int .i64 L1], .agg #[.int .u32 ((q0 : Nat) : Int), .int .u32 ((q1 : Nat) : Int), .int .u32 ((q2 : Nat) : Int), .int .u32 ((q3 : Nat) : Int), .int .u32 ((q4 : Nat) : Int), .int .u32 ((q5 : Nat) : Int), .int .u32 ((q6 : Nat) : Int), .int .u32 ((q7 : Nat) : Int), .slice A0 r0.length C0, .int .i64 L0], v2, .agg #[.int .u32 ((z0 : Nat) : Int), .int .u32 ((z1 : Nat) : Int), .int .u32 ((z2 : Nat) : Int), .int .u32 ((z3 : Nat) : Int), .int .u32 ((z4 : Nat) : Int), .int .u32 ((z5 : Nat) : Int), .int .u32 ((z6 : Nat) : Int), .int .u32 ((z7 : Nat) : Int), .slice A2 r2.length C2, .int .i64 L2], .pointer (some ⟨w13.heap.size, 8, none⟩), .slice A1 r1.length C1, .int .i64 (r1.length : Int), .int .i64 ((j : Nat) : Int), (s1 47), (s1 48), (s1 49), (s1 50), (s1 51), (s1 52), (s1 53), (s1 54), (s1 55), (s1 56), undef, undef, undef, undef, undef, undef, undef, undef, undef, undef, undef, undef, undef, undef, undef, undef, undef, undef, undef, undef, undef, undef, undef, undef, undef, undef, undef, undef, undef, undef, undef, undef].toArray, []⟩) ∧ Bl w.heap.size w w_ ∧ SL .u8 w_ v0 (nn xs0) ∧ SL .u8 w_ v1 (nn xs1) ∧ SL .u8 w_ v2 (nn xs2) ∧ Blk .u32 w_ w.heap.size 61 (nn tab) ∧ Own 5 .u8 w5.heap.size w_ (.slice A0 r0.length C0) (nn r0) ∧ Cel w_ w6.heap.size 66 [.int .u32 ((q0 : Nat) : Int), .int .u32 ((q1 : Nat) : Int), .int .u32 ((q2 : Nat) : Int), .int .u32 ((q3 : Nat) : Int), .int .u32 ((q4 : Nat) : Int), .int .u32 ((q5 : Nat) : Int), .int .u32 ((q6 : Nat) : Int), .int .u32 ((q7 : Nat) : Int), .slice A0 r0.length C0, .int .i64 L0] ∧ Own 5 .u8 w8.heap.size w_ (.slice Aw r0.length Cw) (nn r0) ∧ Cel w_ w9.heap.size 66 [.int .u32 ((q0 : Nat) : Int), .int .u32 ((q1 : Nat) : Int), .int .u32 ((q2 : Nat) : Int), .int .u32 ((q3 : Nat) : Int), .int .u32 ((q4 : Nat) : Int), .int .u32 ((q5 : Nat) : Int), .int .u32 ((q6 : Nat) : Int), .int .u32 ((q7 : Nat) : Int), .slice Aw r0.length Cw, .int .i64 L0] ∧ Own 5 .u8 w12.heap.size w_ (.slice A1 r1.length C1) (nn zs) ∧ Cel w_ w13.heap.size 66 [.int .u32 ((p0 : Nat) : Int), .int .u32 ((p1 : Nat) : Int), .int .u32 ((p2 : Nat) : Int), .int .u32 ((p3 : Nat) : Int), .int .u32 ((p4 : Nat) : Int), .int .u32 ((p5 : Nat) : Int), .int .u32 ((p6 : Nat) : Int), .int .u32 ((p7 : Nat) : Int), .slice A1 r1.length C1, .int .i64 L1] ∧ Own 5 .u8 w15.heap.size w_ (.slice A2 r2.length C2) (nn r2) ∧ Cel w_ w16.heap.size 66 [.int .u32 ((z0 : Nat) : Int), .int .u32 ((z1 : Nat) : Int), .int .u32 ((z2 : Nat) : Int), .int .u32 ((z3 : Nat) : Int), .int .u32 ((z4 : Nat) : Int), .int .u32 ((z5 : Nat) : Int), .int .u32 ((z6 : Nat) : Int), .int .u32 ((z7 : Nat) : Int), .slice A2 r2.length C2, .int .i64 L2] ∧ w18.heap.size ≤ w_.heap.size)) _ ⟨0, r1, rfl, (Nat.zero_le _), rfl, cutE, BL, D0, D1, D2, b4, U0, b9, Uw, b10, U1, b11, U2, b12, Nat.le_refl _⟩ ?_
        clear BL D0 D1 D2 b4 U0 b9 Uw b10 U1 b11 U2 b12
        rintro n_ a_ wl0 ⟨j, zs, rfl, hc0_0, hc0_1, ⟨s1, rfl⟩, BL, D0, D1, D2, b4, U0, b9, Uw, b10, U1, b11, U2, b12, zl0⟩
        have lU0_2 := U0.ge
        have lUw_2 := Uw.ge
        have lU1_2 := U1.ge
        have lU2_2 := U2.ge
        refine wp_seq_k fun K14 hK14 => ?_
        refine cPlain ?_
        refine sv 47 (.bool (decide (((j : Nat) : Int) < (r1.length : Int)))) (Val.cmp .lss 3 _ (.tmp 46) (.tmp 45) rfl .i64 ((j : Nat) : Int) (r1.length : Int) (by kernel_rfl) (by kernel_rfl) (by simp) _ rfl) ?_
        simp only [List.set_cons_zero, List.set_cons_succ]
        refine wpList_nil ?_
        refine hK14 _ _ ?_
        refine wp_seq_k fun K15 hK15 => ?_
        refine cDec (((j : Nat) : Int) < (r1.length : Int)) (by kernel_rfl) (fun c47 => ?_) (fun c47 => ?_)
        · skip
          refine wp_skip ?_
          refine hK15 _ _ ?_
          refine wp_seq_k fun K16 hK16 => ?_
          refine wp_block ?_
          refine wp_seq_k fun K17 hK17 => ?_
          refine cPlain ?_
          refine sv 48 (.int .i64 ((j : Nat) : Int)) .of ?_
          simp only [List.set_cons_zero, List.set_cons_succ]
          refine sv 13 (.int .i64 ((j : Nat) : Int)) .of ?_
          simp only [List.set_cons_zero, List.set_cons_succ]
          refine wpList_nil ?_
          refine hK17 _ _ ?_
          refine cPlain ?_
          refine sv 49 (.pointer (some ⟨w13.heap.size, 8, none⟩)) .of ?_
          simp only [List.set_cons_zero, List.set_cons_succ]
          refine sv 50 (.slice A1 r1.length C1) (Val.cel1 28 _ rfl w13.heap.size 8 _ (by kernel_rfl) (fun _ => (by kernel_rfl)) b11 rfl) ?_
          simp only [List.set_cons_zero, List.set_cons_succ]
          refine sv 51 (.int .i64 ((j : Nat) : Int)) .of ?_
          simp only [List.set_cons_zero, List.set_cons_succ]
          refine sv 52 (elemP (.slice A1 r1.length C1) j) (Val.idxE 28 (.tmp 50) (.tmp 51) rfl (.slice A1 r1.length C1) j (by kernel_rfl) (by kernel_rfl) U1.sl Try.underlying28 (by kernel_rfl) (by rw [nn_len]; omega)) ?_
          simp only [List.set_cons_zero, List.set_cons_succ]
          refine sv 53 (.int .u8 ((zs.getD j 0 : Nat) : Int)) (Val.nldE 5 _ rfl (.slice A1 r1.length C1) j (by kernel_rfl) (fun _ => (by kernel_rfl)) U1.sl (by omega)) ?_
          simp only [List.set_cons_zero, List.set_cons_succ]
          refine sv 54 (.int .u8 ((((zs.getD j 0) ^^^ 255) % 256 : Nat) : Int)) (Val.xorN 5 _ (.tmp 53) _ rfl .u8 (zs.getD j 0) 255 256 (by kernel_rfl) (by kernel_rfl)) ?_
          simp only [List.set_cons_zero, List.set_cons_succ]
          refine sv 55 (elemP (.slice A1 r1.length C1) j) (Val.idxE 28 (.tmp 50) (.tmp 51) rfl (.slice A1 r1.length C1) j (by kernel_rfl) (by kernel_rfl) U1.sl Try.underlying28 (by kernel_rfl) (by rw [nn_len]; omega)) ?_
          simp only [List.set_cons_zero, List.set_cons_succ]
          refine xStoreE 5 (.tmp 55) (.tmp 54) rfl (.slice A1 r1.length C1) j ((((zs.getD j 0) ^^^ 255) % 256 : Nat) : Int) (by kernel_rfl) (by kernel_rfl) U1 (by kernel_rfl) (by rw [nn_len]; omega) ?_
          intro w19 U1_ e10 ze10
          have BL_ := BL.ev e10 (fun i h => by have := lU1_1 _ h; omega)
          have D0_ := D0.ev e10 (fun i hi h => by have := hd0 i hi; have := lU1_1 _ h; omega)
          have D1_ := D1.ev e10 (fun i hi h => by have := hd1 i hi; have := lU1_1 _ h; omega)
          have D2_ := D2.ev e10 (fun i hi h => by have := hd2 i hi; have := lU1_1 _ h; omega)
          have b4_ := b4.ev e10 (fun h => by have := lU1_1 _ h; omega)
          have U0_ := U0.ev e10 (fun i hi h => by have := lU0_1 i hi; have := lU1_1 _ h; omega)
          have b9_ := b9.ev e10 (fun h => by have := lU1_1 _ h; omega)
          have Uw_ := Uw.ev e10 (fun i hi h => by have := lUw_1 i hi; have := lU1_1 _ h; omega)
          have b10_ := b10.ev e10 (fun h => by have := lU1_1 _ h; omega)
          have b11_ := b11.ev e10 (fun h => by have := lU1_1 _ h; omega)
          have U2_ := U2.ev e10 (fun i hi h => by have := lU2_1 i hi; have := lU1_1 _ h; omega)
          have b12_ := b12.ev e10 (fun h => by have := lU1_1 _ h; omega)
          replace BL := BL_; clear BL_
          replace D0 := D0_; clear D0_
          replace D1 := D1_; clear D1_
          replace D2 := D2_; clear D2_
          replace b4 := b4_; clear b4_
          replace U0 := U0_; clear U0_
          replace b9 := b9_; clear b9_
          replace Uw := Uw_; clear Uw_
          replace b10 := b10_; clear b10_
          replace b11 := b11_; clear b11_
          replace U2 := U2_; clear U2_
          replace b12 := b12_; clear b12_
          replace U1 := U1_; clear U1_ e10
          refine wpList_nil ?_
          refine hK16 _ _ ?_
          refine cPlain ?_
          refine sv 56 (.int .i64 (((j : Nat) : Int) + 1)) (Val.add 3 _ (.tmp 46) _ rfl ((j : Nat) : Int) 1 (by kernel_rfl) (by kernel_rfl) (by omega)) ?_
          simp only [List.set_cons_zero, List.set_cons_succ]
          refine sv 46 (.int .i64 (((j : Nat) : Int) + 1)) .of ?_
          simp only [List.set_cons_zero, List.set_cons_succ]
          refine wpList_nil ?_
          refine ⟨_, ?_, j + 1, zs.set j ((zs.getD j 0 ^^^ 255) % 256), rfl, (by omega), (by rw [List.length_set]; omega), cutE, BL, D0, D1, D2, b4, U0, b9, Uw, b10, (by rw [← nn_set]; exact U1), b11, U2, b12, by omega⟩
          omega
        · skip
          refine wp_exit ?_
          simp only [Exit.then, Exit.inBlock, ↓reduceIte, Nat.reduceEqDiff]
          refine hK12 _ _ ?_
          refine wp_seq_k fun K18 hK18 => ?_
          refine cPlain ?_
          refine sv 14 (.slice none 0 0) .of ?_
          simp only [List.set_cons_zero, List.set_cons_succ]
          refine sv 15 (.slice none 0 0) .of ?_
          simp only [List.set_cons_zero, List.set_cons_succ]
          refine wpList_nil ?_
          refine hK18 _ _ ?_
          refine wp_seq_k fun K19 hK19 => ?_
          have N1 : Own 5 .u8 wl0.heap.size wl0 (.slice none 0 0) [] := Own.nil _ _ _ _
          have lN1_1 := N1.ge
          refine cPlain ?_
          refine sv 57 (.slice none 0 0) .of ?_
          simp only [List.set_cons_zero, List.set_cons_succ]
          refine sv 58 (v0) .of ?_
          simp only [List.set_cons_zero, List.set_cons_succ]
          refine xApp 59 (.tmp 57) (.tmp 58) 28 5 .u8 1 rfl Try.underlying28 (by kernel_rfl) wl0.heap.size (.slice none 0 0) [] (by kernel_rfl) N1 v0 (nn xs0) (by kernel_rfl) D0 ?va1_1 ?va1_2 ?va1_3 ?_
          case va1_1 => (simp only [List.length_append, List.length_nil, nn_len]; omega)
          case va1_2 => (simp only [List.length_append, List.length_nil, nn_len]; unfold maxLen; omega)
          case va1_3 => omega
          intro va1 w20 rva1 e11
          have ze11 := e11.size
          have BL_ := BL.ev e11 (fun i h => by have := lN1_1 _ h; omega)
          have D0_ := D0.ev e11 (fun i hi h => by have := hd0 i hi; have := lN1_1 _ h; omega)
          have D1_ := D1.ev e11 (fun i hi h => by have := hd1 i hi; have := lN1_1 _ h; omega)
          have D2_ := D2.ev e11 (fun i hi h => by have := hd2 i hi; have := lN1_1 _ h; omega)
          have b4_ := b4.ev e11 (fun h => by have := lN1_1 _ h; omega)
          have U0_ := U0.ev e11 (fun i hi h => by have := lU0_1 i hi; have := lN1_1 _ h; omega)
          have b9_ := b9.ev e11 (fun h => by have := lN1_1 _ h; omega)
          have Uw_ := Uw.ev e11 (fun i hi h => by have := lUw_1 i hi; have := lN1_1 _ h; omega)
          have b10_ := b10.ev e11 (fun h => by have := lN1_1 _ h; omega)
          have U1_ := U1.ev e11 (fun i hi h => by have := lU1_1 i hi; have := lN1_1 _ h; omega)
          have b11_ := b11.ev e11 (fun h => by have := lN1_1 _ h; omega)
          have U2_ := U2.ev e11 (fun i hi h => by have := lU2_1 i hi; have := lN1_1 _ h; omega)
          have b12_ := b12.ev e11 (fun h => by have := lN1_1 _ h; omega)
          replace BL := BL_; clear BL_
          replace D0 := D0_; clear D0_
          replace D1 := D1_; clear D1_
          replace D2 := D2_; clear D2_
          replace b4 := b4_; clear b4_
          replace U0 := U0_; clear U0_
          replace b9 := b9_; clear b9_
          replace Uw := Uw_; clear Uw_
          replace b10 := b10_; clear b10_
          replace U1 := U1_; clear U1_
          replace b11 := b11_; clear b11_
          replace U2 := U2_; clear U2_
          replace b12 := b12_; clear b12_
          replace N1 := rva1
          clear rva1 e11
          have lN1_2 := N1.ge
          simp only [List.set_cons_zero, List.set_cons_succ]
          refine sv 60 (v1) .of ?_
          simp only [List.set_cons_zero, List.set_cons_succ]
          refine xApp 61 (.tmp 59) (.tmp 60) 28 5 .u8 1 rfl Try.underlying28 (by kernel_rfl) wl0.heap.size va1 ([] ++ (nn xs0)) (by kernel_rfl) N1 v1 (nn xs1) (by kernel_rfl) D1 ?va2_1 ?va2_2 ?va2_3 ?_
          case va2_1 => (simp only [List.length_append, List.length_nil, nn_len]; omega)
          case va2_2 => (simp only [List.length_append, List.length_nil, nn_len]; unfold maxLen; omega)
          case va2_3 => omega
          intro va2 w21 rva2 e12
          have ze12 := e12.size
          have BL_ := BL.ev e12 (fun i h => by have := lN1_2 _ h; omega)
          have D0_ := D0.ev e12 (fun i hi h => by have := hd0 i hi; have := lN1_2 _ h; omega)
          have D1_ := D1.ev e12 (fun i hi h => by have := hd1 i hi; have := lN1_2 _ h; omega)
          have D2_ := D2.ev e12 (fun i hi h => by have := hd2 i hi; have := lN1_2 _ h; omega)
          have b4_ := b4.ev e12 (fun h => by have := lN1_2 _ h; omega)
          have U0_ := U0.ev e12 (fun i hi h => by have := lU0_1 i hi; have := lN1_2 _ h; omega)
          have b9_ := b9.ev e12 (fun h => by have := lN1_2 _ h; omega)
          have Uw_ := Uw.ev e12 (fun i hi h => by have := lUw_1 i hi; have := lN1_2 _ h; omega)
          have b10_ := b10.ev e12 (fun h => by have := lN1_2 _ h; omega)
          have U1_ := U1.ev e12 (fun i hi h => by have := lU1_1 i hi; have := lN1_2 _ h; omega)
          have b11_ := b11.ev e12 (fun h => by have := lN1_2 _ h; omega)
          have U2_ := U2.ev e12 (fun i hi h => by have := lU2_1 i hi; have := lN1_2 _ h; omega)
          have b12_ := b12.ev e12 (fun h => by have := lN1_2 _ h; omega)
          replace BL := BL_; clear BL_
          replace D0 := D0_; clear D0_
          replace D1 := D1_; clear D1_
          replace D2 := D2_; clear D2_
          replace b4 := b4_; clear b4_
          replace U0 := U0_; clear U0_
          replace b9 := b9_; clear b9_
          replace Uw := Uw_; clear Uw_
          replace b10 := b10_; clear b10_
          replace U1 := U1_; clear U1_
          replace b11 := b11_; clear b11_
          replace U2 := U2_; clear U2_
          replace b12 := b12_; clear b12_
          replace N1 := rva2
          clear rva2 e12
          have lN1_3 := N1.ge
          simp only [List.set_cons_zero, List.set_cons_succ]
          refine sv 14 (va2) .of ?_
          simp only [List.set_cons_zero, List.set_cons_succ]
          refine wpList_nil ?_
          refine hK19 _ _ ?_
          refine wp_seq_k fun K20 hK20 => ?_
          have N2 : Own 5 .u8 w21.heap.size w21 (.slice none 0 0) [] := Own.nil _ _ _ _
          have lN2_1 := N2.ge
          refine cPlain ?_
          refine sv 62 (.slice none 0 0) .of ?_
          simp only [List.set_cons_zero, List.set_cons_succ]
          refine sv 63 (v0) .of ?_
          simp only [List.set_cons_zero, List.set_cons_succ]
          refine xApp 64 (.tmp 62) (.tmp 63) 28 5 .u8 1 rfl Try.underlying28 (by kernel_rfl) w21.heap.size (.slice none 0 0) [] (by kernel_rfl) N2 v0 (nn xs0) (by kernel_rfl) D0 ?va3_1 ?va3_2 ?va3_3 ?_
          case va3_1 => (simp only [List.length_append, List.length_nil, nn_len]; omega)
          case va3_2 => (simp only [List.length_append, List.length_nil, nn_len]; unfold maxLen; omega)
          case va3_3 => omega
          intro va3 w22 rva3 e13
          have ze13 := e13.size
          have BL_ := BL.ev e13 (fun i h => by have := lN2_1 _ h; omega)
          have D0_ := D0.ev e13 (fun i hi h => by have := hd0 i hi; have := lN2_1 _ h; omega)
          have D1_ := D1.ev e13 (fun i hi h => by have := hd1 i hi; have := lN2_1 _ h; omega)
          have D2_ := D2.ev e13 (fun i hi h => by have := hd2 i hi; have := lN2_1 _ h; omega)
          have b4_ := b4.ev e13 (fun h => by have := lN2_1 _ h; omega)
          have U0_ := U0.ev e13 (fun i hi h => by have := lU0_1 i hi; have := lN2_1 _ h; omega)
          have b9_ := b9.ev e13 (fun h => by have := lN2_1 _ h; omega)
          have Uw_ := Uw.ev e13 (fun i hi h => by have := lUw_1 i hi; have := lN2_1 _ h; omega)
          have b10_ := b10.ev e13 (fun h => by have := lN2_1 _ h; omega)
          have U1_ := U1.ev e13 (fun i hi h => by have := lU1_1 i hi; have := lN2_1 _ h; omega)
          have b11_ := b11.ev e13 (fun h => by have := lN2_1 _ h; omega)
          have U2_ := U2.ev e13 (fun i hi h => by have := lU2_1 i hi; have := lN2_1 _ h; omega)
          have b12_ := b12.ev e13 (fun h => by have := lN2_1 _ h; omega)
          have N1_ := N1.ev e13 (fun i hi h => by have := lN1_3 i hi; have := lN2_1 _ h; omega)
          replace BL := BL_; clear BL_
          replace D0 := D0_; clear D0_
          replace D1 := D1_; clear D1_
          replace D2 := D2_; clear D2_
          replace b4 := b4_; clear b4_
          replace U0 := U0_; clear U0_
          replace b9 := b9_; clear b9_
          replace Uw := Uw_; clear Uw_
          replace b10 := b10_; clear b10_
          replace U1 := U1_; clear U1_
          replace b11 := b11_; clear b11_
          replace U2 := U2_; clear U2_
          replace b12 := b12_; clear b12_
          replace N1 := N1_; clear N1_
          replace N2 := rva3
          clear rva3 e13
          have lN2_2 := N2.ge
          simp only [List.set_cons_zero, List.set_cons_succ]
          refine sv 65 (v2) .of ?_
          simp only [List.set_cons_zero, List.set_cons_succ]
          refine xApp 66 (.tmp 64) (.tmp 65) 28 5 .u8 1 rfl Try.underlying28 (by kernel_rfl) w21.heap.size va3 ([] ++ (nn xs0)) (by kernel_rfl) N2 v2 (nn xs2) (by kernel_rfl) D2 ?va4_1 ?va4_2 ?va4_3 ?_
          case va4_1 => (simp only [List.length_append, List.length_nil, nn_len]; omega)
          case va4_2 => (simp only [List.length_append, List.length_nil, nn_len]; unfold maxLen; omega)
          case va4_3 => omega
          intro va4 w23 rva4 e14
          have ze14 := e14.size
          have BL_ := BL.ev e14 (fun i h => by have := lN2_2 _ h; omega)
          have D0_ := D0.ev e14 (fun i hi h => by have := hd0 i hi; have := lN2_2 _ h; omega)
          have D1_ := D1.ev e14 (fun i hi h => by have := hd1 i hi; have := lN2_2 _ h; omega)
          have D2_ := D2.ev e14 (fun i hi h => by have := hd2 i hi; have := lN2_2 _ h; omega)
          have b4_ := b4.ev e14 (fun h => by have := lN2_2 _ h; omega)
          have U0_ := U0.ev e14 (fun i hi h => by have := lU0_1 i hi; have := lN2_2 _ h; omega)
          have b9_ := b9.ev e14 (fun h => by have := lN2_2 _ h; omega)
          have Uw_ := Uw.ev e14 (fun i hi h => by have := lUw_1 i hi; have := lN2_2 _ h; omega)
          have b10_ := b10.ev e14 (fun h => by have := lN2_2 _ h; omega)
          have U1_ := U1.ev e14 (fun i hi h => by have := lU1_1 i hi; have := lN2_2 _ h; omega)
          have b11_ := b11.ev e14 (fun h => by have := lN2_2 _ h; omega)
          have U2_ := U2.ev e14 (fun i hi h => by have := lU2_1 i hi; have := lN2_2 _ h; omega)
          have b12_ := b12.ev e14 (fun h => by have := lN2_2 _ h; omega)
          have N1_ := N1.ev e14 (fun i hi h => by have := lN1_3 i hi; have := lN2_2 _ h; omega)
          replace BL := BL_; clear BL_
          replace D0 := D0_; clear D0_
          replace D1 := D1_; clear D1_
          replace D2 := D2_; clear D2_
          replace b4 := b4_; clear b4_
          replace U0 := U0_; clear U0_
          replace b9 := b9_; clear b9_
          replace Uw := Uw_; clear Uw_
          replace b10 := b10_; clear b10_
          replace U1 := U1_; clear U1_
          replace b11 := b11_; clear b11_
          replace U2 := U2_; clear U2_
          replace b12 := b12_; clear b12_
          replace N1 := N1_; clear N1_
          replace N2 := rva4
          clear rva4 e14
          have lN2_3 := N2.ge
          simp only [List.set_cons_zero, List.set_cons_succ]
          refine sv 15 (va4) .of ?_
          simp only [List.set_cons_zero, List.set_cons_succ]
          refine wpList_nil ?_
          refine hK20 _ _ ?_
          refine wp_seq_k fun K21 hK21 => ?_
          refine cPlain ?_
          refine sv 67 (.agg #[.int .u32 ((q0 : Nat) : Int), .int .u32 ((q1 : Nat) : Int), .int .u32 ((q2 : Nat) : Int), .int .u32 ((q3 : Nat) : Int), .int .u32 ((q4 : Nat) : Int), .int .u32 ((q5 : Nat) : Int), .int .u32 ((q6 : Nat) : Int), .int .u32 ((q7 : Nat) : Int), .slice A0 r0.length C0, .int .i64 L0]) (Val.cel 66 _ rfl 0 10 (by kernel_rfl) b9 _ Try.underlying66 rfl (by kernel_rfl) (by simp) [.int .u32 ((q0 : Nat) : Int), .int .u32 ((q1 : Nat) : Int), .int .u32 ((q2 : Nat) : Int), .int .u32 ((q3 : Nat) : Int), .int .u32 ((q4 : Nat) : Int), .int .u32 ((q5 : Nat) : Int), .int .u32 ((q6 : Nat) : Int), .int .u32 ((q7 : Nat) : Int), .slice A0 r0.length C0, .int .i64 L0] rfl) ?_
          simp only [List.set_cons_zero, List.set_cons_succ]
          refine sv 68 (.agg #[.int .u32 ((q0 : Nat) : Int), .int .u32 ((q1 : Nat) : Int), .int .u32 ((q2 : Nat) : Int), .int .u32 ((q3 : Nat) : Int), .int .u32 ((q4 : Nat) : Int), .int .u32 ((q5 : Nat) : Int), .int .u32 ((q6 : Nat) : Int), .int .u32 ((q7 : Nat) : Int), .slice Aw r0.length Cw, .int .i64 L0]) (Val.cel 66 _ rfl 0 10 (by kernel_rfl) b10 _ Try.underlying66 rfl (by kernel_rfl) (by simp) [.int .u32 ((q0 : Nat) : Int), .int .u32 ((q1 : Nat) : Int), .int .u32 ((q2 : Nat) : Int), .int .u32 ((q3 : Nat) : Int), .int .u32 ((q4 : Nat) : Int), .int .u32 ((q5 : Nat) : Int), .int .u32 ((q6 : Nat) : Int), .int .u32 ((q7 : Nat) : Int), .slice Aw r0.length Cw, .int .i64 L0] rfl) ?_
          simp only [List.set_cons_zero, List.set_cons_succ]
          refine xCall 69 32 #[.agg #[.int .u32 ((q0 : Nat) : Int), .int .u32 ((q1 : Nat) : Int), .int .u32 ((q2 : Nat) : Int), .int .u32 ((q3 : Nat) : Int), .int .u32 ((q4 : Nat) : Int), .int .u32 ((q5 : Nat) : Int), .int .u32 ((q6 : Nat) : Int), .int .u32 ((q7 : Nat) : Int), .slice A0 r0.length C0, .int .i64 L0], .agg #[.int .u32 ((q0 : Nat) : Int), .int .u32 ((q1 : Nat) : Int), .int .u32 ((q2 : Nat) : Int), .int .u32 ((q3 : Nat) : Int), .int .u32 ((q4 : Nat) : Int), .int .u32 ((q5 : Nat) : Int), .int .u32 ((q6 : Nat) : Int), .int .u32 ((q7 : Nat) : Int), .slice Aw r0.length Cw, .int .i64 L0]] (by kernel_rfl) ?_
          refine (sameH_any ([q0, q1, q2, q3, q4, q5, q6, q7], r0, L0) ([q0, q1, q2, q3, q4, q5, q6, q7], r0, L0) rfl rfl (.slice A0 r0.length C0) (.slice Aw r0.length Cw) w23 U0.sl Uw.sl hy0 hy0).mono ?_
          rintro en w24 ⟨he, hb1⟩
          rw [decide_eq_true rfl] at he
          subst he
          have e15 := belE0 hb1
          have ze15 := e15.size
          replace BL := BL.e0 e15
          replace D0 := D0.e0 e15
          replace D1 := D1.e0 e15
          replace D2 := D2.e0 e15
          replace b4 := b4.e0 e15
          replace U0 := U0.e0 e15
          replace b9 := b9.e0 e15
          replace Uw := Uw.e0 e15
          replace b10 := b10.e0 e15
          replace U1 := U1.e0 e15
          replace b11 := b11.e0 e15
          replace U2 := U2.e0 e15
          replace b12 := b12.e0 e15
          replace N1 := N1.e0 e15
          replace N2 := N2.e0 e15
          clear e15
          refine ⟨.bool true, rfl, ?_⟩
          simp only [List.set_cons_zero, List.set_cons_succ]
          refine sv 70 (.bool true) .of ?_
          simp only [List.set_cons_zero, List.set_cons_succ]
          refine sv 71 (.agg #[.int .u32 ((q0 : Nat) : Int), .int .u32 ((q1 : Nat) : Int), .int .u32 ((q2 : Nat) : Int), .int .u32 ((q3 : Nat) : Int), .int .u32 ((q4 : Nat) : Int), .int .u32 ((q5 : Nat) : Int), .int .u32 ((q6 : Nat) : Int), .int .u32 ((q7 : Nat) : Int), .slice A0 r0.length C0, .int .i64 L0]) (Val.cel 66 _ rfl 0 10 (by kernel_rfl) b9 _ Try.underlying66 rfl (by kernel_rfl) (by simp) [.int .u32 ((q0 : Nat) : Int), .int .u32 ((q1 : Nat) : Int), .int .u32 ((q2 : Nat) : Int), .int .u32 ((q3 : Nat) : Int), .int .u32 ((q4 : Nat) : Int), .int .u32 ((q5 : Nat) : Int), .int .u32 ((q6 : Nat) : Int), .int .u32 ((q7 : Nat) : Int), .slice A0 r0.length C0, .int .i64 L0] rfl) ?_
          simp only [List.set_cons_zero, List.set_cons_succ]
          refine sv 72 (v1) .of ?_
          simp only [List.set_cons_zero, List.set_cons_succ]
          refine xCall 73 31 #[.pointer (some ⟨w.heap.size, 0, none⟩), .agg #[.int .u32 ((q0 : Nat) : Int), .int .u32 ((q1 : Nat) : Int), .int .u32 ((q2 : Nat) : Int), .int .u32 ((q3 : Nat) : Int), .int .u32 ((q4 : Nat) : Int), .int .u32 ((q5 : Nat) : Int), .int .u32 ((q6 : Nat) : Int), .int .u32 ((q7 : Nat) : Int), .slice A0 r0.length C0, .int .i64 L0], v1] (by kernel_rfl) ?_
          refine (write_run w.heap.size tab (tab.take 8) xs0 xs1 [q0, q1, q2, q3, q4, q5, q6, q7] r0 [p0, p1, p2, p3, p4, p5, p6, p7] r1 L0 L1 hX0 hX1 h8 (by first | omega | simp) (by omega) (.slice A0 r0.length C0) _ ht w24 b4 U0.sl D1).mono ?_
          rintro en w25 ⟨u5, he5, hO5, hb1⟩
          obtain ⟨A5, C5, hu5⟩ := hO5.len
          rw [nn_len] at hu5
          rw [hu5] at he5 hO5
          subst he5
          have e16 := belE0 hb1
          have ze16 := e16.size
          replace BL := BL.e0 e16
          replace D0 := D0.e0 e16
          replace D1 := D1.e0 e16
          replace D2 := D2.e0 e16
          replace b4 := b4.e0 e16
          replace U0 := U0.e0 e16
          replace b9 := b9.e0 e16
          replace Uw := Uw.e0 e16
          replace b10 := b10.e0 e16
          replace U1 := U1.e0 e16
          replace b11 := b11.e0 e16
          replace U2 := U2.e0 e16
          replace b12 := b12.e0 e16
          replace N1 := N1.e0 e16
          replace N2 := N2.e0 e16
          clear e16
          have U5 : Own 5 .u8 w24.heap.size w25 (.slice A5 r1.length C5) (nn r1) := hO5
          have lU5_1 := U5.ge
          refine ⟨.agg #[.int .u32 ((p0 : Nat) : Int), .int .u32 ((p1 : Nat) : Int), .int .u32 ((p2 : Nat) : Int), .int .u32 ((p3 : Nat) : Int), .int .u32 ((p4 : Nat) : Int), .int .u32 ((p5 : Nat) : Int), .int .u32 ((p6 : Nat) : Int), .int .u32 ((p7 : Nat) : Int), .slice A5 r1.length C5, .int .i64 L1], rfl, ?_⟩
          simp only [List.set_cons_zero, List.set_cons_succ]
          refine xCall 74 33 #[.pointer (some ⟨w.heap.size, 0, none⟩), .agg #[.int .u32 ((p0 : Nat) : Int), .int .u32 ((p1 : Nat) : Int), .int .u32 ((p2 : Nat) : Int), .int .u32 ((p3 : Nat) : Int), .int .u32 ((p4 : Nat) : Int), .int .u32 ((p5 : Nat) : Int), .int .u32 ((p6 : Nat) : Int), .int .u32 ((p7 : Nat) : Int), .slice A5 r1.length C5, .int .i64 L1]] (by kernel_rfl) ?_
          refine (sum_any w.heap.size tab ([p0, p1, p2, p3, p4, p5, p6, p7], r1, L1) rfl (.slice A5 r1.length C5) ht w25 b4 U5.sl).mono ?_
          rintro en w26 ⟨rfl, hb1⟩
          have e17 := belE0 hb1
          have ze17 := e17.size
          replace BL := BL.e0 e17
          replace D0 := D0.e0 e17
          replace D1 := D1.e0 e17
          replace D2 := D2.e0 e17
          replace b4 := b4.e0 e17
          replace U0 := U0.e0 e17
          replace b9 := b9.e0 e17
          replace Uw := Uw.e0 e17
          replace b10 := b10.e0 e17
          replace U1 := U1.e0 e17
          replace b11 := b11.e0 e17
          replace U2 := U2.e0 e17
          replace b12 := b12.e0 e17
          replace N1 := N1.e0 e17
          replace N2 := N2.e0 e17
          replace U5 := U5.e0 e17
          clear e17
          refine ⟨.agg (cellsOf .u8 (nn (sumN tab ([p0, p1, p2, p3, p4, p5, p6, p7], r1, L1)))), rfl, ?_⟩
          simp only [List.set_cons_zero, List.set_cons_succ]
          refine sv 75 (va2) .of ?_
          simp only [List.set_cons_zero, List.set_cons_succ]
          refine xCall 76 35 #[.pointer (some ⟨w.heap.size, 0, none⟩), va2] (by kernel_rfl) ?_
          have hxN1 := N1.sl.cast (show _ = nn (xs0 ++ xs1) by simp [nn_app])
          refine (of_run w.heap.size tab (xs0 ++ xs1) [p0, p1, p2, p3, p4, p5, p6, p7] r1 L1 hX1 _ ht w26 b4 hxN1 (by rw [List.length_append]; omega)).mono ?_
          rintro en w27 ⟨rfl, hb1⟩
          have e18 := belE0 hb1
          have ze18 := e18.size
          replace BL := BL.e0 e18
          replace D0 := D0.e0 e18
          replace D1 := D1.e0 e18
          replace D2 := D2.e0 e18
          replace b4 := b4.e0 e18
          replace U0 := U0.e0 e18
          replace b9 := b9.e0 e18
          replace Uw := Uw.e0 e18
          replace b10 := b10.e0 e18
          replace U1 := U1.e0 e18
          replace b11 := b11.e0 e18
          replace U2 := U2.e0 e18
          replace b12 := b12.e0 e18
          replace N1 := N1.e0 e18
          replace N2 := N2.e0 e18
          replace U5 := U5.e0 e18
          clear e18
          refine ⟨.agg (cellsOf .u8 (nn (sumN tab ([p0, p1, p2, p3, p4, p5, p6, p7], r1, L1)))), rfl, ?_⟩
          simp only [List.set_cons_zero, List.set_cons_succ]
          refine sv 77 (.bool true) (Val.eqA .eql 23 _ (.tmp 74) (.tmp 76) rfl Try.underlying23 Try.underlying5 (by kernel_rfl) (by kernel_rfl) (nn (sumN tab ([p0, p1, p2, p3, p4, p5, p6, p7], r1, L1))) (nn (sumN tab ([p0, p1, p2, p3, p4, p5, p6, p7], r1, L1))) (by kernel_rfl) (by kernel_rfl) (by rw [nn_len]; exact sumN_len _ _) (by rw [nn_len]; exact sumN_len _ _) (.inl rfl) true (by simp)) ?_
          simp only [List.set_cons_zero, List.set_cons_succ]
          refine sv 78 (.bool true) .of ?_
          simp only [List.set_cons_zero, List.set_cons_succ]
          refine sv 79 (.bool true) .of ?_
          simp only [List.set_cons_zero, List.set_cons_succ]
          refine sv 80 (.agg #[.int .u32 ((z0 : Nat) : Int), .int .u32 ((z1 : Nat) : Int), .int .u32 ((z2 : Nat) : Int), .int .u32 ((z3 : Nat) : Int), .int .u32 ((z4 : Nat) : Int), .int .u32 ((z5 : Nat) : Int), .int .u32 ((z6 : Nat) : Int), .int .u32 ((z7 : Nat) : Int), .slice A2 r2.length C2, .int .i64 L2]) (Val.cel 66 _ rfl 0 10 (by kernel_rfl) b12 _ Try.underlying66 rfl (by kernel_rfl) (by simp) [.int .u32 ((z0 : Nat) : Int), .int .u32 ((z1 : Nat) : Int), .int .u32 ((z2 : Nat) : Int), .int .u32 ((z3 : Nat) : Int), .int .u32 ((z4 : Nat) : Int), .int .u32 ((z5 : Nat) : Int), .int .u32 ((z6 : Nat) : Int), .int .u32 ((z7 : Nat) : Int), .slice A2 r2.length C2, .int .i64 L2] rfl) ?_
          simp only [List.set_cons_zero, List.set_cons_succ]
          refine xCall 81 33 #[.pointer (some ⟨w.heap.size, 0, none⟩), .agg #[.int .u32 ((z0 : Nat) : Int), .int .u32 ((z1 : Nat) : Int), .int .u32 ((z2 : Nat) : Int), .int .u32 ((z3 : Nat) : Int), .int .u32 ((z4 : Nat) : Int), .int .u32 ((z5 : Nat) : Int), .int .u32 ((z6 : Nat) : Int), .int .u32 ((z7 : Nat) : Int), .slice A2 r2.length C2, .int .i64 L2]] (by kernel_rfl) ?_
          refine (sum_any w.heap.size tab ([z0, z1, z2, z3, z4, z5, z6, z7], r2, L2) rfl (.slice A2 r2.length C2) ht w27 b4 U2.sl).mono ?_
          rintro en w28 ⟨rfl, hb1⟩
          have e19 := belE0 hb1
          have ze19 := e19.size
          replace BL := BL.e0 e19
          replace D0 := D0.e0 e19
          replace D1 := D1.e0 e19
          replace D2 := D2.e0 e19
          replace b4 := b4.e0 e19
          replace U0 := U0.e0 e19
          replace b9 := b9.e0 e19
          replace Uw := Uw.e0 e19
          replace b10 := b10.e0 e19
          replace U1 := U1.e0 e19
          replace b11 := b11.e0 e19
          replace U2 := U2.e0 e19
          replace b12 := b12.e0 e19
          replace N1 := N1.e0 e19
          replace N2 := N2.e0 e19
          replace U5 := U5.e0 e19
          clear e19
          refine ⟨.agg (cellsOf .u8 (nn (sumN tab ([z0, z1, z2, z3, z4, z5, z6, z7], r2, L2)))), rfl, ?_⟩
          simp only [List.set_cons_zero, List.set_cons_succ]
          refine sv 82 (va4) .of ?_
          simp only [List.set_cons_zero, List.set_cons_succ]
          refine xCall 83 35 #[.pointer (some ⟨w.heap.size, 0, none⟩), va4] (by kernel_rfl) ?_
          have hxN2 := N2.sl.cast (show _ = nn (xs0 ++ xs2) by simp [nn_app])
          refine (of_run w.heap.size tab (xs0 ++ xs2) [z0, z1, z2, z3, z4, z5, z6, z7] r2 L2 hX2 _ ht w28 b4 hxN2 (by rw [List.length_append]; omega)).mono ?_
          rintro en w29 ⟨rfl, hb1⟩
          have e20 := belE0 hb1
          have ze20 := e20.size
          replace BL := BL.e0 e20
          replace D0 := D0.e0 e20
          replace D1 := D1.e0 e20
          replace D2 := D2.e0 e20
          replace b4 := b4.e0 e20
          replace U0 := U0.e0 e20
          replace b9 := b9.e0 e20
          replace Uw := Uw.e0 e20
          replace b10 := b10.e0 e20
          replace U1 := U1.e0 e20
          replace b11 := b11.e0 e20
          replace U2 := U2.e0 e20
          replace b12 := b12.e0 e20
          replace N1 := N1.e0 e20
          replace N2 := N2.e0 e20
          replace U5 := U5.e0 e20
          clear e20
          refine ⟨.agg (cellsOf .u8 (nn (sumN tab ([z0, z1, z2, z3, z4, z5, z6, z7], r2, L2)))), rfl, ?_⟩
          simp only [List.set_cons_zero, List.set_cons_succ]
          refine sv 84 (.bool true) (Val.eqA .eql 23 _ (.tmp 81) (.tmp 83) rfl Try.underlying23 Try.underlying5 (by kernel_rfl) (by kernel_rfl) (nn (sumN tab ([z0, z1, z2, z3, z4, z5, z6, z7], r2, L2))) (nn (sumN tab ([z0, z1, z2, z3, z4, z5, z6, z7], r2, L2))) (by kernel_rfl) (by kernel_rfl) (by rw [nn_len]; exact sumN_len _ _) (by rw [nn_len]; exact sumN_len _ _) (.inl rfl) true (by simp)) ?_
          simp only [List.set_cons_zero, List.set_cons_succ]
          refine sv 85 (.bool true) .of ?_
          simp only [List.set_cons_zero, List.set_cons_succ]
          refine sv 86 (.bool true) .of ?_
          simp only [List.set_cons_zero, List.set_cons_succ]
          refine xCall 87 38 #[] (by kernel_rfl) ?_
          refine (awake02_any w29).mono ?_
          rintro en w30 ⟨rfl, hb1⟩
          have e21 := belE0 hb1
          have ze21 := e21.size
          replace BL := BL.e0 e21
          replace D0 := D0.e0 e21
          replace D1 := D1.e0 e21
          replace D2 := D2.e0 e21
          replace b4 := b4.e0 e21
          replace U0 := U0.e0 e21
          replace b9 := b9.e0 e21
          replace Uw := Uw.e0 e21
          replace b10 := b10.e0 e21
          replace U1 := U1.e0 e21
          replace b11 := b11.e0 e21
          replace U2 := U2.e0 e21
          replace b12 := b12.e0 e21
          replace N1 := N1.e0 e21
          replace N2 := N2.e0 e21
          replace U5 := U5.e0 e21
          clear e21
          refine ⟨.bool true, rfl, ?_⟩
          simp only [List.set_cons_zero, List.set_cons_succ]
          refine sv 88 (.bool true) .of ?_
          simp only [List.set_cons_zero, List.set_cons_succ]
          refine sv 8 (.bool true) .of ?_
          simp only [List.set_cons_zero, List.set_cons_succ]
          refine wpList_nil ?_
          refine hK21 _ _ ?_
          refine wp_ret ?_
          (try simp only [Exit.then, Exit.inBlock])
          refine bodyPost_ret (v := .bool true) rT rfl ?_
          exact ⟨rfl, BL.b⟩

end Go.Proofs.Ytoeaekamoejhcaa
