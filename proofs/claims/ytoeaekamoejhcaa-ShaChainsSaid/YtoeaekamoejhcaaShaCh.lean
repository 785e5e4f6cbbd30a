/-
  ShaChains: the walk.
-/
import Derived.Test.YtoeaekamoejhcaaShaAw
import Derived.Test.YtoeaekamoejhcaaEqA
namespace Go.Proofs.Ytoeaekamoejhcaa
open Go.RowKit
set_option linter.unusedVariables false
set_option linter.unusedSimpArgs false
set_option maxRecDepth 100000
attribute [local irreducible] wpList Code.wp wpAnyZ

theorem rightN_0 : rightN 0 0 = true := by decide
theorem rightN_64 : rightN 0 64 = true := by decide
theorem goB_one (tab s b : List Nat) (hb : b.length = 64) : goB tab s b 1 = blockN tab s b := by
  simp only [goB, Nat.mul_zero, List.drop_zero]
  rw [List.take_of_length_le (by omega)]
theorem write_block (tab s b : List Nat) (n : Nat) (hb : b.length = 64) (hn : n ≤ 1000) (hm : n % 64 = 0) : writeN tab (s, [], (n : Int)) b = (blockN tab s b, [], ((n + 64 : Nat) : Int)) := by
  have hr : rightN ([] : List Nat).length (n : Int) = true := rightN_iff.2 ⟨by omega, by omega, by simp; omega⟩
  have e1 : b.length / 64 = 1 := by rw [hb]
  have e2 : (n : Int) + (b.length : Int) = ((n + 64 : Nat) : Int) := by rw [hb]; omega
  rw [writeN_right tab _ b hr]
  simp only [List.nil_append]
  rw [e1, goB_one tab s b hb, e2, List.drop_of_length_le (by omega)]

set_option maxHeartbeats 4000000 in
theorem shaChains_walk (tab xa xb ns : List Nat) (v : Value) (w : World) (ht : tab.length = 72) (hxa : xa.length = 64) (hxb : xb.length = 64) (D : SL .u8 w v (nn ns)) :
    Calls Try.prog 13 #[.agg (cellsOf .u32 (nn tab)), .agg (cellsOf .u8 (nn xa)), .agg (cellsOf .u8 (nn xb)), v] w fun e w' => e = .returned (.bool true) ∧ Below w.heap.size w w' := by
  have BL := Bl.refl w
  have hdl := D.lt
  have hln := nn_len ns
  have h0 : (newN tab).1.length = 8 := by unfold newN; rw [List.length_take]; omega
  have hs1 : (blockN tab (tab.take 8) xa).length = 8 := blockN_len _ _ _ h0
  have hH1 : writeN tab (newN tab) xa = (blockN tab (tab.take 8) xa, [], 64) := write_block tab _ xa 0 hxa (by omega) (by omega)
  have hH2 : writeN tab (blockN tab (tab.take 8) xa, [], 64) xb = (blockN tab (blockN tab (tab.take 8) xa) xb, [], 128) := write_block tab _ xb 64 hxb (by omega) (by omega)
  obtain ⟨q0, q1, q2, q3, q4, q5, q6, q7, hq⟩ := list8 (blockN tab (blockN tab (tab.take 8) xa) xb) (blockN_len _ _ _ hs1)
  rw [hq] at hH2
  obtain ⟨X, hX⟩ : ∃ X, writeN tab ([q0, q1, q2, q3, q4, q5, q6, q7], [], 128) ns = X := ⟨_, rfl⟩
  have hX8 : X.1.length = 8 := by rw [← hX]; exact writeN_len _ _ _ rfl
  obtain ⟨p0, p1, p2, p3, p4, p5, p6, p7, hp⟩ := list8 X.1 hX8
  have hsl := sumN_len tab X
  go_enter Try.func13, Try.ntmps13
  refine wp_seq_k fun K1 hK1 => ?_
  refine cPlain ?_
  refine xBox 4 61 _ ((nn tab).map (Value.int .u32)) rfl (cells_toList _ _) ?_
  intro w1 n1
  have zn1 := n1.z
  have b4 := n1.c
  replace b4 : Blk .u32 w1 w.heap.size 61 (nn tab) := b4
  replace BL := BL.e0 n1.e
  replace D := D.e0 n1.e
  simp only [List.set_cons_zero, List.set_cons_succ]
  refine xBox 5 74 _ ((nn xa).map (Value.int .u8)) rfl (cells_toList _ _) ?_
  intro w2 n2
  have zn2 := n2.z
  have b5 := n2.c
  replace b5 : Blk .u8 w2 w1.heap.size 74 (nn xa) := b5
  replace BL := BL.e0 n2.e
  replace D := D.e0 n2.e
  replace b4 := b4.e0 n2.e
  simp only [List.set_cons_zero, List.set_cons_succ]
  refine xBox 6 74 _ ((nn xb).map (Value.int .u8)) rfl (cells_toList _ _) ?_
  intro w3 n3
  have zn3 := n3.z
  have b6 := n3.c
  replace b6 : Blk .u8 w3 w2.heap.size 74 (nn xb) := b6
  replace BL := BL.e0 n3.e
  replace D := D.e0 n3.e
  replace b4 := b4.e0 n3.e
  replace b5 := b5.e0 n3.e
  simp only [List.set_cons_zero, List.set_cons_succ]
  refine sv 8 (.bool false) .of ?_
  simp only [List.set_cons_zero, List.set_cons_succ]
  refine wpList_nil ?_
  refine hK1 _ _ ?_
  refine wp_seq_k fun K2 hK2 => ?_
  refine wp_seq_k fun K3 hK3 => ?_
  refine cPlain ?_
  refine sv 13 (v) .of ?_
  simp only [List.set_cons_zero, List.set_cons_succ]
  refine sv 14 (.int .i64 ((ns.length : Nat) : Int)) (Val.lenS (.tmp 13) 28 rfl (by kernel_rfl) D ns.length (nn_len ns) Try.underlying28) ?_
  simp only [List.set_cons_zero, List.set_cons_succ]
  refine sv 15 (.bool (decide (200 < ((ns.length : Nat) : Int)))) (Val.cmp .gtr 3 _ (.tmp 14) _ rfl .i64 ((ns.length : Nat) : Int) 200 (by kernel_rfl) (by kernel_rfl) (by simp) _ rfl) ?_
  simp only [List.set_cons_zero, List.set_cons_succ]
  refine wpList_nil ?_
  refine hK3 _ _ ?_
  refine cDec (200 < ((ns.length : Nat) : Int)) (by kernel_rfl) (fun c15 => ?_) (fun c15 => ?_)
  · skip
    refine wp_seq_k fun K4 hK4 => ?_
    refine cPlain ?_
    refine xCall 16 38 #[] (by kernel_rfl) ?_
    refine (awake02_any w3).mono ?_
    rintro en w4 ⟨rfl, hb1⟩
    have e1 := belE0 hb1
    have ze1 := e1.size
    replace BL := BL.e0 e1
    replace D := D.e0 e1
    replace b4 := b4.e0 e1
    replace b5 := b5.e0 e1
    replace b6 := b6.e0 e1
    clear e1
    refine ⟨.bool true, rfl, ?_⟩
    simp only [List.set_cons_zero, List.set_cons_succ]
    refine sv 8 (.bool true) .of ?_
    simp only [List.set_cons_zero, List.set_cons_succ]
    refine wpList_nil ?_
    refine hK4 _ _ ?_
    refine wp_ret ?_
    (try simp only [Exit.then, Exit.inBlock])
    refine bodyPost_ret (v := .bool true) rT rfl ?_
    exact ⟨rfl, BL.b⟩
  · skip
    refine wp_skip ?_
    refine hK2 _ _ ?_
    refine cCut (fun A_ w_ => ∃ (g9 : Nat) (A2 : Option Addr) (C2 : Nat), ((∃ s1 : Nat → Value, A_ = ⟨[.agg (cellsOf .u32 (nn tab)), .agg (cellsOf .u8 (nn xa)), .agg (cellsOf .u8 (nn xb)), v, .pointer (some ⟨w.heap.size, 0, none⟩), .pointer (some ⟨w1.heap.size, 0, none⟩), .pointer (some ⟨w2.heap.size, 0, none⟩), undef, .bool false, .pointer (some ⟨g9, 0, none⟩), undef, undef, undef, v, .int .i64 ((ns.length : Nat) : Int), .bool (decide (200 < ((ns.length : Nat) : Int))), undef, (s1 17), (s1 18), (s1 19), (s1 20), (s1 21), undef, undef, undef, undef, undef, undef, undef, undef, undef, undef, undef, undef, undef, undef, undef, undef, undef, undef, undef, undef, undef, undef, undef, undef, undef, undef, undef, undef, undef, undef, undef, undef, undef, undef, undef, undef, undef, undef].toArray, []⟩) ∧ Bl w.heap.size w w_ ∧ SL .u8 w_ v (nn ns) ∧ Blk .u32 w_ w.heap.size 61 (nn tab) ∧ Blk .u8 w_ w1.heap.size 74 (nn xa) ∧ Blk .u8 w_ w2.heap.size 74 (nn xb) ∧ Cel w_ g9 66 [.int .u32 ((q0 : Nat) : Int), .int .u32 ((q1 : Nat) : Int), .int .u32 ((q2 : Nat) : Int), .int .u32 ((q3 : Nat) : Int), .int .u32 ((q4 : Nat) : Int), .int .u32 ((q5 : Nat) : Int), .int .u32 ((q6 : Nat) : Int), .int .u32 ((q7 : Nat) : Int), .slice A2 0 C2, .int .i64 128] ∧ SL .u8 w_ (.slice A2 0 C2) (nn []) ∧ w3.heap.size ≤ w_.heap.size)) ?_ ?_
    · skip
      have e2 := drew_e0 w3
      refine zg (fun w_ => Bl w.heap.size w w_ ∧ SL .u8 w_ v (nn ns) ∧ Blk .u32 w_ w.heap.size 61 (nn tab) ∧ Blk .u8 w_ w1.heap.size 74 (nn xa) ∧ Blk .u8 w_ w2.heap.size 74 (nn xb) ∧ w3.heap.size ≤ w_.heap.size) (fun w_ => Bl w.heap.size w w_ ∧ SL .u8 w_ v (nn ns) ∧ Blk .u32 w_ w.heap.size 61 (nn tab) ∧ Blk .u8 w_ w1.heap.size 74 (nn xa) ∧ Blk .u8 w_ w2.heap.size 74 (nn xb) ∧ w3.heap.size ≤ w_.heap.size) 6 7 ⟨BL.e0 e2, D.e0 e2, b4.e0 e2, b5.e0 e2, b6.e0 e2, Nat.le_refl _⟩ ?_
      clear BL D b4 b5 b6
      clear e2
      intro w5
      rintro ⟨BL, D, b4, b5, b6, z1⟩
      refine zv 1 18 (.slice (some ⟨w1.heap.size, 0, none⟩) 64 64) (fun _ _ => .of) ⟨BL, D, b4, b5, b6, by omega⟩ ?_
      simp only [List.set_cons_zero, List.set_cons_succ]
      refine zv 3 20 (.slice (some ⟨w2.heap.size, 0, none⟩) 64 64) (fun _ _ => .of) ⟨BL, D, b4, b5, b6, by omega⟩ ?_
      simp only [List.set_cons_zero, List.set_cons_succ]
      refine zo2 0 5 rfl rfl ?_ ?_
      · skip
        refine xCall 17 34 #[.pointer (some ⟨w.heap.size, 0, none⟩)] (by kernel_rfl) ?_
        refine (new_any w.heap.size tab ht w5 b4).mono ?_
        rintro en w6 ⟨rfl, hb1⟩
        have e3 := belE0 hb1
        have ze3 := e3.size
        replace BL := BL.e0 e3
        replace D := D.e0 e3
        replace b4 := b4.e0 e3
        replace b5 := b5.e0 e3
        replace b6 := b6.e0 e3
        clear e3
        refine ⟨hashV (newN tab).1 (.slice none 0 0) (newN tab).2.2, rfl, ?_⟩
        refine ze 0 ⟨BL, D, b4, b5, b6, by omega⟩ ?_
        simp only [List.set_cons_zero, List.set_cons_succ]
        refine zo2 2 5 rfl rfl ?_ ?_
        · skip
          refine xCall 19 31 #[.pointer (some ⟨w.heap.size, 0, none⟩), hashV (newN tab).1 (.slice none 0 0) (newN tab).2.2, .slice (some ⟨w1.heap.size, 0, none⟩) 64 64] (by kernel_rfl) ?_
          refine (write_any w.heap.size tab (newN tab) xa h0 (.slice none 0 0) _ ht w6 b4 (SL.nil _ _) (SL.ofBlk b5 (by rw [nn_len]; exact hxa) (by unfold maxLen; omega)) (by show 0 + _ ≤ _; omega)).mono ?_
          rintro en w7 ⟨u1, he1, hU1, hb1, hO1⟩
          have hO1 := hO1 rightN_0
          rw [hH1] at he1 hO1
          subst he1
          have e4 := belE0 hb1
          have ze4 := e4.size
          replace BL := BL.e0 e4
          replace D := D.e0 e4
          replace b4 := b4.e0 e4
          replace b5 := b5.e0 e4
          replace b6 := b6.e0 e4
          clear e4
          have U1 : Own 5 .u8 w6.heap.size w7 u1 (nn []) := hO1
          have lU1_1 := U1.ge
          refine ⟨hashV (blockN tab (tab.take 8) xa) u1 64, rfl, ?_⟩
          refine ze 2 ⟨BL, D, b4, b5, b6, by omega⟩ ?_
          simp only [List.set_cons_zero, List.set_cons_succ]
          refine zo2 4 5 rfl rfl ?_ ?_
          · skip
            refine xCall 21 31 #[.pointer (some ⟨w.heap.size, 0, none⟩), hashV (blockN tab (tab.take 8) xa) u1 64, .slice (some ⟨w2.heap.size, 0, none⟩) 64 64] (by kernel_rfl) ?_
            refine (write_any w.heap.size tab (blockN tab (tab.take 8) xa, [], 64) xb hs1 u1 _ ht w7 b4 U1.sl (SL.ofBlk b6 (by rw [nn_len]; exact hxb) (by unfold maxLen; omega)) (by show 0 + _ ≤ _; omega)).mono ?_
            rintro en w8 ⟨u2, he2, hU2, hb1, hO2⟩
            have hO2 := hO2 rightN_64
            rw [hH2] at he2 hO2
            obtain ⟨A2, C2, hu2⟩ := hO2.len
            rw [hu2] at he2 hO2
            subst he2
            have e5 := belE0 hb1
            have ze5 := e5.size
            replace BL := BL.e0 e5
            replace D := D.e0 e5
            replace b4 := b4.e0 e5
            replace b5 := b5.e0 e5
            replace b6 := b6.e0 e5
            replace U1 := U1.e0 e5
            clear e5
            have U2 : Own 5 .u8 w7.heap.size w8 (.slice A2 0 C2) (nn []) := hO2
            have lU2_1 := U2.ge
            refine ⟨.agg #[.int .u32 ((q0 : Nat) : Int), .int .u32 ((q1 : Nat) : Int), .int .u32 ((q2 : Nat) : Int), .int .u32 ((q3 : Nat) : Int), .int .u32 ((q4 : Nat) : Int), .int .u32 ((q5 : Nat) : Int), .int .u32 ((q6 : Nat) : Int), .int .u32 ((q7 : Nat) : Int), .slice A2 0 C2, .int .i64 128], rfl, ?_⟩
            refine ze 4 ⟨BL, D, b4, b5, b6, by omega⟩ ?_
            simp only [List.set_cons_zero, List.set_cons_succ]
            refine zo1 5 rfl ?_
            refine xAlloc 9 66 [.int .u32 0, .int .u32 0, .int .u32 0, .int .u32 0, .int .u32 0, .int .u32 0, .int .u32 0, .int .u32 0, .slice none 0 0, .int .i64 0] rfl (by kernel_rfl) ?_
            intro w9 n4
            have zn4 := n4.z
            have b9 := n4.c
            replace BL := BL.e0 n4.e
            replace D := D.e0 n4.e
            replace b4 := b4.e0 n4.e
            replace b5 := b5.e0 n4.e
            replace b6 := b6.e0 n4.e
            replace U1 := U1.e0 n4.e
            replace U2 := U2.e0 n4.e
            refine ze 5 ⟨BL, D, b4, b5, b6, by omega⟩ ?_
            simp only [List.set_cons_zero, List.set_cons_succ]
            refine zo1 6 rfl ?_
            refine xStoreR 66 (.tmp 9) (.tmp 21) rfl w8.heap.size 66 [.int .u32 0, .int .u32 0, .int .u32 0, .int .u32 0, .int .u32 0, .int .u32 0, .int .u32 0, .int .u32 0, .slice none 0 0, .int .i64 0] 0 [.int .u32 ((q0 : Nat) : Int), .int .u32 ((q1 : Nat) : Int), .int .u32 ((q2 : Nat) : Int), .int .u32 ((q3 : Nat) : Int), .int .u32 ((q4 : Nat) : Int), .int .u32 ((q5 : Nat) : Int), .int .u32 ((q6 : Nat) : Int), .int .u32 ((q7 : Nat) : Int), .slice A2 0 C2, .int .i64 128] (by kernel_rfl) (by kernel_rfl) b9 (by kernel_rfl) (by simp) rfl [.int .u32 ((q0 : Nat) : Int), .int .u32 ((q1 : Nat) : Int), .int .u32 ((q2 : Nat) : Int), .int .u32 ((q3 : Nat) : Int), .int .u32 ((q4 : Nat) : Int), .int .u32 ((q5 : Nat) : Int), .int .u32 ((q6 : Nat) : Int), .int .u32 ((q7 : Nat) : Int), .slice A2 0 C2, .int .i64 128] rfl ?_
            intro w10 t1
            have zt1 := t1.z
            have BL_ := BL.ev t1.e (fun i h => show w.heap.size ≤ i by have h : i = w8.heap.size := h; omega)
            have D_ := D.ev t1.e (fun i hi => show ¬ (i = w8.heap.size) by have := hdl i hi; omega)
            have b4_ := b4.ev t1.e (show ¬ (w.heap.size = w8.heap.size) by omega)
            have b5_ := b5.ev t1.e (show ¬ (w1.heap.size = w8.heap.size) by omega)
            have b6_ := b6.ev t1.e (show ¬ (w2.heap.size = w8.heap.size) by omega)
            have U1_ := U1.ev t1.e (fun i hi => show ¬ (i = w8.heap.size) by have := lU1_1 i hi; omega)
            have U2_ := U2.ev t1.e (fun i hi => show ¬ (i = w8.heap.size) by have := lU2_1 i hi; omega)
            replace BL := BL_; clear BL_
            replace D := D_; clear D_
            replace b4 := b4_; clear b4_
            replace b5 := b5_; clear b5_
            replace b6 := b6_; clear b6_
            replace U1 := U1_; clear U1_
            replace U2 := U2_; clear U2_
            replace b9 : Cel w10 w8.heap.size 66 [.int .u32 ((q0 : Nat) : Int), .int .u32 ((q1 : Nat) : Int), .int .u32 ((q2 : Nat) : Int), .int .u32 ((q3 : Nat) : Int), .int .u32 ((q4 : Nat) : Int), .int .u32 ((q5 : Nat) : Int), .int .u32 ((q6 : Nat) : Int), .int .u32 ((q7 : Nat) : Int), .slice A2 0 C2, .int .i64 128] := t1.c
            clear t1
            refine zz 6 ?_
            refine zd (by kernel_rfl) ?_ _
            exact ⟨w8.heap.size, A2, C2, cutE, BL, D, b4, b5, b6, b9, U2.sl, by omega⟩
          · skip
            refine xAlloc 9 66 [.int .u32 0, .int .u32 0, .int .u32 0, .int .u32 0, .int .u32 0, .int .u32 0, .int .u32 0, .int .u32 0, .slice none 0 0, .int .i64 0] rfl (by kernel_rfl) ?_
            intro w11 n5
            have zn5 := n5.z
            have b9 := n5.c
            replace BL := BL.e0 n5.e
            replace D := D.e0 n5.e
            replace b4 := b4.e0 n5.e
            replace b5 := b5.e0 n5.e
            replace b6 := b6.e0 n5.e
            replace U1 := U1.e0 n5.e
            refine ze 5 ⟨BL, D, b4, b5, b6, by omega⟩ ?_
            simp only [List.set_cons_zero, List.set_cons_succ]
            refine zo1 4 rfl ?_
            refine xCall 21 31 #[.pointer (some ⟨w.heap.size, 0, none⟩), hashV (blockN tab (tab.take 8) xa) u1 64, .slice (some ⟨w2.heap.size, 0, none⟩) 64 64] (by kernel_rfl) ?_
            refine (write_any w.heap.size tab (blockN tab (tab.take 8) xa, [], 64) xb hs1 u1 _ ht w11 b4 U1.sl (SL.ofBlk b6 (by rw [nn_len]; exact hxb) (by unfold maxLen; omega)) (by show 0 + _ ≤ _; omega)).mono ?_
            rintro en w12 ⟨u2, he2, hU2, hb1, hO2⟩
            have hO2 := hO2 rightN_64
            rw [hH2] at he2 hO2
            obtain ⟨A2, C2, hu2⟩ := hO2.len
            rw [hu2] at he2 hO2
            subst he2
            have e6 := belE0 hb1
            have ze6 := e6.size
            replace BL := BL.e0 e6
            replace D := D.e0 e6
            replace b4 := b4.e0 e6
            replace b5 := b5.e0 e6
            replace b6 := b6.e0 e6
            replace U1 := U1.e0 e6
            replace b9 := b9.e0 e6
            clear e6
            have U2 : Own 5 .u8 w11.heap.size w12 (.slice A2 0 C2) (nn []) := hO2
            have lU2_2 := U2.ge
            refine ⟨.agg #[.int .u32 ((q0 : Nat) : Int), .int .u32 ((q1 : Nat) : Int), .int .u32 ((q2 : Nat) : Int), .int .u32 ((q3 : Nat) : Int), .int .u32 ((q4 : Nat) : Int), .int .u32 ((q5 : Nat) : Int), .int .u32 ((q6 : Nat) : Int), .int .u32 ((q7 : Nat) : Int), .slice A2 0 C2, .int .i64 128], rfl, ?_⟩
            refine ze 4 ⟨BL, D, b4, b5, b6, by omega⟩ ?_
            simp only [List.set_cons_zero, List.set_cons_succ]
            refine zo1 6 rfl ?_
            refine xStoreR 66 (.tmp 9) (.tmp 21) rfl w7.heap.size 66 [.int .u32 0, .int .u32 0, .int .u32 0, .int .u32 0, .int .u32 0, .int .u32 0, .int .u32 0, .int .u32 0, .slice none 0 0, .int .i64 0] 0 [.int .u32 ((q0 : Nat) : Int), .int .u32 ((q1 : Nat) : Int), .int .u32 ((q2 : Nat) : Int), .int .u32 ((q3 : Nat) : Int), .int .u32 ((q4 : Nat) : Int), .int .u32 ((q5 : Nat) : Int), .int .u32 ((q6 : Nat) : Int), .int .u32 ((q7 : Nat) : Int), .slice A2 0 C2, .int .i64 128] (by kernel_rfl) (by kernel_rfl) b9 (by kernel_rfl) (by simp) rfl [.int .u32 ((q0 : Nat) : Int), .int .u32 ((q1 : Nat) : Int), .int .u32 ((q2 : Nat) : Int), .int .u32 ((q3 : Nat) : Int), .int .u32 ((q4 : Nat) : Int), .int .u32 ((q5 : Nat) : Int), .int .u32 ((q6 : Nat) : Int), .int .u32 ((q7 : Nat) : Int), .slice A2 0 C2, .int .i64 128] rfl ?_
            intro w13 t2
            have zt2 := t2.z
            have BL_ := BL.ev t2.e (fun i h => show w.heap.size ≤ i by have h : i = w7.heap.size := h; omega)
            have D_ := D.ev t2.e (fun i hi => show ¬ (i = w7.heap.size) by have := hdl i hi; omega)
            have b4_ := b4.ev t2.e (show ¬ (w.heap.size = w7.heap.size) by omega)
            have b5_ := b5.ev t2.e (show ¬ (w1.heap.size = w7.heap.size) by omega)
            have b6_ := b6.ev t2.e (show ¬ (w2.heap.size = w7.heap.size) by omega)
            have U1_ := U1.ev t2.e (fun i hi => show ¬ (i = w7.heap.size) by have := lU1_1 i hi; omega)
            have U2_ := U2.ev t2.e (fun i hi => show ¬ (i = w7.heap.size) by have := lU2_2 i hi; omega)
            replace BL := BL_; clear BL_
            replace D := D_; clear D_
            replace b4 := b4_; clear b4_
            replace b5 := b5_; clear b5_
            replace b6 := b6_; clear b6_
            replace U1 := U1_; clear U1_
            replace U2 := U2_; clear U2_
            replace b9 : Cel w13 w7.heap.size 66 [.int .u32 ((q0 : Nat) : Int), .int .u32 ((q1 : Nat) : Int), .int .u32 ((q2 : Nat) : Int), .int .u32 ((q3 : Nat) : Int), .int .u32 ((q4 : Nat) : Int), .int .u32 ((q5 : Nat) : Int), .int .u32 ((q6 : Nat) : Int), .int .u32 ((q7 : Nat) : Int), .slice A2 0 C2, .int .i64 128] := t2.c
            clear t2
            refine zz 6 ?_
            refine zd (by kernel_rfl) ?_ _
            exact ⟨w7.heap.size, A2, C2, cutE, BL, D, b4, b5, b6, b9, U2.sl, by omega⟩
        · skip
          refine xAlloc 9 66 [.int .u32 0, .int .u32 0, .int .u32 0, .int .u32 0, .int .u32 0, .int .u32 0, .int .u32 0, .int .u32 0, .slice none 0 0, .int .i64 0] rfl (by kernel_rfl) ?_
          intro w14 n6
          have zn6 := n6.z
          have b9 := n6.c
          replace BL := BL.e0 n6.e
          replace D := D.e0 n6.e
          replace b4 := b4.e0 n6.e
          replace b5 := b5.e0 n6.e
          replace b6 := b6.e0 n6.e
          refine ze 5 ⟨BL, D, b4, b5, b6, by omega⟩ ?_
          simp only [List.set_cons_zero, List.set_cons_succ]
          refine zo1 2 rfl ?_
          refine xCall 19 31 #[.pointer (some ⟨w.heap.size, 0, none⟩), hashV (newN tab).1 (.slice none 0 0) (newN tab).2.2, .slice (some ⟨w1.heap.size, 0, none⟩) 64 64] (by kernel_rfl) ?_
          refine (write_any w.heap.size tab (newN tab) xa h0 (.slice none 0 0) _ ht w14 b4 (SL.nil _ _) (SL.ofBlk b5 (by rw [nn_len]; exact hxa) (by unfold maxLen; omega)) (by show 0 + _ ≤ _; omega)).mono ?_
          rintro en w15 ⟨u1, he1, hU1, hb1, hO1⟩
          have hO1 := hO1 rightN_0
          rw [hH1] at he1 hO1
          subst he1
          have e7 := belE0 hb1
          have ze7 := e7.size
          replace BL := BL.e0 e7
          replace D := D.e0 e7
          replace b4 := b4.e0 e7
          replace b5 := b5.e0 e7
          replace b6 := b6.e0 e7
          replace b9 := b9.e0 e7
          clear e7
          have U1 : Own 5 .u8 w14.heap.size w15 u1 (nn []) := hO1
          have lU1_2 := U1.ge
          refine ⟨hashV (blockN tab (tab.take 8) xa) u1 64, rfl, ?_⟩
          refine ze 2 ⟨BL, D, b4, b5, b6, by omega⟩ ?_
          simp only [List.set_cons_zero, List.set_cons_succ]
          refine zo1 4 rfl ?_
          refine xCall 21 31 #[.pointer (some ⟨w.heap.size, 0, none⟩), hashV (blockN tab (tab.take 8) xa) u1 64, .slice (some ⟨w2.heap.size, 0, none⟩) 64 64] (by kernel_rfl) ?_
          refine (write_any w.heap.size tab (blockN tab (tab.take 8) xa, [], 64) xb hs1 u1 _ ht w15 b4 U1.sl (SL.ofBlk b6 (by rw [nn_len]; exact hxb) (by unfold maxLen; omega)) (by show 0 + _ ≤ _; omega)).mono ?_
          rintro en w16 ⟨u2, he2, hU2, hb1, hO2⟩
          have hO2 := hO2 rightN_64
          rw [hH2] at he2 hO2
          obtain ⟨A2, C2, hu2⟩ := hO2.len
          rw [hu2] at he2 hO2
          subst he2
          have e8 := belE0 hb1
          have ze8 := e8.size
          replace BL := BL.e0 e8
          replace D := D.e0 e8
          replace b4 := b4.e0 e8
          replace b5 := b5.e0 e8
          replace b6 := b6.e0 e8
          replace b9 := b9.e0 e8
          replace U1 := U1.e0 e8
          clear e8
          have U2 : Own 5 .u8 w15.heap.size w16 (.slice A2 0 C2) (nn []) := hO2
          have lU2_3 := U2.ge
          refine ⟨.agg #[.int .u32 ((q0 : Nat) : Int), .int .u32 ((q1 : Nat) : Int), .int .u32 ((q2 : Nat) : Int), .int .u32 ((q3 : Nat) : Int), .int .u32 ((q4 : Nat) : Int), .int .u32 ((q5 : Nat) : Int), .int .u32 ((q6 : Nat) : Int), .int .u32 ((q7 : Nat) : Int), .slice A2 0 C2, .int .i64 128], rfl, ?_⟩
          refine ze 4 ⟨BL, D, b4, b5, b6, by omega⟩ ?_
          simp only [List.set_cons_zero, List.set_cons_succ]
          refine zo1 6 rfl ?_
          refine xStoreR 66 (.tmp 9) (.tmp 21) rfl w6.heap.size 66 [.int .u32 0, .int .u32 0, .int .u32 0, .int .u32 0, .int .u32 0, .int .u32 0, .int .u32 0, .int .u32 0, .slice none 0 0, .int .i64 0] 0 [.int .u32 ((q0 : Nat) : Int), .int .u32 ((q1 : Nat) : Int), .int .u32 ((q2 : Nat) : Int), .int .u32 ((q3 : Nat) : Int), .int .u32 ((q4 : Nat) : Int), .int .u32 ((q5 : Nat) : Int), .int .u32 ((q6 : Nat) : Int), .int .u32 ((q7 : Nat) : Int), .slice A2 0 C2, .int .i64 128] (by kernel_rfl) (by kernel_rfl) b9 (by kernel_rfl) (by simp) rfl [.int .u32 ((q0 : Nat) : Int), .int .u32 ((q1 : Nat) : Int), .int .u32 ((q2 : Nat) : Int), .int .u32 ((q3 : Nat) : Int), .int .u32 ((q4 : Nat) : Int), .int .u32 ((q5 : Nat) : Int), .int .u32 ((q6 : Nat) : Int), .int .u32 ((q7 : Nat) : Int), .slice A2 0 C2, .int .i64 128] rfl ?_
          intro w17 t3
          have zt3 := t3.z
          have BL_ := BL.ev t3.e (fun i h => show w.heap.size ≤ i by have h : i = w6.heap.size := h; omega)
          have D_ := D.ev t3.e (fun i hi => show ¬ (i = w6.heap.size) by have := hdl i hi; omega)
          have b4_ := b4.ev t3.e (show ¬ (w.heap.size = w6.heap.size) by omega)
          have b5_ := b5.ev t3.e (show ¬ (w1.heap.size = w6.heap.size) by omega)
          have b6_ := b6.ev t3.e (show ¬ (w2.heap.size = w6.heap.size) by omega)
          have U1_ := U1.ev t3.e (fun i hi => show ¬ (i = w6.heap.size) by have := lU1_2 i hi; omega)
          have U2_ := U2.ev t3.e (fun i hi => show ¬ (i = w6.heap.size) by have := lU2_3 i hi; omega)
          replace BL := BL_; clear BL_
          replace D := D_; clear D_
          replace b4 := b4_; clear b4_
          replace b5 := b5_; clear b5_
          replace b6 := b6_; clear b6_
          replace U1 := U1_; clear U1_
          replace U2 := U2_; clear U2_
          replace b9 : Cel w17 w6.heap.size 66 [.int .u32 ((q0 : Nat) : Int), .int .u32 ((q1 : Nat) : Int), .int .u32 ((q2 : Nat) : Int), .int .u32 ((q3 : Nat) : Int), .int .u32 ((q4 : Nat) : Int), .int .u32 ((q5 : Nat) : Int), .int .u32 ((q6 : Nat) : Int), .int .u32 ((q7 : Nat) : Int), .slice A2 0 C2, .int .i64 128] := t3.c
          clear t3
          refine zz 6 ?_
          refine zd (by kernel_rfl) ?_ _
          exact ⟨w6.heap.size, A2, C2, cutE, BL, D, b4, b5, b6, b9, U2.sl, by omega⟩
      · skip
        refine xAlloc 9 66 [.int .u32 0, .int .u32 0, .int .u32 0, .int .u32 0, .int .u32 0, .int .u32 0, .int .u32 0, .int .u32 0, .slice none 0 0, .int .i64 0] rfl (by kernel_rfl) ?_
        intro w18 n7
        have zn7 := n7.z
        have b9 := n7.c
        replace BL := BL.e0 n7.e
        replace D := D.e0 n7.e
        replace b4 := b4.e0 n7.e
        replace b5 := b5.e0 n7.e
        replace b6 := b6.e0 n7.e
        refine ze 5 ⟨BL, D, b4, b5, b6, by omega⟩ ?_
        simp only [List.set_cons_zero, List.set_cons_succ]
        refine zo1 0 rfl ?_
        refine xCall 17 34 #[.pointer (some ⟨w.heap.size, 0, none⟩)] (by kernel_rfl) ?_
        refine (new_any w.heap.size tab ht w18 b4).mono ?_
        rintro en w19 ⟨rfl, hb1⟩
        have e9 := belE0 hb1
        have ze9 := e9.size
        replace BL := BL.e0 e9
        replace D := D.e0 e9
        replace b4 := b4.e0 e9
        replace b5 := b5.e0 e9
        replace b6 := b6.e0 e9
        replace b9 := b9.e0 e9
        clear e9
        refine ⟨hashV (newN tab).1 (.slice none 0 0) (newN tab).2.2, rfl, ?_⟩
        refine ze 0 ⟨BL, D, b4, b5, b6, by omega⟩ ?_
        simp only [List.set_cons_zero, List.set_cons_succ]
        refine zo1 2 rfl ?_
        refine xCall 19 31 #[.pointer (some ⟨w.heap.size, 0, none⟩), hashV (newN tab).1 (.slice none 0 0) (newN tab).2.2, .slice (some ⟨w1.heap.size, 0, none⟩) 64 64] (by kernel_rfl) ?_
        refine (write_any w.heap.size tab (newN tab) xa h0 (.slice none 0 0) _ ht w19 b4 (SL.nil _ _) (SL.ofBlk b5 (by rw [nn_len]; exact hxa) (by unfold maxLen; omega)) (by show 0 + _ ≤ _; omega)).mono ?_
        rintro en w20 ⟨u1, he1, hU1, hb1, hO1⟩
        have hO1 := hO1 rightN_0
        rw [hH1] at he1 hO1
        subst he1
        have e10 := belE0 hb1
        have ze10 := e10.size
        replace BL := BL.e0 e10
        replace D := D.e0 e10
        replace b4 := b4.e0 e10
        replace b5 := b5.e0 e10
        replace b6 := b6.e0 e10
        replace b9 := b9.e0 e10
        clear e10
        have U1 : Own 5 .u8 w19.heap.size w20 u1 (nn []) := hO1
        have lU1_3 := U1.ge
        refine ⟨hashV (blockN tab (tab.take 8) xa) u1 64, rfl, ?_⟩
        refine ze 2 ⟨BL, D, b4, b5, b6, by omega⟩ ?_
        simp only [List.set_cons_zero, List.set_cons_succ]
        refine zo1 4 rfl ?_
        refine xCall 21 31 #[.pointer (some ⟨w.heap.size, 0, none⟩), hashV (blockN tab (tab.take 8) xa) u1 64, .slice (some ⟨w2.heap.size, 0, none⟩) 64 64] (by kernel_rfl) ?_
        refine (write_any w.heap.size tab (blockN tab (tab.take 8) xa, [], 64) xb hs1 u1 _ ht w20 b4 U1.sl (SL.ofBlk b6 (by rw [nn_len]; exact hxb) (by unfold maxLen; omega)) (by show 0 + _ ≤ _; omega)).mono ?_
        rintro en w21 ⟨u2, he2, hU2, hb1, hO2⟩
        have hO2 := hO2 rightN_64
        rw [hH2] at he2 hO2
        obtain ⟨A2, C2, hu2⟩ := hO2.len
        rw [hu2] at he2 hO2
        subst he2
        have e11 := belE0 hb1
        have ze11 := e11.size
        replace BL := BL.e0 e11
        replace D := D.e0 e11
        replace b4 := b4.e0 e11
        replace b5 := b5.e0 e11
        replace b6 := b6.e0 e11
        replace b9 := b9.e0 e11
        replace U1 := U1.e0 e11
        clear e11
        have U2 : Own 5 .u8 w20.heap.size w21 (.slice A2 0 C2) (nn []) := hO2
        have lU2_4 := U2.ge
        refine ⟨.agg #[.int .u32 ((q0 : Nat) : Int), .int .u32 ((q1 : Nat) : Int), .int .u32 ((q2 : Nat) : Int), .int .u32 ((q3 : Nat) : Int), .int .u32 ((q4 : Nat) : Int), .int .u32 ((q5 : Nat) : Int), .int .u32 ((q6 : Nat) : Int), .int .u32 ((q7 : Nat) : Int), .slice A2 0 C2, .int .i64 128], rfl, ?_⟩
        refine ze 4 ⟨BL, D, b4, b5, b6, by omega⟩ ?_
        simp only [List.set_cons_zero, List.set_cons_succ]
        refine zo1 6 rfl ?_
        refine xStoreR 66 (.tmp 9) (.tmp 21) rfl w5.heap.size 66 [.int .u32 0, .int .u32 0, .int .u32 0, .int .u32 0, .int .u32 0, .int .u32 0, .int .u32 0, .int .u32 0, .slice none 0 0, .int .i64 0] 0 [.int .u32 ((q0 : Nat) : Int), .int .u32 ((q1 : Nat) : Int), .int .u32 ((q2 : Nat) : Int), .int .u32 ((q3 : Nat) : Int), .int .u32 ((q4 : Nat) : Int), .int .u32 ((q5 : Nat) : Int), .int .u32 ((q6 : Nat) : Int), .int .u32 ((q7 : Nat) : Int), .slice A2 0 C2, .int .i64 128] (by kernel_rfl) (by kernel_rfl) b9 (by kernel_rfl) (by simp) rfl [.int .u32 ((q0 : Nat) : Int), .int .u32 ((q1 : Nat) : Int), .int .u32 ((q2 : Nat) : Int), .int .u32 ((q3 : Nat) : Int), .int .u32 ((q4 : Nat) : Int), .int .u32 ((q5 : Nat) : Int), .int .u32 ((q6 : Nat) : Int), .int .u32 ((q7 : Nat) : Int), .slice A2 0 C2, .int .i64 128] rfl ?_
        intro w22 t4
        have zt4 := t4.z
        have BL_ := BL.ev t4.e (fun i h => show w.heap.size ≤ i by have h : i = w5.heap.size := h; omega)
        have D_ := D.ev t4.e (fun i hi => show ¬ (i = w5.heap.size) by have := hdl i hi; omega)
        have b4_ := b4.ev t4.e (show ¬ (w.heap.size = w5.heap.size) by omega)
        have b5_ := b5.ev t4.e (show ¬ (w1.heap.size = w5.heap.size) by omega)
        have b6_ := b6.ev t4.e (show ¬ (w2.heap.size = w5.heap.size) by omega)
        have U1_ := U1.ev t4.e (fun i hi => show ¬ (i = w5.heap.size) by have := lU1_3 i hi; omega)
        have U2_ := U2.ev t4.e (fun i hi => show ¬ (i = w5.heap.size) by have := lU2_4 i hi; omega)
        replace BL := BL_; clear BL_
        replace D := D_; clear D_
        replace b4 := b4_; clear b4_
        replace b5 := b5_; clear b5_
        replace b6 := b6_; clear b6_
        replace U1 := U1_; clear U1_
        replace U2 := U2_; clear U2_
        replace b9 : Cel w22 w5.heap.size 66 [.int .u32 ((q0 : Nat) : Int), .int .u32 ((q1 : Nat) : Int), .int .u32 ((q2 : Nat) : Int), .int .u32 ((q3 : Nat) : Int), .int .u32 ((q4 : Nat) : Int), .int .u32 ((q5 : Nat) : Int), .int .u32 ((q6 : Nat) : Int), .int .u32 ((q7 : Nat) : Int), .slice A2 0 C2, .int .i64 128] := t4.c
        clear t4
        refine zz 6 ?_
        refine zd (by kernel_rfl) ?_ _
        exact ⟨w5.heap.size, A2, C2, cutE, BL, D, b4, b5, b6, b9, U2.sl, by omega⟩
    · skip
      clear BL D b4 b5 b6
      rintro a_ wJ1 ⟨g9, A2, C2, ⟨s1, rfl⟩, BL, D, b4, b5, b6, b9, U2, zJ1⟩
      have hul2 := U2.lt
      have hg9 := b9.lt
      refine cCut (fun A_ w_ => ∃ (g10 : Nat), ((∃ s2 : Nat → Value, A_ = ⟨[.agg (cellsOf .u32 (nn tab)), .agg (cellsOf .u8 (nn xa)), .agg (cellsOf .u8 (nn xb)), v, .pointer (some ⟨w.heap.size, 0, none⟩), .pointer (some ⟨w1.heap.size, 0, none⟩), .pointer (some ⟨w2.heap.size, 0, none⟩), undef, .bool false, .pointer (some ⟨g9, 0, none⟩), .pointer (some ⟨g10, 0, none⟩), undef, undef, v, .int .i64 ((ns.length : Nat) : Int), .bool (decide (200 < ((ns.length : Nat) : Int))), undef, (s1 17), (s1 18), (s1 19), (s1 20), (s1 21), (s2 22), (s2 23), (s2 24), (s2 25), (s2 26), (s2 27), undef, undef, undef, undef, undef, undef, undef, undef, undef, undef, undef, undef, undef, undef, undef, undef, undef, undef, undef, undef, undef, undef, undef, undef, undef, undef, undef, undef, undef, undef, undef, undef].toArray, []⟩) ∧ Bl w.heap.size w w_ ∧ SL .u8 w_ v (nn ns) ∧ Blk .u32 w_ w.heap.size 61 (nn tab) ∧ Blk .u8 w_ w1.heap.size 74 (nn xa) ∧ Blk .u8 w_ w2.heap.size 74 (nn xb) ∧ Cel w_ g9 66 [.int .u32 ((q0 : Nat) : Int), .int .u32 ((q1 : Nat) : Int), .int .u32 ((q2 : Nat) : Int), .int .u32 ((q3 : Nat) : Int), .int .u32 ((q4 : Nat) : Int), .int .u32 ((q5 : Nat) : Int), .int .u32 ((q6 : Nat) : Int), .int .u32 ((q7 : Nat) : Int), .slice A2 0 C2, .int .i64 128] ∧ SL .u8 w_ (.slice A2 0 C2) (nn []) ∧ Blk .u32 w_ g10 58 (nn [q0, q1, q2, q3, q4, q5, q6, q7]) ∧ wJ1.heap.size ≤ w_.heap.size)) ?_ ?_
      · skip
        have e12 := drew_e0 wJ1
        refine zg (fun w_ => Bl w.heap.size w w_ ∧ SL .u8 w_ v (nn ns) ∧ Blk .u32 w_ w.heap.size 61 (nn tab) ∧ Blk .u8 w_ w1.heap.size 74 (nn xa) ∧ Blk .u8 w_ w2.heap.size 74 (nn xb) ∧ Cel w_ g9 66 [.int .u32 ((q0 : Nat) : Int), .int .u32 ((q1 : Nat) : Int), .int .u32 ((q2 : Nat) : Int), .int .u32 ((q3 : Nat) : Int), .int .u32 ((q4 : Nat) : Int), .int .u32 ((q5 : Nat) : Int), .int .u32 ((q6 : Nat) : Int), .int .u32 ((q7 : Nat) : Int), .slice A2 0 C2, .int .i64 128] ∧ SL .u8 w_ (.slice A2 0 C2) (nn []) ∧ wJ1.heap.size ≤ w_.heap.size) (fun w_ => Bl w.heap.size w w_ ∧ SL .u8 w_ v (nn ns) ∧ Blk .u32 w_ w.heap.size 61 (nn tab) ∧ Blk .u8 w_ w1.heap.size 74 (nn xa) ∧ Blk .u8 w_ w2.heap.size 74 (nn xb) ∧ Cel w_ g9 66 [.int .u32 ((q0 : Nat) : Int), .int .u32 ((q1 : Nat) : Int), .int .u32 ((q2 : Nat) : Int), .int .u32 ((q3 : Nat) : Int), .int .u32 ((q4 : Nat) : Int), .int .u32 ((q5 : Nat) : Int), .int .u32 ((q6 : Nat) : Int), .int .u32 ((q7 : Nat) : Int), .slice A2 0 C2, .int .i64 128] ∧ SL .u8 w_ (.slice A2 0 C2) (nn []) ∧ wJ1.heap.size ≤ w_.heap.size) 7 8 ⟨BL.e0 e12, D.e0 e12, b4.e0 e12, b5.e0 e12, b6.e0 e12, b9.e0 e12, U2.e0 e12, Nat.le_refl _⟩ ?_
        clear BL D b4 b5 b6 b9 U2
        clear e12
        intro w23
        rintro ⟨BL, D, b4, b5, b6, b9, U2, z2⟩
        refine zv 0 22 (.pointer (some ⟨w.heap.size, 0, none⟩)) (fun _ _ => .of) ⟨BL, D, b4, b5, b6, b9, U2, by omega⟩ ?_
        simp only [List.set_cons_zero, List.set_cons_succ]
        refine zv 1 23 (.agg (cellsOf .u32 (nn (tab.take 8)))) (fun _ ⟨BL, D, b4, b5, b6, b9, U2, z2⟩ => Val.blk 58 _ rfl 0 8 (by kernel_rfl) b4 _ Try.underlying58 rfl (by kernel_rfl) (by rw [nn_len]; omega) _ (nn_take _ _).symm) ⟨BL, D, b4, b5, b6, b9, U2, by omega⟩ ?_
        simp only [List.set_cons_zero, List.set_cons_succ]
        refine zv 2 24 (.agg (cellsOf .u8 (nn xa))) (fun _ ⟨BL, D, b4, b5, b6, b9, U2, z2⟩ => Val.blk 74 _ rfl 0 64 (by kernel_rfl) b5 _ Try.underlying74 rfl (by kernel_rfl) (by (try simp only [nn_len, List.length_cons, List.length_nil, List.length_set, List.length_replicate]); try omega) _ (seg_all' _ (by (try simp only [nn_len, List.length_cons, List.length_nil, List.length_set, List.length_replicate]); try omega))) ⟨BL, D, b4, b5, b6, b9, U2, by omega⟩ ?_
        simp only [List.set_cons_zero, List.set_cons_succ]
        refine zv 4 26 (.agg (cellsOf .u8 (nn xb))) (fun _ ⟨BL, D, b4, b5, b6, b9, U2, z2⟩ => Val.blk 74 _ rfl 0 64 (by kernel_rfl) b6 _ Try.underlying74 rfl (by kernel_rfl) (by (try simp only [nn_len, List.length_cons, List.length_nil, List.length_set, List.length_replicate]); try omega) _ (seg_all' _ (by (try simp only [nn_len, List.length_cons, List.length_nil, List.length_set, List.length_replicate]); try omega))) ⟨BL, D, b4, b5, b6, b9, U2, by omega⟩ ?_
        simp only [List.set_cons_zero, List.set_cons_succ]
        refine zo2 3 6 rfl rfl ?_ ?_
        · skip
          refine xCall 25 36 #[.pointer (some ⟨w.heap.size, 0, none⟩), .agg (cellsOf .u32 (nn (tab.take 8))), .agg (cellsOf .u8 (nn xa))] (by kernel_rfl) ?_
          refine (block_any w.heap.size tab (tab.take 8) xa ht h0 hxa w23 b4).mono ?_
          rintro en w24 ⟨rfl, hb1⟩
          have e13 := belE0 hb1
          have ze13 := e13.size
          replace BL := BL.e0 e13
          replace D := D.e0 e13
          replace b4 := b4.e0 e13
          replace b5 := b5.e0 e13
          replace b6 := b6.e0 e13
          replace b9 := b9.e0 e13
          replace U2 := U2.e0 e13
          clear e13
          refine ⟨.agg (cellsOf .u32 (nn (blockN tab (tab.take 8) xa))), rfl, ?_⟩
          refine ze 3 ⟨BL, D, b4, b5, b6, b9, U2, by omega⟩ ?_
          simp only [List.set_cons_zero, List.set_cons_succ]
          refine zo2 5 6 rfl rfl ?_ ?_
          · skip
            refine xCall 27 36 #[.pointer (some ⟨w.heap.size, 0, none⟩), .agg (cellsOf .u32 (nn (blockN tab (tab.take 8) xa))), .agg (cellsOf .u8 (nn xb))] (by kernel_rfl) ?_
            refine (block_any w.heap.size tab (blockN tab (tab.take 8) xa) xb ht hs1 hxb w24 b4).mono ?_
            rintro en w25 ⟨he, hb1⟩
            rw [hq] at he
            subst he
            have e14 := belE0 hb1
            have ze14 := e14.size
            replace BL := BL.e0 e14
            replace D := D.e0 e14
            replace b4 := b4.e0 e14
            replace b5 := b5.e0 e14
            replace b6 := b6.e0 e14
            replace b9 := b9.e0 e14
            replace U2 := U2.e0 e14
            clear e14
            refine ⟨.agg (cellsOf .u32 (nn [q0, q1, q2, q3, q4, q5, q6, q7])), rfl, ?_⟩
            refine ze 5 ⟨BL, D, b4, b5, b6, b9, U2, by omega⟩ ?_
            simp only [List.set_cons_zero, List.set_cons_succ]
            refine zo1 6 rfl ?_
            refine xAlloc 10 58 ((nn (List.replicate 8 0)).map (Value.int .u32)) rfl (by kernel_rfl) ?_
            intro w26 n8
            have zn8 := n8.z
            have b10 := n8.c
            replace b10 : Blk .u32 w26 w25.heap.size 58 (nn (List.replicate 8 0)) := b10
            replace BL := BL.e0 n8.e
            replace D := D.e0 n8.e
            replace b4 := b4.e0 n8.e
            replace b5 := b5.e0 n8.e
            replace b6 := b6.e0 n8.e
            replace b9 := b9.e0 n8.e
            replace U2 := U2.e0 n8.e
            refine ze 6 ⟨BL, D, b4, b5, b6, b9, U2, by omega⟩ ?_
            simp only [List.set_cons_zero, List.set_cons_succ]
            refine zo1 7 rfl ?_
            refine xStoreA 58 (.tmp 10) (.tmp 27) rfl .u32 w25.heap.size 58 (nn (List.replicate 8 0)) 0 (nn [q0, q1, q2, q3, q4, q5, q6, q7]) (by kernel_rfl) (by kernel_rfl) b10 (by rw [show (nn [q0, q1, q2, q3, q4, q5, q6, q7]).length = 8 by ((try simp only [nn_len, List.length_cons, List.length_nil, List.length_set, List.length_replicate]); try omega)]; kernel_rfl) (by (try simp only [nn_len, List.length_cons, List.length_nil, List.length_set, List.length_replicate]); try omega) (nn [q0, q1, q2, q3, q4, q5, q6, q7]) (over_whole _ _ (by (try simp only [nn_len, List.length_cons, List.length_nil, List.length_set, List.length_replicate]); try omega)) ?_
            intro w27 t5
            have zt5 := t5.z
            have BL_ := BL.ev t5.e (fun i h => show w.heap.size ≤ i by have h : i = w25.heap.size := h; omega)
            have D_ := D.ev t5.e (fun i hi => show ¬ (i = w25.heap.size) by have := hdl i hi; omega)
            have b4_ := b4.ev t5.e (show ¬ (w.heap.size = w25.heap.size) by omega)
            have b5_ := b5.ev t5.e (show ¬ (w1.heap.size = w25.heap.size) by omega)
            have b6_ := b6.ev t5.e (show ¬ (w2.heap.size = w25.heap.size) by omega)
            have b9_ := b9.ev t5.e (show ¬ (g9 = w25.heap.size) by omega)
            have U2_ := U2.ev t5.e (fun i hi => show ¬ (i = w25.heap.size) by have := hul2 i hi; omega)
            replace BL := BL_; clear BL_
            replace D := D_; clear D_
            replace b4 := b4_; clear b4_
            replace b5 := b5_; clear b5_
            replace b6 := b6_; clear b6_
            replace b9 := b9_; clear b9_
            replace U2 := U2_; clear U2_
            replace b10 : Blk .u32 w27 w25.heap.size 58 (nn [q0, q1, q2, q3, q4, q5, q6, q7]) := t5.c
            clear t5
            refine zz 7 ?_
            refine zd (by kernel_rfl) ?_ _
            exact ⟨w25.heap.size, cutE, BL, D, b4, b5, b6, b9, U2, b10, by omega⟩
          · skip
            refine xAlloc 10 58 ((nn (List.replicate 8 0)).map (Value.int .u32)) rfl (by kernel_rfl) ?_
            intro w28 n9
            have zn9 := n9.z
            have b10 := n9.c
            replace b10 : Blk .u32 w28 w24.heap.size 58 (nn (List.replicate 8 0)) := b10
            replace BL := BL.e0 n9.e
            replace D := D.e0 n9.e
            replace b4 := b4.e0 n9.e
            replace b5 := b5.e0 n9.e
            replace b6 := b6.e0 n9.e
            replace b9 := b9.e0 n9.e
            replace U2 := U2.e0 n9.e
            refine ze 6 ⟨BL, D, b4, b5, b6, b9, U2, by omega⟩ ?_
            simp only [List.set_cons_zero, List.set_cons_succ]
            refine zo1 5 rfl ?_
            refine xCall 27 36 #[.pointer (some ⟨w.heap.size, 0, none⟩), .agg (cellsOf .u32 (nn (blockN tab (tab.take 8) xa))), .agg (cellsOf .u8 (nn xb))] (by kernel_rfl) ?_
            refine (block_any w.heap.size tab (blockN tab (tab.take 8) xa) xb ht hs1 hxb w28 b4).mono ?_
            rintro en w29 ⟨he, hb1⟩
            rw [hq] at he
            subst he
            have e15 := belE0 hb1
            have ze15 := e15.size
            replace BL := BL.e0 e15
            replace D := D.e0 e15
            replace b4 := b4.e0 e15
            replace b5 := b5.e0 e15
            replace b6 := b6.e0 e15
            replace b9 := b9.e0 e15
            replace U2 := U2.e0 e15
            replace b10 := b10.e0 e15
            clear e15
            refine ⟨.agg (cellsOf .u32 (nn [q0, q1, q2, q3, q4, q5, q6, q7])), rfl, ?_⟩
            refine ze 5 ⟨BL, D, b4, b5, b6, b9, U2, by omega⟩ ?_
            simp only [List.set_cons_zero, List.set_cons_succ]
            refine zo1 7 rfl ?_
            refine xStoreA 58 (.tmp 10) (.tmp 27) rfl .u32 w24.heap.size 58 (nn (List.replicate 8 0)) 0 (nn [q0, q1, q2, q3, q4, q5, q6, q7]) (by kernel_rfl) (by kernel_rfl) b10 (by rw [show (nn [q0, q1, q2, q3, q4, q5, q6, q7]).length = 8 by ((try simp only [nn_len, List.length_cons, List.length_nil, List.length_set, List.length_replicate]); try omega)]; kernel_rfl) (by (try simp only [nn_len, List.length_cons, List.length_nil, List.length_set, List.length_replicate]); try omega) (nn [q0, q1, q2, q3, q4, q5, q6, q7]) (over_whole _ _ (by (try simp only [nn_len, List.length_cons, List.length_nil, List.length_set, List.length_replicate]); try omega)) ?_
            intro w30 t6
            have zt6 := t6.z
            have BL_ := BL.ev t6.e (fun i h => show w.heap.size ≤ i by have h : i = w24.heap.size := h; omega)
            have D_ := D.ev t6.e (fun i hi => show ¬ (i = w24.heap.size) by have := hdl i hi; omega)
            have b4_ := b4.ev t6.e (show ¬ (w.heap.size = w24.heap.size) by omega)
            have b5_ := b5.ev t6.e (show ¬ (w1.heap.size = w24.heap.size) by omega)
            have b6_ := b6.ev t6.e (show ¬ (w2.heap.size = w24.heap.size) by omega)
            have b9_ := b9.ev t6.e (show ¬ (g9 = w24.heap.size) by omega)
            have U2_ := U2.ev t6.e (fun i hi => show ¬ (i = w24.heap.size) by have := hul2 i hi; omega)
            replace BL := BL_; clear BL_
            replace D := D_; clear D_
            replace b4 := b4_; clear b4_
            replace b5 := b5_; clear b5_
            replace b6 := b6_; clear b6_
            replace b9 := b9_; clear b9_
            replace U2 := U2_; clear U2_
            replace b10 : Blk .u32 w30 w24.heap.size 58 (nn [q0, q1, q2, q3, q4, q5, q6, q7]) := t6.c
            clear t6
            refine zz 7 ?_
            refine zd (by kernel_rfl) ?_ _
            exact ⟨w24.heap.size, cutE, BL, D, b4, b5, b6, b9, U2, b10, by omega⟩
        · skip
          refine xAlloc 10 58 ((nn (List.replicate 8 0)).map (Value.int .u32)) rfl (by kernel_rfl) ?_
          intro w31 n10
          have zn10 := n10.z
          have b10 := n10.c
          replace b10 : Blk .u32 w31 w23.heap.size 58 (nn (List.replicate 8 0)) := b10
          replace BL := BL.e0 n10.e
          replace D := D.e0 n10.e
          replace b4 := b4.e0 n10.e
          replace b5 := b5.e0 n10.e
          replace b6 := b6.e0 n10.e
          replace b9 := b9.e0 n10.e
          replace U2 := U2.e0 n10.e
          refine ze 6 ⟨BL, D, b4, b5, b6, b9, U2, by omega⟩ ?_
          simp only [List.set_cons_zero, List.set_cons_succ]
          refine zo1 3 rfl ?_
          refine xCall 25 36 #[.pointer (some ⟨w.heap.size, 0, none⟩), .agg (cellsOf .u32 (nn (tab.take 8))), .agg (cellsOf .u8 (nn xa))] (by kernel_rfl) ?_
          refine (block_any w.heap.size tab (tab.take 8) xa ht h0 hxa w31 b4).mono ?_
          rintro en w32 ⟨rfl, hb1⟩
          have e16 := belE0 hb1
          have ze16 := e16.size
          replace BL := BL.e0 e16
          replace D := D.e0 e16
          replace b4 := b4.e0 e16
          replace b5 := b5.e0 e16
          replace b6 := b6.e0 e16
          replace b9 := b9.e0 e16
          replace U2 := U2.e0 e16
          replace b10 := b10.e0 e16
          clear e16
          refine ⟨.agg (cellsOf .u32 (nn (blockN tab (tab.take 8) xa))), rfl, ?_⟩
          refine ze 3 ⟨BL, D, b4, b5, b6, b9, U2, by omega⟩ ?_
          simp only [List.set_cons_zero, List.set_cons_succ]
          refine zo1 5 rfl ?_
          refine xCall 27 36 #[.pointer (some ⟨w.heap.size, 0, none⟩), .agg (cellsOf .u32 (nn (blockN tab (tab.take 8) xa))), .agg (cellsOf .u8 (nn xb))] (by kernel_rfl) ?_
          refine (block_any w.heap.size tab (blockN tab (tab.take 8) xa) xb ht hs1 hxb w32 b4).mono ?_
          rintro en w33 ⟨he, hb1⟩
          rw [hq] at he
          subst he
          have e17 := belE0 hb1
          have ze17 := e17.size
          replace BL := BL.e0 e17
          replace D := D.e0 e17
          replace b4 := b4.e0 e17
          replace b5 := b5.e0 e17
          replace b6 := b6.e0 e17
          replace b9 := b9.e0 e17
          replace U2 := U2.e0 e17
          replace b10 := b10.e0 e17
          clear e17
          refine ⟨.agg (cellsOf .u32 (nn [q0, q1, q2, q3, q4, q5, q6, q7])), rfl, ?_⟩
          refine ze 5 ⟨BL, D, b4, b5, b6, b9, U2, by omega⟩ ?_
          simp only [List.set_cons_zero, List.set_cons_succ]
          refine zo1 7 rfl ?_
          refine xStoreA 58 (.tmp 10) (.tmp 27) rfl .u32 w23.heap.size 58 (nn (List.replicate 8 0)) 0 (nn [q0, q1, q2, q3, q4, q5, q6, q7]) (by kernel_rfl) (by kernel_rfl) b10 (by rw [show (nn [q0, q1, q2, q3, q4, q5, q6, q7]).length = 8 by ((try simp only [nn_len, List.length_cons, List.length_nil, List.length_set, List.length_replicate]); try omega)]; kernel_rfl) (by (try simp only [nn_len, List.length_cons, List.length_nil, List.length_set, List.length_replicate]); try omega) (nn [q0, q1, q2, q3, q4, q5, q6, q7]) (over_whole _ _ (by (try simp only [nn_len, List.length_cons, List.length_nil, List.length_set, List.length_replicate]); try omega)) ?_
          intro w34 t7
          have zt7 := t7.z
          have BL_ := BL.ev t7.e (fun i h => show w.heap.size ≤ i by have h : i = w23.heap.size := h; omega)
          have D_ := D.ev t7.e (fun i hi => show ¬ (i = w23.heap.size) by have := hdl i hi; omega)
          have b4_ := b4.ev t7.e (show ¬ (w.heap.size = w23.heap.size) by omega)
          have b5_ := b5.ev t7.e (show ¬ (w1.heap.size = w23.heap.size) by omega)
          have b6_ := b6.ev t7.e (show ¬ (w2.heap.size = w23.heap.size) by omega)
          have b9_ := b9.ev t7.e (show ¬ (g9 = w23.heap.size) by omega)
          have U2_ := U2.ev t7.e (fun i hi => show ¬ (i = w23.heap.size) by have := hul2 i hi; omega)
          replace BL := BL_; clear BL_
          replace D := D_; clear D_
          replace b4 := b4_; clear b4_
          replace b5 := b5_; clear b5_
          replace b6 := b6_; clear b6_
          replace b9 := b9_; clear b9_
          replace U2 := U2_; clear U2_
          replace b10 : Blk .u32 w34 w23.heap.size 58 (nn [q0, q1, q2, q3, q4, q5, q6, q7]) := t7.c
          clear t7
          refine zz 7 ?_
          refine zd (by kernel_rfl) ?_ _
          exact ⟨w23.heap.size, cutE, BL, D, b4, b5, b6, b9, U2, b10, by omega⟩
      · skip
        clear BL D b4 b5 b6 b9 U2
        rintro a_ wJ2 ⟨g10, ⟨s2, rfl⟩, BL, D, b4, b5, b6, b9, U2, b10, zJ2⟩
        have hg10 := b10.lt
        refine wp_seq_k fun K5 hK5 => ?_
        refine cPlain ?_
        refine sv 28 (.agg #[.int .u32 ((q0 : Nat) : Int), .int .u32 ((q1 : Nat) : Int), .int .u32 ((q2 : Nat) : Int), .int .u32 ((q3 : Nat) : Int), .int .u32 ((q4 : Nat) : Int), .int .u32 ((q5 : Nat) : Int), .int .u32 ((q6 : Nat) : Int), .int .u32 ((q7 : Nat) : Int), .slice A2 0 C2, .int .i64 128]) (Val.cel 66 _ rfl 0 10 (by kernel_rfl) b9 _ Try.underlying66 rfl (by kernel_rfl) (by simp) [.int .u32 ((q0 : Nat) : Int), .int .u32 ((q1 : Nat) : Int), .int .u32 ((q2 : Nat) : Int), .int .u32 ((q3 : Nat) : Int), .int .u32 ((q4 : Nat) : Int), .int .u32 ((q5 : Nat) : Int), .int .u32 ((q6 : Nat) : Int), .int .u32 ((q7 : Nat) : Int), .slice A2 0 C2, .int .i64 128] rfl) ?_
        simp only [List.set_cons_zero, List.set_cons_succ]
        refine sv 29 (v) .of ?_
        simp only [List.set_cons_zero, List.set_cons_succ]
        refine xCall 30 31 #[.pointer (some ⟨w.heap.size, 0, none⟩), .agg #[.int .u32 ((q0 : Nat) : Int), .int .u32 ((q1 : Nat) : Int), .int .u32 ((q2 : Nat) : Int), .int .u32 ((q3 : Nat) : Int), .int .u32 ((q4 : Nat) : Int), .int .u32 ((q5 : Nat) : Int), .int .u32 ((q6 : Nat) : Int), .int .u32 ((q7 : Nat) : Int), .slice A2 0 C2, .int .i64 128], v] (by kernel_rfl) ?_
        refine (write_any w.heap.size tab ([q0, q1, q2, q3, q4, q5, q6, q7], [], 128) ns rfl (.slice A2 0 C2) v ht wJ2 b4 U2 D (by show 0 + _ ≤ _; omega)).mono ?_
        rintro en w35 ⟨u3, he3, hU3, hb1, _⟩
        rw [hX] at he3 hU3
        rw [hp] at he3
        obtain ⟨A3, C3, hu3, _⟩ := hU3.len
        rw [hu3] at he3 hU3
        subst he3
        have hul3 := hU3.lt
        have e18 := belE0 hb1
        have ze18 := e18.size
        replace BL := BL.e0 e18
        replace D := D.e0 e18
        replace b4 := b4.e0 e18
        replace b5 := b5.e0 e18
        replace b6 := b6.e0 e18
        replace b9 := b9.e0 e18
        replace U2 := U2.e0 e18
        replace b10 := b10.e0 e18
        clear e18
        have U3 : SL .u8 w35 (.slice A3 (nn X.2.1).length C3) (nn X.2.1) := hU3
        refine ⟨.agg #[.int .u32 ((p0 : Nat) : Int), .int .u32 ((p1 : Nat) : Int), .int .u32 ((p2 : Nat) : Int), .int .u32 ((p3 : Nat) : Int), .int .u32 ((p4 : Nat) : Int), .int .u32 ((p5 : Nat) : Int), .int .u32 ((p6 : Nat) : Int), .int .u32 ((p7 : Nat) : Int), .slice A3 (nn X.2.1).length C3, .int .i64 X.2.2], rfl, ?_⟩
        simp only [List.set_cons_zero, List.set_cons_succ]
        refine xAlloc 11 66 [.int .u32 0, .int .u32 0, .int .u32 0, .int .u32 0, .int .u32 0, .int .u32 0, .int .u32 0, .int .u32 0, .slice none 0 0, .int .i64 0] rfl (by kernel_rfl) ?_
        intro w36 n11
        have zn11 := n11.z
        have b11 := n11.c
        replace BL := BL.e0 n11.e
        replace D := D.e0 n11.e
        replace b4 := b4.e0 n11.e
        replace b5 := b5.e0 n11.e
        replace b6 := b6.e0 n11.e
        replace b9 := b9.e0 n11.e
        replace U2 := U2.e0 n11.e
        replace b10 := b10.e0 n11.e
        replace U3 := U3.e0 n11.e
        simp only [List.set_cons_zero, List.set_cons_succ]
        refine xStoreR 66 (.tmp 11) (.tmp 30) rfl w35.heap.size 66 [.int .u32 0, .int .u32 0, .int .u32 0, .int .u32 0, .int .u32 0, .int .u32 0, .int .u32 0, .int .u32 0, .slice none 0 0, .int .i64 0] 0 [.int .u32 ((p0 : Nat) : Int), .int .u32 ((p1 : Nat) : Int), .int .u32 ((p2 : Nat) : Int), .int .u32 ((p3 : Nat) : Int), .int .u32 ((p4 : Nat) : Int), .int .u32 ((p5 : Nat) : Int), .int .u32 ((p6 : Nat) : Int), .int .u32 ((p7 : Nat) : Int), .slice A3 (nn X.2.1).length C3, .int .i64 X.2.2] (by kernel_rfl) (by kernel_rfl) b11 (by kernel_rfl) (by simp) rfl [.int .u32 ((p0 : Nat) : Int), .int .u32 ((p1 : Nat) : Int), .int .u32 ((p2 : Nat) : Int), .int .u32 ((p3 : Nat) : Int), .int .u32 ((p4 : Nat) : Int), .int .u32 ((p5 : Nat) : Int), .int .u32 ((p6 : Nat) : Int), .int .u32 ((p7 : Nat) : Int), .slice A3 (nn X.2.1).length C3, .int .i64 X.2.2] rfl ?_
        intro w37 t8
        have zt8 := t8.z
        have BL_ := BL.ev t8.e (fun i h => show w.heap.size ≤ i by have h : i = w35.heap.size := h; omega)
        have D_ := D.ev t8.e (fun i hi => show ¬ (i = w35.heap.size) by have := hdl i hi; omega)
        have b4_ := b4.ev t8.e (show ¬ (w.heap.size = w35.heap.size) by omega)
        have b5_ := b5.ev t8.e (show ¬ (w1.heap.size = w35.heap.size) by omega)
        have b6_ := b6.ev t8.e (show ¬ (w2.heap.size = w35.heap.size) by omega)
        have b9_ := b9.ev t8.e (show ¬ (g9 = w35.heap.size) by omega)
        have U2_ := U2.ev t8.e (fun i hi => show ¬ (i = w35.heap.size) by have := hul2 i hi; omega)
        have b10_ := b10.ev t8.e (show ¬ (g10 = w35.heap.size) by omega)
        have U3_ := U3.ev t8.e (fun i hi => show ¬ (i = w35.heap.size) by have := hul3 i hi; omega)
        replace BL := BL_; clear BL_
        replace D := D_; clear D_
        replace b4 := b4_; clear b4_
        replace b5 := b5_; clear b5_
        replace b6 := b6_; clear b6_
        replace b9 := b9_; clear b9_
        replace U2 := U2_; clear U2_
        replace b10 := b10_; clear b10_
        replace U3 := U3_; clear U3_
        replace b11 : Cel w37 w35.heap.size 66 [.int .u32 ((p0 : Nat) : Int), .int .u32 ((p1 : Nat) : Int), .int .u32 ((p2 : Nat) : Int), .int .u32 ((p3 : Nat) : Int), .int .u32 ((p4 : Nat) : Int), .int .u32 ((p5 : Nat) : Int), .int .u32 ((p6 : Nat) : Int), .int .u32 ((p7 : Nat) : Int), .slice A3 (nn X.2.1).length C3, .int .i64 X.2.2] := t8.c
        clear t8
        refine wpList_nil ?_
        refine hK5 _ _ ?_
        refine wp_seq_k fun K6 hK6 => ?_
        refine cPlain ?_
        refine sv 31 (.agg (cellsOf .u32 (nn [q0, q1, q2, q3, q4, q5, q6, q7]))) (Val.blk 58 _ rfl 0 8 (by kernel_rfl) b10 _ Try.underlying58 rfl (by kernel_rfl) (by (try simp only [nn_len, List.length_cons, List.length_nil, List.length_set, List.length_replicate]); try omega) _ (seg_all' _ (by (try simp only [nn_len, List.length_cons, List.length_nil, List.length_set, List.length_replicate]); try omega))) ?_
        simp only [List.set_cons_zero, List.set_cons_succ]
        refine sv 32 (.agg #[.int .u32 ((q0 : Nat) : Int), .int .u32 ((q1 : Nat) : Int), .int .u32 ((q2 : Nat) : Int), .int .u32 ((q3 : Nat) : Int), .int .u32 ((q4 : Nat) : Int), .int .u32 ((q5 : Nat) : Int), .int .u32 ((q6 : Nat) : Int), .int .u32 ((q7 : Nat) : Int), .slice none 0 0, .int .i64 128]) .of ?_
        simp only [List.set_cons_zero, List.set_cons_succ]
        refine sv 33 (v) .of ?_
        simp only [List.set_cons_zero, List.set_cons_succ]
        refine xCall 34 31 #[.pointer (some ⟨w.heap.size, 0, none⟩), .agg #[.int .u32 ((q0 : Nat) : Int), .int .u32 ((q1 : Nat) : Int), .int .u32 ((q2 : Nat) : Int), .int .u32 ((q3 : Nat) : Int), .int .u32 ((q4 : Nat) : Int), .int .u32 ((q5 : Nat) : Int), .int .u32 ((q6 : Nat) : Int), .int .u32 ((q7 : Nat) : Int), .slice none 0 0, .int .i64 128], v] (by kernel_rfl) ?_
        refine (write_any w.heap.size tab ([q0, q1, q2, q3, q4, q5, q6, q7], [], 128) ns rfl (.slice none 0 0) v ht w37 b4 (SL.nil _ _) D (by show 0 + _ ≤ _; omega)).mono ?_
        rintro en w38 ⟨u4, he4, hU4, hb1, _⟩
        rw [hX] at he4 hU4
        rw [hp] at he4
        obtain ⟨A4, C4, hu4, _⟩ := hU4.len
        rw [hu4] at he4 hU4
        subst he4
        have hul4 := hU4.lt
        have e19 := belE0 hb1
        have ze19 := e19.size
        replace BL := BL.e0 e19
        replace D := D.e0 e19
        replace b4 := b4.e0 e19
        replace b5 := b5.e0 e19
        replace b6 := b6.e0 e19
        replace b9 := b9.e0 e19
        replace U2 := U2.e0 e19
        replace b10 := b10.e0 e19
        replace U3 := U3.e0 e19
        replace b11 := b11.e0 e19
        clear e19
        have U4 : SL .u8 w38 (.slice A4 (nn X.2.1).length C4) (nn X.2.1) := hU4
        refine ⟨.agg #[.int .u32 ((p0 : Nat) : Int), .int .u32 ((p1 : Nat) : Int), .int .u32 ((p2 : Nat) : Int), .int .u32 ((p3 : Nat) : Int), .int .u32 ((p4 : Nat) : Int), .int .u32 ((p5 : Nat) : Int), .int .u32 ((p6 : Nat) : Int), .int .u32 ((p7 : Nat) : Int), .slice A4 (nn X.2.1).length C4, .int .i64 X.2.2], rfl, ?_⟩
        simp only [List.set_cons_zero, List.set_cons_succ]
        refine xAlloc 12 66 [.int .u32 0, .int .u32 0, .int .u32 0, .int .u32 0, .int .u32 0, .int .u32 0, .int .u32 0, .int .u32 0, .slice none 0 0, .int .i64 0] rfl (by kernel_rfl) ?_
        intro w39 n12
        have zn12 := n12.z
        have b12 := n12.c
        replace BL := BL.e0 n12.e
        replace D := D.e0 n12.e
        replace b4 := b4.e0 n12.e
        replace b5 := b5.e0 n12.e
        replace b6 := b6.e0 n12.e
        replace b9 := b9.e0 n12.e
        replace U2 := U2.e0 n12.e
        replace b10 := b10.e0 n12.e
        replace U3 := U3.e0 n12.e
        replace b11 := b11.e0 n12.e
        replace U4 := U4.e0 n12.e
        simp only [List.set_cons_zero, List.set_cons_succ]
        refine xStoreR 66 (.tmp 12) (.tmp 34) rfl w38.heap.size 66 [.int .u32 0, .int .u32 0, .int .u32 0, .int .u32 0, .int .u32 0, .int .u32 0, .int .u32 0, .int .u32 0, .slice none 0 0, .int .i64 0] 0 [.int .u32 ((p0 : Nat) : Int), .int .u32 ((p1 : Nat) : Int), .int .u32 ((p2 : Nat) : Int), .int .u32 ((p3 : Nat) : Int), .int .u32 ((p4 : Nat) : Int), .int .u32 ((p5 : Nat) : Int), .int .u32 ((p6 : Nat) : Int), .int .u32 ((p7 : Nat) : Int), .slice A4 (nn X.2.1).length C4, .int .i64 X.2.2] (by kernel_rfl) (by kernel_rfl) b12 (by kernel_rfl) (by simp) rfl [.int .u32 ((p0 : Nat) : Int), .int .u32 ((p1 : Nat) : Int), .int .u32 ((p2 : Nat) : Int), .int .u32 ((p3 : Nat) : Int), .int .u32 ((p4 : Nat) : Int), .int .u32 ((p5 : Nat) : Int), .int .u32 ((p6 : Nat) : Int), .int .u32 ((p7 : Nat) : Int), .slice A4 (nn X.2.1).length C4, .int .i64 X.2.2] rfl ?_
        intro w40 t9
        have zt9 := t9.z
        have BL_ := BL.ev t9.e (fun i h => show w.heap.size ≤ i by have h : i = w38.heap.size := h; omega)
        have D_ := D.ev t9.e (fun i hi => show ¬ (i = w38.heap.size) by have := hdl i hi; omega)
        have b4_ := b4.ev t9.e (show ¬ (w.heap.size = w38.heap.size) by omega)
        have b5_ := b5.ev t9.e (show ¬ (w1.heap.size = w38.heap.size) by omega)
        have b6_ := b6.ev t9.e (show ¬ (w2.heap.size = w38.heap.size) by omega)
        have b9_ := b9.ev t9.e (show ¬ (g9 = w38.heap.size) by omega)
        have U2_ := U2.ev t9.e (fun i hi => show ¬ (i = w38.heap.size) by have := hul2 i hi; omega)
        have b10_ := b10.ev t9.e (show ¬ (g10 = w38.heap.size) by omega)
        have U3_ := U3.ev t9.e (fun i hi => show ¬ (i = w38.heap.size) by have := hul3 i hi; omega)
        have b11_ := b11.ev t9.e (show ¬ (w35.heap.size = w38.heap.size) by omega)
        have U4_ := U4.ev t9.e (fun i hi => show ¬ (i = w38.heap.size) by have := hul4 i hi; omega)
        replace BL := BL_; clear BL_
        replace D := D_; clear D_
        replace b4 := b4_; clear b4_
        replace b5 := b5_; clear b5_
        replace b6 := b6_; clear b6_
        replace b9 := b9_; clear b9_
        replace U2 := U2_; clear U2_
        replace b10 := b10_; clear b10_
        replace U3 := U3_; clear U3_
        replace b11 := b11_; clear b11_
        replace U4 := U4_; clear U4_
        replace b12 : Cel w40 w38.heap.size 66 [.int .u32 ((p0 : Nat) : Int), .int .u32 ((p1 : Nat) : Int), .int .u32 ((p2 : Nat) : Int), .int .u32 ((p3 : Nat) : Int), .int .u32 ((p4 : Nat) : Int), .int .u32 ((p5 : Nat) : Int), .int .u32 ((p6 : Nat) : Int), .int .u32 ((p7 : Nat) : Int), .slice A4 (nn X.2.1).length C4, .int .i64 X.2.2] := t9.c
        clear t9
        refine wpList_nil ?_
        refine hK6 _ _ ?_
        refine wp_seq_k fun K7 hK7 => ?_
        have e20 := drew_e0 w40
        refine zg (fun w_ => Bl w.heap.size w w_ ∧ SL .u8 w_ v (nn ns) ∧ Blk .u32 w_ w.heap.size 61 (nn tab) ∧ Blk .u8 w_ w1.heap.size 74 (nn xa) ∧ Blk .u8 w_ w2.heap.size 74 (nn xb) ∧ Cel w_ g9 66 [.int .u32 ((q0 : Nat) : Int), .int .u32 ((q1 : Nat) : Int), .int .u32 ((q2 : Nat) : Int), .int .u32 ((q3 : Nat) : Int), .int .u32 ((q4 : Nat) : Int), .int .u32 ((q5 : Nat) : Int), .int .u32 ((q6 : Nat) : Int), .int .u32 ((q7 : Nat) : Int), .slice A2 0 C2, .int .i64 128] ∧ SL .u8 w_ (.slice A2 0 C2) (nn []) ∧ Blk .u32 w_ g10 58 (nn [q0, q1, q2, q3, q4, q5, q6, q7]) ∧ SL .u8 w_ (.slice A3 (nn X.2.1).length C3) (nn X.2.1) ∧ Cel w_ w35.heap.size 66 [.int .u32 ((p0 : Nat) : Int), .int .u32 ((p1 : Nat) : Int), .int .u32 ((p2 : Nat) : Int), .int .u32 ((p3 : Nat) : Int), .int .u32 ((p4 : Nat) : Int), .int .u32 ((p5 : Nat) : Int), .int .u32 ((p6 : Nat) : Int), .int .u32 ((p7 : Nat) : Int), .slice A3 (nn X.2.1).length C3, .int .i64 X.2.2] ∧ SL .u8 w_ (.slice A4 (nn X.2.1).length C4) (nn X.2.1) ∧ Cel w_ w38.heap.size 66 [.int .u32 ((p0 : Nat) : Int), .int .u32 ((p1 : Nat) : Int), .int .u32 ((p2 : Nat) : Int), .int .u32 ((p3 : Nat) : Int), .int .u32 ((p4 : Nat) : Int), .int .u32 ((p5 : Nat) : Int), .int .u32 ((p6 : Nat) : Int), .int .u32 ((p7 : Nat) : Int), .slice A4 (nn X.2.1).length C4, .int .i64 X.2.2] ∧ w40.heap.size ≤ w_.heap.size) (fun w_ => Bl w.heap.size w w_ ∧ SL .u8 w_ v (nn ns) ∧ Blk .u32 w_ w.heap.size 61 (nn tab) ∧ Blk .u8 w_ w1.heap.size 74 (nn xa) ∧ Blk .u8 w_ w2.heap.size 74 (nn xb) ∧ Cel w_ g9 66 [.int .u32 ((q0 : Nat) : Int), .int .u32 ((q1 : Nat) : Int), .int .u32 ((q2 : Nat) : Int), .int .u32 ((q3 : Nat) : Int), .int .u32 ((q4 : Nat) : Int), .int .u32 ((q5 : Nat) : Int), .int .u32 ((q6 : Nat) : Int), .int .u32 ((q7 : Nat) : Int), .slice A2 0 C2, .int .i64 128] ∧ SL .u8 w_ (.slice A2 0 C2) (nn []) ∧ Blk .u32 w_ g10 58 (nn [q0, q1, q2, q3, q4, q5, q6, q7]) ∧ SL .u8 w_ (.slice A3 (nn X.2.1).length C3) (nn X.2.1) ∧ Cel w_ w35.heap.size 66 [.int .u32 ((p0 : Nat) : Int), .int .u32 ((p1 : Nat) : Int), .int .u32 ((p2 : Nat) : Int), .int .u32 ((p3 : Nat) : Int), .int .u32 ((p4 : Nat) : Int), .int .u32 ((p5 : Nat) : Int), .int .u32 ((p6 : Nat) : Int), .int .u32 ((p7 : Nat) : Int), .slice A3 (nn X.2.1).length C3, .int .i64 X.2.2] ∧ SL .u8 w_ (.slice A4 (nn X.2.1).length C4) (nn X.2.1) ∧ Cel w_ w38.heap.size 66 [.int .u32 ((p0 : Nat) : Int), .int .u32 ((p1 : Nat) : Int), .int .u32 ((p2 : Nat) : Int), .int .u32 ((p3 : Nat) : Int), .int .u32 ((p4 : Nat) : Int), .int .u32 ((p5 : Nat) : Int), .int .u32 ((p6 : Nat) : Int), .int .u32 ((p7 : Nat) : Int), .slice A4 (nn X.2.1).length C4, .int .i64 X.2.2] ∧ w40.heap.size ≤ w_.heap.size) 100000 26 ⟨BL.e0 e20, D.e0 e20, b4.e0 e20, b5.e0 e20, b6.e0 e20, b9.e0 e20, U2.e0 e20, b10.e0 e20, U3.e0 e20, b11.e0 e20, U4.e0 e20, b12.e0 e20, Nat.le_refl _⟩ ?_
        clear BL D b4 b5 b6 b9 U2 b10 U3 b11 U4 b12
        clear e20
        intro w41
        rintro ⟨BL, D, b4, b5, b6, b9, U2, b10, U3, b11, U4, b12, z3⟩
        refine zv 0 35 (.pointer (some ⟨g9, 0, none⟩)) (fun _ _ => .of) ⟨BL, D, b4, b5, b6, b9, U2, b10, U3, b11, U4, b12, by omega⟩ ?_
        simp only [List.set_cons_zero, List.set_cons_succ]
        refine zv 1 36 (.agg (cellsOf .u32 (nn [q0, q1, q2, q3, q4, q5, q6, q7]))) (fun _ ⟨BL, D, b4, b5, b6, b9, U2, b10, U3, b11, U4, b12, z3⟩ => Val.cel 58 _ rfl 0 8 (by kernel_rfl) b9 _ Try.underlying58 rfl (by kernel_rfl) (by simp) ((nn [q0, q1, q2, q3, q4, q5, q6, q7]).map (Value.int .u32)) rfl) ⟨BL, D, b4, b5, b6, b9, U2, b10, U3, b11, U4, b12, by omega⟩ ?_
        simp only [List.set_cons_zero, List.set_cons_succ]
        refine zv 2 37 (.agg (cellsOf .u32 (nn [q0, q1, q2, q3, q4, q5, q6, q7]))) (fun _ ⟨BL, D, b4, b5, b6, b9, U2, b10, U3, b11, U4, b12, z3⟩ => Val.blk 58 _ rfl 0 8 (by kernel_rfl) b10 _ Try.underlying58 rfl (by kernel_rfl) (by (try simp only [nn_len, List.length_cons, List.length_nil, List.length_set, List.length_replicate]); try omega) _ (seg_all' _ (by (try simp only [nn_len, List.length_cons, List.length_nil, List.length_set, List.length_replicate]); try omega))) ⟨BL, D, b4, b5, b6, b9, U2, b10, U3, b11, U4, b12, by omega⟩ ?_
        simp only [List.set_cons_zero, List.set_cons_succ]
        refine zv 3 38 (.bool true) (fun _ ⟨BL, D, b4, b5, b6, b9, U2, b10, U3, b11, U4, b12, z3⟩ => Val.eqA .eql 58 _ (.tmp 36) (.tmp 37) rfl Try.underlying58 Try.underlying39 (by kernel_rfl) (by kernel_rfl) (nn [q0, q1, q2, q3, q4, q5, q6, q7]) (nn [q0, q1, q2, q3, q4, q5, q6, q7]) (by kernel_rfl) (by kernel_rfl) rfl rfl (.inl rfl) true (by simp)) ⟨BL, D, b4, b5, b6, b9, U2, b10, U3, b11, U4, b12, by omega⟩ ?_
        simp only [List.set_cons_zero, List.set_cons_succ]
        refine zv 4 39 (.bool true) (fun _ _ => .of) ⟨BL, D, b4, b5, b6, b9, U2, b10, U3, b11, U4, b12, by omega⟩ ?_
        simp only [List.set_cons_zero, List.set_cons_succ]
        refine zv 5 40 (.pointer (some ⟨g9, 9, none⟩)) (fun _ _ => .of) ⟨BL, D, b4, b5, b6, b9, U2, b10, U3, b11, U4, b12, by omega⟩ ?_
        simp only [List.set_cons_zero, List.set_cons_succ]
        refine zv 6 41 (.int .i64 128) (fun _ ⟨BL, D, b4, b5, b6, b9, U2, b10, U3, b11, U4, b12, z3⟩ => Val.cel1 3 _ rfl g9 9 _ (by kernel_rfl) (fun _ => (by kernel_rfl)) b9 rfl) ⟨BL, D, b4, b5, b6, b9, U2, b10, U3, b11, U4, b12, by omega⟩ ?_
        simp only [List.set_cons_zero, List.set_cons_succ]
        refine zv 7 42 (.bool true) (fun _ _ => .of) ⟨BL, D, b4, b5, b6, b9, U2, b10, U3, b11, U4, b12, by omega⟩ ?_
        simp only [List.set_cons_zero, List.set_cons_succ]
        refine zv 8 43 (.bool true) (fun _ _ => .of) ⟨BL, D, b4, b5, b6, b9, U2, b10, U3, b11, U4, b12, by omega⟩ ?_
        simp only [List.set_cons_zero, List.set_cons_succ]
        refine zv 9 44 (.bool true) (fun _ _ => .of) ⟨BL, D, b4, b5, b6, b9, U2, b10, U3, b11, U4, b12, by omega⟩ ?_
        simp only [List.set_cons_zero, List.set_cons_succ]
        refine zv 10 45 (.pointer (some ⟨g9, 8, none⟩)) (fun _ _ => .of) ⟨BL, D, b4, b5, b6, b9, U2, b10, U3, b11, U4, b12, by omega⟩ ?_
        simp only [List.set_cons_zero, List.set_cons_succ]
        refine zv 11 46 (.slice A2 0 C2) (fun _ ⟨BL, D, b4, b5, b6, b9, U2, b10, U3, b11, U4, b12, z3⟩ => Val.cel1 28 _ rfl g9 8 _ (by kernel_rfl) (fun _ => (by kernel_rfl)) b9 rfl) ⟨BL, D, b4, b5, b6, b9, U2, b10, U3, b11, U4, b12, by omega⟩ ?_
        simp only [List.set_cons_zero, List.set_cons_succ]
        refine zv 12 47 (.int .i64 (0 : Int)) (fun _ _ => .of) ⟨BL, D, b4, b5, b6, b9, U2, b10, U3, b11, U4, b12, by omega⟩ ?_
        simp only [List.set_cons_zero, List.set_cons_succ]
        refine zv 13 48 (.bool true) (fun _ _ => .of) ⟨BL, D, b4, b5, b6, b9, U2, b10, U3, b11, U4, b12, by omega⟩ ?_
        simp only [List.set_cons_zero, List.set_cons_succ]
        refine zv 14 49 (.bool true) (fun _ _ => .of) ⟨BL, D, b4, b5, b6, b9, U2, b10, U3, b11, U4, b12, by omega⟩ ?_
        simp only [List.set_cons_zero, List.set_cons_succ]
        refine zv 15 50 (.bool true) (fun _ _ => .of) ⟨BL, D, b4, b5, b6, b9, U2, b10, U3, b11, U4, b12, by omega⟩ ?_
        simp only [List.set_cons_zero, List.set_cons_succ]
        refine zv 16 51 (.agg #[.int .u32 ((p0 : Nat) : Int), .int .u32 ((p1 : Nat) : Int), .int .u32 ((p2 : Nat) : Int), .int .u32 ((p3 : Nat) : Int), .int .u32 ((p4 : Nat) : Int), .int .u32 ((p5 : Nat) : Int), .int .u32 ((p6 : Nat) : Int), .int .u32 ((p7 : Nat) : Int), .slice A3 (nn X.2.1).length C3, .int .i64 X.2.2]) (fun _ ⟨BL, D, b4, b5, b6, b9, U2, b10, U3, b11, U4, b12, z3⟩ => Val.cel 66 _ rfl 0 10 (by kernel_rfl) b11 _ Try.underlying66 rfl (by kernel_rfl) (by simp) [.int .u32 ((p0 : Nat) : Int), .int .u32 ((p1 : Nat) : Int), .int .u32 ((p2 : Nat) : Int), .int .u32 ((p3 : Nat) : Int), .int .u32 ((p4 : Nat) : Int), .int .u32 ((p5 : Nat) : Int), .int .u32 ((p6 : Nat) : Int), .int .u32 ((p7 : Nat) : Int), .slice A3 (nn X.2.1).length C3, .int .i64 X.2.2] rfl) ⟨BL, D, b4, b5, b6, b9, U2, b10, U3, b11, U4, b12, by omega⟩ ?_
        simp only [List.set_cons_zero, List.set_cons_succ]
        refine zv 18 53 (.agg #[.int .u32 ((p0 : Nat) : Int), .int .u32 ((p1 : Nat) : Int), .int .u32 ((p2 : Nat) : Int), .int .u32 ((p3 : Nat) : Int), .int .u32 ((p4 : Nat) : Int), .int .u32 ((p5 : Nat) : Int), .int .u32 ((p6 : Nat) : Int), .int .u32 ((p7 : Nat) : Int), .slice A4 (nn X.2.1).length C4, .int .i64 X.2.2]) (fun _ ⟨BL, D, b4, b5, b6, b9, U2, b10, U3, b11, U4, b12, z3⟩ => Val.cel 66 _ rfl 0 10 (by kernel_rfl) b12 _ Try.underlying66 rfl (by kernel_rfl) (by simp) [.int .u32 ((p0 : Nat) : Int), .int .u32 ((p1 : Nat) : Int), .int .u32 ((p2 : Nat) : Int), .int .u32 ((p3 : Nat) : Int), .int .u32 ((p4 : Nat) : Int), .int .u32 ((p5 : Nat) : Int), .int .u32 ((p6 : Nat) : Int), .int .u32 ((p7 : Nat) : Int), .slice A4 (nn X.2.1).length C4, .int .i64 X.2.2] rfl) ⟨BL, D, b4, b5, b6, b9, U2, b10, U3, b11, U4, b12, by omega⟩ ?_
        simp only [List.set_cons_zero, List.set_cons_succ]
        refine zo1 17 rfl ?_
        refine xCall 52 33 #[.pointer (some ⟨w.heap.size, 0, none⟩), .agg #[.int .u32 ((p0 : Nat) : Int), .int .u32 ((p1 : Nat) : Int), .int .u32 ((p2 : Nat) : Int), .int .u32 ((p3 : Nat) : Int), .int .u32 ((p4 : Nat) : Int), .int .u32 ((p5 : Nat) : Int), .int .u32 ((p6 : Nat) : Int), .int .u32 ((p7 : Nat) : Int), .slice A3 (nn X.2.1).length C3, .int .i64 X.2.2]] (by kernel_rfl) ?_
        have hs3 := fun W TB U => sum_any w.heap.size tab X hX8 (.slice A3 (nn X.2.1).length C3) ht W TB U
        rw [hp] at hs3
        refine (hs3 w41 b4 U3).mono ?_
        rintro en w42 ⟨rfl, hb1⟩
        have e21 := belE0 hb1
        have ze21 := e21.size
        replace BL := BL.e0 e21
        replace D := D.e0 e21
        replace b4 := b4.e0 e21
        replace b5 := b5.e0 e21
        replace b6 := b6.e0 e21
        replace b9 := b9.e0 e21
        replace U2 := U2.e0 e21
        replace b10 := b10.e0 e21
        replace U3 := U3.e0 e21
        replace b11 := b11.e0 e21
        replace U4 := U4.e0 e21
        replace b12 := b12.e0 e21
        clear e21
        refine ⟨.agg (cellsOf .u8 (nn (sumN tab X))), rfl, ?_⟩
        refine ze 17 ⟨BL, D, b4, b5, b6, b9, U2, b10, U3, b11, U4, b12, by omega⟩ ?_
        simp only [List.set_cons_zero, List.set_cons_succ]
        refine zo1 19 rfl ?_
        refine xCall 54 33 #[.pointer (some ⟨w.heap.size, 0, none⟩), .agg #[.int .u32 ((p0 : Nat) : Int), .int .u32 ((p1 : Nat) : Int), .int .u32 ((p2 : Nat) : Int), .int .u32 ((p3 : Nat) : Int), .int .u32 ((p4 : Nat) : Int), .int .u32 ((p5 : Nat) : Int), .int .u32 ((p6 : Nat) : Int), .int .u32 ((p7 : Nat) : Int), .slice A4 (nn X.2.1).length C4, .int .i64 X.2.2]] (by kernel_rfl) ?_
        have hs4 := fun W TB U => sum_any w.heap.size tab X hX8 (.slice A4 (nn X.2.1).length C4) ht W TB U
        rw [hp] at hs4
        refine (hs4 w42 b4 U4).mono ?_
        rintro en w43 ⟨rfl, hb1⟩
        have e22 := belE0 hb1
        have ze22 := e22.size
        replace BL := BL.e0 e22
        replace D := D.e0 e22
        replace b4 := b4.e0 e22
        replace b5 := b5.e0 e22
        replace b6 := b6.e0 e22
        replace b9 := b9.e0 e22
        replace U2 := U2.e0 e22
        replace b10 := b10.e0 e22
        replace U3 := U3.e0 e22
        replace b11 := b11.e0 e22
        replace U4 := U4.e0 e22
        replace b12 := b12.e0 e22
        clear e22
        refine ⟨.agg (cellsOf .u8 (nn (sumN tab X))), rfl, ?_⟩
        refine ze 19 ⟨BL, D, b4, b5, b6, b9, U2, b10, U3, b11, U4, b12, by omega⟩ ?_
        simp only [List.set_cons_zero, List.set_cons_succ]
        refine zv 20 55 (.bool true) (fun _ ⟨BL, D, b4, b5, b6, b9, U2, b10, U3, b11, U4, b12, z3⟩ => Val.eqA .eql 23 _ (.tmp 52) (.tmp 54) rfl Try.underlying23 Try.underlying5 (by kernel_rfl) (by kernel_rfl) (nn (sumN tab X)) (nn (sumN tab X)) (by kernel_rfl) (by kernel_rfl) (by rw [nn_len]; exact hsl) (by rw [nn_len]; exact hsl) (.inl rfl) true (by simp)) ⟨BL, D, b4, b5, b6, b9, U2, b10, U3, b11, U4, b12, by omega⟩ ?_
        simp only [List.set_cons_zero, List.set_cons_succ]
        refine zv 21 56 (.bool true) (fun _ _ => .of) ⟨BL, D, b4, b5, b6, b9, U2, b10, U3, b11, U4, b12, by omega⟩ ?_
        simp only [List.set_cons_zero, List.set_cons_succ]
        refine zv 22 57 (.bool true) (fun _ _ => .of) ⟨BL, D, b4, b5, b6, b9, U2, b10, U3, b11, U4, b12, by omega⟩ ?_
        simp only [List.set_cons_zero, List.set_cons_succ]
        refine zo1 23 rfl ?_
        refine xCall 58 38 #[] (by kernel_rfl) ?_
        refine (awake02_any w43).mono ?_
        rintro en w44 ⟨rfl, hb1⟩
        have e23 := belE0 hb1
        have ze23 := e23.size
        replace BL := BL.e0 e23
        replace D := D.e0 e23
        replace b4 := b4.e0 e23
        replace b5 := b5.e0 e23
        replace b6 := b6.e0 e23
        replace b9 := b9.e0 e23
        replace U2 := U2.e0 e23
        replace b10 := b10.e0 e23
        replace U3 := U3.e0 e23
        replace b11 := b11.e0 e23
        replace U4 := U4.e0 e23
        replace b12 := b12.e0 e23
        clear e23
        refine ⟨.bool true, rfl, ?_⟩
        refine ze 23 ⟨BL, D, b4, b5, b6, b9, U2, b10, U3, b11, U4, b12, by omega⟩ ?_
        simp only [List.set_cons_zero, List.set_cons_succ]
        refine zv 24 59 (.bool true) (fun _ _ => .of) ⟨BL, D, b4, b5, b6, b9, U2, b10, U3, b11, U4, b12, by omega⟩ ?_
        simp only [List.set_cons_zero, List.set_cons_succ]
        refine zv 25 8 (.bool true) (fun _ _ => .of) ⟨BL, D, b4, b5, b6, b9, U2, b10, U3, b11, U4, b12, by omega⟩ ?_
        simp only [List.set_cons_zero, List.set_cons_succ]
        refine zd (by kernel_rfl) ?_ _
        refine hK7 _ _ ?_
        refine wp_ret ?_
        (try simp only [Exit.then, Exit.inBlock])
        refine bodyPost_ret (v := .bool true) rT rfl ?_
        exact ⟨rfl, BL.b⟩

end Go.Proofs.Ytoeaekamoejhcaa
