/-
  ShaPieces: the walk.
-/
import Derived.Test.YtoeaekamoejhcaaShaTw
namespace Go.Proofs.Ytoeaekamoejhcaa
open Go.RowKit
set_option linter.unusedVariables false
set_option linter.unusedSimpArgs false
set_option maxRecDepth 100000
attribute [local irreducible] wpList Code.wp wpAnyZ

theorem runH_9 (tab s bs : List Nat) (hs : s.length = 8) : ∃ a b c d e f g i R, runH tab s bs = ([a, b, c, d, e, f, g, i], R, (bs.length : Int)) ∧ R = bs.drop (64 * (bs.length / 64)) := by
  obtain ⟨a, b, c, d, e, f, g, i, h⟩ := list8 _ (goB_len tab s bs hs (bs.length / 64))
  exact ⟨a, b, c, d, e, f, g, i, _, by unfold runH; rw [h], rfl⟩
theorem piece_cast {ns : List Nat} {k m : Nat} : ((nn ns).drop k).take (m - k) = nn ((ns.drop k).take (m - k)) := by rw [nn_take, nn_drop]
theorem piece_rest {ns : List Nat} {m : Nat} (h : m ≤ ns.length) : ((nn ns).drop (m - m % 64)).take (m - (m - m % 64)) = nn ((ns.take m).drop (64 * ((ns.take m).length / 64))) := by
  have e : 64 * ((ns.take m).length / 64) = m - m % 64 := by rw [List.length_take]; omega
  rw [e, List.drop_take, nn_take, nn_drop]
theorem pieces_app {ns : List Nat} {k m : Nat} (h : k ≤ m) : ns.take k ++ (ns.drop k).take (m - k) = ns.take m := by
  have e : m = k + (m - k) := by omega
  conv => rhs; rw [e, List.take_add]

set_option maxHeartbeats 4000000 in
theorem shaPieces_walk (tab ns cs : List Nat) (v vc : Value) (w : World) (ht : tab.length = 72) (hy : ∀ x ∈ ns, x < 256) (D : SL .u8 w v (nn ns)) (hyc : ∀ x ∈ cs, x < 65536) (DC : SL .u16 w vc (nn cs)) :
    Calls Try.prog 9 #[.agg (cellsOf .u32 (nn tab)), v, vc] w fun e w' => e = .returned (.bool true) ∧ Below w.heap.size w w' := by
  have BL := Bl.refl w
  have hd := D.lt
  have hdc := DC.lt
  have U := Own.nil 5 .u8 w.heap.size w
  have h8 : (tab.take 8).length = 8 := by rw [List.length_take]; omega
  obtain ⟨o0, o1, o2, o3, o4, o5, o6, o7, hq8⟩ := list8 (tab.take 8) h8
  obtain ⟨p0, p1, p2, p3, p4, p5, p6, p7, rr, hXn, hrr⟩ := runH_9 tab (tab.take 8) ns h8
  have hyr := runH_b hXn hy
  have hcs : ∀ j, cs.getD j 0 < 65536 := by
    intro j
    rw [List.getD_eq_getElem?_getD]
    cases h : cs[j]? with
    | none => simp
    | some x => exact hyc x (List.mem_of_getElem? h)
  have lU_1 := U.ge
  go_enter Try.func9, Try.ntmps9
  refine wp_seq_k fun K1 hK1 => ?_
  refine cPlain ?_
  refine xBox 3 61 _ ((nn tab).map (Value.int .u32)) rfl (cells_toList _ _) ?_
  intro w1 n1
  have zn1 := n1.z
  have b3 := n1.c
  replace b3 : Blk .u32 w1 w.heap.size 61 (nn tab) := b3
  replace BL := BL.e0 n1.e
  replace D := D.e0 n1.e
  replace DC := DC.e0 n1.e
  replace U := U.e0 n1.e
  simp only [List.set_cons_zero, List.set_cons_succ]
  refine sv 6 (.bool false) .of ?_
  simp only [List.set_cons_zero, List.set_cons_succ]
  refine wpList_nil ?_
  refine hK1 _ _ ?_
  refine wp_seq_k fun K2 hK2 => ?_
  refine wp_seq_k fun K3 hK3 => ?_
  refine cPlain ?_
  refine sv 11 (v) .of ?_
  simp only [List.set_cons_zero, List.set_cons_succ]
  refine sv 12 (.int .i64 ((ns.length : Nat) : Int)) (Val.lenS (.tmp 11) 28 rfl (by kernel_rfl) D ns.length (nn_len ns) Try.underlying28) ?_
  simp only [List.set_cons_zero, List.set_cons_succ]
  refine sv 13 (.bool (decide (700 < ((ns.length : Nat) : Int)))) (Val.cmp .gtr 3 _ (.tmp 12) _ rfl .i64 ((ns.length : Nat) : Int) 700 (by kernel_rfl) (by kernel_rfl) (by simp) _ rfl) ?_
  simp only [List.set_cons_zero, List.set_cons_succ]
  refine wpList_nil ?_
  refine hK3 _ _ ?_
  refine cDec (700 < ((ns.length : Nat) : Int)) (by kernel_rfl) (fun c13 => ?_) (fun c13 => ?_)
  · skip
    refine wp_seq_k fun K4 hK4 => ?_
    refine cPlain ?_
    refine xCall 14 38 #[] (by kernel_rfl) ?_
    refine (awake02_any w1).mono ?_
    rintro en w2 ⟨rfl, hb1⟩
    have e1 := belE0 hb1
    have ze1 := e1.size
    replace BL := BL.e0 e1
    replace D := D.e0 e1
    replace DC := DC.e0 e1
    replace U := U.e0 e1
    replace b3 := b3.e0 e1
    clear e1
    refine ⟨.bool true, rfl, ?_⟩
    simp only [List.set_cons_zero, List.set_cons_succ]
    refine sv 6 (.bool true) .of ?_
    simp only [List.set_cons_zero, List.set_cons_succ]
    refine wpList_nil ?_
    refine hK4 _ _ ?_
    refine wp_ret ?_
    (try simp only [Exit.then, Exit.inBlock])
    refine bodyPost_ret (v := .bool true) rT rfl ?_
    exact ⟨rfl, BL.b⟩
  · skip
    refine wp_skip ?_
    refine hK2 _ _ ?_
    refine wp_seq_k fun K5 hK5 => ?_
    refine cPlain ?_
    refine xCall 15 34 #[.pointer (some ⟨w.heap.size, 0, none⟩)] (by kernel_rfl) ?_
    refine (new_any w.heap.size tab ht w1 b3).mono ?_
    rintro en w3 ⟨he, hb1⟩
    rw [hq8] at he
    subst he
    have e2 := belE0 hb1
    have ze2 := e2.size
    replace BL := BL.e0 e2
    replace D := D.e0 e2
    replace DC := DC.e0 e2
    replace U := U.e0 e2
    replace b3 := b3.e0 e2
    clear e2
    refine ⟨.agg #[.int .u32 ((o0 : Nat) : Int), .int .u32 ((o1 : Nat) : Int), .int .u32 ((o2 : Nat) : Int), .int .u32 ((o3 : Nat) : Int), .int .u32 ((o4 : Nat) : Int), .int .u32 ((o5 : Nat) : Int), .int .u32 ((o6 : Nat) : Int), .int .u32 ((o7 : Nat) : Int), .slice none 0 0, .int .i64 0], rfl, ?_⟩
    simp only [List.set_cons_zero, List.set_cons_succ]
    refine xAlloc 7 66 [.int .u32 0, .int .u32 0, .int .u32 0, .int .u32 0, .int .u32 0, .int .u32 0, .int .u32 0, .int .u32 0, .slice none 0 0, .int .i64 0] rfl (by kernel_rfl) ?_
    intro w4 n2
    have zn2 := n2.z
    have b7 := n2.c
    replace BL := BL.e0 n2.e
    replace D := D.e0 n2.e
    replace DC := DC.e0 n2.e
    replace U := U.e0 n2.e
    replace b3 := b3.e0 n2.e
    simp only [List.set_cons_zero, List.set_cons_succ]
    refine xStoreR 66 (.tmp 7) (.tmp 15) rfl w3.heap.size 66 [.int .u32 0, .int .u32 0, .int .u32 0, .int .u32 0, .int .u32 0, .int .u32 0, .int .u32 0, .int .u32 0, .slice none 0 0, .int .i64 0] 0 [.int .u32 ((o0 : Nat) : Int), .int .u32 ((o1 : Nat) : Int), .int .u32 ((o2 : Nat) : Int), .int .u32 ((o3 : Nat) : Int), .int .u32 ((o4 : Nat) : Int), .int .u32 ((o5 : Nat) : Int), .int .u32 ((o6 : Nat) : Int), .int .u32 ((o7 : Nat) : Int), .slice none 0 0, .int .i64 0] (by kernel_rfl) (by kernel_rfl) b7 (by kernel_rfl) (by simp) rfl [.int .u32 ((o0 : Nat) : Int), .int .u32 ((o1 : Nat) : Int), .int .u32 ((o2 : Nat) : Int), .int .u32 ((o3 : Nat) : Int), .int .u32 ((o4 : Nat) : Int), .int .u32 ((o5 : Nat) : Int), .int .u32 ((o6 : Nat) : Int), .int .u32 ((o7 : Nat) : Int), .slice none 0 0, .int .i64 0] rfl ?_
    intro w5 t1
    have zt1 := t1.z
    have BL_ := BL.ev t1.e (fun i h => show w.heap.size ≤ i by have h : i = w3.heap.size := h; omega)
    have D_ := D.ev t1.e (fun i hi => show ¬ (i = w3.heap.size) by have := hd i hi; omega)
    have DC_ := DC.ev t1.e (fun i hi => show ¬ (i = w3.heap.size) by have := hdc i hi; omega)
    have U_ := U.ev t1.e (fun i hi => show ¬ (i = w3.heap.size) by have := lU_1 i hi; omega)
    have b3_ := b3.ev t1.e (show ¬ (w.heap.size = w3.heap.size) by omega)
    replace BL := BL_; clear BL_
    replace D := D_; clear D_
    replace DC := DC_; clear DC_
    replace U := U_; clear U_
    replace b3 := b3_; clear b3_
    replace b7 : Cel w5 w3.heap.size 66 [.int .u32 ((o0 : Nat) : Int), .int .u32 ((o1 : Nat) : Int), .int .u32 ((o2 : Nat) : Int), .int .u32 ((o3 : Nat) : Int), .int .u32 ((o4 : Nat) : Int), .int .u32 ((o5 : Nat) : Int), .int .u32 ((o6 : Nat) : Int), .int .u32 ((o7 : Nat) : Int), .slice none 0 0, .int .i64 0] := t1.c
    clear t1
    refine wpList_nil ?_
    refine hK5 _ _ ?_
    refine wp_seq_k fun K6 hK6 => ?_
    refine cPlain ?_
    refine sv 8 (.int .i64 0) .of ?_
    simp only [List.set_cons_zero, List.set_cons_succ]
    refine wpList_nil ?_
    refine hK6 _ _ ?_
    refine cCut (fun A_ w_ => ∃ (k : Nat) (q0 q1 q2 q3 q4 q5 q6 q7 : Nat) (r : List Nat) (A : Option Addr) (C : Nat), ((k ≤ ns.length) ∧ (runH tab (tab.take 8) (ns.take k) = ([q0, q1, q2, q3, q4, q5, q6, q7], r, (k : Int))) ∧ (∃ s1 : Nat → Value, A_ = ⟨[.agg (cellsOf .u32 (nn tab)), v, vc, .pointer (some ⟨w.heap.size, 0, none⟩), undef, undef, (s1 6), .pointer (some ⟨w3.heap.size, 0, none⟩), .int .i64 ((k : Nat) : Int), (s1 9), (s1 10), v, .int .i64 ((ns.length : Nat) : Int), .bool (decide (700 < ((ns.length : Nat) : Int))), undef, .agg #[.int .u32 ((o0 : Nat) : Int), .int .u32 ((o1 : Nat) : Int), .int .u32 ((o2 : Nat) : Int), .int .u32 ((o3 : Nat) : Int), .int .u32 ((o4 : Nat) : Int), .int .u32 ((o5 : Nat) : Int), .int .u32 ((o6 : Nat) : Int), .int .u32 ((o7 : Nat) : Int), .slice none 0 0, .int .i64 0], (s1 16), (s1 17), (s1 18), (s1 19), (s1 20), (s1 21), (s1 22), (s1 23), (s1 24), (s1 25), (s1 26), (s1 27), (s1 28), (s1 29), (s1 30), (s1 31), (s1 32), (s1 33), (s1 34), (s1 35), (s1 36), (s1 37), (s1 38), (s1 39), (s1 40), (s1 41), (s1 42), (s1 43), (s1 44), (s1 45), (s1 46), (s1 47), (s1 48), (s1 49), (s1 50), (s1 51), (s1 52), (s1 53), (s1 54), (s1 55), (s1 56), (s1 57), (s1 58), (s1 59), (s1 60), (s1 61), (s1 62), (s1 63), (s1 64), (s1 65), (s1 66), (s1 67), (s1 68), (s1 69), (s1 70), undef, undef, undef, undef, undef, undef, undef, undef, undef, undef, undef, undef, undef, undef, undef, undef, undef, undef, undef, undef].toArray, []⟩) ∧ Bl w.heap.size w w_ ∧ SL .u8 w_ v (nn ns) ∧ Own 5 .u8 (w3.heap.size + 1) w_ (.slice A r.length C) (nn r) ∧ Blk .u32 w_ w.heap.size 61 (nn tab) ∧ Cel w_ w3.heap.size 66 [.int .u32 ((q0 : Nat) : Int), .int .u32 ((q1 : Nat) : Int), .int .u32 ((q2 : Nat) : Int), .int .u32 ((q3 : Nat) : Int), .int .u32 ((q4 : Nat) : Int), .int .u32 ((q5 : Nat) : Int), .int .u32 ((q6 : Nat) : Int), .int .u32 ((q7 : Nat) : Int), .slice A r.length C, .int .i64 ((k : Nat) : Int)] ∧ w5.heap.size ≤ w_.heap.size)) ?_ ?_
    · skip
      refine wp_seq_k fun K7 hK7 => ?_
      refine cPlain ?_
      refine sv 9 (.int .i64 0) .of ?_
      simp only [List.set_cons_zero, List.set_cons_succ]
      refine wpList_nil ?_
      refine hK7 _ _ ?_
      refine wp_block ?_
      refine cLoop (fun N_ A_ w_ => ∃ (j : Nat) (k : Nat) (q0 q1 q2 q3 q4 q5 q6 q7 : Nat) (r : List Nat) (A : Option Addr) (C : Nat), (N_ = cs.length - j ∧ (k ≤ ns.length) ∧ (runH tab (tab.take 8) (ns.take k) = ([q0, q1, q2, q3, q4, q5, q6, q7], r, (k : Int))) ∧ (∃ s2 : Nat → Value, A_ = ⟨[.agg (cellsOf .u32 (nn tab)), v, vc, .pointer (some ⟨w.heap.size, 0, none⟩), undef, undef, (s2 6), .pointer (some ⟨w3.heap.size, 0, none⟩), .int .i64 ((k : Nat) : Int), .int .i64 ((j : Nat) : Int), (s2 10), v, .int .i64 ((ns.length : Nat) : Int), .bool (decide (700 < ((ns.length : Nat) : Int))), undef, .agg #[.int .u32 ((o0 : Nat) : Int), .int .u32 ((o1 : Nat) : Int), .int .u32 ((o2 : Nat) : Int), .int .u32 ((o3 : Nat) : Int), .int .u32 ((o4 : Nat) : Int), .int .u32 ((o5 : Nat) : Int), .int .u32 ((o6 : Nat) : Int), .int .u32 ((o7 : Nat) : Int), .slice none 0 0, .int .i64 0], (s2 16), (s2 17), (s2 18), (s2 19), (s2 20), (s2 21), (s2 22), (s2 23), (s2 24), (s2 25), (s2 26), (s2 27), (s2 28), (s2 29), (s2 30), (s2 31), (s2 32), (s2 33), (s2 34), (s2 35), (s2 36), (s2 37), (s2 38), (s2 39), (s2 40), (s2 41), (s2 42), (s2 43), (s2 44), (s2 45), (s2 46), (s2 47), (s2 48), (s2 49), (s2 50), (s2 51), (s2 52), (s2 53), (s2 54), (s2 55), (s2 56), (s2 57), (s2 58), (s2 59), (s2 60), (s2 61), (s2 62), (s2 63), (s2 64), (s2 65), (s2 66), (s2 67), (s2 68), (s2 69), (s2 70), undef, undef, undef, undef, undef, undef, undef, undef, undef, undef, undef, undef, undef, undef, undef, undef, undef, undef, undef, undef].toArray, []⟩) ∧ Bl w.heap.size w w_ ∧ SL .u8 w_ v (nn ns) ∧ SL .u16 w_ vc (nn cs) ∧ Own 5 .u8 (w3.heap.size + 1) w_ (.slice A r.length C) (nn r) ∧ Blk .u32 w_ w.heap.size 61 (nn tab) ∧ Cel w_ w3.heap.size 66 [.int .u32 ((q0 : Nat) : Int), .int .u32 ((q1 : Nat) : Int), .int .u32 ((q2 : Nat) : Int), .int .u32 ((q3 : Nat) : Int), .int .u32 ((q4 : Nat) : Int), .int .u32 ((q5 : Nat) : Int), .int .u32 ((q6 : Nat) : Int), .int .u32 ((q7 : Nat) : Int), .slice A r.length C, .int .i64 ((k : Nat) : Int)] ∧ w5.heap.size ≤ w_.heap.size)) _ ⟨0, 0, o0, o1, o2, o3, o4, o5, o6, o7, [], none, 0, rfl, (Nat.zero_le _), (by rw [List.take_zero, runH_nil, hq8]; rfl), cutE, BL, D, DC, (Own.nil _ _ _ _), b3, b7, Nat.le_refl _⟩ ?_
      clear BL D DC U b3 b7
      rintro n_ a_ wl0 ⟨j, k, q0, q1, q2, q3, q4, q5, q6, q7, r, A, C, rfl, hc0_0, hc0_1, ⟨s2, rfl⟩, BL, D, DC, U, b3, b7, zl0⟩
      have lU_2 := U.ge
      refine wp_seq_k fun K8 hK8 => ?_
      refine wp_seq_k fun K9 hK9 => ?_
      refine cPlain ?_
      refine sv 16 (.int .i64 ((j : Nat) : Int)) .of ?_
      simp only [List.set_cons_zero, List.set_cons_succ]
      refine sv 17 (vc) .of ?_
      simp only [List.set_cons_zero, List.set_cons_succ]
      refine sv 18 (.int .i64 ((cs.length : Nat) : Int)) (Val.lenS (.tmp 17) 83 rfl (by kernel_rfl) DC cs.length (nn_len cs) Try.underlying83) ?_
      simp only [List.set_cons_zero, List.set_cons_succ]
      refine sv 19 (.bool (decide (((j : Nat) : Int) < ((cs.length : Nat) : Int)))) (Val.cmp .lss 3 _ (.tmp 16) (.tmp 18) rfl .i64 ((j : Nat) : Int) ((cs.length : Nat) : Int) (by kernel_rfl) (by kernel_rfl) (by simp) _ rfl) ?_
      simp only [List.set_cons_zero, List.set_cons_succ]
      refine sv 20 (.bool (decide (((j : Nat) : Int) < ((cs.length : Nat) : Int)))) .of ?_
      simp only [List.set_cons_zero, List.set_cons_succ]
      by_cases g21 : ((j : Nat) : Int) < ((cs.length : Nat) : Int)
      · skip
        have dg21 : decide (((j : Nat) : Int) < ((cs.length : Nat) : Int)) = true := decide_eq_true g21
        simp only [dg21]
        clear dg21
        refine sv 21 (.int .i64 ((j : Nat) : Int)) .of ?_
        simp only [List.set_cons_zero, List.set_cons_succ]
        refine sv 22 (.bool (decide (((j : Nat) : Int) < 20))) (Val.cmp .lss 3 _ (.tmp 21) _ rfl .i64 ((j : Nat) : Int) 20 (by kernel_rfl) (by kernel_rfl) (by simp) _ rfl) ?_
        simp only [List.set_cons_zero, List.set_cons_succ]
        refine sv 23 (.bool (decide (((j : Nat) : Int) < 20))) .of ?_
        simp only [List.set_cons_zero, List.set_cons_succ]
        refine wpList_nil ?_
        refine hK9 _ _ ?_
        refine cDec (((j : Nat) : Int) < 20) (by kernel_rfl) (fun c23 => ?_) (fun c23 => ?_)
        · skip
          refine wp_skip ?_
          refine hK8 _ _ ?_
          refine wp_seq_k fun K10 hK10 => ?_
          refine wp_block ?_
          refine wp_seq_k fun K11 hK11 => ?_
          have hcj := hcs j
          have hmod := Nat.mod_lt (cs.getD j 0) (show ns.length - k + 1 > 0 by omega)
          obtain ⟨m, hm⟩ : ∃ m, m = k + cs.getD j 0 % (ns.length - k + 1) := ⟨_, rfl⟩
          refine cPlain ?_
          refine sv 26 (.int .i64 ((k : Nat) : Int)) .of ?_
          simp only [List.set_cons_zero, List.set_cons_succ]
          refine sv 27 (vc) .of ?_
          simp only [List.set_cons_zero, List.set_cons_succ]
          refine sv 28 (.int .i64 ((j : Nat) : Int)) .of ?_
          simp only [List.set_cons_zero, List.set_cons_succ]
          refine sv 29 (elemP vc j) (Val.idxE 83 (.tmp 27) (.tmp 28) rfl vc j (by kernel_rfl) (by kernel_rfl) DC Try.underlying83 (by kernel_rfl) (by rw [nn_len]; omega)) ?_
          simp only [List.set_cons_zero, List.set_cons_succ]
          refine sv 30 (.int .u16 ((cs.getD j 0 : Nat) : Int)) (Val.nldE 47 _ rfl vc j (by kernel_rfl) (fun _ => (by kernel_rfl)) DC (by omega)) ?_
          simp only [List.set_cons_zero, List.set_cons_succ]
          refine sv 31 (.int .i64 ((cs.getD j 0 : Nat) : Int)) (Val.conv64 47 3 (.tmp 30) rfl Try.underlying47 Try.underlying3 ((cs.getD j 0 : Nat) : Int) (by kernel_rfl) (by omega)) ?_
          simp only [List.set_cons_zero, List.set_cons_succ]
          refine sv 32 (v) .of ?_
          simp only [List.set_cons_zero, List.set_cons_succ]
          refine sv 33 (.int .i64 ((ns.length : Nat) : Int)) (Val.lenS (.tmp 32) 28 rfl (by kernel_rfl) D ns.length (nn_len ns) Try.underlying28) ?_
          simp only [List.set_cons_zero, List.set_cons_succ]
          refine sv 34 (.int .i64 ((k : Nat) : Int)) .of ?_
          simp only [List.set_cons_zero, List.set_cons_succ]
          refine sv 35 (.int .i64 (((ns.length : Nat) : Int) - ((k : Nat) : Int))) (Val.sub 3 _ (.tmp 33) (.tmp 34) rfl ((ns.length : Nat) : Int) ((k : Nat) : Int) (by kernel_rfl) (by kernel_rfl) (by omega)) ?_
          simp only [List.set_cons_zero, List.set_cons_succ]
          refine sv 36 (.int .i64 ((ns.length - k + 1 : Nat) : Int)) (Val.as (Val.add 3 _ (.tmp 35) _ rfl (((ns.length : Nat) : Int) - ((k : Nat) : Int)) 1 (by kernel_rfl) (by kernel_rfl) (by omega)) (congrArg (Value.int .i64) (by omega))) ?_
          simp only [List.set_cons_zero, List.set_cons_succ]
          refine sv 37 (.int .i64 (((cs.getD j 0) % (ns.length - k + 1) : Nat) : Int)) (Val.remN 3 _ (.tmp 31) (.tmp 36) rfl .i64 (cs.getD j 0) (ns.length - k + 1) (by kernel_rfl) (by kernel_rfl) (by omega)) ?_
          simp only [List.set_cons_zero, List.set_cons_succ]
          refine sv 38 (.int .i64 ((m : Nat) : Int)) (Val.as (Val.add 3 _ (.tmp 26) (.tmp 37) rfl ((k : Nat) : Int) (((cs.getD j 0) % (ns.length - k + 1) : Nat) : Int) (by kernel_rfl) (by kernel_rfl) (by omega)) (congrArg (Value.int .i64) (by omega))) ?_
          simp only [List.set_cons_zero, List.set_cons_succ]
          refine sv 10 (.int .i64 ((m : Nat) : Int)) .of ?_
          simp only [List.set_cons_zero, List.set_cons_succ]
          refine wpList_nil ?_
          refine hK11 _ _ ?_
          refine wp_seq_k fun K12 hK12 => ?_
          obtain ⟨y0, y1, y2, y3, y4, y5, y6, y7, r2, hX2, hr2⟩ := runH_9 tab (tab.take 8) (ns.take m) h8
          rw [List.length_take, Nat.min_eq_left (show m ≤ ns.length by omega)] at hX2
          have hrl : r2.length = m % 64 := by rw [hr2, List.length_drop, List.length_take]; omega
          have hyz := runH_b hX2 (fun x hx => hy x (List.mem_of_mem_take hx))
          have e3 := drew_e0 wl0
          refine zg (fun w_ => Bl w.heap.size w w_ ∧ SL .u8 w_ v (nn ns) ∧ SL .u16 w_ vc (nn cs) ∧ Own 5 .u8 (w3.heap.size + 1) w_ (.slice A r.length C) (nn r) ∧ Blk .u32 w_ w.heap.size 61 (nn tab) ∧ Cel w_ w3.heap.size 66 [.int .u32 ((q0 : Nat) : Int), .int .u32 ((q1 : Nat) : Int), .int .u32 ((q2 : Nat) : Int), .int .u32 ((q3 : Nat) : Int), .int .u32 ((q4 : Nat) : Int), .int .u32 ((q5 : Nat) : Int), .int .u32 ((q6 : Nat) : Int), .int .u32 ((q7 : Nat) : Int), .slice A r.length C, .int .i64 ((k : Nat) : Int)] ∧ wl0.heap.size ≤ w_.heap.size) (fun w_ => Bl w.heap.size w w_ ∧ SL .u8 w_ v (nn ns) ∧ SL .u16 w_ vc (nn cs) ∧ Own 5 .u8 (w3.heap.size + 1) w_ (.slice A r.length C) (nn r) ∧ Blk .u32 w_ w.heap.size 61 (nn tab) ∧ Cel w_ w3.heap.size 66 [.int .u32 ((q0 : Nat) : Int), .int .u32 ((q1 : Nat) : Int), .int .u32 ((q2 : Nat) : Int), .int .u32 ((q3 : Nat) : Int), .int .u32 ((q4 : Nat) : Int), .int .u32 ((q5 : Nat) : Int), .int .u32 ((q6 : Nat) : Int), .int .u32 ((q7 : Nat) : Int), .slice A r.length C, .int .i64 ((k : Nat) : Int)] ∧ wl0.heap.size ≤ w_.heap.size) 6 7 ⟨BL.e0 e3, D.e0 e3, DC.e0 e3, U.e0 e3, b3.e0 e3, b7.e0 e3, Nat.le_refl _⟩ ?_
          clear BL D DC U b3 b7
          clear e3
          intro w6
          rintro ⟨BL, D, DC, U, b3, b7, z1⟩
          refine zv 0 39 (.agg #[.int .u32 ((q0 : Nat) : Int), .int .u32 ((q1 : Nat) : Int), .int .u32 ((q2 : Nat) : Int), .int .u32 ((q3 : Nat) : Int), .int .u32 ((q4 : Nat) : Int), .int .u32 ((q5 : Nat) : Int), .int .u32 ((q6 : Nat) : Int), .int .u32 ((q7 : Nat) : Int), .slice A r.length C, .int .i64 ((k : Nat) : Int)]) (fun _ ⟨BL, D, DC, U, b3, b7, z1⟩ => Val.cel 66 _ rfl 0 10 (by kernel_rfl) b7 _ Try.underlying66 rfl (by kernel_rfl) (by simp) [.int .u32 ((q0 : Nat) : Int), .int .u32 ((q1 : Nat) : Int), .int .u32 ((q2 : Nat) : Int), .int .u32 ((q3 : Nat) : Int), .int .u32 ((q4 : Nat) : Int), .int .u32 ((q5 : Nat) : Int), .int .u32 ((q6 : Nat) : Int), .int .u32 ((q7 : Nat) : Int), .slice A r.length C, .int .i64 ((k : Nat) : Int)] rfl) ⟨BL, D, DC, U, b3, b7, by omega⟩ ?_
          simp only [List.set_cons_zero, List.set_cons_succ]
          refine zv 1 40 (v) (fun _ _ => .of) ⟨BL, D, DC, U, b3, b7, by omega⟩ ?_
          simp only [List.set_cons_zero, List.set_cons_succ]
          refine zv 2 41 (.int .i64 ((k : Nat) : Int)) (fun _ _ => .of) ⟨BL, D, DC, U, b3, b7, by omega⟩ ?_
          simp only [List.set_cons_zero, List.set_cons_succ]
          refine zv 3 42 (.int .i64 ((m : Nat) : Int)) (fun _ _ => .of) ⟨BL, D, DC, U, b3, b7, by omega⟩ ?_
          simp only [List.set_cons_zero, List.set_cons_succ]
          refine zv 4 43 (sliceV v k m) (fun _ ⟨BL, D, DC, U, b3, b7, z1⟩ => Val.slc 28 (.tmp 40) (some (.tmp 41)) (some (.tmp 42)) rfl v (by kernel_rfl) D k m (.inl (by kernel_rfl)) (.inl (by kernel_rfl)) (by omega) (by rw [nn_len]; omega) Try.underlying28 (by kernel_rfl)) ⟨BL, D, DC, U, b3, b7, by omega⟩ ?_
          simp only [List.set_cons_zero, List.set_cons_succ]
          refine zo1 5 rfl ?_
          refine xCall 44 31 #[.pointer (some ⟨w.heap.size, 0, none⟩), .agg #[.int .u32 ((q0 : Nat) : Int), .int .u32 ((q1 : Nat) : Int), .int .u32 ((q2 : Nat) : Int), .int .u32 ((q3 : Nat) : Int), .int .u32 ((q4 : Nat) : Int), .int .u32 ((q5 : Nat) : Int), .int .u32 ((q6 : Nat) : Int), .int .u32 ((q7 : Nat) : Int), .slice A r.length C, .int .i64 ((k : Nat) : Int)], sliceV v k m] (by kernel_rfl) ?_
          refine (write_run w.heap.size tab (tab.take 8) (ns.take k) ((ns.drop k).take (m - k)) [q0, q1, q2, q3, q4, q5, q6, q7] r [y0, y1, y2, y3, y4, y5, y6, y7] r2 (k) (m) (hc0_1) (((congrArg _ (pieces_app (by omega))).trans hX2)) h8 (by first | (rw [List.length_take]; omega) | simp) (by first | omega | ((try rw [List.length_take]); rw [List.length_drop]; omega)) (.slice A r.length C) _ ht w6 b3 U.sl ((D.slice k m (by omega) (by rw [nn_len]; omega)).cast piece_cast)).mono ?_
          rintro en w7 ⟨u2, he2, hO2, hb1⟩
          obtain ⟨A2, C2, hu2⟩ := hO2.len
          rw [nn_len] at hu2
          rw [hu2] at he2 hO2
          subst he2
          have e4 := belE0 hb1
          have ze4 := e4.size
          replace BL := BL.e0 e4
          replace D := D.e0 e4
          replace DC := DC.e0 e4
          replace U := U.e0 e4
          replace b3 := b3.e0 e4
          replace b7 := b7.e0 e4
          clear e4
          have U2 : Own 5 .u8 w6.heap.size w7 (.slice A2 r2.length C2) (nn r2) := hO2
          have lU2_1 := U2.ge
          refine ⟨.agg #[.int .u32 ((y0 : Nat) : Int), .int .u32 ((y1 : Nat) : Int), .int .u32 ((y2 : Nat) : Int), .int .u32 ((y3 : Nat) : Int), .int .u32 ((y4 : Nat) : Int), .int .u32 ((y5 : Nat) : Int), .int .u32 ((y6 : Nat) : Int), .int .u32 ((y7 : Nat) : Int), .slice A2 r2.length C2, .int .i64 m], rfl, ?_⟩
          refine ze 5 ⟨BL, D, DC, U, b3, b7, by omega⟩ ?_
          simp only [List.set_cons_zero, List.set_cons_succ]
          refine zo1 6 rfl ?_
          refine xStoreR 66 (.tmp 7) (.tmp 44) rfl w3.heap.size 66 [.int .u32 ((q0 : Nat) : Int), .int .u32 ((q1 : Nat) : Int), .int .u32 ((q2 : Nat) : Int), .int .u32 ((q3 : Nat) : Int), .int .u32 ((q4 : Nat) : Int), .int .u32 ((q5 : Nat) : Int), .int .u32 ((q6 : Nat) : Int), .int .u32 ((q7 : Nat) : Int), .slice A r.length C, .int .i64 ((k : Nat) : Int)] 0 [.int .u32 ((y0 : Nat) : Int), .int .u32 ((y1 : Nat) : Int), .int .u32 ((y2 : Nat) : Int), .int .u32 ((y3 : Nat) : Int), .int .u32 ((y4 : Nat) : Int), .int .u32 ((y5 : Nat) : Int), .int .u32 ((y6 : Nat) : Int), .int .u32 ((y7 : Nat) : Int), .slice A2 r2.length C2, .int .i64 m] (by kernel_rfl) (by kernel_rfl) b7 (by kernel_rfl) (by simp) rfl [.int .u32 ((y0 : Nat) : Int), .int .u32 ((y1 : Nat) : Int), .int .u32 ((y2 : Nat) : Int), .int .u32 ((y3 : Nat) : Int), .int .u32 ((y4 : Nat) : Int), .int .u32 ((y5 : Nat) : Int), .int .u32 ((y6 : Nat) : Int), .int .u32 ((y7 : Nat) : Int), .slice A2 r2.length C2, .int .i64 m] rfl ?_
          intro w8 t2
          have zt2 := t2.z
          have BL_ := BL.ev t2.e (fun i h => show w.heap.size ≤ i by have h : i = w3.heap.size := h; omega)
          have D_ := D.ev t2.e (fun i hi => show ¬ (i = w3.heap.size) by have := hd i hi; omega)
          have DC_ := DC.ev t2.e (fun i hi => show ¬ (i = w3.heap.size) by have := hdc i hi; omega)
          have U_ := U.ev t2.e (fun i hi => show ¬ (i = w3.heap.size) by have := lU_2 i hi; omega)
          have b3_ := b3.ev t2.e (show ¬ (w.heap.size = w3.heap.size) by omega)
          have U2_ := U2.ev t2.e (fun i hi => show ¬ (i = w3.heap.size) by have := lU2_1 i hi; omega)
          replace BL := BL_; clear BL_
          replace D := D_; clear D_
          replace DC := DC_; clear DC_
          replace U := U_; clear U_
          replace b3 := b3_; clear b3_
          replace U2 := U2_; clear U2_
          replace b7 : Cel w8 w3.heap.size 66 [.int .u32 ((y0 : Nat) : Int), .int .u32 ((y1 : Nat) : Int), .int .u32 ((y2 : Nat) : Int), .int .u32 ((y3 : Nat) : Int), .int .u32 ((y4 : Nat) : Int), .int .u32 ((y5 : Nat) : Int), .int .u32 ((y6 : Nat) : Int), .int .u32 ((y7 : Nat) : Int), .slice A2 r2.length C2, .int .i64 m] := t2.c
          clear t2
          refine zz 6 ?_
          refine zd (by kernel_rfl) ?_ _
          refine hK12 _ _ ?_
          refine wp_seq_k fun K13 hK13 => ?_
          refine cPlain ?_
          refine sv 45 (.int .i64 ((m : Nat) : Int)) .of ?_
          simp only [List.set_cons_zero, List.set_cons_succ]
          refine sv 8 (.int .i64 ((m : Nat) : Int)) .of ?_
          simp only [List.set_cons_zero, List.set_cons_succ]
          refine wpList_nil ?_
          refine hK13 _ _ ?_
          refine wp_seq_k fun K14 hK14 => ?_
          have e5 := drew_e0 w8
          refine zg (fun w_ => Bl w.heap.size w w_ ∧ SL .u8 w_ v (nn ns) ∧ SL .u16 w_ vc (nn cs) ∧ Own 5 .u8 (w3.heap.size + 1) w_ (.slice A r.length C) (nn r) ∧ Blk .u32 w_ w.heap.size 61 (nn tab) ∧ Cel w_ w3.heap.size 66 [.int .u32 ((y0 : Nat) : Int), .int .u32 ((y1 : Nat) : Int), .int .u32 ((y2 : Nat) : Int), .int .u32 ((y3 : Nat) : Int), .int .u32 ((y4 : Nat) : Int), .int .u32 ((y5 : Nat) : Int), .int .u32 ((y6 : Nat) : Int), .int .u32 ((y7 : Nat) : Int), .slice A2 r2.length C2, .int .i64 m] ∧ Own 5 .u8 w6.heap.size w_ (.slice A2 r2.length C2) (nn r2) ∧ w8.heap.size ≤ w_.heap.size) (fun w_ => Bl w.heap.size w w_ ∧ SL .u8 w_ v (nn ns) ∧ SL .u16 w_ vc (nn cs) ∧ Own 5 .u8 (w3.heap.size + 1) w_ (.slice A r.length C) (nn r) ∧ Blk .u32 w_ w.heap.size 61 (nn tab) ∧ Cel w_ w3.heap.size 66 [.int .u32 ((y0 : Nat) : Int), .int .u32 ((y1 : Nat) : Int), .int .u32 ((y2 : Nat) : Int), .int .u32 ((y3 : Nat) : Int), .int .u32 ((y4 : Nat) : Int), .int .u32 ((y5 : Nat) : Int), .int .u32 ((y6 : Nat) : Int), .int .u32 ((y7 : Nat) : Int), .slice A2 r2.length C2, .int .i64 m] ∧ Own 5 .u8 w6.heap.size w_ (.slice A2 r2.length C2) (nn r2) ∧ w8.heap.size ≤ w_.heap.size) 100000 25 ⟨BL.e0 e5, D.e0 e5, DC.e0 e5, U.e0 e5, b3.e0 e5, b7.e0 e5, U2.e0 e5, Nat.le_refl _⟩ ?_
          clear BL D DC U b3 b7 U2
          clear e5
          intro w9
          rintro ⟨BL, D, DC, U, b3, b7, U2, z2⟩
          refine zv 0 46 (.pointer (some ⟨w3.heap.size, 9, none⟩)) (fun _ _ => .of) ⟨BL, D, DC, U, b3, b7, U2, by omega⟩ ?_
          simp only [List.set_cons_zero, List.set_cons_succ]
          refine zv 1 47 (.int .i64 m) (fun _ ⟨BL, D, DC, U, b3, b7, U2, z2⟩ => Val.cel1 3 _ rfl w3.heap.size 9 _ (by kernel_rfl) (fun _ => (by kernel_rfl)) b7 rfl) ⟨BL, D, DC, U, b3, b7, U2, by omega⟩ ?_
          simp only [List.set_cons_zero, List.set_cons_succ]
          refine zv 2 48 (.int .i64 ((m : Nat) : Int)) (fun _ _ => .of) ⟨BL, D, DC, U, b3, b7, U2, by omega⟩ ?_
          simp only [List.set_cons_zero, List.set_cons_succ]
          refine zv 3 49 (.bool false) (fun _ ⟨BL, D, DC, U, b3, b7, U2, z2⟩ => Val.cmp .neq 3 _ (.tmp 47) (.tmp 48) rfl .i64 m ((m : Nat) : Int) (by kernel_rfl) (by kernel_rfl) (by simp) _ (by simp [cmpB])) ⟨BL, D, DC, U, b3, b7, U2, by omega⟩ ?_
          simp only [List.set_cons_zero, List.set_cons_succ]
          refine zv 4 50 (.bool false) (fun _ _ => .of) ⟨BL, D, DC, U, b3, b7, U2, by omega⟩ ?_
          simp only [List.set_cons_zero, List.set_cons_succ]
          refine zv 5 51 (.pointer (some ⟨w3.heap.size, 8, none⟩)) (fun _ _ => .of) ⟨BL, D, DC, U, b3, b7, U2, by omega⟩ ?_
          simp only [List.set_cons_zero, List.set_cons_succ]
          refine zv 6 52 (.slice A2 r2.length C2) (fun _ ⟨BL, D, DC, U, b3, b7, U2, z2⟩ => Val.cel1 28 _ rfl w3.heap.size 8 _ (by kernel_rfl) (fun _ => (by kernel_rfl)) b7 rfl) ⟨BL, D, DC, U, b3, b7, U2, by omega⟩ ?_
          simp only [List.set_cons_zero, List.set_cons_succ]
          refine zv 7 53 (.int .i64 (r2.length : Int)) (fun _ _ => .of) ⟨BL, D, DC, U, b3, b7, U2, by omega⟩ ?_
          simp only [List.set_cons_zero, List.set_cons_succ]
          refine zv 8 54 (.int .i64 ((m : Nat) : Int)) (fun _ _ => .of) ⟨BL, D, DC, U, b3, b7, U2, by omega⟩ ?_
          simp only [List.set_cons_zero, List.set_cons_succ]
          refine zv 9 55 (.int .i64 ((m % 64 : Nat) : Int)) (fun _ ⟨BL, D, DC, U, b3, b7, U2, z2⟩ => Val.remN 3 _ (.tmp 54) _ rfl .i64 m 64 (by kernel_rfl) (by kernel_rfl) (by omega)) ⟨BL, D, DC, U, b3, b7, U2, by omega⟩ ?_
          simp only [List.set_cons_zero, List.set_cons_succ]
          refine zv 10 56 (.bool false) (fun _ ⟨BL, D, DC, U, b3, b7, U2, z2⟩ => Val.cmp .neq 3 _ (.tmp 53) (.tmp 55) rfl .i64 (r2.length : Int) ((m % 64 : Nat) : Int) (by kernel_rfl) (by kernel_rfl) (by simp) _ (by simp only [cmpB]; rw [hrl]; simp)) ⟨BL, D, DC, U, b3, b7, U2, by omega⟩ ?_
          simp only [List.set_cons_zero, List.set_cons_succ]
          refine zv 11 57 (.bool false) (fun _ _ => .of) ⟨BL, D, DC, U, b3, b7, U2, by omega⟩ ?_
          simp only [List.set_cons_zero, List.set_cons_succ]
          refine zv 12 58 (.bool false) (fun _ _ => .of) ⟨BL, D, DC, U, b3, b7, U2, by omega⟩ ?_
          simp only [List.set_cons_zero, List.set_cons_succ]
          refine zv 13 59 (.pointer (some ⟨w3.heap.size, 8, none⟩)) (fun _ _ => .of) ⟨BL, D, DC, U, b3, b7, U2, by omega⟩ ?_
          simp only [List.set_cons_zero, List.set_cons_succ]
          refine zv 14 60 (.slice A2 r2.length C2) (fun _ ⟨BL, D, DC, U, b3, b7, U2, z2⟩ => Val.cel1 28 _ rfl w3.heap.size 8 _ (by kernel_rfl) (fun _ => (by kernel_rfl)) b7 rfl) ⟨BL, D, DC, U, b3, b7, U2, by omega⟩ ?_
          simp only [List.set_cons_zero, List.set_cons_succ]
          refine zv 15 61 (v) (fun _ _ => .of) ⟨BL, D, DC, U, b3, b7, U2, by omega⟩ ?_
          simp only [List.set_cons_zero, List.set_cons_succ]
          refine zv 16 62 (.int .i64 ((m : Nat) : Int)) (fun _ _ => .of) ⟨BL, D, DC, U, b3, b7, U2, by omega⟩ ?_
          simp only [List.set_cons_zero, List.set_cons_succ]
          refine zv 17 63 (.int .i64 ((m : Nat) : Int)) (fun _ _ => .of) ⟨BL, D, DC, U, b3, b7, U2, by omega⟩ ?_
          simp only [List.set_cons_zero, List.set_cons_succ]
          refine zv 18 64 (.int .i64 ((m % 64 : Nat) : Int)) (fun _ ⟨BL, D, DC, U, b3, b7, U2, z2⟩ => Val.remN 3 _ (.tmp 63) _ rfl .i64 m 64 (by kernel_rfl) (by kernel_rfl) (by omega)) ⟨BL, D, DC, U, b3, b7, U2, by omega⟩ ?_
          simp only [List.set_cons_zero, List.set_cons_succ]
          refine zv 19 65 (.int .i64 ((m - m % 64 : Nat) : Int)) (fun _ ⟨BL, D, DC, U, b3, b7, U2, z2⟩ => Val.as (Val.sub 3 _ (.tmp 62) (.tmp 64) rfl ((m : Nat) : Int) ((m % 64 : Nat) : Int) (by kernel_rfl) (by kernel_rfl) (by omega)) (congrArg (Value.int .i64) (by omega))) ⟨BL, D, DC, U, b3, b7, U2, by omega⟩ ?_
          simp only [List.set_cons_zero, List.set_cons_succ]
          refine zv 20 66 (.int .i64 ((m : Nat) : Int)) (fun _ _ => .of) ⟨BL, D, DC, U, b3, b7, U2, by omega⟩ ?_
          simp only [List.set_cons_zero, List.set_cons_succ]
          refine zv 21 67 (sliceV v (m - m % 64) m) (fun _ ⟨BL, D, DC, U, b3, b7, U2, z2⟩ => Val.slc 28 (.tmp 61) (some (.tmp 65)) (some (.tmp 66)) rfl v (by kernel_rfl) D (m - m % 64) m (.inl (by kernel_rfl)) (.inl (by kernel_rfl)) (by omega) (by rw [nn_len]; omega) Try.underlying28 (by kernel_rfl)) ⟨BL, D, DC, U, b3, b7, U2, by omega⟩ ?_
          simp only [List.set_cons_zero, List.set_cons_succ]
          refine zo1 22 rfl ?_
          refine xCall 68 16 #[.slice A2 r2.length C2, sliceV v (m - m % 64) m] (by kernel_rfl) ?_
          refine (same_any _ _ (nn r2) (nn r2) w9 U2.sl ((D.slice (m - m % 64) m (by omega) (by rw [nn_len]; omega)).cast ((piece_rest (by omega)).trans (congrArg nn hr2.symm))) (bytes_nn hyz) (bytes_nn hyz)).mono ?_
          rintro en w10 ⟨he, hw⟩
          rw [decide_eq_true rfl] at he
          subst he
          obtain rfl := (hw.symm).symm
          refine ⟨.bool true, rfl, ?_⟩
          refine ze 22 ⟨BL, D, DC, U, b3, b7, U2, by omega⟩ ?_
          simp only [List.set_cons_zero, List.set_cons_succ]
          refine zv 23 69 (.bool false) (fun _ _ => .of) ⟨BL, D, DC, U, b3, b7, U2, by omega⟩ ?_
          simp only [List.set_cons_zero, List.set_cons_succ]
          refine zv 24 70 (.bool false) (fun _ _ => .of) ⟨BL, D, DC, U, b3, b7, U2, by omega⟩ ?_
          simp only [List.set_cons_zero, List.set_cons_succ]
          refine zd (by kernel_rfl) ?_ _
          refine hK14 _ _ ?_
          refine cF ?_
          refine wp_skip ?_
          refine hK10 _ _ ?_
          refine cPlain ?_
          refine sv 24 (.int .i64 ((j : Nat) : Int)) .of ?_
          simp only [List.set_cons_zero, List.set_cons_succ]
          refine sv 25 (.int .i64 (((j : Nat) : Int) + 1)) (Val.add 3 _ (.tmp 24) _ rfl ((j : Nat) : Int) 1 (by kernel_rfl) (by kernel_rfl) (by omega)) ?_
          simp only [List.set_cons_zero, List.set_cons_succ]
          refine sv 9 (.int .i64 (((j : Nat) : Int) + 1)) .of ?_
          simp only [List.set_cons_zero, List.set_cons_succ]
          refine wpList_nil ?_
          refine ⟨_, ?_, j + 1, m, y0, y1, y2, y3, y4, y5, y6, y7, r2, A2, C2, rfl, (by omega), hX2, cutE, BL, D, DC, (U2.mono (by omega)), b3, b7, by omega⟩
          omega
        · skip
          refine wp_exit ?_
          simp only [Exit.then, Exit.inBlock, ↓reduceIte, Nat.reduceEqDiff]
          exact ⟨k, q0, q1, q2, q3, q4, q5, q6, q7, r, A, C, hc0_0, hc0_1, cutE, BL, D, U, b3, b7, by omega⟩
      · skip
        have dg21 : decide (((j : Nat) : Int) < ((cs.length : Nat) : Int)) = false := decide_eq_false g21
        simp only [dg21]
        clear dg21
        refine xSkip 21 ?_
        simp only [List.set_cons_zero, List.set_cons_succ]
        refine xSkip 22 ?_
        simp only [List.set_cons_zero, List.set_cons_succ]
        refine sv 23 (.bool false) .of ?_
        simp only [List.set_cons_zero, List.set_cons_succ]
        refine wpList_nil ?_
        refine hK9 _ _ ?_
        refine cF ?_
        refine wp_exit ?_
        simp only [Exit.then, Exit.inBlock, ↓reduceIte, Nat.reduceEqDiff]
        exact ⟨k, q0, q1, q2, q3, q4, q5, q6, q7, r, A, C, hc0_0, hc0_1, cutE, BL, D, U, b3, b7, by omega⟩
    · skip
      clear BL D DC U b3 b7
      rintro a_ wJ1 ⟨k, q0, q1, q2, q3, q4, q5, q6, q7, r, A, C, hJ1_0, hJ1_1, ⟨s1, rfl⟩, BL, D, U, b3, b7, zJ1⟩
      have lU_3 := U.ge
      refine wp_seq_k fun K15 hK15 => ?_
      have e6 := drew_e0 wJ1
      refine zg (fun w_ => Bl w.heap.size w w_ ∧ SL .u8 w_ v (nn ns) ∧ Own 5 .u8 (w3.heap.size + 1) w_ (.slice A r.length C) (nn r) ∧ Blk .u32 w_ w.heap.size 61 (nn tab) ∧ Cel w_ w3.heap.size 66 [.int .u32 ((q0 : Nat) : Int), .int .u32 ((q1 : Nat) : Int), .int .u32 ((q2 : Nat) : Int), .int .u32 ((q3 : Nat) : Int), .int .u32 ((q4 : Nat) : Int), .int .u32 ((q5 : Nat) : Int), .int .u32 ((q6 : Nat) : Int), .int .u32 ((q7 : Nat) : Int), .slice A r.length C, .int .i64 ((k : Nat) : Int)] ∧ wJ1.heap.size ≤ w_.heap.size) (fun w_ => Bl w.heap.size w w_ ∧ SL .u8 w_ v (nn ns) ∧ Own 5 .u8 (w3.heap.size + 1) w_ (.slice A r.length C) (nn r) ∧ Blk .u32 w_ w.heap.size 61 (nn tab) ∧ Cel w_ w3.heap.size 66 [.int .u32 ((q0 : Nat) : Int), .int .u32 ((q1 : Nat) : Int), .int .u32 ((q2 : Nat) : Int), .int .u32 ((q3 : Nat) : Int), .int .u32 ((q4 : Nat) : Int), .int .u32 ((q5 : Nat) : Int), .int .u32 ((q6 : Nat) : Int), .int .u32 ((q7 : Nat) : Int), .slice A r.length C, .int .i64 ((k : Nat) : Int)] ∧ wJ1.heap.size ≤ w_.heap.size) 5 6 ⟨BL.e0 e6, D.e0 e6, U.e0 e6, b3.e0 e6, b7.e0 e6, Nat.le_refl _⟩ ?_
      clear BL D U b3 b7
      clear e6
      intro w11
      rintro ⟨BL, D, U, b3, b7, z3⟩
      refine zv 0 71 (.agg #[.int .u32 ((q0 : Nat) : Int), .int .u32 ((q1 : Nat) : Int), .int .u32 ((q2 : Nat) : Int), .int .u32 ((q3 : Nat) : Int), .int .u32 ((q4 : Nat) : Int), .int .u32 ((q5 : Nat) : Int), .int .u32 ((q6 : Nat) : Int), .int .u32 ((q7 : Nat) : Int), .slice A r.length C, .int .i64 ((k : Nat) : Int)]) (fun _ ⟨BL, D, U, b3, b7, z3⟩ => Val.cel 66 _ rfl 0 10 (by kernel_rfl) b7 _ Try.underlying66 rfl (by kernel_rfl) (by simp) [.int .u32 ((q0 : Nat) : Int), .int .u32 ((q1 : Nat) : Int), .int .u32 ((q2 : Nat) : Int), .int .u32 ((q3 : Nat) : Int), .int .u32 ((q4 : Nat) : Int), .int .u32 ((q5 : Nat) : Int), .int .u32 ((q6 : Nat) : Int), .int .u32 ((q7 : Nat) : Int), .slice A r.length C, .int .i64 ((k : Nat) : Int)] rfl) ⟨BL, D, U, b3, b7, by omega⟩ ?_
      simp only [List.set_cons_zero, List.set_cons_succ]
      refine zv 1 72 (v) (fun _ _ => .of) ⟨BL, D, U, b3, b7, by omega⟩ ?_
      simp only [List.set_cons_zero, List.set_cons_succ]
      refine zv 2 73 (.int .i64 ((k : Nat) : Int)) (fun _ _ => .of) ⟨BL, D, U, b3, b7, by omega⟩ ?_
      simp only [List.set_cons_zero, List.set_cons_succ]
      refine zv 3 74 (sliceV v k ((nn ns).length)) (fun _ ⟨BL, D, U, b3, b7, z3⟩ => Val.slc 28 (.tmp 72) (some (.tmp 73)) none rfl v (by kernel_rfl) D k ((nn ns).length) (.inl (by kernel_rfl)) (.inr ⟨rfl, rfl⟩) (by rw [nn_len]; omega) (Nat.le_refl _) Try.underlying28 (by kernel_rfl)) ⟨BL, D, U, b3, b7, by omega⟩ ?_
      simp only [List.set_cons_zero, List.set_cons_succ]
      refine zo1 4 rfl ?_
      refine xCall 75 31 #[.pointer (some ⟨w.heap.size, 0, none⟩), .agg #[.int .u32 ((q0 : Nat) : Int), .int .u32 ((q1 : Nat) : Int), .int .u32 ((q2 : Nat) : Int), .int .u32 ((q3 : Nat) : Int), .int .u32 ((q4 : Nat) : Int), .int .u32 ((q5 : Nat) : Int), .int .u32 ((q6 : Nat) : Int), .int .u32 ((q7 : Nat) : Int), .slice A r.length C, .int .i64 ((k : Nat) : Int)], sliceV v k ((nn ns).length)] (by kernel_rfl) ?_
      refine (write_run w.heap.size tab (tab.take 8) (ns.take k) (ns.drop k) [q0, q1, q2, q3, q4, q5, q6, q7] r [p0, p1, p2, p3, p4, p5, p6, p7] rr (k) ((ns.length : Int)) (hJ1_1) (((congrArg _ (List.take_append_drop k ns)).trans hXn)) h8 (by first | (rw [List.length_take]; omega) | simp) (by first | omega | ((try rw [List.length_take]); rw [List.length_drop]; omega)) (.slice A r.length C) _ ht w11 b3 U.sl ((D.slice k (nn ns).length (by rw [nn_len]; omega) (Nat.le_refl _)).cast (by rw [← nn_drop, ← nn_take, List.take_of_length_le (by rw [nn_len, List.length_drop]; exact Nat.le_refl _)]))).mono ?_
      rintro en w12 ⟨u3, he3, hO3, hb1⟩
      obtain ⟨A3, C3, hu3⟩ := hO3.len
      rw [nn_len] at hu3
      rw [hu3] at he3 hO3
      subst he3
      have e7 := belE0 hb1
      have ze7 := e7.size
      replace BL := BL.e0 e7
      replace D := D.e0 e7
      replace U := U.e0 e7
      replace b3 := b3.e0 e7
      replace b7 := b7.e0 e7
      clear e7
      have U3 : Own 5 .u8 w11.heap.size w12 (.slice A3 rr.length C3) (nn rr) := hO3
      have lU3_1 := U3.ge
      refine ⟨.agg #[.int .u32 ((p0 : Nat) : Int), .int .u32 ((p1 : Nat) : Int), .int .u32 ((p2 : Nat) : Int), .int .u32 ((p3 : Nat) : Int), .int .u32 ((p4 : Nat) : Int), .int .u32 ((p5 : Nat) : Int), .int .u32 ((p6 : Nat) : Int), .int .u32 ((p7 : Nat) : Int), .slice A3 rr.length C3, .int .i64 (ns.length : Int)], rfl, ?_⟩
      refine ze 4 ⟨BL, D, U, b3, b7, by omega⟩ ?_
      simp only [List.set_cons_zero, List.set_cons_succ]
      refine zo1 5 rfl ?_
      refine xStoreR 66 (.tmp 7) (.tmp 75) rfl w3.heap.size 66 [.int .u32 ((q0 : Nat) : Int), .int .u32 ((q1 : Nat) : Int), .int .u32 ((q2 : Nat) : Int), .int .u32 ((q3 : Nat) : Int), .int .u32 ((q4 : Nat) : Int), .int .u32 ((q5 : Nat) : Int), .int .u32 ((q6 : Nat) : Int), .int .u32 ((q7 : Nat) : Int), .slice A r.length C, .int .i64 ((k : Nat) : Int)] 0 [.int .u32 ((p0 : Nat) : Int), .int .u32 ((p1 : Nat) : Int), .int .u32 ((p2 : Nat) : Int), .int .u32 ((p3 : Nat) : Int), .int .u32 ((p4 : Nat) : Int), .int .u32 ((p5 : Nat) : Int), .int .u32 ((p6 : Nat) : Int), .int .u32 ((p7 : Nat) : Int), .slice A3 rr.length C3, .int .i64 (ns.length : Int)] (by kernel_rfl) (by kernel_rfl) b7 (by kernel_rfl) (by simp) rfl [.int .u32 ((p0 : Nat) : Int), .int .u32 ((p1 : Nat) : Int), .int .u32 ((p2 : Nat) : Int), .int .u32 ((p3 : Nat) : Int), .int .u32 ((p4 : Nat) : Int), .int .u32 ((p5 : Nat) : Int), .int .u32 ((p6 : Nat) : Int), .int .u32 ((p7 : Nat) : Int), .slice A3 rr.length C3, .int .i64 (ns.length : Int)] rfl ?_
      intro w13 t3
      have zt3 := t3.z
      have BL_ := BL.ev t3.e (fun i h => show w.heap.size ≤ i by have h : i = w3.heap.size := h; omega)
      have D_ := D.ev t3.e (fun i hi => show ¬ (i = w3.heap.size) by have := hd i hi; omega)
      have U_ := U.ev t3.e (fun i hi => show ¬ (i = w3.heap.size) by have := lU_3 i hi; omega)
      have b3_ := b3.ev t3.e (show ¬ (w.heap.size = w3.heap.size) by omega)
      have U3_ := U3.ev t3.e (fun i hi => show ¬ (i = w3.heap.size) by have := lU3_1 i hi; omega)
      replace BL := BL_; clear BL_
      replace D := D_; clear D_
      replace U := U_; clear U_
      replace b3 := b3_; clear b3_
      replace U3 := U3_; clear U3_
      replace b7 : Cel w13 w3.heap.size 66 [.int .u32 ((p0 : Nat) : Int), .int .u32 ((p1 : Nat) : Int), .int .u32 ((p2 : Nat) : Int), .int .u32 ((p3 : Nat) : Int), .int .u32 ((p4 : Nat) : Int), .int .u32 ((p5 : Nat) : Int), .int .u32 ((p6 : Nat) : Int), .int .u32 ((p7 : Nat) : Int), .slice A3 rr.length C3, .int .i64 (ns.length : Int)] := t3.c
      clear t3
      refine zz 5 ?_
      refine zd (by kernel_rfl) ?_ _
      refine hK15 _ _ ?_
      refine wp_seq_k fun K16 hK16 => ?_
      have e8 := drew_e0 w13
      refine zg (fun w_ => Bl w.heap.size w w_ ∧ SL .u8 w_ v (nn ns) ∧ Own 5 .u8 (w3.heap.size + 1) w_ (.slice A r.length C) (nn r) ∧ Blk .u32 w_ w.heap.size 61 (nn tab) ∧ Cel w_ w3.heap.size 66 [.int .u32 ((p0 : Nat) : Int), .int .u32 ((p1 : Nat) : Int), .int .u32 ((p2 : Nat) : Int), .int .u32 ((p3 : Nat) : Int), .int .u32 ((p4 : Nat) : Int), .int .u32 ((p5 : Nat) : Int), .int .u32 ((p6 : Nat) : Int), .int .u32 ((p7 : Nat) : Int), .slice A3 rr.length C3, .int .i64 (ns.length : Int)] ∧ Own 5 .u8 w11.heap.size w_ (.slice A3 rr.length C3) (nn rr) ∧ w13.heap.size ≤ w_.heap.size) (fun w_ => Bl w.heap.size w w_ ∧ SL .u8 w_ v (nn ns) ∧ Own 5 .u8 (w3.heap.size + 1) w_ (.slice A r.length C) (nn r) ∧ Blk .u32 w_ w.heap.size 61 (nn tab) ∧ Cel w_ w3.heap.size 66 [.int .u32 ((p0 : Nat) : Int), .int .u32 ((p1 : Nat) : Int), .int .u32 ((p2 : Nat) : Int), .int .u32 ((p3 : Nat) : Int), .int .u32 ((p4 : Nat) : Int), .int .u32 ((p5 : Nat) : Int), .int .u32 ((p6 : Nat) : Int), .int .u32 ((p7 : Nat) : Int), .slice A3 rr.length C3, .int .i64 (ns.length : Int)] ∧ Own 5 .u8 w11.heap.size w_ (.slice A3 rr.length C3) (nn rr) ∧ w13.heap.size ≤ w_.heap.size) 100000 16 ⟨BL.e0 e8, D.e0 e8, U.e0 e8, b3.e0 e8, b7.e0 e8, U3.e0 e8, Nat.le_refl _⟩ ?_
      clear BL D U b3 b7 U3
      clear e8
      intro w14
      rintro ⟨BL, D, U, b3, b7, U3, z4⟩
      refine zv 0 76 (.agg #[.int .u32 ((p0 : Nat) : Int), .int .u32 ((p1 : Nat) : Int), .int .u32 ((p2 : Nat) : Int), .int .u32 ((p3 : Nat) : Int), .int .u32 ((p4 : Nat) : Int), .int .u32 ((p5 : Nat) : Int), .int .u32 ((p6 : Nat) : Int), .int .u32 ((p7 : Nat) : Int), .slice A3 rr.length C3, .int .i64 (ns.length : Int)]) (fun _ ⟨BL, D, U, b3, b7, U3, z4⟩ => Val.cel 66 _ rfl 0 10 (by kernel_rfl) b7 _ Try.underlying66 rfl (by kernel_rfl) (by simp) [.int .u32 ((p0 : Nat) : Int), .int .u32 ((p1 : Nat) : Int), .int .u32 ((p2 : Nat) : Int), .int .u32 ((p3 : Nat) : Int), .int .u32 ((p4 : Nat) : Int), .int .u32 ((p5 : Nat) : Int), .int .u32 ((p6 : Nat) : Int), .int .u32 ((p7 : Nat) : Int), .slice A3 rr.length C3, .int .i64 (ns.length : Int)] rfl) ⟨BL, D, U, b3, b7, U3, by omega⟩ ?_
      simp only [List.set_cons_zero, List.set_cons_succ]
      refine zv 2 78 (v) (fun _ _ => .of) ⟨BL, D, U, b3, b7, U3, by omega⟩ ?_
      simp only [List.set_cons_zero, List.set_cons_succ]
      refine zo1 1 rfl ?_
      refine xCall 77 33 #[.pointer (some ⟨w.heap.size, 0, none⟩), .agg #[.int .u32 ((p0 : Nat) : Int), .int .u32 ((p1 : Nat) : Int), .int .u32 ((p2 : Nat) : Int), .int .u32 ((p3 : Nat) : Int), .int .u32 ((p4 : Nat) : Int), .int .u32 ((p5 : Nat) : Int), .int .u32 ((p6 : Nat) : Int), .int .u32 ((p7 : Nat) : Int), .slice A3 rr.length C3, .int .i64 (ns.length : Int)]] (by kernel_rfl) ?_
      refine (sum_any w.heap.size tab ([p0, p1, p2, p3, p4, p5, p6, p7], rr, (ns.length : Int)) rfl (.slice A3 rr.length C3) ht w14 b3 U3.sl).mono ?_
      rintro en w15 ⟨rfl, hb1⟩
      have e9 := belE0 hb1
      have ze9 := e9.size
      replace BL := BL.e0 e9
      replace D := D.e0 e9
      replace U := U.e0 e9
      replace b3 := b3.e0 e9
      replace b7 := b7.e0 e9
      replace U3 := U3.e0 e9
      clear e9
      refine ⟨.agg (cellsOf .u8 (nn (sumN tab ([p0, p1, p2, p3, p4, p5, p6, p7], rr, (ns.length : Int))))), rfl, ?_⟩
      refine ze 1 ⟨BL, D, U, b3, b7, U3, by omega⟩ ?_
      simp only [List.set_cons_zero, List.set_cons_succ]
      refine zo1 3 rfl ?_
      refine xCall 79 35 #[.pointer (some ⟨w.heap.size, 0, none⟩), v] (by kernel_rfl) ?_
      refine (of_run w.heap.size tab ns [p0, p1, p2, p3, p4, p5, p6, p7] rr _ hXn _ ht w15 b3 D (by omega)).mono ?_
      rintro en w16 ⟨rfl, hb1⟩
      have e10 := belE0 hb1
      have ze10 := e10.size
      replace BL := BL.e0 e10
      replace D := D.e0 e10
      replace U := U.e0 e10
      replace b3 := b3.e0 e10
      replace b7 := b7.e0 e10
      replace U3 := U3.e0 e10
      clear e10
      refine ⟨.agg (cellsOf .u8 (nn (sumN tab ([p0, p1, p2, p3, p4, p5, p6, p7], rr, (ns.length : Int))))), rfl, ?_⟩
      refine ze 3 ⟨BL, D, U, b3, b7, U3, by omega⟩ ?_
      simp only [List.set_cons_zero, List.set_cons_succ]
      refine zv 4 80 (.bool true) (fun _ ⟨BL, D, U, b3, b7, U3, z4⟩ => Val.eqA .eql 23 _ (.tmp 77) (.tmp 79) rfl Try.underlying23 Try.underlying5 (by kernel_rfl) (by kernel_rfl) (nn (sumN tab ([p0, p1, p2, p3, p4, p5, p6, p7], rr, (ns.length : Int)))) (nn (sumN tab ([p0, p1, p2, p3, p4, p5, p6, p7], rr, (ns.length : Int)))) (by kernel_rfl) (by kernel_rfl) (by rw [nn_len]; exact sumN_len _ _) (by rw [nn_len]; exact sumN_len _ _) (.inl rfl) true (by simp)) ⟨BL, D, U, b3, b7, U3, by omega⟩ ?_
      simp only [List.set_cons_zero, List.set_cons_succ]
      refine zv 5 81 (.bool true) (fun _ _ => .of) ⟨BL, D, U, b3, b7, U3, by omega⟩ ?_
      simp only [List.set_cons_zero, List.set_cons_succ]
      refine zv 6 82 (.agg #[.int .u32 ((p0 : Nat) : Int), .int .u32 ((p1 : Nat) : Int), .int .u32 ((p2 : Nat) : Int), .int .u32 ((p3 : Nat) : Int), .int .u32 ((p4 : Nat) : Int), .int .u32 ((p5 : Nat) : Int), .int .u32 ((p6 : Nat) : Int), .int .u32 ((p7 : Nat) : Int), .slice A3 rr.length C3, .int .i64 (ns.length : Int)]) (fun _ ⟨BL, D, U, b3, b7, U3, z4⟩ => Val.cel 66 _ rfl 0 10 (by kernel_rfl) b7 _ Try.underlying66 rfl (by kernel_rfl) (by simp) [.int .u32 ((p0 : Nat) : Int), .int .u32 ((p1 : Nat) : Int), .int .u32 ((p2 : Nat) : Int), .int .u32 ((p3 : Nat) : Int), .int .u32 ((p4 : Nat) : Int), .int .u32 ((p5 : Nat) : Int), .int .u32 ((p6 : Nat) : Int), .int .u32 ((p7 : Nat) : Int), .slice A3 rr.length C3, .int .i64 (ns.length : Int)] rfl) ⟨BL, D, U, b3, b7, U3, by omega⟩ ?_
      simp only [List.set_cons_zero, List.set_cons_succ]
      refine zv 8 84 (v) (fun _ _ => .of) ⟨BL, D, U, b3, b7, U3, by omega⟩ ?_
      simp only [List.set_cons_zero, List.set_cons_succ]
      refine zo1 7 rfl ?_
      refine xCall 83 34 #[.pointer (some ⟨w.heap.size, 0, none⟩)] (by kernel_rfl) ?_
      refine (new_any w.heap.size tab ht w16 b3).mono ?_
      rintro en w17 ⟨he, hb1⟩
      rw [hq8] at he
      subst he
      have e11 := belE0 hb1
      have ze11 := e11.size
      replace BL := BL.e0 e11
      replace D := D.e0 e11
      replace U := U.e0 e11
      replace b3 := b3.e0 e11
      replace b7 := b7.e0 e11
      replace U3 := U3.e0 e11
      clear e11
      refine ⟨.agg #[.int .u32 ((o0 : Nat) : Int), .int .u32 ((o1 : Nat) : Int), .int .u32 ((o2 : Nat) : Int), .int .u32 ((o3 : Nat) : Int), .int .u32 ((o4 : Nat) : Int), .int .u32 ((o5 : Nat) : Int), .int .u32 ((o6 : Nat) : Int), .int .u32 ((o7 : Nat) : Int), .slice none 0 0, .int .i64 0], rfl, ?_⟩
      refine ze 7 ⟨BL, D, U, b3, b7, U3, by omega⟩ ?_
      simp only [List.set_cons_zero, List.set_cons_succ]
      refine zo1 9 rfl ?_
      refine xCall 85 31 #[.pointer (some ⟨w.heap.size, 0, none⟩), .agg #[.int .u32 ((o0 : Nat) : Int), .int .u32 ((o1 : Nat) : Int), .int .u32 ((o2 : Nat) : Int), .int .u32 ((o3 : Nat) : Int), .int .u32 ((o4 : Nat) : Int), .int .u32 ((o5 : Nat) : Int), .int .u32 ((o6 : Nat) : Int), .int .u32 ((o7 : Nat) : Int), .slice none 0 0, .int .i64 0], v] (by kernel_rfl) ?_
      refine (write_run w.heap.size tab (tab.take 8) ([]) (ns) [o0, o1, o2, o3, o4, o5, o6, o7] [] [p0, p1, p2, p3, p4, p5, p6, p7] rr (0) ((ns.length : Int)) (by rw [runH_nil, hq8]) (by rw [List.nil_append]; exact hXn) h8 (by first | (rw [List.length_take]; omega) | simp) (by first | omega | ((try rw [List.length_take]); rw [List.length_drop]; omega)) (.slice none 0 0) _ ht w17 b3 (SL.nil _ _) D).mono ?_
      rintro en w18 ⟨u4, he4, hO4, hb1⟩
      obtain ⟨A4, C4, hu4⟩ := hO4.len
      rw [nn_len] at hu4
      rw [hu4] at he4 hO4
      subst he4
      have e12 := belE0 hb1
      have ze12 := e12.size
      replace BL := BL.e0 e12
      replace D := D.e0 e12
      replace U := U.e0 e12
      replace b3 := b3.e0 e12
      replace b7 := b7.e0 e12
      replace U3 := U3.e0 e12
      clear e12
      have U4 : Own 5 .u8 w17.heap.size w18 (.slice A4 rr.length C4) (nn rr) := hO4
      have lU4_1 := U4.ge
      refine ⟨.agg #[.int .u32 ((p0 : Nat) : Int), .int .u32 ((p1 : Nat) : Int), .int .u32 ((p2 : Nat) : Int), .int .u32 ((p3 : Nat) : Int), .int .u32 ((p4 : Nat) : Int), .int .u32 ((p5 : Nat) : Int), .int .u32 ((p6 : Nat) : Int), .int .u32 ((p7 : Nat) : Int), .slice A4 rr.length C4, .int .i64 (ns.length : Int)], rfl, ?_⟩
      refine ze 9 ⟨BL, D, U, b3, b7, U3, by omega⟩ ?_
      simp only [List.set_cons_zero, List.set_cons_succ]
      refine zo1 10 rfl ?_
      refine xCall 86 32 #[.agg #[.int .u32 ((p0 : Nat) : Int), .int .u32 ((p1 : Nat) : Int), .int .u32 ((p2 : Nat) : Int), .int .u32 ((p3 : Nat) : Int), .int .u32 ((p4 : Nat) : Int), .int .u32 ((p5 : Nat) : Int), .int .u32 ((p6 : Nat) : Int), .int .u32 ((p7 : Nat) : Int), .slice A3 rr.length C3, .int .i64 (ns.length : Int)], .agg #[.int .u32 ((p0 : Nat) : Int), .int .u32 ((p1 : Nat) : Int), .int .u32 ((p2 : Nat) : Int), .int .u32 ((p3 : Nat) : Int), .int .u32 ((p4 : Nat) : Int), .int .u32 ((p5 : Nat) : Int), .int .u32 ((p6 : Nat) : Int), .int .u32 ((p7 : Nat) : Int), .slice A4 rr.length C4, .int .i64 (ns.length : Int)]] (by kernel_rfl) ?_
      refine (sameH_any ([p0, p1, p2, p3, p4, p5, p6, p7], rr, (ns.length : Int)) ([p0, p1, p2, p3, p4, p5, p6, p7], rr, (ns.length : Int)) rfl rfl (.slice A3 rr.length C3) (.slice A4 rr.length C4) w18 U3.sl U4.sl hyr hyr).mono ?_
      rintro en w19 ⟨he, hb1⟩
      rw [decide_eq_true rfl] at he
      subst he
      have e13 := belE0 hb1
      have ze13 := e13.size
      replace BL := BL.e0 e13
      replace D := D.e0 e13
      replace U := U.e0 e13
      replace b3 := b3.e0 e13
      replace b7 := b7.e0 e13
      replace U3 := U3.e0 e13
      replace U4 := U4.e0 e13
      clear e13
      refine ⟨.bool true, rfl, ?_⟩
      refine ze 10 ⟨BL, D, U, b3, b7, U3, by omega⟩ ?_
      simp only [List.set_cons_zero, List.set_cons_succ]
      refine zv 11 87 (.bool true) (fun _ _ => .of) ⟨BL, D, U, b3, b7, U3, by omega⟩ ?_
      simp only [List.set_cons_zero, List.set_cons_succ]
      refine zv 12 88 (.bool true) (fun _ _ => .of) ⟨BL, D, U, b3, b7, U3, by omega⟩ ?_
      simp only [List.set_cons_zero, List.set_cons_succ]
      refine zo1 13 rfl ?_
      refine xCall 89 38 #[] (by kernel_rfl) ?_
      refine (awake02_any w19).mono ?_
      rintro en w20 ⟨rfl, hb1⟩
      have e14 := belE0 hb1
      have ze14 := e14.size
      replace BL := BL.e0 e14
      replace D := D.e0 e14
      replace U := U.e0 e14
      replace b3 := b3.e0 e14
      replace b7 := b7.e0 e14
      replace U3 := U3.e0 e14
      replace U4 := U4.e0 e14
      clear e14
      refine ⟨.bool true, rfl, ?_⟩
      refine ze 13 ⟨BL, D, U, b3, b7, U3, by omega⟩ ?_
      simp only [List.set_cons_zero, List.set_cons_succ]
      refine zv 14 90 (.bool true) (fun _ _ => .of) ⟨BL, D, U, b3, b7, U3, by omega⟩ ?_
      simp only [List.set_cons_zero, List.set_cons_succ]
      refine zv 15 6 (.bool true) (fun _ _ => .of) ⟨BL, D, U, b3, b7, U3, by omega⟩ ?_
      simp only [List.set_cons_zero, List.set_cons_succ]
      refine zd (by kernel_rfl) ?_ _
      refine hK16 _ _ ?_
      refine wp_ret ?_
      (try simp only [Exit.then, Exit.inBlock])
      refine bodyPost_ret (v := .bool true) rT rfl ?_
      exact ⟨rfl, BL.b⟩

end Go.Proofs.Ytoeaekamoejhcaa
