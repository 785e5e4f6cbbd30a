/-
  low.SameHasher, low.CopyHasher.
-/
import Derived.Test.YtoeaekamoejhcaaCopyB
import Derived.Test.YtoeaekamoejhcaaSame
import Derived.Test.YtoeaekamoejhcaaEqA
namespace Go.Proofs.Ytoeaekamoejhcaa
open Go.RowKit
set_option linter.unusedVariables false
set_option linter.unusedSimpArgs false
set_option maxRecDepth 100000
attribute [local irreducible] wpList Code.wp wpAnyZ

theorem sameH_walk (y0 y1 y2 y3 y4 y5 y6 y7 x0 x1 x2 x3 x4 x5 x6 x7 : Nat) (A A2 : Option Addr) (C C2 : Nat) (r r2 : List Nat) (L L2 : Int) (w : World) (R : SL .u8 w (.slice A (nn r).length C) (nn r)) (R2 : SL .u8 w (.slice A2 (nn r2).length C2) (nn r2)) (hb : ∀ x ∈ r, x < 256) (hb2 : ∀ x ∈ r2, x < 256) :
    Calls Try.prog 32 #[hashV [y0, y1, y2, y3, y4, y5, y6, y7] (.slice A (nn r).length C) L, hashV [x0, x1, x2, x3, x4, x5, x6, x7] (.slice A2 (nn r2).length C2) L2] w fun e w' => e = .returned (.bool (decide ([y0, y1, y2, y3, y4, y5, y6, y7] = [x0, x1, x2, x3, x4, x5, x6, x7] ∧ r = r2 ∧ L = L2))) ∧ Below w.heap.size w w' := by
  have BL := Bl.refl w
  have hrl := R.lt
  have hrl2 := R2.lt
  go_enter Try.func32, Try.ntmps32
  refine wp_seq_k fun K1 hK1 => ?_
  refine cPlain ?_
  refine xBox 2 66 _ [.int .u32 ((y0 : Nat) : Int), .int .u32 ((y1 : Nat) : Int), .int .u32 ((y2 : Nat) : Int), .int .u32 ((y3 : Nat) : Int), .int .u32 ((y4 : Nat) : Int), .int .u32 ((y5 : Nat) : Int), .int .u32 ((y6 : Nat) : Int), .int .u32 ((y7 : Nat) : Int), .slice A (nn r).length C, .int .i64 L] rfl (by kernel_rfl) ?_
  intro w1 n1
  have zn1 := n1.z
  have b2 := n1.c
  replace BL := BL.e0 n1.e
  replace R := R.e0 n1.e
  replace R2 := R2.e0 n1.e
  simp only [List.set_cons_zero, List.set_cons_succ]
  refine xBox 3 66 _ [.int .u32 ((x0 : Nat) : Int), .int .u32 ((x1 : Nat) : Int), .int .u32 ((x2 : Nat) : Int), .int .u32 ((x3 : Nat) : Int), .int .u32 ((x4 : Nat) : Int), .int .u32 ((x5 : Nat) : Int), .int .u32 ((x6 : Nat) : Int), .int .u32 ((x7 : Nat) : Int), .slice A2 (nn r2).length C2, .int .i64 L2] rfl (by kernel_rfl) ?_
  intro w2 n2
  have zn2 := n2.z
  have b3 := n2.c
  replace BL := BL.e0 n2.e
  replace R := R.e0 n2.e
  replace R2 := R2.e0 n2.e
  replace b2 := b2.e0 n2.e
  simp only [List.set_cons_zero, List.set_cons_succ]
  refine sv 4 (.bool false) .of ?_
  simp only [List.set_cons_zero, List.set_cons_succ]
  refine wpList_nil ?_
  refine hK1 _ _ ?_
  refine wp_seq_k fun K2 hK2 => ?_
  refine cPlain ?_
  refine sv 5 (.pointer (some ⟨w.heap.size, 0, none⟩)) .of ?_
  simp only [List.set_cons_zero, List.set_cons_succ]
  refine sv 6 (.agg (cellsOf .u32 (nn [y0, y1, y2, y3, y4, y5, y6, y7]))) (Val.cel 58 _ rfl 0 8 (by kernel_rfl) b2 _ Try.underlying58 rfl (by kernel_rfl) (by simp) ((nn [y0, y1, y2, y3, y4, y5, y6, y7]).map (Value.int .u32)) rfl) ?_
  simp only [List.set_cons_zero, List.set_cons_succ]
  refine sv 7 (.pointer (some ⟨w1.heap.size, 0, none⟩)) .of ?_
  simp only [List.set_cons_zero, List.set_cons_succ]
  refine sv 8 (.agg (cellsOf .u32 (nn [x0, x1, x2, x3, x4, x5, x6, x7]))) (Val.cel 58 _ rfl 0 8 (by kernel_rfl) b3 _ Try.underlying58 rfl (by kernel_rfl) (by simp) ((nn [x0, x1, x2, x3, x4, x5, x6, x7]).map (Value.int .u32)) rfl) ?_
  simp only [List.set_cons_zero, List.set_cons_succ]
  refine sv 9 (.bool (decide (nn [y0, y1, y2, y3, y4, y5, y6, y7] = nn [x0, x1, x2, x3, x4, x5, x6, x7]))) (Val.eqA .eql 58 _ (.tmp 6) (.tmp 8) rfl Try.underlying58 Try.underlying39 (by kernel_rfl) (by kernel_rfl) (nn [y0, y1, y2, y3, y4, y5, y6, y7]) (nn [x0, x1, x2, x3, x4, x5, x6, x7]) (by kernel_rfl) (by kernel_rfl) rfl rfl (.inl rfl) _ rfl) ?_
  simp only [List.set_cons_zero, List.set_cons_succ]
  refine sv 10 (.bool (decide (nn [y0, y1, y2, y3, y4, y5, y6, y7] = nn [x0, x1, x2, x3, x4, x5, x6, x7]))) .of ?_
  simp only [List.set_cons_zero, List.set_cons_succ]
  by_cases g11 : nn [y0, y1, y2, y3, y4, y5, y6, y7] = nn [x0, x1, x2, x3, x4, x5, x6, x7]
  · skip
    have dg11 : decide (nn [y0, y1, y2, y3, y4, y5, y6, y7] = nn [x0, x1, x2, x3, x4, x5, x6, x7]) = true := decide_eq_true g11
    simp only [dg11]
    clear dg11
    refine sv 11 (.pointer (some ⟨w.heap.size, 8, none⟩)) .of ?_
    simp only [List.set_cons_zero, List.set_cons_succ]
    refine sv 12 (.slice A (nn r).length C) (Val.cel1 28 _ rfl w.heap.size 8 _ (by kernel_rfl) (fun _ => (by kernel_rfl)) b2 rfl) ?_
    simp only [List.set_cons_zero, List.set_cons_succ]
    refine sv 13 (.pointer (some ⟨w1.heap.size, 8, none⟩)) .of ?_
    simp only [List.set_cons_zero, List.set_cons_succ]
    refine sv 14 (.slice A2 (nn r2).length C2) (Val.cel1 28 _ rfl w1.heap.size 8 _ (by kernel_rfl) (fun _ => (by kernel_rfl)) b3 rfl) ?_
    simp only [List.set_cons_zero, List.set_cons_succ]
    refine xCall 15 16 #[.slice A (nn r).length C, .slice A2 (nn r2).length C2] (by kernel_rfl) ?_
    refine (same_any _ _ (nn r) (nn r2) w2 R R2 (bytes_nn hb) (bytes_nn hb2)).mono ?_
    rintro en w3 ⟨rfl, hw⟩
    obtain rfl := (hw.symm).symm
    refine ⟨.bool (decide (nn r = nn r2)), rfl, ?_⟩
    simp only [List.set_cons_zero, List.set_cons_succ]
    refine sv 16 (.bool (decide (nn r = nn r2))) .of ?_
    simp only [List.set_cons_zero, List.set_cons_succ]
    refine sv 17 (.bool (decide (nn r = nn r2))) .of ?_
    simp only [List.set_cons_zero, List.set_cons_succ]
    by_cases g18 : nn r = nn r2
    · skip
      have dg18 : decide (nn r = nn r2) = true := decide_eq_true g18
      simp only [dg18]
      clear dg18
      refine sv 18 (.pointer (some ⟨w.heap.size, 9, none⟩)) .of ?_
      simp only [List.set_cons_zero, List.set_cons_succ]
      refine sv 19 (.int .i64 L) (Val.cel1 3 _ rfl w.heap.size 9 _ (by kernel_rfl) (fun _ => (by kernel_rfl)) b2 rfl) ?_
      simp only [List.set_cons_zero, List.set_cons_succ]
      refine sv 20 (.pointer (some ⟨w1.heap.size, 9, none⟩)) .of ?_
      simp only [List.set_cons_zero, List.set_cons_succ]
      refine sv 21 (.int .i64 L2) (Val.cel1 3 _ rfl w1.heap.size 9 _ (by kernel_rfl) (fun _ => (by kernel_rfl)) b3 rfl) ?_
      simp only [List.set_cons_zero, List.set_cons_succ]
      refine sv 22 (.bool (decide (L = L2))) (Val.cmp .eql 3 _ (.tmp 19) (.tmp 21) rfl .i64 L L2 (by kernel_rfl) (by kernel_rfl) (by simp) _ rfl) ?_
      simp only [List.set_cons_zero, List.set_cons_succ]
      refine sv 23 (.bool (decide (L = L2))) .of ?_
      simp only [List.set_cons_zero, List.set_cons_succ]
      refine sv 4 (.bool (decide (L = L2))) .of ?_
      simp only [List.set_cons_zero, List.set_cons_succ]
      refine wpList_nil ?_
      refine hK2 _ _ ?_
      refine wp_ret ?_
      (try simp only [Exit.then, Exit.inBlock])
      refine bodyPost_ret (v := .bool (decide (L = L2))) rT rfl ?_
      have hR : decide ([y0, y1, y2, y3, y4, y5, y6, y7] = [x0, x1, x2, x3, x4, x5, x6, x7] ∧ r = r2 ∧ L = L2) = (decide (L = L2)) := by
        first | exact decide_eq_decide.2 ⟨fun h => h.2.2, fun h => ⟨nn_inj g11, nn_inj g18, h⟩⟩ | exact decide_eq_false (fun h => g11 (congrArg nn h.1)) | exact decide_eq_false (fun h => g18 (congrArg nn h.2.1))
      rw [hR]
      exact ⟨rfl, BL.b⟩
    · skip
      have dg18 : decide (nn r = nn r2) = false := decide_eq_false g18
      simp only [dg18]
      clear dg18
      refine xSkip 18 ?_
      simp only [List.set_cons_zero, List.set_cons_succ]
      refine xSkip 19 ?_
      simp only [List.set_cons_zero, List.set_cons_succ]
      refine xSkip 20 ?_
      simp only [List.set_cons_zero, List.set_cons_succ]
      refine xSkip 21 ?_
      simp only [List.set_cons_zero, List.set_cons_succ]
      refine xSkip 22 ?_
      simp only [List.set_cons_zero, List.set_cons_succ]
      refine sv 23 (.bool false) .of ?_
      simp only [List.set_cons_zero, List.set_cons_succ]
      refine sv 4 (.bool false) .of ?_
      simp only [List.set_cons_zero, List.set_cons_succ]
      refine wpList_nil ?_
      refine hK2 _ _ ?_
      refine wp_ret ?_
      (try simp only [Exit.then, Exit.inBlock])
      refine bodyPost_ret (v := .bool false) rT rfl ?_
      have hR : decide ([y0, y1, y2, y3, y4, y5, y6, y7] = [x0, x1, x2, x3, x4, x5, x6, x7] ∧ r = r2 ∧ L = L2) = false := by
        first | exact decide_eq_decide.2 ⟨fun h => h.2.2, fun h => ⟨nn_inj g11, nn_inj g18, h⟩⟩ | exact decide_eq_false (fun h => g11 (congrArg nn h.1)) | exact decide_eq_false (fun h => g18 (congrArg nn h.2.1))
      rw [hR]
      exact ⟨rfl, BL.b⟩
  · skip
    have dg11 : decide (nn [y0, y1, y2, y3, y4, y5, y6, y7] = nn [x0, x1, x2, x3, x4, x5, x6, x7]) = false := decide_eq_false g11
    simp only [dg11]
    clear dg11
    refine xSkip 11 ?_
    simp only [List.set_cons_zero, List.set_cons_succ]
    refine xSkip 12 ?_
    simp only [List.set_cons_zero, List.set_cons_succ]
    refine xSkip 13 ?_
    simp only [List.set_cons_zero, List.set_cons_succ]
    refine xSkip 14 ?_
    simp only [List.set_cons_zero, List.set_cons_succ]
    refine xSkip 15 ?_
    simp only [List.set_cons_zero, List.set_cons_succ]
    refine sv 16 (.bool false) .of ?_
    simp only [List.set_cons_zero, List.set_cons_succ]
    refine sv 17 (.bool false) .of ?_
    simp only [List.set_cons_zero, List.set_cons_succ]
    refine xSkip 18 ?_
    simp only [List.set_cons_zero, List.set_cons_succ]
    refine xSkip 19 ?_
    simp only [List.set_cons_zero, List.set_cons_succ]
    refine xSkip 20 ?_
    simp only [List.set_cons_zero, List.set_cons_succ]
    refine xSkip 21 ?_
    simp only [List.set_cons_zero, List.set_cons_succ]
    refine xSkip 22 ?_
    simp only [List.set_cons_zero, List.set_cons_succ]
    refine sv 23 (.bool false) .of ?_
    simp only [List.set_cons_zero, List.set_cons_succ]
    refine sv 4 (.bool false) .of ?_
    simp only [List.set_cons_zero, List.set_cons_succ]
    refine wpList_nil ?_
    refine hK2 _ _ ?_
    refine wp_ret ?_
    (try simp only [Exit.then, Exit.inBlock])
    refine bodyPost_ret (v := .bool false) rT rfl ?_
    have hR : decide ([y0, y1, y2, y3, y4, y5, y6, y7] = [x0, x1, x2, x3, x4, x5, x6, x7] ∧ r = r2 ∧ L = L2) = false := by
      first | exact decide_eq_decide.2 ⟨fun h => h.2.2, fun h => ⟨nn_inj g11, nn_inj g18, h⟩⟩ | exact decide_eq_false (fun h => g11 (congrArg nn h.1)) | exact decide_eq_false (fun h => g18 (congrArg nn h.2.1))
    rw [hR]
    exact ⟨rfl, BL.b⟩

/-- low.SameHasher -/
theorem sameH_any (h h2 : Hash) (hs : h.1.length = 8) (hs2 : h2.1.length = 8) (v v2 : Value) (w : World) (R : SL .u8 w v (nn h.2.1)) (R2 : SL .u8 w v2 (nn h2.2.1)) (hb : ∀ x ∈ h.2.1, x < 256) (hb2 : ∀ x ∈ h2.2.1, x < 256) :
    Calls Try.prog 32 #[hashV h.1 v h.2.2, hashV h2.1 v2 h2.2.2] w fun e w' => e = .returned (.bool (decide (h = h2))) ∧ Below w.heap.size w w' := by
  obtain ⟨s, r, n⟩ := h
  obtain ⟨s2, r2, n2⟩ := h2
  obtain ⟨a, b, c, d, e, f, g, i, rfl⟩ := list8 s hs
  obtain ⟨a2, b2, c2, d2, e2, f2, g2, i2, rfl⟩ := list8 s2 hs2
  obtain ⟨A, C, rfl, _⟩ := R.len
  obtain ⟨A2, C2, rfl, _⟩ := R2.len
  have := sameH_walk a b c d e f g i a2 b2 c2 d2 e2 f2 g2 i2 A A2 C C2 r r2 n n2 w R R2 hb hb2
  rw [show decide ((([a, b, c, d, e, f, g, i], r, n) : Hash) = ([a2, b2, c2, d2, e2, f2, g2, i2], r2, n2)) = decide ([a, b, c, d, e, f, g, i] = [a2, b2, c2, d2, e2, f2, g2, i2] ∧ r = r2 ∧ n = n2) from decide_eq_decide.2 (by rw [Prod.mk.injEq, Prod.mk.injEq])]
  exact this
theorem copyH_walk (y0 y1 y2 y3 y4 y5 y6 y7 : Nat) (A : Option Addr) (C : Nat) (r : List Nat) (L : Int) (w : World) (R : SL .u8 w (.slice A (nn r).length C) (nn r)) (hl : r.length ≤ 140737488355328) :
    Calls Try.prog 40 #[hashV [y0, y1, y2, y3, y4, y5, y6, y7] (.slice A (nn r).length C) L] w fun e w' => ∃ u, e = .returned (hashV [y0, y1, y2, y3, y4, y5, y6, y7] u L) ∧ Own 5 .u8 w.heap.size w' u (nn r) ∧ Below w.heap.size w w' := by
  have BL := Bl.refl w
  have hrl := R.lt
  go_enter Try.func40, Try.ntmps40
  refine wp_seq_k fun K1 hK1 => ?_
  refine cPlain ?_
  refine xBox 1 66 _ [.int .u32 ((y0 : Nat) : Int), .int .u32 ((y1 : Nat) : Int), .int .u32 ((y2 : Nat) : Int), .int .u32 ((y3 : Nat) : Int), .int .u32 ((y4 : Nat) : Int), .int .u32 ((y5 : Nat) : Int), .int .u32 ((y6 : Nat) : Int), .int .u32 ((y7 : Nat) : Int), .slice A (nn r).length C, .int .i64 L] rfl (by kernel_rfl) ?_
  intro w1 n1
  have zn1 := n1.z
  have b1 := n1.c
  replace BL := BL.e0 n1.e
  replace R := R.e0 n1.e
  simp only [List.set_cons_zero, List.set_cons_succ]
  refine xAlloc 2 66 [.int .u32 0, .int .u32 0, .int .u32 0, .int .u32 0, .int .u32 0, .int .u32 0, .int .u32 0, .int .u32 0, .slice none 0 0, .int .i64 0] rfl (by kernel_rfl) ?_
  intro w2 n2
  have zn2 := n2.z
  have b2 := n2.c
  replace BL := BL.e0 n2.e
  replace R := R.e0 n2.e
  replace b1 := b1.e0 n2.e
  simp only [List.set_cons_zero, List.set_cons_succ]
  refine wpList_nil ?_
  refine hK1 _ _ ?_
  refine wp_seq_k fun K2 hK2 => ?_
  refine cPlain ?_
  refine sv 3 (.pointer (some ⟨w.heap.size, 8, none⟩)) .of ?_
  simp only [List.set_cons_zero, List.set_cons_succ]
  refine sv 4 (.slice A (nn r).length C) (Val.cel1 28 _ rfl w.heap.size 8 _ (by kernel_rfl) (fun _ => (by kernel_rfl)) b1 rfl) ?_
  simp only [List.set_cons_zero, List.set_cons_succ]
  refine xCall 5 39 #[.slice A (nn r).length C] (by kernel_rfl) ?_
  refine (copyB_any _ (nn r) w2 R (by rw [nn_len]; exact hl)).mono ?_
  rintro en w3 ⟨u, he, hO, hb1⟩
  obtain ⟨A2, C2, hu⟩ := hO.len
  rw [hu] at he hO
  subst he
  have e1 := belE0 hb1
  have ze1 := e1.size
  replace BL := BL.e0 e1
  replace R := R.e0 e1
  replace b1 := b1.e0 e1
  replace b2 := b2.e0 e1
  clear e1
  have OA : Own 5 .u8 w2.heap.size w3 (.slice A2 (nn r).length C2) (nn r) := hO
  have lOA_1 := OA.ge
  refine ⟨.slice A2 (nn r).length C2, rfl, ?_⟩
  simp only [List.set_cons_zero, List.set_cons_succ]
  refine sv 6 (.pointer (some ⟨w.heap.size, 8, none⟩)) .of ?_
  simp only [List.set_cons_zero, List.set_cons_succ]
  refine xStore 28 (.tmp 6) (.tmp 5) rfl w.heap.size 66 [.int .u32 ((y0 : Nat) : Int), .int .u32 ((y1 : Nat) : Int), .int .u32 ((y2 : Nat) : Int), .int .u32 ((y3 : Nat) : Int), .int .u32 ((y4 : Nat) : Int), .int .u32 ((y5 : Nat) : Int), .int .u32 ((y6 : Nat) : Int), .int .u32 ((y7 : Nat) : Int), .slice A (nn r).length C, .int .i64 L] 8 (.slice A2 (nn r).length C2) (by kernel_rfl) (by kernel_rfl) b1 (by kernel_rfl) (by simp) rfl [.int .u32 ((y0 : Nat) : Int), .int .u32 ((y1 : Nat) : Int), .int .u32 ((y2 : Nat) : Int), .int .u32 ((y3 : Nat) : Int), .int .u32 ((y4 : Nat) : Int), .int .u32 ((y5 : Nat) : Int), .int .u32 ((y6 : Nat) : Int), .int .u32 ((y7 : Nat) : Int), .slice A2 (nn r).length C2, .int .i64 L] rfl ?_
  intro w4 t1
  have zt1 := t1.z
  have BL_ := BL.ev t1.e (fun i h => show w.heap.size ≤ i by have h : i = w.heap.size := h; omega)
  have R_ := R.ev t1.e (fun i hi => show ¬ (i = w.heap.size) by have := hrl i hi; omega)
  have b2_ := b2.ev t1.e (show ¬ (w1.heap.size = w.heap.size) by omega)
  have OA_ := OA.ev t1.e (fun i hi => show ¬ (i = w.heap.size) by have := lOA_1 i hi; omega)
  replace BL := BL_; clear BL_
  replace R := R_; clear R_
  replace b2 := b2_; clear b2_
  replace OA := OA_; clear OA_
  replace b1 : Cel w4 w.heap.size 66 [.int .u32 ((y0 : Nat) : Int), .int .u32 ((y1 : Nat) : Int), .int .u32 ((y2 : Nat) : Int), .int .u32 ((y3 : Nat) : Int), .int .u32 ((y4 : Nat) : Int), .int .u32 ((y5 : Nat) : Int), .int .u32 ((y6 : Nat) : Int), .int .u32 ((y7 : Nat) : Int), .slice A2 (nn r).length C2, .int .i64 L] := t1.c
  clear t1
  refine wpList_nil ?_
  refine hK2 _ _ ?_
  refine wp_seq_k fun K3 hK3 => ?_
  refine cPlain ?_
  refine sv 7 (.agg #[.int .u32 ((y0 : Nat) : Int), .int .u32 ((y1 : Nat) : Int), .int .u32 ((y2 : Nat) : Int), .int .u32 ((y3 : Nat) : Int), .int .u32 ((y4 : Nat) : Int), .int .u32 ((y5 : Nat) : Int), .int .u32 ((y6 : Nat) : Int), .int .u32 ((y7 : Nat) : Int), .slice A2 (nn r).length C2, .int .i64 L]) (Val.cel 66 _ rfl 0 10 (by kernel_rfl) b1 _ Try.underlying66 rfl (by kernel_rfl) (by simp) [.int .u32 ((y0 : Nat) : Int), .int .u32 ((y1 : Nat) : Int), .int .u32 ((y2 : Nat) : Int), .int .u32 ((y3 : Nat) : Int), .int .u32 ((y4 : Nat) : Int), .int .u32 ((y5 : Nat) : Int), .int .u32 ((y6 : Nat) : Int), .int .u32 ((y7 : Nat) : Int), .slice A2 (nn r).length C2, .int .i64 L] rfl) ?_
  simp only [List.set_cons_zero, List.set_cons_succ]
  refine xStoreR 66 (.tmp 2) (.tmp 7) rfl w1.heap.size 66 [.int .u32 0, .int .u32 0, .int .u32 0, .int .u32 0, .int .u32 0, .int .u32 0, .int .u32 0, .int .u32 0, .slice none 0 0, .int .i64 0] 0 [.int .u32 ((y0 : Nat) : Int), .int .u32 ((y1 : Nat) : Int), .int .u32 ((y2 : Nat) : Int), .int .u32 ((y3 : Nat) : Int), .int .u32 ((y4 : Nat) : Int), .int .u32 ((y5 : Nat) : Int), .int .u32 ((y6 : Nat) : Int), .int .u32 ((y7 : Nat) : Int), .slice A2 (nn r).length C2, .int .i64 L] (by kernel_rfl) (by kernel_rfl) b2 (by kernel_rfl) (by simp) rfl [.int .u32 ((y0 : Nat) : Int), .int .u32 ((y1 : Nat) : Int), .int .u32 ((y2 : Nat) : Int), .int .u32 ((y3 : Nat) : Int), .int .u32 ((y4 : Nat) : Int), .int .u32 ((y5 : Nat) : Int), .int .u32 ((y6 : Nat) : Int), .int .u32 ((y7 : Nat) : Int), .slice A2 (nn r).length C2, .int .i64 L] rfl ?_
  intro w5 t2
  have zt2 := t2.z
  have BL_ := BL.ev t2.e (fun i h => show w.heap.size ≤ i by have h : i = w1.heap.size := h; omega)
  have R_ := R.ev t2.e (fun i hi => show ¬ (i = w1.heap.size) by have := hrl i hi; omega)
  have b1_ := b1.ev t2.e (show ¬ (w.heap.size = w1.heap.size) by omega)
  have OA_ := OA.ev t2.e (fun i hi => show ¬ (i = w1.heap.size) by have := lOA_1 i hi; omega)
  replace BL := BL_; clear BL_
  replace R := R_; clear R_
  replace b1 := b1_; clear b1_
  replace OA := OA_; clear OA_
  replace b2 : Cel w5 w1.heap.size 66 [.int .u32 ((y0 : Nat) : Int), .int .u32 ((y1 : Nat) : Int), .int .u32 ((y2 : Nat) : Int), .int .u32 ((y3 : Nat) : Int), .int .u32 ((y4 : Nat) : Int), .int .u32 ((y5 : Nat) : Int), .int .u32 ((y6 : Nat) : Int), .int .u32 ((y7 : Nat) : Int), .slice A2 (nn r).length C2, .int .i64 L] := t2.c
  clear t2
  refine wpList_nil ?_
  refine hK3 _ _ ?_
  refine wp_ret ?_
  (try simp only [Exit.then, Exit.inBlock])
  refine bodyPost_ret (rC rfl _ w1.heap.size _ _ (by kernel_rfl) b2 _ Try.underlying66 rfl (by kernel_rfl)) rfl ?_
  exact ⟨_, rfl, OA.mono (by omega), BL.b⟩

/-- low.CopyHasher -/
theorem copyH_any (h : Hash) (hs : h.1.length = 8) (v : Value) (w : World) (R : SL .u8 w v (nn h.2.1)) (hl : h.2.1.length ≤ 140737488355328) :
    Calls Try.prog 40 #[hashV h.1 v h.2.2] w fun e w' => ∃ u, e = .returned (hashV h.1 u h.2.2) ∧ Own 5 .u8 w.heap.size w' u (nn h.2.1) ∧ Below w.heap.size w w' := by
  obtain ⟨s, r, n⟩ := h
  obtain ⟨a, b, c, d, e, f, g, i, rfl⟩ := list8 s hs
  obtain ⟨A, C, rfl, _⟩ := R.len
  exact copyH_walk a b c d e f g i A C r n w R hl
end Go.Proofs.Ytoeaekamoejhcaa
