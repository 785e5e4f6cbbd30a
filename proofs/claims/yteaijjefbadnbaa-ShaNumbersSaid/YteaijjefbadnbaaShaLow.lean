/-
  low.SameHasher, low.CopyHasher.
-/
import Derived.Test.YteaijjefbadnbaaCopyB
import Derived.Test.YteaijjefbadnbaaPk2
namespace Go.Proofs.Yteaijjefbadnbaa
open Go.RowKit
set_option linter.unusedVariables false
set_option linter.unusedSimpArgs false
set_option maxRecDepth 100000
attribute [local irreducible] wpList Code.wp wpAnyZ
theorem sameH_walk (y0 y1 y2 y3 y4 y5 y6 y7 x0 x1 x2 x3 x4 x5 x6 x7 : Nat) (A A2 : Option Addr) (C C2 : Nat) (r r2 : List Nat) (L L2 : Int) (w : World) (R : SL .u8 w (.slice A (nn r).length C) (nn r)) (R2 : SL .u8 w (.slice A2 (nn r2).length C2) (nn r2)) (hb : ∀ x ∈ r, x < 256) (hb2 : ∀ x ∈ r2, x < 256) :
    Calls Try.prog 17 #[hashV [y0, y1, y2, y3, y4, y5, y6, y7] (.slice A (nn r).length C) L, hashV [x0, x1, x2, x3, x4, x5, x6, x7] (.slice A2 (nn r2).length C2) L2] w fun e w' => e = .returned (.bool (decide ([y0, y1, y2, y3, y4, y5, y6, y7] = [x0, x1, x2, x3, x4, x5, x6, x7] ∧ r = r2 ∧ L = L2))) ∧ Below w.heap.size w w' := by
  have BL := Bl.refl w
  have hrl := R.lt
  have hrl2 := R2.lt
  go_enter Try.func17, Try.ntmps17
  refine wp_seq_k fun K1 hK1 => ?_
  refine cPlain ?_
  refine xBox 2 32 _ [.int .u32 ((y0 : Nat) : Int), .int .u32 ((y1 : Nat) : Int), .int .u32 ((y2 : Nat) : Int), .int .u32 ((y3 : Nat) : Int), .int .u32 ((y4 : Nat) : Int), .int .u32 ((y5 : Nat) : Int), .int .u32 ((y6 : Nat) : Int), .int .u32 ((y7 : Nat) : Int), .slice A (nn r).length C, .int .i64 L] rfl (by kernel_rfl) ?_
  intro w1 n1
  have zn1 := n1.z
  have b2 := n1.c
  replace BL := BL.e0 n1.e
  replace R := R.e0 n1.e
  replace R2 := R2.e0 n1.e
  simp only [List.set_cons_zero, List.set_cons_succ]
  refine xBox 3 32 _ [.int .u32 ((x0 : Nat) : Int), .int .u32 ((x1 : Nat) : Int), .int .u32 ((x2 : Nat) : Int), .int .u32 ((x3 : Nat) : Int), .int .u32 ((x4 : Nat) : Int), .int .u32 ((x5 : Nat) : Int), .int .u32 ((x6 : Nat) : Int), .int .u32 ((x7 : Nat) : Int), .slice A2 (nn r2).length C2, .int .i64 L2] rfl (by kernel_rfl) ?_
  intro w2 n2
  have zn2 := n2.z
  have b3 := n2.c
  replace BL := BL.e0 n2.e
  replace R := R.e0 n2.e
  replace R2 := R2.e0 n2.e
  replace b2 := b2.e0 n2.e
  simp only [List.set_cons_zero, List.set_cons_succ]
  refine sv 4 (.bool false) .of ?_
  simp only [List.set_cons_zero, List.set_cons_succ]
  refine wpList_nil ?_
  refine hK1 _ _ ?_
  refine wp_seq_k fun K2 hK2 => ?_
  refine cPlain ?_
  refine sv 5 (.pointer (some ⟨w.heap.size, 0, none⟩)) .of ?_
  simp only [List.set_cons_zero, List.set_cons_succ]
  refine sv 6 (.agg (cellsOf .u32 (nn [y0, y1, y2, y3, y4, y5, y6, y7]))) (Val.cel 23 _ rfl 0 8 (by kernel_rfl) b2 _ Try.underlying23 rfl (by kernel_rfl) (by simp) ((nn [y0, y1, y2, y3, y4, y5, y6, y7]).map (Value.int .u32)) rfl) ?_
  simp only [List.set_cons_zero, List.set_cons_succ]
  refine sv 7 (.pointer (some ⟨w1.heap.size, 0, none⟩)) .of ?_
  simp only [List.set_cons_zero, List.set_cons_succ]
  refine sv 8 (.agg (cellsOf .u32 (nn [x0, x1, x2, x3, x4, x5, x6, x7]))) (Val.cel 23 _ rfl 0 8 (by kernel_rfl) b3 _ Try.underlying23 rfl (by kernel_rfl) (by simp) ((nn [x0, x1, x2, x3, x4, x5, x6, x7]).map (Value.int .u32)) rfl) ?_
  simp only [List.set_cons_zero, List.set_cons_succ]
  refine sv 9 (.bool (decide (nn [y0, y1, y2, y3, y4, y5, y6, y7] = nn [x0, x1, x2, x3, x4, x5, x6, x7]))) (Val.eqA .eql 23 _ (.tmp 6) (.tmp 8) rfl Try.underlying23 Try.underlying22 (by kernel_rfl) (by kernel_rfl) (nn [y0, y1, y2, y3, y4, y5, y6, y7]) (nn [x0, x1, x2, x3, x4, x5, x6, x7]) (by kernel_rfl) (by kernel_rfl) rfl rfl (.inl rfl) _ rfl) ?_
  simp only [List.set_cons_zero, List.set_cons_succ]
  refine sv 10 (.bool (decide (nn [y0, y1, y2, y3, y4, y5, y6, y7] = nn [x0, x1, x2, x3, x4, x5, x6, x7]))) .of ?_
  simp only [List.set_cons_zero, List.set_cons_succ]
  by_cases g11 : nn [y0, y1, y2, y3, y4, y5, y6, y7] = nn [x0, x1, x2, x3, x4, x5, x6, x7]
  · skip
    have dg11 : decide (nn [y0, y1, y2, y3, y4, y5, y6, y7] = nn [x0, x1, x2, x3, x4, x5, x6, x7]) = true := decide_eq_true g11
    simp only [dg11]
    clear dg11
    refine sv 11 (.pointer (some ⟨w.heap.size, 8, none⟩)) .of ?_
    simp only [List.set_cons_zero, List.set_cons_succ]
    refine sv 12 (.slice A (nn r).length C) (Val.cel1 30 _ rfl w.heap.size 8 _ (by kernel_rfl) (fun _ => (by kernel_rfl)) b2 rfl) ?_
    simp only [List.set_cons_zero, List.set_cons_succ]
    refine sv 13 (.pointer (some ⟨w1.heap.size, 8, none⟩)) .of ?_
    simp only [List.set_cons_zero, List.set_cons_succ]
    refine sv 14 (.slice A2 (nn r2).length C2) (Val.cel1 30 _ rfl w1.heap.size 8 _ (by kernel_rfl) (fun _ => (by kernel_rfl)) b3 rfl) ?_
    simp only [List.set_cons_zero, List.set_cons_succ]
    refine xCall 15 28 #[.slice A (nn r).length C, .slice A2 (nn r2).length C2] (by kernel_rfl) ?_
    refine (same_any _ _ (nn r) (nn r2) w2 R R2 (bytes_nn hb) (bytes_nn hb2)).mono ?_
    rintro en w3 ⟨rfl, hw⟩
    obtain rfl := (hw.symm).symm
    refine ⟨.bool (decide (nn r = nn r2)), rfl, ?_⟩
    simp only [List.set_cons_zero, List.set_cons_succ]
    refine sv 16 (.bool (decide (nn r = nn r2))) .of ?_
    simp only [List.set_cons_zero, List.set_cons_succ]
    refine sv 17 (.bool (decide (nn r = nn r2))) .of ?_
    simp only [List.set_cons_zero, List.set_cons_succ]
    by_cases g18 : nn r = nn r2
    · skip
      have dg18 : decide (nn r = nn r2) = true := decide_eq_true g18
      simp only [dg18]
      clear dg18
      refine sv 18 (.pointer (some ⟨w.heap.size, 9, none⟩)) .of ?_
      simp only [List.set_cons_zero, List.set_cons_succ]
      refine sv 19 (.int .i64 L) (Val.cel1 3 _ rfl w.heap.size 9 _ (by kernel_rfl) (fun _ => (by kernel_rfl)) b2 rfl) ?_
      simp only [List.set_cons_zero, List.set_cons_succ]
      refine sv 20 (.pointer (some ⟨w1.heap.size, 9, none⟩)) .of ?_
      simp only [List.set_cons_zero, List.set_cons_succ]
      refine sv 21 (.int .i64 L2) (Val.cel1 3 _ rfl w1.heap.size 9 _ (by kernel_rfl) (fun _ => (by kernel_rfl)) b3 rfl) ?_
      simp only [List.set_cons_zero, List.set_cons_succ]
      refine sv 22 (.bool (decide (L = L2))) (Val.cmp .eql 3 _ (.tmp 19) (.tmp 21) rfl .i64 L L2 (by kernel_rfl) (by kernel_rfl) (by simp) _ rfl) ?_
      simp only [List.set_cons_zero, List.set_cons_succ]
      refine sv 23 (.bool (decide (L = L2))) .of ?_
      simp only [List.set_cons_zero, List.set_cons_succ]
      refine sv 4 (.bool (decide (L = L2))) .of ?_
      simp only [List.set_cons_zero, List.set_cons_succ]
      refine wpList_nil ?_
      refine hK2 _ _ ?_
      refine wp_ret ?_
      (try simp only [Exit.then, Exit.inBlock])
      refine bodyPost_ret (v := .bool (decide (L = L2))) rT rfl ?_
      have hR : decide ([y0, y1, y2, y3, y4, y5, y6, y7] = [x0, x1, x2, x3, x4, x5, x6, x7] ∧ r = r2 ∧ L = L2) = (decide (L = L2)) := by
        first | exact decide_eq_decide.2 ⟨fun h => h.2.2, fun h => ⟨nn_inj g11, nn_inj g18, h⟩⟩ | exact decide_eq_false (fun h => g11 (congrArg nn h.1)) | exact decide_eq_false (fun h => g18 (congrArg nn h.2.1))
      rw [hR]
      exact ⟨rfl, BL.b⟩
    · skip
      have dg18 : decide (nn r = nn r2) = false := decide_eq_false g18
      simp only [dg18]
      clear dg18
      refine xSkip 18 ?_
      simp only [List.set_cons_zero, List.set_cons_succ]
      refine xSkip 19 ?_
      simp only [List.set_cons_zero, List.set_cons_succ]
      refine xSkip 20 ?_
      simp only [List.set_cons_zero, List.set_cons_succ]
      refine xSkip 21 ?_
      simp only [List.set_cons_zero, List.set_cons_succ]
      refine xSkip 22 ?_
      simp only [List.set_cons_zero, List.set_cons_succ]
      refine sv 23 (.bool false) .of ?_
      simp only [List.set_cons_zero, List.set_cons_succ]
      refine sv 4 (.bool false) .of ?_
      simp only [List.set_cons_zero, List.set_cons_succ]
      refine wpList_nil ?_
      refine hK2 _ _ ?_
      refine wp_ret ?_
      (try simp only [Exit.then, Exit.inBlock])
      refine bodyPost_ret (v := .bool false) rT rfl ?_
      have hR : decide ([y0, y1, y2, y3, y4, y5, y6, y7] = [x0, x1, x2, x3, x4, x5, x6, x7] ∧ r = r2 ∧ L = L2) = false := by
        first | exact decide_eq_decide.2 ⟨fun h => h.2.2, fun h => ⟨nn_inj g11, nn_inj g18, h⟩⟩ | exact decide_eq_false (fun h => g11 (congrArg nn h.1)) | exact decide_eq_false (fun h => g18 (congrArg nn h.2.1))
      rw [hR]
      exact ⟨rfl, BL.b⟩
  · skip
    have dg11 : decide (nn [y0, y1, y2, y3, y4, y5, y6, y7] = nn [x0, x1, x2, x3, x4, x5, x6, x7]) = false := decide_eq_false g11
    simp only [dg11]
    clear dg11
    refine xSkip 11 ?_
    simp only [List.set_cons_zero, List.set_cons_succ]
    refine xSkip 12 ?_
    simp only [List.set_cons_zero, List.set_cons_succ]
    refine xSkip 13 ?_
    simp only [List.set_cons_zero, List.set_cons_succ]
    refine xSkip 14 ?_
    simp only [List.set_cons_zero, List.set_cons_succ]
    refine xSkip 15 ?_
    simp only [List.set_cons_zero, List.set_cons_succ]
    refine sv 16 (.bool false) .of ?_
    simp only [List.set_cons_zero, List.set_cons_succ]
    refine sv 17 (.bool false) .of ?_
    simp only [List.set_cons_zero, List.set_cons_succ]
    refine xSkip 18 ?_
    simp only [List.set_cons_zero, List.set_cons_succ]
    refine xSkip 19 ?_
    simp only [List.set_cons_zero, List.set_cons_succ]
    refine xSkip 20 ?_
    simp only [List.set_cons_zero, List.set_cons_succ]
    refine xSkip 21 ?_
    simp only [List.set_cons_zero, List.set_cons_succ]
    refine xSkip 22 ?_
    simp only [List.set_cons_zero, List.set_cons_succ]
    refine sv 23 (.bool false) .of ?_
    simp only [List.set_cons_zero, List.set_cons_succ]
    refine sv 4 (.bool false) .of ?_
    simp only [List.set_cons_zero, List.set_cons_succ]
    refine wpList_nil ?_
    refine hK2 _ _ ?_
    refine wp_ret ?_
    (try simp only [Exit.then, Exit.inBlock])
    refine bodyPost_ret (v := .bool false) rT rfl ?_
    have hR : decide ([y0, y1, y2, y3, y4, y5, y6, y7] = [x0, x1, x2, x3, x4, x5, x6, x7] ∧ r = r2 ∧ L = L2) = false := by
      first | exact decide_eq_decide.2 ⟨fun h => h.2.2, fun h => ⟨nn_inj g11, nn_inj g18, h⟩⟩ | exact decide_eq_false (fun h => g11 (congrArg nn h.1)) | exact decide_eq_false (fun h => g18 (congrArg nn h.2.1))
    rw [hR]
    exact ⟨rfl, BL.b⟩

/-- low.SameHasher -/
theorem sameH_any (h h2 : Hash) (hs : h.1.length = 8) (hs2 : h2.1.length = 8) (v v2 : Value) (w : World) (R : SL .u8 w v (nn h.2.1)) (R2 : SL .u8 w v2 (nn h2.2.1)) (hb : ∀ x ∈ h.2.1, x < 256) (hb2 : ∀ x ∈ h2.2.1, x < 256) :
    Calls Try.prog 17 #[hashV h.1 v h.2.2, hashV h2.1 v2 h2.2.2] w fun e w' => e = .returned (.bool (decide (h = h2))) ∧ Below w.heap.size w w' := by
  obtain ⟨s, r, n⟩ := h
  obtain ⟨s2, r2, n2⟩ := h2
  obtain ⟨a, b, c, d, e, f, g, i, rfl⟩ := list8 s hs
  obtain ⟨a2, b2, c2, d2, e2, f2, g2, i2, rfl⟩ := list8 s2 hs2
  obtain ⟨A, C, rfl, _⟩ := R.len
  obtain ⟨A2, C2, rfl, _⟩ := R2.len
  have := sameH_walk a b c d e f g i a2 b2 c2 d2 e2 f2 g2 i2 A A2 C C2 r r2 n n2 w R R2 hb hb2
  rw [show decide ((([a, b, c, d, e, f, g, i], r, n) : Hash) = ([a2, b2, c2, d2, e2, f2, g2, i2], r2, n2)) = decide ([a, b, c, d, e, f, g, i] = [a2, b2, c2, d2, e2, f2, g2, i2] ∧ r = r2 ∧ n = n2) from decide_eq_decide.2 (by rw [Prod.mk.injEq, Prod.mk.injEq])]
  exact this
end Go.Proofs.Yteaijjefbadnbaa
