/-
  xfer.Begin, xfer.Many, xfer.Over, xfer.Next.
-/
import Derived.Test.YtanggdnmoaflfaaXferA
namespace Go.Proofs.Ytanggdnmoaflfaa
open Go.RowKit
set_option linter.unusedVariables false
set_option linter.unusedSimpArgs false
set_option maxRecDepth 100000
attribute [local irreducible] wpList Code.wp wpAnyZ
theorem xright_dec (dv hv : Value) (d : List Nat) (h : List (Int × Int)) (w : World) (D : SL .u8 w dv (nn d)) (H : SE .i64 2 w hv (spS h)) :
    Calls Try.prog 40 #[.agg #[dv, hv]] w fun e w' => e = .returned (.bool (decide (rightX d h = true))) ∧ Below w.heap.size w w' := by
  have := xright_any dv hv d h w D H
  rwa [← Bool.decide_eq_true (b := rightX d h)] at this
theorem manyS_bd {n : Int} : ∀ {h : List (Int × Int)} {lo : Int} {i : Nat}, canonS n lo h → i < h.length → 0 ≤ manyS (h.take i) ∧ manyS (h.take i) + lo ≤ (h.getD i (0, 0)).1 ∧ lo < (h.getD i (0, 0)).1 ∧ (h.getD i (0, 0)).1 < (h.getD i (0, 0)).2 ∧ (h.getD i (0, 0)).2 ≤ n
  | [], lo, i, _, hi => by simp at hi
  | s :: h, lo, 0, hc, hi => by
    obtain ⟨h1, h2, h3, h4⟩ := hc
    simp only [List.take_zero, manyS, List.getD_cons_zero]; omega
  | s :: h, lo, i + 1, hc, hi => by
    obtain ⟨h1, h2, h3, h4⟩ := hc
    simp only [List.length_cons] at hi
    have := manyS_bd (i := i) h4 (by omega)
    simp only [List.take_succ_cons, manyS, List.getD_cons_succ]; omega
theorem gapX_def (n : Int) (h : List (Int × Int)) : gapX n h = if 0 < h.length ∧ 0 < (h.getD 0 (0, 0)).1 then (0, (h.getD 0 (0, 0)).1) else if 0 < h.length then ((h.getD 0 (0, 0)).2, if 1 < h.length then (h.getD 1 (0, 0)).1 else n) else (0, n) := by
  cases h with
  | nil => simp [gapX]
  | cons s h =>
    cases h with
    | nil => simp [gapX]
    | cons t h => simp [gapX]
attribute [local irreducible] rightX manyS gapX
theorem begin_any (n : Nat) (hn : n ≤ 65536) (w : World) :
    Calls Try.prog 32 #[.int .i64 ((n : Nat) : Int)] w fun e w' => (∃ dv, e = .returned (.tuple #[.agg #[dv, .slice none 0 0], .int .i64 0]) ∧ Own 5 .u8 w.heap.size w' dv (nn (List.replicate n 0))) ∧ Below w.heap.size w w' := by
  have BL := Bl.refl w
  go_enter Try.func32, Try.ntmps32
  refine wp_seq_k fun K1 hK1 => ?_
  refine cPlain ?_
  refine xAlloc 2 56 [.slice none 0 0, .slice none 0 0] rfl (by kernel_rfl) ?_
  intro w1 n1
  have zn1 := n1.z
  have b2 := n1.c
  replace BL := BL.e0 n1.e
  simp only [List.set_cons_zero, List.set_cons_succ]
  refine sv 3 (.int .i64 0) .of ?_
  simp only [List.set_cons_zero, List.set_cons_succ]
  refine wpList_nil ?_
  refine hK1 _ _ ?_
  refine wp_seq_k fun K2 hK2 => ?_
  refine wp_seq_k fun K3 hK3 => ?_
  refine cPlain ?_
  refine sv 4 (.int .i64 ((n : Nat) : Int)) .of ?_
  simp only [List.set_cons_zero, List.set_cons_succ]
  refine sv 5 (.bool false) (Val.cmp .lss 3 _ (.tmp 4) _ rfl .i64 ((n : Nat) : Int) 0 (by kernel_rfl) (by kernel_rfl) (by simp) _ (by first | (simp [cmpB]; done) | (simp [cmpB]; omega))) ?_
  simp only [List.set_cons_zero, List.set_cons_succ]
  refine sv 6 (.bool false) .of ?_
  simp only [List.set_cons_zero, List.set_cons_succ]
  refine sv 7 (.int .i64 ((n : Nat) : Int)) .of ?_
  simp only [List.set_cons_zero, List.set_cons_succ]
  refine sv 8 (.bool false) (Val.cmp .gtr 3 _ (.tmp 7) _ rfl .i64 ((n : Nat) : Int) 65536 (by kernel_rfl) (by kernel_rfl) (by simp) _ (by first | (simp [cmpB]; done) | (simp [cmpB]; omega))) ?_
  simp only [List.set_cons_zero, List.set_cons_succ]
  refine sv 9 (.bool false) .of ?_
  simp only [List.set_cons_zero, List.set_cons_succ]
  refine wpList_nil ?_
  refine hK3 _ _ ?_
  refine cF ?_
  refine wp_skip ?_
  refine hK2 _ _ ?_
  refine wp_seq_k fun K4 hK4 => ?_
  refine cPlain ?_
  refine sv 11 (.int .i64 ((n : Nat) : Int)) .of ?_
  simp only [List.set_cons_zero, List.set_cons_succ]
  refine xMakeN 12 (.tmp 11) (.tmp 11) 29 5 .u8 1 rfl Try.underlying29 (by kernel_rfl) n (by kernel_rfl) (by kernel_rfl) (by unfold maxLen; omega) (by omega) ?_
  intro w2 n2
  have zn2 := n2.z
  have b12 := Own.ofNw n2 (Nat.le_refl _) (by unfold maxLen; simp only [List.length_replicate]; omega)
  rw [List.length_replicate] at b12
  replace BL := BL.e0 n2.e
  replace b2 := b2.e0 n2.e
  have lb12_1 := b12.ge
  simp only [List.set_cons_zero, List.set_cons_succ]
  refine sv 13 (.agg #[.slice (some ⟨w1.heap.size, 0, none⟩) n n, .slice none 0 0]) .of ?_
  simp only [List.set_cons_zero, List.set_cons_succ]
  refine xStoreR 56 (.tmp 2) (.tmp 13) rfl w.heap.size 56 [.slice none 0 0, .slice none 0 0] 0 [.slice (some ⟨w1.heap.size, 0, none⟩) n n, .slice none 0 0] (by kernel_rfl) (by kernel_rfl) b2 (by kernel_rfl) (by simp) rfl [.slice (some ⟨w1.heap.size, 0, none⟩) n n, .slice none 0 0] rfl ?_
  intro w3 t1
  have zt1 := t1.z
  have BL_ := BL.ev t1.e (fun i h => show w.heap.size ≤ i by have h : i = w.heap.size := h; omega)
  have b12_ := b12.ev t1.e (fun i hi => show ¬ (i = w.heap.size) by have := lb12_1 i hi; omega)
  replace BL := BL_; clear BL_
  replace b12 := b12_; clear b12_
  replace b2 : Cel w3 w.heap.size 56 [.slice (some ⟨w1.heap.size, 0, none⟩) n n, .slice none 0 0] := t1.c
  clear t1
  refine sv 3 (.int .i64 0) .of ?_
  simp only [List.set_cons_zero, List.set_cons_succ]
  refine wpList_nil ?_
  refine hK4 _ _ ?_
  refine wp_ret ?_
  (try simp only [Exit.then, Exit.inBlock])
  refine bodyPost_ret (rCT rfl _ w.heap.size _ _ (.int .i64 0) (by kernel_rfl) (by kernel_rfl) b2 _ Try.underlying56 rfl (by kernel_rfl)) rfl ?_
  refine ⟨⟨_, rfl, ?_⟩, BL.b⟩
  rw [nn_rep]
  exact b12.mono (by omega)

end Go.Proofs.Ytanggdnmoaflfaa
