/-
  slices.Grow of nothing; slices.Concat of two rows; slices.Clone.
-/
import Derived.Test.YtanggdnmoaflfaaPk1
import Derived.Test.YtanggdnmoaflfaaProg
namespace Go.Proofs.Ytanggdnmoaflfaa
open Go.RowKit
set_option linter.unusedVariables false
set_option linter.unusedSimpArgs false
set_option maxRecDepth 100000
attribute [local irreducible] wpList Code.wp wpAnyZ
theorem cloneB_nil (w : World) :
    Calls Try.prog 84 #[.slice none 0 0] w fun e w' => e = .returned (.slice none 0 0) ∧ w' = w := by
  go_enter Try.func84, Try.ntmps84
  refine wp_seq_k fun K1 hK1 => ?_
  refine cPlain ?_
  refine sv 2 (.slice none 0 0) .of ?_
  simp only [List.set_cons_zero, List.set_cons_succ]
  refine wpList_nil ?_
  refine hK1 _ _ ?_
  refine wp_seq_k fun K2 hK2 => ?_
  refine wp_seq_k fun K3 hK3 => ?_
  refine cPlain ?_
  refine sv 3 (.slice none 0 0) .of ?_
  simp only [List.set_cons_zero, List.set_cons_succ]
  refine sv 4 (.bool true) .of ?_
  simp only [List.set_cons_zero, List.set_cons_succ]
  refine wpList_nil ?_
  refine hK3 _ _ ?_
  refine cT ?_
  refine wp_seq_k fun K4 hK4 => ?_
  refine cPlain ?_
  refine sv 2 (.slice none 0 0) .of ?_
  simp only [List.set_cons_zero, List.set_cons_succ]
  refine wpList_nil ?_
  refine hK4 _ _ ?_
  refine wp_ret ?_
  (try simp only [Exit.then, Exit.inBlock])
  refine bodyPost_ret (v := .slice none 0 0) rT rfl ?_
  exact ⟨rfl, rfl⟩

theorem Own.ofNw0 {w w' : World} {e : TypeId} {k : IntKind} {base : Nat} (h : Nw w w' e []) (hb : base ≤ w.heap.size) : Own e k base w' (.slice (some ⟨w.heap.size, 0, none⟩) 0 0) [] :=
  ⟨rfl, .inr ⟨w.heap.size, 0, _, rfl, hb, h.c, Nat.le_refl _, Nat.zero_le _, rfl, rfl⟩⟩
theorem cloneB_some (a : Addr) (n c : Nat) (xs : List Int) (w : World) (hv : SL .u8 w (.slice (some a) n c) xs) (hl : xs.length ≤ 140737488355328) :
    Calls Try.prog 84 #[.slice (some a) n c] w fun e w' => ∃ r, e = .returned r ∧ Own 5 .u8 w.heap.size w' r xs ∧ Below w.heap.size w w' := by
  have BL := Bl.refl w
  go_enter Try.func84, Try.ntmps84
  refine wp_seq_k fun K1 hK1 => ?_
  refine cPlain ?_
  refine sv 2 (.slice none 0 0) .of ?_
  simp only [List.set_cons_zero, List.set_cons_succ]
  refine wpList_nil ?_
  refine hK1 _ _ ?_
  refine wp_seq_k fun K2 hK2 => ?_
  refine wp_seq_k fun K3 hK3 => ?_
  refine cPlain ?_
  refine sv 3 (.slice (some a) n c) .of ?_
  simp only [List.set_cons_zero, List.set_cons_succ]
  refine sv 4 (.bool false) .of ?_
  simp only [List.set_cons_zero, List.set_cons_succ]
  refine wpList_nil ?_
  refine hK3 _ _ ?_
  refine cF ?_
  refine wp_skip ?_
  refine hK2 _ _ ?_
  refine wp_seq_k fun K4 hK4 => ?_
  refine cPlain ?_
  refine xLit 5 29 5 0 _ #[] [] rfl (by kernel_rfl) (by kernel_rfl) ?_
  intro w1 nw
  have e1 : E0 w w1 := nw.e
  have ze1 := e1.size
  replace BL := BL.e0 e1
  clear e1
  have OA : Own 5 .u8 w.heap.size w1 (.slice (some ⟨w.heap.size, 0, none⟩) 0 0) [] := Own.ofNw0 nw (Nat.le_refl _)
  have lOA_1 := OA.ge
  simp only [List.set_cons_zero, List.set_cons_succ]
  refine sv 6 (.slice (some a) n c) .of ?_
  simp only [List.set_cons_zero, List.set_cons_succ]
  refine xApp 7 (.tmp 5) (.tmp 6) 29 5 .u8 1 rfl Try.underlying29 (by kernel_rfl) w.heap.size (.slice (some ⟨w.heap.size, 0, none⟩) 0 0) [] (by kernel_rfl) OA (.slice (some a) n c) xs (by kernel_rfl) (hv.below BL.b) ?va1_1 ?va1_2 ?va1_3 ?_
  case va1_1 => simpa using hl
  case va1_2 => unfold maxLen; simp; omega
  case va1_3 => omega
  intro va1 w2 rva1 e2
  have ze2 := e2.size
  have BL_ := BL.ev e2 (fun i h => by have := lOA_1 _ h; omega)
  replace BL := BL_; clear BL_
  replace OA := rva1
  clear rva1 e2
  have lOA_2 := OA.ge
  simp only [List.set_cons_zero, List.set_cons_succ]
  refine sv 2 (va1) .of ?_
  simp only [List.set_cons_zero, List.set_cons_succ]
  refine wpList_nil ?_
  refine hK4 _ _ ?_
  refine wp_ret ?_
  (try simp only [Exit.then, Exit.inBlock])
  refine bodyPost_ret (v := va1) rT rfl ?_
  exact ⟨_, rfl, OA.cast (List.nil_append _), BL.b⟩

/-- slices.Clone -/
theorem cloneB_any (v : Value) (xs : List Int) (w : World) (hv : SL .u8 w v xs) (hl : xs.length ≤ 140737488355328) :
    Calls Try.prog 84 #[v] w fun e w' => ∃ r, e = .returned r ∧ Own 5 .u8 w.heap.size w' r xs ∧ Below w.heap.size w w' := by
  rcases hv with ⟨rfl, rfl⟩ | ⟨b, o, c, rfl, h⟩
  · refine (cloneB_nil w).mono ?_
    rintro _ _ ⟨rfl, rfl⟩
    exact ⟨_, rfl, Own.nil _ _ _ _, Below.refl _ _⟩
  · exact cloneB_some _ _ _ xs w (.inr ⟨b, o, c, rfl, h⟩) hl
end Go.Proofs.Ytanggdnmoaflfaa
