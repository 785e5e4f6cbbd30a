/-
  low.CopyBytes.
-/
import Derived.Test.YtadldhlfboibjaaRShaRun
namespace Go.Proofs.YtadldhlfboibjaaR
open Go.RowKit
set_option linter.unusedVariables false
set_option linter.unusedSimpArgs false
set_option maxRecDepth 100000
attribute [local irreducible] wpList Code.wp wpAnyZ

theorem copyB_any (v : Value) (xs : List Int) (w : World) (R : SL .u8 w v xs) (hl : xs.length ≤ 140737488355328) :
    Calls Try.prog 15 #[v] w fun e w' => ∃ u, e = .returned u ∧ Own 5 .u8 w.heap.size w' u xs ∧ Below w.heap.size w w' := by
  have BL := Bl.refl w
  have hrl := R.lt
  have OA := Own.nil 5 .u8 w.heap.size w
  have lOA_1 := OA.ge
  go_enter Try.func15, Try.ntmps15
  refine wp_seq_k fun K1 hK1 => ?_
  refine cPlain ?_
  refine sv 2 (.slice none 0 0) .of ?_
  simp only [List.set_cons_zero, List.set_cons_succ]
  refine wpList_nil ?_
  refine hK1 _ _ ?_
  refine wp_seq_k fun K2 hK2 => ?_
  refine cPlain ?_
  refine sv 3 (.slice none 0 0) .of ?_
  simp only [List.set_cons_zero, List.set_cons_succ]
  refine wpList_nil ?_
  refine hK2 _ _ ?_
  refine wp_seq_k fun K3 hK3 => ?_
  refine cPlain ?_
  refine sv 4 (.slice none 0 0) .of ?_
  simp only [List.set_cons_zero, List.set_cons_succ]
  refine sv 5 (v) .of ?_
  simp only [List.set_cons_zero, List.set_cons_succ]
  refine xApp 6 (.tmp 4) (.tmp 5) 27 5 .u8 1 rfl Try.underlying27 (by kernel_rfl) w.heap.size (.slice none 0 0) [] (by kernel_rfl) OA v xs (by kernel_rfl) R ?va1_1 ?va1_2 ?va1_3 ?_
  case va1_1 => simp only [List.length_nil]; omega
  case va1_2 => simp only [List.length_nil]; unfold maxLen; omega
  case va1_3 => omega
  intro va1 w1 rva1 e1
  have ze1 := e1.size
  have BL_ := BL.ev e1 (fun i h => by have := lOA_1 _ h; omega)
  have R_ := R.ev e1 (fun i hi h => by have := hrl i hi; have := lOA_1 _ h; omega)
  replace BL := BL_; clear BL_
  replace R := R_; clear R_
  replace OA := rva1
  clear rva1 e1
  have lOA_2 := OA.ge
  simp only [List.set_cons_zero, List.set_cons_succ]
  refine sv 2 (va1) .of ?_
  simp only [List.set_cons_zero, List.set_cons_succ]
  refine wpList_nil ?_
  refine hK3 _ _ ?_
  refine wp_ret ?_
  (try simp only [Exit.then, Exit.inBlock])
  refine bodyPost_ret (v := va1) rT rfl ?_
  exact ⟨_, rfl, OA.cast (List.nil_append _), BL.b⟩

end Go.Proofs.YtadldhlfboibjaaR
