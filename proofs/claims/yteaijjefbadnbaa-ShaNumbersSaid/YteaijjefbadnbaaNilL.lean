/-
  Without a table: sha.Of, mac.turned, mac.under, mac.Mac, mac.Tagged.
-/
import Derived.Test.YteaijjefbadnbaaMacW
namespace Go.Proofs.Yteaijjefbadnbaa
open Go.RowKit
set_option linter.unusedVariables false
set_option linter.unusedSimpArgs false
set_option maxRecDepth 100000
attribute [local irreducible] wpList Code.wp wpAnyZ
set_option maxHeartbeats 4000000 in
theorem of_nil (bv : Value) (w : World) :
    Calls Try.prog 20 #[.pointer none, bv] w fun e w' => e = .returned (.agg (cellsOf .u8 (nn (List.replicate 32 0)))) ∧ Below w.heap.size w w' := by
  have BL := Bl.refl w
  go_enter Try.func20, Try.ntmps20
  refine wp_seq_k fun K1 hK1 => ?_
  refine cPlain ?_
  refine xAlloc 4 37 ((nn (List.replicate 32 0)).map (Value.int .u8)) rfl (by kernel_rfl) ?_
  intro w1 n1
  have zn1 := n1.z
  have b4 := n1.c
  replace b4 : Blk .u8 w1 w.heap.size 37 (nn (List.replicate 32 0)) := b4
  replace BL := BL.e0 n1.e
  simp only [List.set_cons_zero, List.set_cons_succ]
  refine wpList_nil ?_
  refine hK1 _ _ ?_
  refine wp_seq_k fun K2 hK2 => ?_
  refine cPlain ?_
  refine sv 5 (.pointer none) .of ?_
  simp only [List.set_cons_zero, List.set_cons_succ]
  refine sv 6 (.pointer none) .of ?_
  simp only [List.set_cons_zero, List.set_cons_succ]
  refine sv 7 (.pointer none) .of ?_
  simp only [List.set_cons_zero, List.set_cons_succ]
  refine xCall 8 19 #[.pointer none] (by kernel_rfl) ?_
  refine (new_nil w1).mono ?_
  rintro en w2 ⟨rfl, hb1⟩
  have e1 := belE0 hb1
  have ze1 := e1.size
  replace BL := BL.e0 e1
  replace b4 := b4.e0 e1
  clear e1
  refine ⟨hashV (List.replicate 8 0) (.slice none 0 0) 0, rfl, ?_⟩
  simp only [List.set_cons_zero, List.set_cons_succ]
  refine sv 9 (bv) .of ?_
  simp only [List.set_cons_zero, List.set_cons_succ]
  refine xCall 10 16 #[.pointer none, hashV (List.replicate 8 0) (.slice none 0 0) 0, bv] (by kernel_rfl) ?_
  refine (write_nil (List.replicate 8 0) rfl (.slice none 0 0) _ 0 rfl w2).mono ?_
  rintro en w3 ⟨rfl, hb1⟩
  have e2 := belE0 hb1
  have ze2 := e2.size
  replace BL := BL.e0 e2
  replace b4 := b4.e0 e2
  clear e2
  refine ⟨hashV (List.replicate 8 0) (.slice none 0 0) 0, rfl, ?_⟩
  simp only [List.set_cons_zero, List.set_cons_succ]
  refine xCall 11 18 #[.pointer none, hashV (List.replicate 8 0) (.slice none 0 0) 0] (by kernel_rfl) ?_
  refine (sum_nil (List.replicate 8 0) rfl (.slice none 0 0) 0 rfl w3).mono ?_
  rintro en w4 ⟨rfl, hb1⟩
  have e3 := belE0 hb1
  have ze3 := e3.size
  replace BL := BL.e0 e3
  replace b4 := b4.e0 e3
  clear e3
  refine ⟨.agg (cellsOf .u8 (nn (List.replicate 32 0))), rfl, ?_⟩
  simp only [List.set_cons_zero, List.set_cons_succ]
  refine xStoreA 37 (.tmp 4) (.tmp 11) rfl .u8 w.heap.size 37 (nn (List.replicate 32 0)) 0 (nn (List.replicate 32 0)) (by kernel_rfl) (by kernel_rfl) b4 (by rw [show (nn (List.replicate 32 0)).length = 32 by ((try simp only [nn_len, List.length_cons, List.length_nil, List.length_set, List.length_replicate]); try omega)]; kernel_rfl) (by (try simp only [nn_len, List.length_cons, List.length_nil, List.length_set, List.length_replicate]); try omega) (nn (List.replicate 32 0)) (over_whole _ _ (by (try simp only [nn_len, List.length_cons, List.length_nil, List.length_set, List.length_replicate]); try omega)) ?_
  intro w5 t1
  have zt1 := t1.z
  have BL_ := BL.ev t1.e (fun i h => show w.heap.size ≤ i by have h : i = w.heap.size := h; omega)
  replace BL := BL_; clear BL_
  replace b4 : Blk .u8 w5 w.heap.size 37 (nn (List.replicate 32 0)) := t1.c
  clear t1
  refine wpList_nil ?_
  refine hK2 _ _ ?_
  refine wp_ret ?_
  (try simp only [Exit.then, Exit.inBlock])
  refine bodyPost_ret (rC rfl _ w.heap.size _ _ (by kernel_rfl) b4.cel _ Try.underlying37 rfl (by rw [List.length_map, show (nn (List.replicate 32 0)).length = 32 by ((try simp only [nn_len, List.length_cons, List.length_nil, List.length_set, List.length_replicate]); try omega)]; kernel_rfl)) rfl ?_
  exact ⟨rfl, BL.b⟩

end Go.Proofs.Yteaijjefbadnbaa
