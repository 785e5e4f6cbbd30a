/-
  law02.digest.
-/
import Derived.Test.YteaijjefbadnbaaHexL
import Derived.Test.YteaijjefbadnbaaShaRun
namespace Go.Proofs.Yteaijjefbadnbaa
open Go.RowKit
set_option linter.unusedVariables false
set_option linter.unusedSimpArgs false
set_option maxRecDepth 100000
attribute [local irreducible] wpList Code.wp wpAnyZ


theorem digest_any (T : Nat) (tab ns : List Nat) (ht : tab.length = 72) (hb : ∀ n ∈ ns, n < 256) (hl : ns.length ≤ 140737488355328) (w : World) (TB : Blk .u32 w T 26 (nn tab)) :
    Calls Try.prog 15 #[.pointer (some ⟨T, 0, none⟩), .string (strN ns)] w fun e w' => e = .returned (.string (hexA (ofN tab ns) 32)) ∧ Below w.heap.size w w' := by
  have BL := Bl.refl w
  have hT := TB.lt
  have hol := ofN_len tab ns
  go_enter Try.func15, Try.ntmps15
  refine wp_seq_k fun K1 hK1 => ?_
  refine cPlain ?_
  refine sv 4 (.string {data := #[]}) .of ?_
  simp only [List.set_cons_zero, List.set_cons_succ]
  refine wpList_nil ?_
  refine hK1 _ _ ?_
  refine wp_seq_k fun K2 hK2 => ?_
  refine cPlain ?_
  refine sv 6 (.pointer (some ⟨T, 0, none⟩)) .of ?_
  simp only [List.set_cons_zero, List.set_cons_succ]
  refine sv 7 (.string (strN ns)) .of ?_
  simp only [List.set_cons_zero, List.set_cons_succ]
  refine xBytes 8 9 30 5 (.tmp 7) rfl Try.underlying9 Try.underlying30 Try.underlying5 ns (by kernel_rfl) hb (by unfold maxLen; omega) ?_
  intro c w1 hD he hz8
  have hdl := hD.lt
  have e1 : E0 w w1 := he
  have ze1 := e1.size
  replace TB := TB.e0 e1
  replace BL := BL.e0 e1
  clear e1
  have D : SL .u8 w1 (.slice (some ⟨w.heap.size, 0, none⟩) ns.length c) (nn ns) := hD
  simp only [List.set_cons_zero, List.set_cons_succ]
  refine xCall 9 20 #[.pointer (some ⟨T, 0, none⟩), .slice (some ⟨w.heap.size, 0, none⟩) ns.length c] (by kernel_rfl) ?_
  refine (of_any T tab ns _ ht w1 TB D hl).mono ?_
  rintro en w2 ⟨rfl, hb1⟩
  have e2 := belE0 hb1
  have ze2 := e2.size
  replace TB := TB.e0 e2
  replace BL := BL.e0 e2
  replace D := D.e0 e2
  clear e2
  refine ⟨.agg (cellsOf .u8 (nn (ofN tab ns))), rfl, ?_⟩
  simp only [List.set_cons_zero, List.set_cons_succ]
  refine xAlloc 5 37 ((nn (List.replicate 32 0)).map (Value.int .u8)) rfl (by kernel_rfl) ?_
  intro w3 n1
  have zn1 := n1.z
  have b5 := n1.c
  replace b5 : Blk .u8 w3 w2.heap.size 37 (nn (List.replicate 32 0)) := b5
  replace TB := TB.e0 n1.e
  replace BL := BL.e0 n1.e
  replace D := D.e0 n1.e
  simp only [List.set_cons_zero, List.set_cons_succ]
  refine xStoreA 37 (.tmp 5) (.tmp 9) rfl .u8 w2.heap.size 37 (nn (List.replicate 32 0)) 0 (nn (ofN tab ns)) (by kernel_rfl) (by kernel_rfl) b5 (by rw [show (nn (ofN tab ns)).length = 32 by ((try simp only [nn_len, List.length_cons, List.length_nil, List.length_set, List.length_replicate]); try omega)]; kernel_rfl) (by (try simp only [nn_len, List.length_cons, List.length_nil, List.length_set, List.length_replicate]); try omega) (nn (ofN tab ns)) (over_whole _ _ (by (try simp only [nn_len, List.length_cons, List.length_nil, List.length_set, List.length_replicate]); try omega)) ?_
  intro w4 t1
  have zt1 := t1.z
  have TB_ := TB.ev t1.e (show ¬ (T = w2.heap.size) by omega)
  have BL_ := BL.ev t1.e (fun i h => show w.heap.size ≤ i by have h : i = w2.heap.size := h; omega)
  have D_ := D.ev t1.e (fun i hi => show ¬ (i = w2.heap.size) by have := hdl i hi; omega)
  replace TB := TB_; clear TB_
  replace BL := BL_; clear BL_
  replace D := D_; clear D_
  replace b5 : Blk .u8 w4 w2.heap.size 37 (nn (ofN tab ns)) := t1.c
  clear t1
  refine wpList_nil ?_
  refine hK2 _ _ ?_
  refine wp_seq_k fun K3 hK3 => ?_
  refine cPlain ?_
  refine sv 10 (.slice (some ⟨w2.heap.size, 0, none⟩) 32 32) .of ?_
  simp only [List.set_cons_zero, List.set_cons_succ]
  refine xCall 11 80 #[.slice (some ⟨w2.heap.size, 0, none⟩) 32 32] (by kernel_rfl) ?_
  refine (hex_any (ofN tab ns) _ w4 (SL.ofBlk b5 (by rw [nn_len]; exact hol) (by unfold maxLen; omega)) (fun k _ => ofN_lt tab ns k) (by omega)).mono ?_
  rintro en w5 ⟨he, hb1⟩
  rw [hol] at he
  subst he
  have e3 := belE0 hb1
  have ze3 := e3.size
  replace TB := TB.e0 e3
  replace BL := BL.e0 e3
  replace D := D.e0 e3
  replace b5 := b5.e0 e3
  clear e3
  refine ⟨.string (hexA (ofN tab ns) 32), rfl, ?_⟩
  simp only [List.set_cons_zero, List.set_cons_succ]
  refine sv 4 (.string (hexA (ofN tab ns) 32)) .of ?_
  simp only [List.set_cons_zero, List.set_cons_succ]
  refine wpList_nil ?_
  refine hK3 _ _ ?_
  refine wp_ret ?_
  (try simp only [Exit.then, Exit.inBlock])
  refine bodyPost_ret (v := .string (hexA (ofN tab ns) 32)) rT rfl ?_
  exact ⟨rfl, BL.b⟩

end Go.Proofs.Yteaijjefbadnbaa
