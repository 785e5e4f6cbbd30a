/-
  MacTagged: the walk.
-/
import Derived.Test.YtlmadkldiidkaaaMacX
import Derived.Test.YtlmadkldiidkaaaMacA
import Derived.Test.YtlmadkldiidkaaaEqA
namespace Go.Proofs.Ytlmadkldiidkaaa
open Go.RowKit
set_option linter.unusedVariables false
set_option linter.unusedSimpArgs false
set_option maxRecDepth 100000
attribute [local irreducible] wpList Code.wp wpAnyZ
def fewP (ps : List (List Nat)) : List (List Nat) := (ps.take 6).filter fun p => decide (p.length ≤ 100)
theorem fewP_nn (ps : List (List Nat)) : fewL (ps.map nn) 6 = (fewP ps).map nn := by
  unfold fewL fewP
  rw [← List.map_take, List.filter_map]
  congr 2
  funext p
  simp [nn_len]
theorem fewP_len (ps : List (List Nat)) : (fewP ps).length ≤ 6 := by unfold fewP; exact Nat.le_trans (List.length_filter_le _ _) (by rw [List.length_take]; omega)
theorem fewP_le {ps : List (List Nat)} : ∀ p ∈ fewP ps, p.length ≤ 100 := by
  intro p hp
  have := (List.mem_filter.1 hp).2
  simpa using this
theorem few_blobs (ps : List (List Nat)) : (blobsB ((fewP ps).map nn)).length ≤ 1000 := by
  have h1 := blobsB_small (fewP ps) 100 fewP_le (by omega)
  have h2 : (fewP ps).length * 110 ≤ 6 * 110 := Nat.mul_le_mul_right _ (fewP_len ps)
  omega
theorem text_head (tag : Nat) (qs : List (List Nat)) : ∃ r, textN tag qs = 75 :: tag :: r ∧ 1 ≤ r.length := by
  have h := textN_nn tag qs
  unfold textB at h
  have hl := congrArg List.length h
  rw [nn_len, List.length_append, List.length_append, uintB_length] at hl
  have hp := ndig_pos 9 (qs.map nn).length
  simp only [List.length_cons, List.length_nil] at hl
  match ht : textN tag qs, hl with
  | [], hl => simp only [List.length_nil] at hl; omega
  | [a], hl => simp only [List.length_cons, List.length_nil] at hl; omega
  | a :: b :: r, hl =>
    rw [ht] at h
    simp only [nn, List.map_cons, List.cons_append, List.nil_append, List.cons.injEq] at h
    obtain ⟨h1, h2, _⟩ := h
    refine ⟨r, ?_, by simp only [List.length_cons] at hl; omega⟩
    rw [show a = 75 by omega, show b = tag by omega]
attribute [local irreducible] ofN textN taggedN fewP

theorem tagged_32 (tab : List Nat) (tag : Nat) (ps : List (List Nat)) : (taggedN tab tag ps).length = 32 := by unfold taggedN; exact ofN_32 _ _
set_option maxHeartbeats 4000000 in
theorem macTagged_walk (tab : List Nat) (ht : tab.length = 72) (tag : Nat) (htag : tag < 256) (v : Value) (us : List Value) (ps : List (List Nat)) (w : World) (HV : SV w v us) (HY : SLxs w.heap.size w us (ps.map nn)) :
    Calls Try.prog 8 #[.agg (cellsOf .u32 (nn tab)), .int .u8 ((tag : Nat) : Int), v] w fun e w' => e = .returned (.bool true) ∧ Below w.heap.size w w' := by
  have BL := Bl.refl w
  have hfl := fewP_len ps
  have hfb := few_blobs ps
  obtain ⟨tr, htr, htl⟩ := text_head tag (fewP ps)
  have h75 : (textN tag (fewP ps)).getD 0 0 = 75 := by rw [htr]; rfl
  have htg : (textN tag (fewP ps)).getD 1 0 = tag := by rw [htr]; rfl
  have hxl : (textN tag (fewP ps)).length = tr.length + 2 := by rw [htr]; rfl
  have hxm : (textN tag (fewP ps)).length ≤ 2000 := by
    have h3 := ndig_le 9 ((fewP ps).map nn).length
    rw [← nn_len, textN_nn, textB, List.length_append, List.length_append, uintB_length]
    simp only [List.length_cons, List.length_nil]
    omega
  have htd := tagged_32 tab tag (fewP ps)
  have hte : ofN tab (textN tag (fewP ps)) = taggedN tab tag (fewP ps) := by unfold taggedN; rfl
  have hp' : ∀ y ∈ (fewP ps).map nn, y.length ≤ 1000000000 := fun y hy => by obtain ⟨p, hpm, rfl⟩ := List.mem_map.1 hy; rw [nn_len]; exact Nat.le_trans (fewP_le p hpm) (by omega)
  go_enter Try.func8, Try.ntmps8
  refine wp_seq_k fun K1 hK1 => ?_
  refine cPlain ?_
  refine xBox 3 26 _ ((nn tab).map (Value.int .u32)) rfl (cells_toList _ _) ?_
  intro w1 n1
  have zn1 := n1.z
  have b3 := n1.c
  replace b3 : Blk .u32 w1 w.heap.size 26 (nn tab) := b3
  replace BL := BL.e0 n1.e
  have HV : SV w1 v us := SV.e0 HV n1.e
  have HY : SLxs w.heap.size w1 us (ps.map nn) := SLxs.e0 HY n1.e
  simp only [List.set_cons_zero, List.set_cons_succ]
  refine sv 6 (.bool false) .of ?_
  simp only [List.set_cons_zero, List.set_cons_succ]
  refine wpList_nil ?_
  refine hK1 _ _ ?_
  refine wp_seq_k fun K2 hK2 => ?_
  refine cPlain ?_
  refine sv 9 (v) .of ?_
  simp only [List.set_cons_zero, List.set_cons_succ]
  refine xCall 10 34 #[v] (by kernel_rfl) ?_
  refine (few_any v us (ps.map nn) w1 HV w.heap.size (by omega) HY).mono ?_
  rintro en w2 ⟨u1, us1, rfl, hV, hY, hb1⟩
  rw [fewP_nn] at hY
  have e1 := belE0 hb1
  have ze1 := e1.size
  replace BL := BL.e0 e1
  have HV : SV w2 v us := SV.e0 HV e1
  have HY : SLxs w.heap.size w2 us (ps.map nn) := SLxs.e0 HY e1
  replace b3 := b3.e0 e1
  clear e1
  have HV1 : SV w2 u1 us1 := hV
  have HY1 : SLxs w.heap.size w2 us1 ((fewP ps).map nn) := hY
  refine ⟨u1, rfl, ?_⟩
  simp only [List.set_cons_zero, List.set_cons_succ]
  refine sv 7 (u1) .of ?_
  simp only [List.set_cons_zero, List.set_cons_succ]
  refine wpList_nil ?_
  refine hK2 _ _ ?_
  refine wp_seq_k fun K3 hK3 => ?_
  refine cPlain ?_
  refine sv 11 (.int .u8 ((tag : Nat) : Int)) .of ?_
  simp only [List.set_cons_zero, List.set_cons_succ]
  refine sv 12 (u1) .of ?_
  simp only [List.set_cons_zero, List.set_cons_succ]
  refine xCall 13 29 #[.int .u8 ((tag : Nat) : Int), u1] (by kernel_rfl) ?_
  refine (mactextx_any ((tag : Nat) : Int) u1 us1 ((fewP ps).map nn) w2 HV1 w.heap.size (by omega) HY1 (by omega) hp').mono ?_
  rintro en w3 ⟨u2, rfl, hO, hb1⟩
  rw [← textN_nn] at hO
  have e2 := belE0 hb1
  have ze2 := e2.size
  replace BL := BL.e0 e2
  have HV : SV w3 v us := SV.e0 HV e2
  have HY : SLxs w.heap.size w3 us (ps.map nn) := SLxs.e0 HY e2
  replace b3 := b3.e0 e2
  have HV1 : SV w3 u1 us1 := SV.e0 HV1 e2
  have HY1 : SLxs w.heap.size w3 us1 ((fewP ps).map nn) := SLxs.e0 HY1 e2
  clear e2
  have U : Own 5 .u8 w2.heap.size w3 u2 (nn (textN tag (fewP ps))) := hO
  have lU_1 := U.ge
  refine ⟨u2, rfl, ?_⟩
  simp only [List.set_cons_zero, List.set_cons_succ]
  refine sv 8 (u2) .of ?_
  simp only [List.set_cons_zero, List.set_cons_succ]
  refine wpList_nil ?_
  refine hK3 _ _ ?_
  refine wp_seq_k fun K4 hK4 => ?_
  refine cPlain ?_
  refine sv 14 (u2) .of ?_
  simp only [List.set_cons_zero, List.set_cons_succ]
  refine sv 15 (.int .i64 (((textN tag (fewP ps)).length : Nat) : Int)) (Val.lenO (.tmp 14) 43 rfl (by kernel_rfl) U ((textN tag (fewP ps)).length) (nn_len _) Try.underlying43) ?_
  simp only [List.set_cons_zero, List.set_cons_succ]
  refine sv 16 (.bool true) (Val.cmp .geq 3 _ (.tmp 15) _ rfl .i64 (((textN tag (fewP ps)).length : Nat) : Int) 3 (by kernel_rfl) (by kernel_rfl) (by simp) _ (by simp only [cmpB]; simp; omega)) ?_
  simp only [List.set_cons_zero, List.set_cons_succ]
  refine sv 17 (.bool true) .of ?_
  simp only [List.set_cons_zero, List.set_cons_succ]
  refine sv 18 (u2) .of ?_
  simp only [List.set_cons_zero, List.set_cons_succ]
  refine sv 19 (elemP u2 0) (Val.idxE 43 (.tmp 18) _ rfl u2 0 (by kernel_rfl) (by kernel_rfl) U.sl Try.underlying43 (by kernel_rfl) (by rw [nn_len]; omega)) ?_
  simp only [List.set_cons_zero, List.set_cons_succ]
  refine sv 20 (.int .u8 ((75 : Nat) : Int)) (Val.asN (Val.nldE 5 _ rfl u2 0 (by kernel_rfl) (fun _ => by kernel_rfl) U.sl (by omega)) h75) ?_
  simp only [List.set_cons_zero, List.set_cons_succ]
  refine sv 21 (.bool true) (Val.cmp .eql 5 _ (.tmp 20) _ rfl .u8 ((75 : Nat) : Int) 75 (by kernel_rfl) (by kernel_rfl) (by simp) _ (by simp [cmpB])) ?_
  simp only [List.set_cons_zero, List.set_cons_succ]
  refine sv 22 (.bool true) .of ?_
  simp only [List.set_cons_zero, List.set_cons_succ]
  refine sv 23 (.bool true) .of ?_
  simp only [List.set_cons_zero, List.set_cons_succ]
  refine sv 24 (u2) .of ?_
  simp only [List.set_cons_zero, List.set_cons_succ]
  refine sv 25 (elemP u2 1) (Val.idxE 43 (.tmp 24) _ rfl u2 1 (by kernel_rfl) (by kernel_rfl) U.sl Try.underlying43 (by kernel_rfl) (by rw [nn_len]; omega)) ?_
  simp only [List.set_cons_zero, List.set_cons_succ]
  refine sv 26 (.int .u8 ((tag : Nat) : Int)) (Val.asN (Val.nldE 5 _ rfl u2 1 (by kernel_rfl) (fun _ => by kernel_rfl) U.sl (by omega)) htg) ?_
  simp only [List.set_cons_zero, List.set_cons_succ]
  refine sv 27 (.int .u8 ((tag : Nat) : Int)) .of ?_
  simp only [List.set_cons_zero, List.set_cons_succ]
  refine sv 28 (.bool true) (Val.cmp .eql 5 _ (.tmp 26) (.tmp 27) rfl .u8 ((tag : Nat) : Int) ((tag : Nat) : Int) (by kernel_rfl) (by kernel_rfl) (by simp) _ (by simp [cmpB])) ?_
  simp only [List.set_cons_zero, List.set_cons_succ]
  refine sv 29 (.bool true) .of ?_
  simp only [List.set_cons_zero, List.set_cons_succ]
  refine sv 30 (.bool true) .of ?_
  simp only [List.set_cons_zero, List.set_cons_succ]
  refine sv 31 (.int .u8 ((tag : Nat) : Int)) .of ?_
  simp only [List.set_cons_zero, List.set_cons_succ]
  refine sv 32 (u1) .of ?_
  simp only [List.set_cons_zero, List.set_cons_succ]
  refine xCall 33 31 #[.pointer (some ⟨w.heap.size, 0, none⟩), .int .u8 ((tag : Nat) : Int), u1] (by kernel_rfl) ?_
  refine (taggedx_any w.heap.size tab ht w3 b3 tag u1 us1 (fewP ps) w.heap.size (by omega) HV1 HY1 (by omega) (fun p hp => Nat.le_trans (fewP_le p hp) (by omega)) (by omega)).mono ?_
  rintro en w4 ⟨rfl, hb1⟩
  have e3 := belE0 hb1
  have ze3 := e3.size
  replace BL := BL.e0 e3
  have HV : SV w4 v us := SV.e0 HV e3
  have HY : SLxs w.heap.size w4 us (ps.map nn) := SLxs.e0 HY e3
  replace b3 := b3.e0 e3
  have HV1 : SV w4 u1 us1 := SV.e0 HV1 e3
  have HY1 : SLxs w.heap.size w4 us1 ((fewP ps).map nn) := SLxs.e0 HY1 e3
  replace U := U.e0 e3
  clear e3
  refine ⟨.agg (cellsOf .u8 (nn (taggedN tab tag (fewP ps)))), rfl, ?_⟩
  simp only [List.set_cons_zero, List.set_cons_succ]
  refine sv 34 (u2) .of ?_
  simp only [List.set_cons_zero, List.set_cons_succ]
  refine xCall 35 22 #[.pointer (some ⟨w.heap.size, 0, none⟩), u2] (by kernel_rfl) ?_
  refine (of_any w.heap.size tab (textN tag (fewP ps)) u2 ht w4 b3 U.sl (by omega)).mono ?_
  rintro en w5 ⟨he, hb1⟩
  rw [hte] at he
  subst he
  have e4 := belE0 hb1
  have ze4 := e4.size
  replace BL := BL.e0 e4
  have HV : SV w5 v us := SV.e0 HV e4
  have HY : SLxs w.heap.size w5 us (ps.map nn) := SLxs.e0 HY e4
  replace b3 := b3.e0 e4
  have HV1 : SV w5 u1 us1 := SV.e0 HV1 e4
  have HY1 : SLxs w.heap.size w5 us1 ((fewP ps).map nn) := SLxs.e0 HY1 e4
  replace U := U.e0 e4
  clear e4
  refine ⟨.agg (cellsOf .u8 (nn (taggedN tab tag (fewP ps)))), rfl, ?_⟩
  simp only [List.set_cons_zero, List.set_cons_succ]
  refine sv 36 (.bool true) (Val.eqA .eql 28 _ (.tmp 33) (.tmp 35) rfl Try.underlying28 Try.underlying5 (by kernel_rfl) (by kernel_rfl) (nn (taggedN tab tag (fewP ps))) (nn (taggedN tab tag (fewP ps))) (by kernel_rfl) (by kernel_rfl) (by rw [nn_len]; exact htd) (by rw [nn_len]; exact htd) (.inl rfl) true (by simp)) ?_
  simp only [List.set_cons_zero, List.set_cons_succ]
  refine sv 37 (.bool true) .of ?_
  simp only [List.set_cons_zero, List.set_cons_succ]
  refine sv 38 (.bool true) .of ?_
  simp only [List.set_cons_zero, List.set_cons_succ]
  refine sv 39 (.int .u8 ((tag : Nat) : Int)) .of ?_
  simp only [List.set_cons_zero, List.set_cons_succ]
  refine sv 40 (u1) .of ?_
  simp only [List.set_cons_zero, List.set_cons_succ]
  refine xCall 41 35 #[u1] (by kernel_rfl) ?_
  refine (copyLx_any u1 us1 ((fewP ps).map nn) w5 HV1 w.heap.size (by omega) HY1 hp' (by rw [List.length_map]; omega)).mono ?_
  rintro en w6 ⟨u3, us3, rfl, hV3, hY3, hb1⟩
  have e5 := belE0 hb1
  have ze5 := e5.size
  replace BL := BL.e0 e5
  have HV : SV w6 v us := SV.e0 HV e5
  have HY : SLxs w.heap.size w6 us (ps.map nn) := SLxs.e0 HY e5
  replace b3 := b3.e0 e5
  have HV1 : SV w6 u1 us1 := SV.e0 HV1 e5
  have HY1 : SLxs w.heap.size w6 us1 ((fewP ps).map nn) := SLxs.e0 HY1 e5
  replace U := U.e0 e5
  clear e5
  refine ⟨u3, rfl, ?_⟩
  simp only [List.set_cons_zero, List.set_cons_succ]
  refine xCall 42 31 #[.pointer (some ⟨w.heap.size, 0, none⟩), .int .u8 ((tag : Nat) : Int), u3] (by kernel_rfl) ?_
  refine (tagged_any w.heap.size tab ht w6 b3 tag u3 us3 (fewP ps) hV3 hY3 (by omega) (by omega)).mono ?_
  rintro en w7 ⟨rfl, hb1⟩
  have e6 := belE0 hb1
  have ze6 := e6.size
  replace BL := BL.e0 e6
  have HV : SV w7 v us := SV.e0 HV e6
  have HY : SLxs w.heap.size w7 us (ps.map nn) := SLxs.e0 HY e6
  replace b3 := b3.e0 e6
  have HV1 : SV w7 u1 us1 := SV.e0 HV1 e6
  have HY1 : SLxs w.heap.size w7 us1 ((fewP ps).map nn) := SLxs.e0 HY1 e6
  replace U := U.e0 e6
  clear e6
  refine ⟨.agg (cellsOf .u8 (nn (taggedN tab tag (fewP ps)))), rfl, ?_⟩
  simp only [List.set_cons_zero, List.set_cons_succ]
  refine sv 43 (.int .u8 ((tag : Nat) : Int)) .of ?_
  simp only [List.set_cons_zero, List.set_cons_succ]
  refine sv 44 (u1) .of ?_
  simp only [List.set_cons_zero, List.set_cons_succ]
  refine xCall 45 31 #[.pointer (some ⟨w.heap.size, 0, none⟩), .int .u8 ((tag : Nat) : Int), u1] (by kernel_rfl) ?_
  refine (taggedx_any w.heap.size tab ht w7 b3 tag u1 us1 (fewP ps) w.heap.size (by omega) HV1 HY1 (by omega) (fun p hp => Nat.le_trans (fewP_le p hp) (by omega)) (by omega)).mono ?_
  rintro en w8 ⟨rfl, hb1⟩
  have e7 := belE0 hb1
  have ze7 := e7.size
  replace BL := BL.e0 e7
  have HV : SV w8 v us := SV.e0 HV e7
  have HY : SLxs w.heap.size w8 us (ps.map nn) := SLxs.e0 HY e7
  replace b3 := b3.e0 e7
  have HV1 : SV w8 u1 us1 := SV.e0 HV1 e7
  have HY1 : SLxs w.heap.size w8 us1 ((fewP ps).map nn) := SLxs.e0 HY1 e7
  replace U := U.e0 e7
  clear e7
  refine ⟨.agg (cellsOf .u8 (nn (taggedN tab tag (fewP ps)))), rfl, ?_⟩
  simp only [List.set_cons_zero, List.set_cons_succ]
  refine sv 46 (.bool true) (Val.eqA .eql 28 _ (.tmp 42) (.tmp 45) rfl Try.underlying28 Try.underlying5 (by kernel_rfl) (by kernel_rfl) (nn (taggedN tab tag (fewP ps))) (nn (taggedN tab tag (fewP ps))) (by kernel_rfl) (by kernel_rfl) (by rw [nn_len]; exact htd) (by rw [nn_len]; exact htd) (.inl rfl) true (by simp)) ?_
  simp only [List.set_cons_zero, List.set_cons_succ]
  refine sv 47 (.bool true) .of ?_
  simp only [List.set_cons_zero, List.set_cons_succ]
  refine sv 48 (.bool true) .of ?_
  simp only [List.set_cons_zero, List.set_cons_succ]
  refine xCall 49 24 #[] (by kernel_rfl) ?_
  refine (awake03_any w8).mono ?_
  rintro en w9 ⟨rfl, hb1⟩
  have e8 := belE0 hb1
  have ze8 := e8.size
  replace BL := BL.e0 e8
  have HV : SV w9 v us := SV.e0 HV e8
  have HY : SLxs w.heap.size w9 us (ps.map nn) := SLxs.e0 HY e8
  replace b3 := b3.e0 e8
  have HV1 : SV w9 u1 us1 := SV.e0 HV1 e8
  have HY1 : SLxs w.heap.size w9 us1 ((fewP ps).map nn) := SLxs.e0 HY1 e8
  replace U := U.e0 e8
  clear e8
  refine ⟨.bool true, rfl, ?_⟩
  simp only [List.set_cons_zero, List.set_cons_succ]
  refine sv 50 (.bool true) .of ?_
  simp only [List.set_cons_zero, List.set_cons_succ]
  refine sv 6 (.bool true) .of ?_
  simp only [List.set_cons_zero, List.set_cons_succ]
  refine wpList_nil ?_
  refine hK4 _ _ ?_
  refine wp_ret ?_
  (try simp only [Exit.then, Exit.inBlock])
  refine bodyPost_ret (v := .bool true) rT rfl ?_
  exact ⟨rfl, BL.b⟩

end Go.Proofs.Ytlmadkldiidkaaa
