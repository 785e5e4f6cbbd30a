/-
  XferClash, the walk.
-/
import Derived.Test.YtanggdnmoaflfaaXferQ
import Derived.Test.YtanggdnmoaflfaaPk1
namespace Go.Proofs.Ytanggdnmoaflfaa
open Go.RowKit
set_option linter.unusedVariables false
set_option linter.unusedSimpArgs false
set_option maxRecDepth 100000
theorem wf_atC {l : List (Int × Int)} (h : ∀ y ∈ spS l, ∀ n ∈ y, (Lit.int .i64 n).wf = true) (j : Nat) : (-9223372036854775808 ≤ (l.getD j (0, 0)).1 ∧ (l.getD j (0, 0)).1 ≤ 9223372036854775807) ∧ (-9223372036854775808 ≤ (l.getD j (0, 0)).2 ∧ (l.getD j (0, 0)).2 ≤ 9223372036854775807) := by
  rw [List.getD_eq_getElem?_getD]
  cases hj : l[j]? with
  | none => exact ⟨by decide, by decide⟩
  | some s =>
    have hm := List.mem_of_getElem? hj
    have hy : [s.1, s.2] ∈ spS l := List.mem_map.2 ⟨s, hm, rfl⟩
    have h1 := h _ hy s.1 (by simp)
    have h2 := h _ hy s.2 (by simp)
    exact ⟨bounds_i64 h1, bounds_i64 h2⟩
theorem xor1_ne : ∀ x, x < 256 → (x ^^^ 1) % 256 ≠ x := by decide
theorem memS_next {h : List (Int × Int)} {j : Nat} (hj : j < h.length) (c : Int) : memS (h.take (j + 1)) c = (memS (h.take j) c || decide ((h.getD j (0, 0)).1 ≤ c ∧ c < (h.getD j (0, 0)).2)) := by
  induction h generalizing j with
  | nil => simp at hj
  | cons s h ih =>
    cases j with
    | zero => simp [memS]
    | succ j =>
      simp only [List.length_cons] at hj
      simp only [List.take_succ_cons, memS, List.getD_cons_succ]
      rw [ih (by omega), Bool.or_assoc]
theorem set_getD (b : List Nat) (K v k : Nat) : (b.set K v).getD k 0 = if K = k ∧ k < b.length then v else b.getD k 0 := by
  rw [List.getD_eq_getElem?_getD, List.getElem?_set, List.getD_eq_getElem?_getD]
  by_cases h1 : K = k
  · subst h1
    by_cases h2 : K < b.length
    · simp [h2]
    · simp [h2]
  · simp [h1]
section
variable {all : List Nat} {ps : List (Nat × Nat)} {s : List Nat × List (Int × Int)} {p : Nat × Nat} {K v : Nat}
theorem clash_yes (h : GoodX all ps s) (hp : PcOk all.length p) (hK : K < (segN all p).length) (hv : v ≠ (segN all p).getD K 0) (hm : memS s.2 ((p.1 + K : Nat) : Int) = true) : putX s.1 s.2 ((p.1 : Nat) : Int) ((segN all p).set K v) = (s.1, s.2, 241) := by
  have hl := segN_len (Nat.le_of_lt hp.1) hp.2.1
  have h1 := hp.1
  have h2 := hp.2.1
  have h3 := hp.2.2
  refine putX_clash h.right (by rw [List.length_set]; omega) (by rw [List.length_set]; omega) (by rw [List.length_set, hl, h.len]; omega) (p.1 + K) (by omega) (by rw [List.length_set]; omega) hm ?_
  rw [set_getD, if_pos ⟨by omega, by omega⟩]
  intro e
  apply hv
  rw [← e, h.same _ hm, segN_get (by omega)]
theorem clash_not (h : GoodX all ps s) (hp : PcOk all.length p) (hK : K < (segN all p).length) (hm : memS s.2 ((p.1 + K : Nat) : Int) = false) : putX s.1 s.2 ((p.1 : Nat) : Int) ((segN all p).set K v) = (layB s.1 p.1 ((segN all p).set K v), putS (((p.1 : Nat) : Int), ((p.1 : Nat) : Int) + (((segN all p).set K v).length : Nat)) s.2, 0) := by
  have hl := segN_len (Nat.le_of_lt hp.1) hp.2.1
  have h1 := hp.1
  have h2 := hp.2.1
  have h3 := hp.2.2
  refine putX_ok h.right (by rw [List.length_set]; omega) (by rw [List.length_set]; omega) (by rw [List.length_set, hl, h.len]; omega) (fun k k1 k2 k3 => ?_)
  rw [List.length_set] at k2
  rw [set_getD, if_neg (fun hh => by rw [show k = p.1 + K by omega, hm] at k3; cases k3)]
  exact h.noclash hp k k1 k2 k3
theorem clash_get (h : GoodX all ps s) (hp : PcOk all.length p) (hK : K < (segN all p).length) : (layB s.1 p.1 ((segN all p).set K v)).getD (p.1 + K) 0 = ((segN all p).set K v).getD K 0 ∧ (layB s.1 p.1 ((segN all p).set K v)).length = all.length := by
  have hl := segN_len (Nat.le_of_lt hp.1) hp.2.1
  have h1 := hp.1
  have h2 := hp.2.1
  have hf : p.1 + ((segN all p).set K v).length ≤ s.1.length := by rw [List.length_set, hl, h.len]; omega
  refine ⟨?_, by rw [layB_len hf, h.len]⟩
  rw [layB_get hf, if_pos (by rw [List.length_set]; omega), show p.1 + K - p.1 = K by omega]
end
theorem runX_pC (all : List Nat) (n : Nat) (l : List (Int × Int)) : runX all (pcs n l 0) = (List.replicate all.length 0, []) := rfl
attribute [local irreducible] wpList Code.wp wpAnyZ runX putX cutF cutT layB
set_option maxHeartbeats 8000000 in
theorem xferClash_walk (w : World) (A B : Option Addr) (C E : Nat) (all : List Nat) (l : List (Int × Int)) (oa ob : Int) (wh : Nat) (D : SL .u8 w (.slice A all.length C) (nn all)) (hb : ∀ x ∈ all, x < 256) (L : SE .i64 2 w (.slice B l.length E) (spS l)) (wl : ∀ y ∈ spS l, ∀ n ∈ y, (Lit.int .i64 n).wf = true) (hoa : -9223372036854775808 ≤ oa ∧ oa ≤ 9223372036854775807) (hob : -9223372036854775808 ≤ ob ∧ ob ≤ 9223372036854775807) (hwh : wh < 65536) :
    Calls Try.prog 6 #[.slice A all.length C, .slice B l.length E, .agg (cellsOf .i64 [oa, ob]), .int .u16 ((wh : Nat) : Int)] w fun e w' => e = .returned (.bool true) ∧ Below w.heap.size w w' := by
  have BL := Bl.refl w
  have hdl := D.lt
  have hll := L.lt
  have hna := nn_len all
  have hms := L.cap.2.2
  have hma : all.length ≤ maxLen := by obtain ⟨_, _, _, hm⟩ := D.len; rwa [nn_len] at hm
  unfold maxLen at hms hma
  go_enter Try.func6, Try.ntmps6
  refine wp_seq_k fun K1 hK1 => ?_
  refine cPlain ?_
  refine xBox 6 65 _ ([oa, ob].map (Value.int .i64)) rfl (cells_toList _ _) ?_
  intro w1 n1
  have zn1 := n1.z
  have b6 := n1.c
  replace b6 : Blk .i64 w1 w.heap.size 65 [oa, ob] := b6
  replace BL := BL.e0 n1.e
  replace D := D.e0 n1.e
  replace L := L.e0 n1.e
  simp only [List.set_cons_zero, List.set_cons_succ]
  refine sv 8 (.bool false) .of ?_
  simp only [List.set_cons_zero, List.set_cons_succ]
  refine wpList_nil ?_
  refine hK1 _ _ ?_
  refine wp_seq_k fun K2 hK2 => ?_
  refine wp_seq_k fun K3 hK3 => ?_
  refine cPlain ?_
  refine sv 23 (.slice A all.length C) .of ?_
  simp only [List.set_cons_zero, List.set_cons_succ]
  refine sv 24 (.int .i64 (all.length : Int)) .of ?_
  simp only [List.set_cons_zero, List.set_cons_succ]
  refine sv 25 (.bool (decide ((all.length : Int) = 0))) (Val.cmp .eql 3 _ (.tmp 24) _ rfl .i64 (all.length : Int) 0 (by kernel_rfl) (by kernel_rfl) (by simp) _ rfl) ?_
  simp only [List.set_cons_zero, List.set_cons_succ]
  refine sv 26 (.bool (decide ((all.length : Int) = 0))) .of ?_
  simp only [List.set_cons_zero, List.set_cons_succ]
  by_cases g27 : (all.length : Int) = 0
  · skip
    have dg27 : decide ((all.length : Int) = 0) = true := decide_eq_true g27
    simp only [dg27]
    clear dg27
    refine xSkip 27 ?_
    simp only [List.set_cons_zero, List.set_cons_succ]
    refine xSkip 28 ?_
    simp only [List.set_cons_zero, List.set_cons_succ]
    refine xSkip 29 ?_
    simp only [List.set_cons_zero, List.set_cons_succ]
    refine sv 30 (.bool true) .of ?_
    simp only [List.set_cons_zero, List.set_cons_succ]
    refine wpList_nil ?_
    refine hK3 _ _ ?_
    refine cT ?_
    refine wp_seq_k fun K4 hK4 => ?_
    refine cPlain ?_
    refine xCall 31 31 #[] (by kernel_rfl) ?_
    refine (awake24 w1).mono ?_
    rintro en w2 ⟨rfl, hb1⟩
    have e1 := belE0 hb1
    have ze1 := e1.size
    replace BL := BL.e0 e1
    replace D := D.e0 e1
    replace L := L.e0 e1
    replace b6 := b6.e0 e1
    clear e1
    refine ⟨.bool true, rfl, ?_⟩
    simp only [List.set_cons_zero, List.set_cons_succ]
    refine sv 8 (.bool true) .of ?_
    simp only [List.set_cons_zero, List.set_cons_succ]
    refine wpList_nil ?_
    refine hK4 _ _ ?_
    refine wp_ret ?_
    (try simp only [Exit.then, Exit.inBlock])
    refine bodyPost_ret (v := .bool true) rT rfl ?_
    exact ⟨rfl, BL.b⟩
  · skip
    have dg27 : decide ((all.length : Int) = 0) = false := decide_eq_false g27
    simp only [dg27]
    clear dg27
    refine sv 27 (.slice A all.length C) .of ?_
    simp only [List.set_cons_zero, List.set_cons_succ]
    refine sv 28 (.int .i64 (all.length : Int)) .of ?_
    simp only [List.set_cons_zero, List.set_cons_succ]
    refine sv 29 (.bool (decide (2000 < (all.length : Int)))) (Val.cmp .gtr 3 _ (.tmp 28) _ rfl .i64 (all.length : Int) 2000 (by kernel_rfl) (by kernel_rfl) (by simp) _ rfl) ?_
    simp only [List.set_cons_zero, List.set_cons_succ]
    refine sv 30 (.bool (decide (2000 < (all.length : Int)))) .of ?_
    simp only [List.set_cons_zero, List.set_cons_succ]
    refine wpList_nil ?_
    refine hK3 _ _ ?_
    refine cDec (2000 < (all.length : Int)) (by kernel_rfl) (fun c30 => ?_) (fun c30 => ?_)
    · skip
      refine wp_seq_k fun K5 hK5 => ?_
      refine cPlain ?_
      refine xCall 31 31 #[] (by kernel_rfl) ?_
      refine (awake24 w1).mono ?_
      rintro en w3 ⟨rfl, hb1⟩
      have e2 := belE0 hb1
      have ze2 := e2.size
      replace BL := BL.e0 e2
      replace D := D.e0 e2
      replace L := L.e0 e2
      replace b6 := b6.e0 e2
      clear e2
      refine ⟨.bool true, rfl, ?_⟩
      simp only [List.set_cons_zero, List.set_cons_succ]
      refine sv 8 (.bool true) .of ?_
      simp only [List.set_cons_zero, List.set_cons_succ]
      refine wpList_nil ?_
      refine hK5 _ _ ?_
      refine wp_ret ?_
      (try simp only [Exit.then, Exit.inBlock])
      refine bodyPost_ret (v := .bool true) rT rfl ?_
      exact ⟨rfl, BL.b⟩
    · skip
      have h0 : 1 ≤ all.length := by omega
      have h2 : all.length ≤ 2000 := by omega
      have hpo := pcO_ok h0 (oa, ob)
      have hsl := segN_len (all := all) (Nat.le_of_lt hpo.1) hpo.2.1
      have hpo1 : (cutF all.length oa) < (cutT all.length oa ob) := hpo.1
      have hpo2 : (cutT all.length oa ob) ≤ all.length := hpo.2.1
      have hpo3 : (cutT all.length oa ob) - (cutF all.length oa) ≤ 512 := hpo.2.2
      have hsl2 : (segN all (pcO all.length (oa, ob))).length = (cutT all.length oa ob) - (cutF all.length oa) := hsl
      have hKl : (wh % (segN all (pcO all.length (oa, ob))).length) < (segN all (pcO all.length (oa, ob))).length := Nat.mod_lt _ (by omega)
      have hnsg := nn_len (segN all (pcO all.length (oa, ob)))
      refine wp_skip ?_
      refine hK2 _ _ ?_
      refine wp_seq_k fun K6 hK6 => ?_
      refine cPlain ?_
      refine sv 33 (.slice A all.length C) .of ?_
      simp only [List.set_cons_zero, List.set_cons_succ]
      refine sv 34 (.int .i64 (all.length : Int)) .of ?_
      simp only [List.set_cons_zero, List.set_cons_succ]
      refine xCall 35 32 #[.int .i64 (all.length : Int)] (by kernel_rfl) ?_
      refine (begin_any all.length (by omega) w1).mono ?_
      rintro en w4 ⟨⟨dv0, rfl, O1⟩, hb1⟩
      obtain ⟨X0, Y0, hq⟩ := O1.len
      rw [nn_len, List.length_replicate] at hq
      subst hq
      have O2 := OwnE.nil 70 .i64 2 w1.heap.size w4
      have e3 := belE0 hb1
      have ze3 := e3.size
      replace BL := BL.e0 e3
      replace D := D.e0 e3
      replace L := L.e0 e3
      replace b6 := b6.e0 e3
      clear e3
      have lO1_1 := O1.ge
      have lO2_1 := O2.ge
      refine ⟨.tuple #[.agg #[.slice X0 all.length Y0, .slice none 0 0], .int .i64 0], rfl, ?_⟩
      simp only [List.set_cons_zero, List.set_cons_succ]
      refine sv 32 (.tuple #[.agg #[.slice X0 all.length Y0, .slice none 0 0], .int .i64 0]) .of ?_
      simp only [List.set_cons_zero, List.set_cons_succ]
      refine sv 36 (.agg #[.slice X0 all.length Y0, .slice none 0 0]) .of ?_
      simp only [List.set_cons_zero, List.set_cons_succ]
      refine sv 37 (.int .i64 0) .of ?_
      simp only [List.set_cons_zero, List.set_cons_succ]
      refine xAlloc 9 56 [.slice none 0 0, .slice none 0 0] rfl (by kernel_rfl) ?_
      intro w5 n2
      have zn2 := n2.z
      have b9 := n2.c
      replace BL := BL.e0 n2.e
      replace D := D.e0 n2.e
      replace L := L.e0 n2.e
      replace b6 := b6.e0 n2.e
      replace O1 := O1.e0 n2.e
      replace O2 := O2.e0 n2.e
      simp only [List.set_cons_zero, List.set_cons_succ]
      refine xStoreR 56 (.tmp 9) (.tmp 36) rfl w4.heap.size 56 [.slice none 0 0, .slice none 0 0] 0 [.slice X0 all.length Y0, .slice none 0 0] (by kernel_rfl) (by kernel_rfl) b9 (by kernel_rfl) (by simp) rfl [.slice X0 all.length Y0, .slice none 0 0] rfl ?_
      intro w6 t1
      have zt1 := t1.z
      have BL_ := BL.ev t1.e (fun i h => show w.heap.size ≤ i by have h : i = w4.heap.size := h; omega)
      have D_ := D.ev t1.e (fun i hi => show ¬ (i = w4.heap.size) by have := hdl i hi; omega)
      have L_ := L.ev t1.e (fun i hi => show ¬ (i = w4.heap.size) by have := hll i hi; omega)
      have b6_ := b6.ev t1.e (show ¬ (w.heap.size = w4.heap.size) by omega)
      have O1_ := O1.ev t1.e (fun i hi => show ¬ (i = w4.heap.size) by have := lO1_1 i hi; omega)
      have O2_ := O2.ev t1.e (fun i hi => show ¬ (i = w4.heap.size) by have := lO2_1 i hi; omega)
      replace BL := BL_; clear BL_
      replace D := D_; clear D_
      replace L := L_; clear L_
      replace b6 := b6_; clear b6_
      replace O1 := O1_; clear O1_
      replace O2 := O2_; clear O2_
      replace b9 : Cel w6 w4.heap.size 56 [.slice X0 all.length Y0, .slice none 0 0] := t1.c
      clear t1
      refine sv 10 (.int .i64 0) .of ?_
      simp only [List.set_cons_zero, List.set_cons_succ]
      refine wpList_nil ?_
      refine hK6 _ _ ?_
      refine cCut (fun A_ w_ => ∃ (i : Nat) (AX BX : Option Addr) (CX EX : Nat), ((i ≤ l.length) ∧ (∃ s1 : Nat → Value, A_ = ⟨[.slice A all.length C, .slice B l.length E, .agg (cellsOf .i64 [oa, ob]), .int .u16 ((wh : Nat) : Int), undef, undef, .pointer (some ⟨w.heap.size, 0, none⟩), undef, .bool false, .pointer (some ⟨w4.heap.size, 0, none⟩), .int .i64 0, .int .i64 ((i : Nat) : Int), (s1 12), (s1 13), undef, undef, undef, undef, undef, undef, undef, undef, undef, .slice A all.length C, .int .i64 (all.length : Int), .bool false, .bool false, .slice A all.length C, .int .i64 (all.length : Int), .bool (decide (2000 < (all.length : Int))), .bool (decide (2000 < (all.length : Int))), undef, .tuple #[.agg #[.slice X0 all.length Y0, .slice none 0 0], .int .i64 0], .slice A all.length C, .int .i64 (all.length : Int), .tuple #[.agg #[.slice X0 all.length Y0, .slice none 0 0], .int .i64 0], .agg #[.slice X0 all.length Y0, .slice none 0 0], .int .i64 0, (s1 38), (s1 39), (s1 40), (s1 41), (s1 42), (s1 43), (s1 44), (s1 45), (s1 46), (s1 47), (s1 48), (s1 49), (s1 50), (s1 51), (s1 52), (s1 53), (s1 54), (s1 55), (s1 56), (s1 57), (s1 58), (s1 59), (s1 60), (s1 61), (s1 62), (s1 63), (s1 64), (s1 65), (s1 66), (s1 67), (s1 68), (s1 69), undef, undef, undef, undef, undef, undef, undef, undef, undef, undef, undef, undef, undef, undef, undef, undef, undef, undef, undef, undef, undef, undef, undef, undef, undef, undef, undef, undef, undef, undef, undef, undef, undef, undef, undef, undef, undef, undef, undef, undef, undef, undef, undef, undef, undef, undef, undef, undef, undef, undef, undef, undef, undef, undef, undef, undef, undef, undef, undef, undef, undef, undef, undef, undef, undef, undef, undef, undef, undef, undef, undef, undef, undef, undef, undef, undef, undef, undef, undef, undef, undef, undef, undef, undef, undef, undef, undef, undef, undef, undef, undef, undef, undef, undef, undef, undef, undef, undef, undef, undef, undef, undef].toArray, []⟩) ∧ Bl w.heap.size w w_ ∧ SL .u8 w_ (.slice A all.length C) (nn all) ∧ SE .i64 2 w_ (.slice B l.length E) (spS l) ∧ Blk .i64 w_ w.heap.size 65 [oa, ob] ∧ Own 5 .u8 w.heap.size w_ (.slice AX all.length CX) (nn (runX all (pcs all.length l i)).1) ∧ OwnE 70 .i64 2 w.heap.size w_ (.slice BX (runX all (pcs all.length l i)).2.length EX) (spS (runX all (pcs all.length l i)).2) ∧ Cel w_ w4.heap.size 56 [.slice AX all.length CX, .slice BX (runX all (pcs all.length l i)).2.length EX] ∧ w6.heap.size ≤ w_.heap.size)) ?_ ?_
      · skip
        refine wp_seq_k fun K7 hK7 => ?_
        refine cPlain ?_
        refine sv 11 (.int .i64 0) .of ?_
        simp only [List.set_cons_zero, List.set_cons_succ]
        refine wpList_nil ?_
        refine hK7 _ _ ?_
        refine wp_block ?_
        refine cLoop (fun N_ A_ w_ => ∃ (i : Nat) (AX BX : Option Addr) (CX EX : Nat), (N_ = l.length - i ∧ (i ≤ l.length) ∧ (∃ s2 : Nat → Value, A_ = ⟨[.slice A all.length C, .slice B l.length E, .agg (cellsOf .i64 [oa, ob]), .int .u16 ((wh : Nat) : Int), undef, undef, .pointer (some ⟨w.heap.size, 0, none⟩), undef, .bool false, .pointer (some ⟨w4.heap.size, 0, none⟩), .int .i64 0, .int .i64 ((i : Nat) : Int), (s2 12), (s2 13), undef, undef, undef, undef, undef, undef, undef, undef, undef, .slice A all.length C, .int .i64 (all.length : Int), .bool false, .bool false, .slice A all.length C, .int .i64 (all.length : Int), .bool (decide (2000 < (all.length : Int))), .bool (decide (2000 < (all.length : Int))), undef, .tuple #[.agg #[.slice X0 all.length Y0, .slice none 0 0], .int .i64 0], .slice A all.length C, .int .i64 (all.length : Int), .tuple #[.agg #[.slice X0 all.length Y0, .slice none 0 0], .int .i64 0], .agg #[.slice X0 all.length Y0, .slice none 0 0], .int .i64 0, (s2 38), (s2 39), (s2 40), (s2 41), (s2 42), (s2 43), (s2 44), (s2 45), (s2 46), (s2 47), (s2 48), (s2 49), (s2 50), (s2 51), (s2 52), (s2 53), (s2 54), (s2 55), (s2 56), (s2 57), (s2 58), (s2 59), (s2 60), (s2 61), (s2 62), (s2 63), (s2 64), (s2 65), (s2 66), (s2 67), (s2 68), (s2 69), undef, undef, undef, undef, undef, undef, undef, undef, undef, undef, undef, undef, undef, undef, undef, undef, undef, undef, undef, undef, undef, undef, undef, undef, undef, undef, undef, undef, undef, undef, undef, undef, undef, undef, undef, undef, undef, undef, undef, undef, undef, undef, undef, undef, undef, undef, undef, undef, undef, undef, undef, undef, undef, undef, undef, undef, undef, undef, undef, undef, undef, undef, undef, undef, undef, undef, undef, undef, undef, undef, undef, undef, undef, undef, undef, undef, undef, undef, undef, undef, undef, undef, undef, undef, undef, undef, undef, undef, undef, undef, undef, undef, undef, undef, undef, undef, undef, undef, undef, undef, undef, undef].toArray, []⟩) ∧ Bl w.heap.size w w_ ∧ SL .u8 w_ (.slice A all.length C) (nn all) ∧ SE .i64 2 w_ (.slice B l.length E) (spS l) ∧ Blk .i64 w_ w.heap.size 65 [oa, ob] ∧ Own 5 .u8 w.heap.size w_ (.slice AX all.length CX) (nn (runX all (pcs all.length l i)).1) ∧ OwnE 70 .i64 2 w.heap.size w_ (.slice BX (runX all (pcs all.length l i)).2.length EX) (spS (runX all (pcs all.length l i)).2) ∧ Cel w_ w4.heap.size 56 [.slice AX all.length CX, .slice BX (runX all (pcs all.length l i)).2.length EX] ∧ w6.heap.size ≤ w_.heap.size)) _ ⟨0, X0, none, Y0, 0, rfl, (by omega), cutE, BL, D, L, b6, (by rw [runX_pC]; exact O1.mono (by omega)), (by rw [runX_pC]; exact O2.mono (by omega)), (by rw [runX_pC]; exact b9), Nat.le_refl _⟩ ?_
        clear BL D L b6 O1 O2 b9
        rintro n_ a_ wl0 ⟨i, AX, BX, CX, EX, rfl, hc0_0, ⟨s2, rfl⟩, BL, D, L, b6, O1, O2, b9, zl0⟩
        have lO1_2 := O1.ge
        have lO2_2 := O2.ge
        have kO1 := fun (i : Nat) hi => And.intro (O1.ge i hi) (Own.ne O1 b9 (by decide) i hi)
        have kO2 := fun (i : Nat) hi => And.intro (O2.ge i hi) (OwnE.ne O2 b9 (by decide) i hi)
        refine wp_seq_k fun K8 hK8 => ?_
        refine wp_seq_k fun K9 hK9 => ?_
        refine cPlain ?_
        refine sv 38 (.int .i64 ((i : Nat) : Int)) .of ?_
        simp only [List.set_cons_zero, List.set_cons_succ]
        refine sv 39 (.slice B l.length E) .of ?_
        simp only [List.set_cons_zero, List.set_cons_succ]
        refine sv 40 (.int .i64 (l.length : Int)) .of ?_
        simp only [List.set_cons_zero, List.set_cons_succ]
        refine sv 41 (.bool (decide (((i : Nat) : Int) < (l.length : Int)))) (Val.cmp .lss 3 _ (.tmp 38) (.tmp 40) rfl .i64 ((i : Nat) : Int) (l.length : Int) (by kernel_rfl) (by kernel_rfl) (by simp) _ rfl) ?_
        simp only [List.set_cons_zero, List.set_cons_succ]
        refine sv 42 (.bool (decide (((i : Nat) : Int) < (l.length : Int)))) .of ?_
        simp only [List.set_cons_zero, List.set_cons_succ]
        by_cases g43 : ((i : Nat) : Int) < (l.length : Int)
        · skip
          have dg43 : decide (((i : Nat) : Int) < (l.length : Int)) = true := decide_eq_true g43
          simp only [dg43]
          clear dg43
          refine sv 43 (.int .i64 ((i : Nat) : Int)) .of ?_
          simp only [List.set_cons_zero, List.set_cons_succ]
          refine sv 44 (.bool (decide (((i : Nat) : Int) < 20))) (Val.cmp .lss 3 _ (.tmp 43) _ rfl .i64 ((i : Nat) : Int) 20 (by kernel_rfl) (by kernel_rfl) (by simp) _ rfl) ?_
          simp only [List.set_cons_zero, List.set_cons_succ]
          refine sv 45 (.bool (decide (((i : Nat) : Int) < 20))) .of ?_
          simp only [List.set_cons_zero, List.set_cons_succ]
          refine wpList_nil ?_
          refine hK9 _ _ ?_
          refine cDec (((i : Nat) : Int) < 20) (by kernel_rfl) (fun c45 => ?_) (fun c45 => ?_)
          · skip
            refine wp_skip ?_
            refine hK8 _ _ ?_
            refine wp_seq_k fun K10 hK10 => ?_
            refine wp_block ?_
            refine wp_seq_k fun K11 hK11 => ?_
            have e4 := drew_e0 wl0
            refine zg (fun w_ => Bl w.heap.size w w_ ∧ SL .u8 w_ (.slice A all.length C) (nn all) ∧ SE .i64 2 w_ (.slice B l.length E) (spS l) ∧ Blk .i64 w_ w.heap.size 65 [oa, ob] ∧ Own 5 .u8 w.heap.size w_ (.slice AX all.length CX) (nn (runX all (pcs all.length l i)).1) ∧ OwnE 70 .i64 2 w.heap.size w_ (.slice BX (runX all (pcs all.length l i)).2.length EX) (spS (runX all (pcs all.length l i)).2) ∧ Cel w_ w4.heap.size 56 [.slice AX all.length CX, .slice BX (runX all (pcs all.length l i)).2.length EX] ∧ wl0.heap.size ≤ w_.heap.size) (fun w_ => Bl w.heap.size w w_ ∧ SL .u8 w_ (.slice A all.length C) (nn all) ∧ SE .i64 2 w_ (.slice B l.length E) (spS l) ∧ Blk .i64 w_ w.heap.size 65 [oa, ob] ∧ Own 5 .u8 w.heap.size w_ (.slice AX all.length CX) (nn (runX all (pcs all.length l i)).1) ∧ OwnE 70 .i64 2 w.heap.size w_ (.slice BX (runX all (pcs all.length l i)).2.length EX) (spS (runX all (pcs all.length l i)).2) ∧ Cel w_ w4.heap.size 56 [.slice AX all.length CX, .slice BX (runX all (pcs all.length l i)).2.length EX] ∧ wl0.heap.size ≤ w_.heap.size) 100000 17 ⟨BL.e0 e4, D.e0 e4, L.e0 e4, b6.e0 e4, O1.e0 e4, O2.e0 e4, b9.e0 e4, Nat.le_refl _⟩ ?_
            clear BL D L b6 O1 O2 b9
            clear e4
            intro w7
            rintro ⟨BL, D, L, b6, O1, O2, b9, z1⟩
            refine zv 0 49 (.slice A all.length C) (fun _ _ => .of) ⟨BL, D, L, b6, O1, O2, b9, by omega⟩ ?_
            simp only [List.set_cons_zero, List.set_cons_succ]
            refine zv 1 50 (.slice B l.length E) (fun _ _ => .of) ⟨BL, D, L, b6, O1, O2, b9, by omega⟩ ?_
            simp only [List.set_cons_zero, List.set_cons_succ]
            refine zv 2 51 (.int .i64 ((i : Nat) : Int)) (fun _ _ => .of) ⟨BL, D, L, b6, O1, O2, b9, by omega⟩ ?_
            simp only [List.set_cons_zero, List.set_cons_succ]
            refine zv 3 52 (elemE 2 (.slice B l.length E) i) (fun _ ⟨BL, D, L, b6, O1, O2, b9, z1⟩ => Val.ixE 62 (.tmp 50) (.tmp 51) rfl (.slice B l.length E) i (by kernel_rfl) (by kernel_rfl) L Try.underlying62 (by kernel_rfl) (by simp only [spS_len]; omega)) ⟨BL, D, L, b6, O1, O2, b9, by omega⟩ ?_
            simp only [List.set_cons_zero, List.set_cons_succ]
            refine zv 4 53 (elemF (.slice B l.length E) i 0) (fun _ ⟨BL, D, L, b6, O1, O2, b9, z1⟩ => Val.aixE 65 (.tmp 52) _ rfl (.slice B l.length E) i 0 (by kernel_rfl) (by kernel_rfl) L Try.underlying65 (by kernel_rfl) (by omega) (by omega)) ⟨BL, D, L, b6, O1, O2, b9, by omega⟩ ?_
            simp only [List.set_cons_zero, List.set_cons_succ]
            refine zv 5 54 (.int .i64 (l.getD i (0, 0)).1) (fun _ ⟨BL, D, L, b6, O1, O2, b9, z1⟩ => Val.ldF0 3 _ rfl (.slice B l.length E) i (by kernel_rfl) (fun _ => (by kernel_rfl)) L (by omega)) ⟨BL, D, L, b6, O1, O2, b9, by omega⟩ ?_
            simp only [List.set_cons_zero, List.set_cons_succ]
            refine zv 6 55 (.slice B l.length E) (fun _ _ => .of) ⟨BL, D, L, b6, O1, O2, b9, by omega⟩ ?_
            simp only [List.set_cons_zero, List.set_cons_succ]
            refine zv 7 56 (.int .i64 ((i : Nat) : Int)) (fun _ _ => .of) ⟨BL, D, L, b6, O1, O2, b9, by omega⟩ ?_
            simp only [List.set_cons_zero, List.set_cons_succ]
            refine zv 8 57 (elemE 2 (.slice B l.length E) i) (fun _ ⟨BL, D, L, b6, O1, O2, b9, z1⟩ => Val.ixE 62 (.tmp 55) (.tmp 56) rfl (.slice B l.length E) i (by kernel_rfl) (by kernel_rfl) L Try.underlying62 (by kernel_rfl) (by simp only [spS_len]; omega)) ⟨BL, D, L, b6, O1, O2, b9, by omega⟩ ?_
            simp only [List.set_cons_zero, List.set_cons_succ]
            refine zv 9 58 (elemF (.slice B l.length E) i 1) (fun _ ⟨BL, D, L, b6, O1, O2, b9, z1⟩ => Val.aixE 65 (.tmp 57) _ rfl (.slice B l.length E) i 1 (by kernel_rfl) (by kernel_rfl) L Try.underlying65 (by kernel_rfl) (by omega) (by omega)) ⟨BL, D, L, b6, O1, O2, b9, by omega⟩ ?_
            simp only [List.set_cons_zero, List.set_cons_succ]
            refine zv 10 59 (.int .i64 (l.getD i (0, 0)).2) (fun _ ⟨BL, D, L, b6, O1, O2, b9, z1⟩ => Val.ldF1 3 _ rfl (.slice B l.length E) i (by kernel_rfl) (fun _ => (by kernel_rfl)) L (by omega)) ⟨BL, D, L, b6, O1, O2, b9, by omega⟩ ?_
            simp only [List.set_cons_zero, List.set_cons_succ]
            refine zo1 11 rfl ?_
            refine xCall 60 35 #[.slice A all.length C, .int .i64 (l.getD i (0, 0)).1, .int .i64 (l.getD i (0, 0)).2] (by kernel_rfl) ?_
            refine (cut_any A C all (l.getD (i) (0, 0)).1 (l.getD (i) (0, 0)).2 w7 D h0 (by omega) (wf_atC wl _).1 (wf_atC wl _).2).mono ?_
            rintro en w8 ⟨rfl, hb1⟩
            have e5 := belE0 hb1
            have ze5 := e5.size
            replace BL := BL.e0 e5
            replace D := D.e0 e5
            replace L := L.e0 e5
            replace b6 := b6.e0 e5
            replace O1 := O1.e0 e5
            replace O2 := O2.e0 e5
            replace b9 := b9.e0 e5
            clear e5
            refine ⟨.tuple #[.int .i64 (((cutF all.length (l.getD (i) (0, 0)).1) : Nat) : Int), sliceV (.slice A all.length C) (cutF all.length (l.getD (i) (0, 0)).1) (cutT all.length (l.getD (i) (0, 0)).1 (l.getD (i) (0, 0)).2)], rfl, ?_⟩
            refine ze 11 ⟨BL, D, L, b6, O1, O2, b9, by omega⟩ ?_
            simp only [List.set_cons_zero, List.set_cons_succ]
            refine zv 12 48 (.tuple #[.int .i64 (((cutF all.length (l.getD (i) (0, 0)).1) : Nat) : Int), sliceV (.slice A all.length C) (cutF all.length (l.getD (i) (0, 0)).1) (cutT all.length (l.getD (i) (0, 0)).1 (l.getD (i) (0, 0)).2)]) (fun _ _ => .of) ⟨BL, D, L, b6, O1, O2, b9, by omega⟩ ?_
            simp only [List.set_cons_zero, List.set_cons_succ]
            refine zv 13 61 (.int .i64 (((cutF all.length (l.getD (i) (0, 0)).1) : Nat) : Int)) (fun _ _ => .of) ⟨BL, D, L, b6, O1, O2, b9, by omega⟩ ?_
            simp only [List.set_cons_zero, List.set_cons_succ]
            refine zv 14 62 (sliceV (.slice A all.length C) (cutF all.length (l.getD (i) (0, 0)).1) (cutT all.length (l.getD (i) (0, 0)).1 (l.getD (i) (0, 0)).2)) (fun _ _ => .of) ⟨BL, D, L, b6, O1, O2, b9, by omega⟩ ?_
            simp only [List.set_cons_zero, List.set_cons_succ]
            refine zv 15 12 (.int .i64 (((cutF all.length (l.getD (i) (0, 0)).1) : Nat) : Int)) (fun _ _ => .of) ⟨BL, D, L, b6, O1, O2, b9, by omega⟩ ?_
            simp only [List.set_cons_zero, List.set_cons_succ]
            refine zv 16 13 (sliceV (.slice A all.length C) (cutF all.length (l.getD (i) (0, 0)).1) (cutT all.length (l.getD (i) (0, 0)).1 (l.getD (i) (0, 0)).2)) (fun _ _ => .of) ⟨BL, D, L, b6, O1, O2, b9, by omega⟩ ?_
            simp only [List.set_cons_zero, List.set_cons_succ]
            refine zd (by kernel_rfl) ?_ _
            refine hK11 _ _ ?_
            refine cPlain ?_
            refine sv 64 (.agg #[.slice AX all.length CX, .slice BX (runX all (pcs all.length l i)).2.length EX]) (Val.cel 56 _ rfl 0 2 (by kernel_rfl) b9 _ Try.underlying56 rfl (by kernel_rfl) (by simp) [.slice AX all.length CX, .slice BX (runX all (pcs all.length l i)).2.length EX] rfl) ?_
            simp only [List.set_cons_zero, List.set_cons_succ]
            refine sv 65 (.int .i64 (((cutF all.length (l.getD (i) (0, 0)).1) : Nat) : Int)) .of ?_
            simp only [List.set_cons_zero, List.set_cons_succ]
            refine sv 66 (sliceV (.slice A all.length C) (cutF all.length (l.getD (i) (0, 0)).1) (cutT all.length (l.getD (i) (0, 0)).1 (l.getD (i) (0, 0)).2)) .of ?_
            simp only [List.set_cons_zero, List.set_cons_succ]
            refine xCall 67 33 #[.agg #[.slice AX all.length CX, .slice BX (runX all (pcs all.length l i)).2.length EX], .int .i64 (((cutF all.length (l.getD (i) (0, 0)).1) : Nat) : Int), sliceV (.slice A all.length C) (cutF all.length (l.getD (i) (0, 0)).1) (cutT all.length (l.getD (i) (0, 0)).1 (l.getD (i) (0, 0)).2)] (by kernel_rfl) ?_
            refine (runput_any all h2 (pcs all.length l i) (pcs_ok h0 l i) (pcO all.length (l.getD (i) (0, 0))) (pcO_ok h0 _) _ _ (.slice A all.length C) w8 O1.sl O2.se D).mono ?_
            rintro en w9 ⟨⟨X1, Y1, Z1, T1, he, P1, Q1⟩, hb1⟩
            rw [← pcs_succ (n := all.length) (l := l) (i := i) (by omega)] at he P1 Q1
            subst he
            have e6 := belE0 hb1
            have ze6 := e6.size
            replace BL := BL.e0 e6
            replace D := D.e0 e6
            replace L := L.e0 e6
            replace b6 := b6.e0 e6
            replace b9 := b9.e0 e6
            clear e6
            have lP1_1 := P1.ge
            have lQ1_1 := Q1.ge
            refine ⟨.tuple #[.agg #[.slice X1 all.length Y1, .slice Z1 (runX all (pcs all.length l (i + 1))).2.length T1], .int .i64 0], rfl, ?_⟩
            simp only [List.set_cons_zero, List.set_cons_succ]
            refine sv 63 (.tuple #[.agg #[.slice X1 all.length Y1, .slice Z1 (runX all (pcs all.length l (i + 1))).2.length T1], .int .i64 0]) .of ?_
            simp only [List.set_cons_zero, List.set_cons_succ]
            refine sv 68 (.agg #[.slice X1 all.length Y1, .slice Z1 (runX all (pcs all.length l (i + 1))).2.length T1]) .of ?_
            simp only [List.set_cons_zero, List.set_cons_succ]
            refine sv 69 (.int .i64 0) .of ?_
            simp only [List.set_cons_zero, List.set_cons_succ]
            refine xStoreR 56 (.tmp 9) (.tmp 68) rfl w4.heap.size 56 [.slice AX all.length CX, .slice BX (runX all (pcs all.length l i)).2.length EX] 0 [.slice X1 all.length Y1, .slice Z1 (runX all (pcs all.length l (i + 1))).2.length T1] (by kernel_rfl) (by kernel_rfl) b9 (by kernel_rfl) (by simp) rfl [.slice X1 all.length Y1, .slice Z1 (runX all (pcs all.length l (i + 1))).2.length T1] rfl ?_
            intro w10 t2
            have zt2 := t2.z
            have BL_ := BL.ev t2.e (fun i h => show w.heap.size ≤ i by have h : i = w4.heap.size := h; omega)
            have D_ := D.ev t2.e (fun i hi => show ¬ (i = w4.heap.size) by have := hdl i hi; omega)
            have L_ := L.ev t2.e (fun i hi => show ¬ (i = w4.heap.size) by have := hll i hi; omega)
            have b6_ := b6.ev t2.e (show ¬ (w.heap.size = w4.heap.size) by omega)
            have P1_ := P1.ev t2.e (fun i hi => show ¬ (i = w4.heap.size) by have := lP1_1 i hi; omega)
            have Q1_ := Q1.ev t2.e (fun i hi => show ¬ (i = w4.heap.size) by have := lQ1_1 i hi; omega)
            replace BL := BL_; clear BL_
            replace D := D_; clear D_
            replace L := L_; clear L_
            replace b6 := b6_; clear b6_
            replace P1 := P1_; clear P1_
            replace Q1 := Q1_; clear Q1_
            replace b9 : Cel w10 w4.heap.size 56 [.slice X1 all.length Y1, .slice Z1 (runX all (pcs all.length l (i + 1))).2.length T1] := t2.c
            clear t2
            refine wpList_nil ?_
            refine hK10 _ _ ?_
            refine cPlain ?_
            refine sv 46 (.int .i64 ((i : Nat) : Int)) .of ?_
            simp only [List.set_cons_zero, List.set_cons_succ]
            refine sv 47 (.int .i64 ((i + 1 : Nat) : Int)) (Val.as (Val.add 3 _ (.tmp 46) _ rfl ((i : Nat) : Int) 1 (by kernel_rfl) (by kernel_rfl) (by omega)) (congrArg (Value.int .i64) (show ((((i : Nat) : Int) + 1) : Int) = ((i + 1 : Nat) : Int) by omega))) ?_
            simp only [List.set_cons_zero, List.set_cons_succ]
            refine sv 11 (.int .i64 ((i + 1 : Nat) : Int)) .of ?_
            simp only [List.set_cons_zero, List.set_cons_succ]
            refine wpList_nil ?_
            refine ⟨_, ?_, i + 1, X1, Z1, Y1, T1, rfl, (by omega), cutE, BL, D, L, b6, (P1.mono (by omega)), (Q1.mono (by omega)), b9, by omega⟩
            omega
          · skip
            refine wp_exit ?_
            simp only [Exit.then, Exit.inBlock, ↓reduceIte, Nat.reduceEqDiff]
            exact ⟨i, AX, BX, CX, EX, by omega, cutE, BL, D, L, b6, O1, O2, b9, by omega⟩
        · skip
          have dg43 : decide (((i : Nat) : Int) < (l.length : Int)) = false := decide_eq_false g43
          simp only [dg43]
          clear dg43
          refine xSkip 43 ?_
          simp only [List.set_cons_zero, List.set_cons_succ]
          refine xSkip 44 ?_
          simp only [List.set_cons_zero, List.set_cons_succ]
          refine sv 45 (.bool false) .of ?_
          simp only [List.set_cons_zero, List.set_cons_succ]
          refine wpList_nil ?_
          refine hK9 _ _ ?_
          refine cF ?_
          refine wp_exit ?_
          simp only [Exit.then, Exit.inBlock, ↓reduceIte, Nat.reduceEqDiff]
          exact ⟨i, AX, BX, CX, EX, by omega, cutE, BL, D, L, b6, O1, O2, b9, by omega⟩
      · skip
        clear BL D L b6 O1 O2 b9
        rintro a_ wJ1 ⟨i, AX, BX, CX, EX, hJ1_0, ⟨s1, rfl⟩, BL, D, L, b6, O1, O2, b9, zJ1⟩
        have kO1 := fun (i : Nat) hi => And.intro (O1.ge i hi) (Own.ne O1 b9 (by decide) i hi)
        have kO2 := fun (i : Nat) hi => And.intro (O2.ge i hi) (OwnE.ne O2 b9 (by decide) i hi)
        refine wp_seq_k fun K12 hK12 => ?_
        refine cPlain ?_
        refine sv 71 (.slice A all.length C) .of ?_
        simp only [List.set_cons_zero, List.set_cons_succ]
        refine sv 72 (.pointer (some ⟨w.heap.size, 0, none⟩)) .of ?_
        simp only [List.set_cons_zero, List.set_cons_succ]
        refine sv 73 (.int .i64 oa) (Val.blk1 3 _ rfl w.heap.size 0 (by kernel_rfl) (fun _ => (by kernel_rfl)) b6 (by simp)) ?_
        simp only [List.set_cons_zero, List.set_cons_succ]
        refine sv 74 (.pointer (some ⟨w.heap.size, 1, none⟩)) .of ?_
        simp only [List.set_cons_zero, List.set_cons_succ]
        refine sv 75 (.int .i64 ob) (Val.blk1 3 _ rfl w.heap.size 1 (by kernel_rfl) (fun _ => (by kernel_rfl)) b6 (by simp)) ?_
        simp only [List.set_cons_zero, List.set_cons_succ]
        refine xCall 76 35 #[.slice A all.length C, .int .i64 oa, .int .i64 ob] (by kernel_rfl) ?_
        refine (cut_any A C all oa ob wJ1 D h0 (by omega) hoa hob).mono ?_
        rintro en w11 ⟨rfl, hb1⟩
        have e7 := belE0 hb1
        have ze7 := e7.size
        replace BL := BL.e0 e7
        replace D := D.e0 e7
        replace L := L.e0 e7
        replace b6 := b6.e0 e7
        replace O1 := O1.e0 e7
        replace O2 := O2.e0 e7
        replace b9 := b9.e0 e7
        clear e7
        have Sb : SL .u8 w11 (sliceV (.slice A all.length C) (cutF all.length oa) (cutT all.length oa ob)) (nn (segN all (pcO all.length (oa, ob)))) := ((D.slice (cutF all.length oa) (cutT all.length oa ob) (Nat.le_of_lt hpo.1) (by rw [nn_len]; exact hpo.2.1)).castX (nn_seg all (cutF all.length oa) (cutT all.length oa ob)))
        have hsb := fun g hg => hdl g (sliceV_own (v := .slice A all.length C) (lo := (cutF all.length oa)) (hi := (cutT all.length oa ob)) hg)
        refine ⟨.tuple #[.int .i64 (((cutF all.length oa) : Nat) : Int), sliceV (.slice A all.length C) (cutF all.length oa) (cutT all.length oa ob)], rfl, ?_⟩
        simp only [List.set_cons_zero, List.set_cons_succ]
        refine sv 70 (.tuple #[.int .i64 (((cutF all.length oa) : Nat) : Int), sliceV (.slice A all.length C) (cutF all.length oa) (cutT all.length oa ob)]) .of ?_
        simp only [List.set_cons_zero, List.set_cons_succ]
        refine sv 77 (.int .i64 (((cutF all.length oa) : Nat) : Int)) .of ?_
        simp only [List.set_cons_zero, List.set_cons_succ]
        refine sv 78 (sliceV (.slice A all.length C) (cutF all.length oa) (cutT all.length oa ob)) .of ?_
        simp only [List.set_cons_zero, List.set_cons_succ]
        refine sv 14 (.int .i64 (((cutF all.length oa) : Nat) : Int)) .of ?_
        simp only [List.set_cons_zero, List.set_cons_succ]
        refine sv 15 (sliceV (.slice A all.length C) (cutF all.length oa) (cutT all.length oa ob)) .of ?_
        simp only [List.set_cons_zero, List.set_cons_succ]
        refine wpList_nil ?_
        refine hK12 _ _ ?_
        refine wp_seq_k fun K13 hK13 => ?_
        refine cPlain ?_
        refine xLit 79 29 5 0 _ #[] [] rfl (by kernel_rfl) (by kernel_rfl) ?_
        intro w12 nw
        have e8 : E0 w11 w12 := nw.e
        have ze8 := e8.size
        replace BL := BL.e0 e8
        replace D := D.e0 e8
        replace L := L.e0 e8
        replace b6 := b6.e0 e8
        replace O1 := O1.e0 e8
        replace O2 := O2.e0 e8
        replace b9 := b9.e0 e8
        replace Sb := Sb.e0 e8
        clear e8
        have OA : Own 5 .u8 w11.heap.size w12 (.slice (some ⟨w11.heap.size, 0, none⟩) 0 0) [] := Own.ofNw0 nw (Nat.le_refl _)
        have lOA_1 := OA.ge
        simp only [List.set_cons_zero, List.set_cons_succ]
        refine sv 80 (sliceV (.slice A all.length C) (cutF all.length oa) (cutT all.length oa ob)) .of ?_
        simp only [List.set_cons_zero, List.set_cons_succ]
        refine xApp 81 (.tmp 79) (.tmp 80) 29 5 .u8 1 rfl Try.underlying29 (by kernel_rfl) w11.heap.size (.slice (some ⟨w11.heap.size, 0, none⟩) 0 0) [] (by kernel_rfl) OA (sliceV (.slice A all.length C) (cutF all.length oa) (cutT all.length oa ob)) (nn (segN all (pcO all.length (oa, ob)))) (by kernel_rfl) Sb ?va1_1 ?va1_2 ?va1_3 ?_
        case va1_1 => simp only [List.length_nil]; omega
        case va1_2 => unfold maxLen; simp only [List.length_nil]; omega
        case va1_3 => omega
        intro va1 w13 rva1 e9
        have ze9 := e9.size
        have BL_ := BL.ev e9 (fun i h => by have := lOA_1 _ h; omega)
        have D_ := D.ev e9 (fun i hi h => by have := hdl i hi; have := lOA_1 _ h; omega)
        have L_ := L.ev e9 (fun i hi h => by have := hll i hi; have := lOA_1 _ h; omega)
        have b6_ := b6.ev e9 (fun h => by have := lOA_1 _ h; omega)
        have O1_ := O1.ev e9 (fun i hi h => by have := kO1 i hi; have := lOA_1 _ h; omega)
        have O2_ := O2.ev e9 (fun i hi h => by have := kO2 i hi; have := lOA_1 _ h; omega)
        have b9_ := b9.ev e9 (fun h => by have := lOA_1 _ h; omega)
        have Sb_ := Sb.ev e9 (fun i hi h => by have := hsb i hi; have := lOA_1 _ h; omega)
        replace BL := BL_; clear BL_
        replace D := D_; clear D_
        replace L := L_; clear L_
        replace b6 := b6_; clear b6_
        replace O1 := O1_; clear O1_
        replace O2 := O2_; clear O2_
        replace b9 := b9_; clear b9_
        replace Sb := Sb_; clear Sb_
        rw [List.nil_append] at rva1
        obtain ⟨AO, CO, hAO⟩ := rva1.len
        rw [nn_len] at hAO
        subst hAO
        replace OA := rva1
        clear rva1 e9
        have lOA_2 := OA.ge
        simp only [List.set_cons_zero, List.set_cons_succ]
        refine sv 16 (.slice AO (segN all (pcO all.length (oa, ob))).length CO) .of ?_
        simp only [List.set_cons_zero, List.set_cons_succ]
        refine wpList_nil ?_
        refine hK13 _ _ ?_
        refine wp_seq_k fun K14 hK14 => ?_
        refine cPlain ?_
        refine sv 82 (.int .u16 ((wh : Nat) : Int)) .of ?_
        simp only [List.set_cons_zero, List.set_cons_succ]
        refine sv 83 (.int .i64 ((wh : Nat) : Int)) (Val.conv64 68 3 (.tmp 82) rfl Try.underlying68 Try.underlying3 ((wh : Nat) : Int) (by kernel_rfl) (by omega)) ?_
        simp only [List.set_cons_zero, List.set_cons_succ]
        refine sv 84 (.slice AO (segN all (pcO all.length (oa, ob))).length CO) .of ?_
        simp only [List.set_cons_zero, List.set_cons_succ]
        refine sv 85 (.int .i64 (((segN all (pcO all.length (oa, ob))).length : Nat) : Int)) .of ?_
        simp only [List.set_cons_zero, List.set_cons_succ]
        refine sv 86 (.int .i64 ((wh % ((segN all (pcO all.length (oa, ob))).length) : Nat) : Int)) (Val.remN 3 _ (.tmp 83) (.tmp 85) rfl .i64 wh ((segN all (pcO all.length (oa, ob))).length) (by kernel_rfl) (by kernel_rfl) (by omega)) ?_
        simp only [List.set_cons_zero, List.set_cons_succ]
        refine sv 17 (.int .i64 ((wh % ((segN all (pcO all.length (oa, ob))).length) : Nat) : Int)) .of ?_
        simp only [List.set_cons_zero, List.set_cons_succ]
        refine wpList_nil ?_
        refine hK14 _ _ ?_
        refine wp_seq_k fun K15 hK15 => ?_
        refine cPlain ?_
        refine sv 87 (.slice AO (segN all (pcO all.length (oa, ob))).length CO) .of ?_
        simp only [List.set_cons_zero, List.set_cons_succ]
        refine sv 88 (.int .i64 ((wh % ((segN all (pcO all.length (oa, ob))).length) : Nat) : Int)) .of ?_
        simp only [List.set_cons_zero, List.set_cons_succ]
        refine sv 89 (elemP (.slice AO (segN all (pcO all.length (oa, ob))).length CO) (wh % ((segN all (pcO all.length (oa, ob))).length))) (Val.idxE 29 (.tmp 87) (.tmp 88) rfl (.slice AO (segN all (pcO all.length (oa, ob))).length CO) (wh % ((segN all (pcO all.length (oa, ob))).length)) (by kernel_rfl) (by kernel_rfl) OA.sl Try.underlying29 (by kernel_rfl) (by omega)) ?_
        simp only [List.set_cons_zero, List.set_cons_succ]
        refine sv 90 (.int .u8 (((segN all (pcO all.length (oa, ob))).getD (wh % ((segN all (pcO all.length (oa, ob))).length)) 0 : Nat) : Int)) (Val.nldE 5 _ rfl (.slice AO (segN all (pcO all.length (oa, ob))).length CO) (wh % ((segN all (pcO all.length (oa, ob))).length)) (by kernel_rfl) (fun _ => (by kernel_rfl)) OA.sl (by omega)) ?_
        simp only [List.set_cons_zero, List.set_cons_succ]
        refine sv 91 (.int .u8 (((((segN all (pcO all.length (oa, ob))).getD (wh % ((segN all (pcO all.length (oa, ob))).length)) 0) ^^^ 1) % 256 : Nat) : Int)) (Val.xorN 5 _ (.tmp 90) _ rfl .u8 ((segN all (pcO all.length (oa, ob))).getD (wh % ((segN all (pcO all.length (oa, ob))).length)) 0) 1 256 (by kernel_rfl) (by kernel_rfl)) ?_
        simp only [List.set_cons_zero, List.set_cons_succ]
        refine sv 92 (elemP (.slice AO (segN all (pcO all.length (oa, ob))).length CO) (wh % ((segN all (pcO all.length (oa, ob))).length))) (Val.idxE 29 (.tmp 87) (.tmp 88) rfl (.slice AO (segN all (pcO all.length (oa, ob))).length CO) (wh % ((segN all (pcO all.length (oa, ob))).length)) (by kernel_rfl) (by kernel_rfl) OA.sl Try.underlying29 (by kernel_rfl) (by omega)) ?_
        simp only [List.set_cons_zero, List.set_cons_succ]
        refine xStoreE 5 (.tmp 92) (.tmp 91) rfl (.slice AO (segN all (pcO all.length (oa, ob))).length CO) (wh % ((segN all (pcO all.length (oa, ob))).length)) (((((segN all (pcO all.length (oa, ob))).getD (wh % ((segN all (pcO all.length (oa, ob))).length)) 0) ^^^ 1) % 256 : Nat) : Int) (by kernel_rfl) (by kernel_rfl) OA (by kernel_rfl) (by omega) ?_
        intro w14 OA_ e10 ze10
        have BL_ := BL.ev e10 (fun i h => by have := lOA_2 _ h; omega)
        have D_ := D.ev e10 (fun i hi h => by have := hdl i hi; have := lOA_2 _ h; omega)
        have L_ := L.ev e10 (fun i hi h => by have := hll i hi; have := lOA_2 _ h; omega)
        have b6_ := b6.ev e10 (fun h => by have := lOA_2 _ h; omega)
        have O1_ := O1.ev e10 (fun i hi h => by have := kO1 i hi; have := lOA_2 _ h; omega)
        have O2_ := O2.ev e10 (fun i hi h => by have := kO2 i hi; have := lOA_2 _ h; omega)
        have b9_ := b9.ev e10 (fun h => by have := lOA_2 _ h; omega)
        have Sb_ := Sb.ev e10 (fun i hi h => by have := hsb i hi; have := lOA_2 _ h; omega)
        replace BL := BL_; clear BL_
        replace D := D_; clear D_
        replace L := L_; clear L_
        replace b6 := b6_; clear b6_
        replace O1 := O1_; clear O1_
        replace O2 := O2_; clear O2_
        replace b9 := b9_; clear b9_
        replace Sb := Sb_; clear Sb_
        rw [nn_set] at OA_
        replace OA := OA_; clear OA_ e10
        refine wpList_nil ?_
        refine hK15 _ _ ?_
        refine wp_seq_k fun K16 hK16 => ?_
        refine cPlain ?_
        refine sv 18 (.bool false) .of ?_
        simp only [List.set_cons_zero, List.set_cons_succ]
        refine wpList_nil ?_
        refine hK16 _ _ ?_
        refine wp_seq_k fun K17 hK17 => ?_
        refine wp_seq_k fun K18 hK18 => ?_
        have hg := (runX_good (all := all) (by omega) _ (pcs_ok h0 l i))
        have hmny := hg.many
        refine cPlain ?_
        refine sv 93 (.pointer (some ⟨w4.heap.size, 1, none⟩)) .of ?_
        simp only [List.set_cons_zero, List.set_cons_succ]
        refine sv 94 (.slice BX (runX all (pcs all.length l i)).2.length EX) (Val.cel1 54 _ rfl w4.heap.size 1 _ (by kernel_rfl) (fun _ => (by kernel_rfl)) b9 rfl) ?_
        simp only [List.set_cons_zero, List.set_cons_succ]
        refine sv 95 (.int .i64 ((runX all (pcs all.length l i)).2.length : Int)) .of ?_
        simp only [List.set_cons_zero, List.set_cons_succ]
        refine sv 96 (.int .i64 0) .of ?_
        simp only [List.set_cons_zero, List.set_cons_succ]
        refine wpList_nil ?_
        refine hK18 _ _ ?_
        refine wp_block ?_
        refine cLoop (fun N_ A_ w_ => ∃ (j : Nat) (tb : Bool), (N_ = (runX all (pcs all.length l i)).2.length - j ∧ (j ≤ (runX all (pcs all.length l i)).2.length) ∧ (tb = memS ((runX all (pcs all.length l i)).2.take j) ((((cutF all.length oa) + (wh % (segN all (pcO all.length (oa, ob))).length)) : Nat) : Int)) ∧ (∃ s3 : Nat → Value, A_ = ⟨[.slice A all.length C, .slice B l.length E, .agg (cellsOf .i64 [oa, ob]), .int .u16 ((wh : Nat) : Int), undef, undef, .pointer (some ⟨w.heap.size, 0, none⟩), undef, .bool false, .pointer (some ⟨w4.heap.size, 0, none⟩), .int .i64 0, .int .i64 ((i : Nat) : Int), (s1 12), (s1 13), .int .i64 (((cutF all.length oa) : Nat) : Int), sliceV (.slice A all.length C) (cutF all.length oa) (cutT all.length oa ob), .slice AO (segN all (pcO all.length (oa, ob))).length CO, .int .i64 ((wh % ((segN all (pcO all.length (oa, ob))).length) : Nat) : Int), .bool tb, undef, (s3 20), undef, undef, .slice A all.length C, .int .i64 (all.length : Int), .bool false, .bool false, .slice A all.length C, .int .i64 (all.length : Int), .bool (decide (2000 < (all.length : Int))), .bool (decide (2000 < (all.length : Int))), undef, .tuple #[.agg #[.slice X0 all.length Y0, .slice none 0 0], .int .i64 0], .slice A all.length C, .int .i64 (all.length : Int), .tuple #[.agg #[.slice X0 all.length Y0, .slice none 0 0], .int .i64 0], .agg #[.slice X0 all.length Y0, .slice none 0 0], .int .i64 0, (s1 38), (s1 39), (s1 40), (s1 41), (s1 42), (s1 43), (s1 44), (s1 45), (s1 46), (s1 47), (s1 48), (s1 49), (s1 50), (s1 51), (s1 52), (s1 53), (s1 54), (s1 55), (s1 56), (s1 57), (s1 58), (s1 59), (s1 60), (s1 61), (s1 62), (s1 63), (s1 64), (s1 65), (s1 66), (s1 67), (s1 68), (s1 69), .tuple #[.int .i64 (((cutF all.length oa) : Nat) : Int), sliceV (.slice A all.length C) (cutF all.length oa) (cutT all.length oa ob)], .slice A all.length C, .pointer (some ⟨w.heap.size, 0, none⟩), .int .i64 oa, .pointer (some ⟨w.heap.size, 1, none⟩), .int .i64 ob, .tuple #[.int .i64 (((cutF all.length oa) : Nat) : Int), sliceV (.slice A all.length C) (cutF all.length oa) (cutT all.length oa ob)], .int .i64 (((cutF all.length oa) : Nat) : Int), sliceV (.slice A all.length C) (cutF all.length oa) (cutT all.length oa ob), .slice (some ⟨w11.heap.size, 0, none⟩) 0 0, sliceV (.slice A all.length C) (cutF all.length oa) (cutT all.length oa ob), .slice AO (segN all (pcO all.length (oa, ob))).length CO, .int .u16 ((wh : Nat) : Int), .int .i64 ((wh : Nat) : Int), .slice AO (segN all (pcO all.length (oa, ob))).length CO, .int .i64 (((segN all (pcO all.length (oa, ob))).length : Nat) : Int), .int .i64 ((wh % ((segN all (pcO all.length (oa, ob))).length) : Nat) : Int), .slice AO (segN all (pcO all.length (oa, ob))).length CO, .int .i64 ((wh % ((segN all (pcO all.length (oa, ob))).length) : Nat) : Int), elemP (.slice AO (segN all (pcO all.length (oa, ob))).length CO) (wh % ((segN all (pcO all.length (oa, ob))).length)), .int .u8 (((segN all (pcO all.length (oa, ob))).getD (wh % ((segN all (pcO all.length (oa, ob))).length)) 0 : Nat) : Int), .int .u8 (((((segN all (pcO all.length (oa, ob))).getD (wh % ((segN all (pcO all.length (oa, ob))).length)) 0) ^^^ 1) % 256 : Nat) : Int), elemP (.slice AO (segN all (pcO all.length (oa, ob))).length CO) (wh % ((segN all (pcO all.length (oa, ob))).length)), .pointer (some ⟨w4.heap.size, 1, none⟩), .slice BX (runX all (pcs all.length l i)).2.length EX, .int .i64 ((runX all (pcs all.length l i)).2.length : Int), .int .i64 ((j : Nat) : Int), (s3 97), (s3 98), (s3 99), (s3 100), (s3 101), (s3 102), (s3 103), (s3 104), (s3 105), (s3 106), (s3 107), (s3 108), (s3 109), (s3 110), (s3 111), (s3 112), (s3 113), (s3 114), (s3 115), (s3 116), (s3 117), undef, undef, undef, undef, undef, undef, undef, undef, undef, undef, undef, undef, undef, undef, undef, undef, undef, undef, undef, undef, undef, undef, undef, undef, undef, undef, undef, undef, undef, undef, undef, undef, undef, undef, undef, undef, undef, undef, undef, undef, undef, undef, undef, undef, undef, undef, undef, undef, undef, undef, undef, undef, undef, undef].toArray, []⟩) ∧ Bl w.heap.size w w_ ∧ SL .u8 w_ (.slice A all.length C) (nn all) ∧ SE .i64 2 w_ (.slice B l.length E) (spS l) ∧ Blk .i64 w_ w.heap.size 65 [oa, ob] ∧ Own 5 .u8 w.heap.size w_ (.slice AX all.length CX) (nn (runX all (pcs all.length l i)).1) ∧ OwnE 70 .i64 2 w.heap.size w_ (.slice BX (runX all (pcs all.length l i)).2.length EX) (spS (runX all (pcs all.length l i)).2) ∧ Cel w_ w4.heap.size 56 [.slice AX all.length CX, .slice BX (runX all (pcs all.length l i)).2.length EX] ∧ SL .u8 w_ (sliceV (.slice A all.length C) (cutF all.length oa) (cutT all.length oa ob)) (nn (segN all (pcO all.length (oa, ob)))) ∧ Own 5 .u8 w11.heap.size w_ (.slice AO (segN all (pcO all.length (oa, ob))).length CO) (nn ((segN all (pcO all.length (oa, ob))).set (wh % ((segN all (pcO all.length (oa, ob))).length)) ((((segN all (pcO all.length (oa, ob))).getD (wh % ((segN all (pcO all.length (oa, ob))).length)) 0) ^^^ 1) % 256))) ∧ w14.heap.size ≤ w_.heap.size)) _ ⟨0, false, rfl, (by omega), rfl, cutE, BL, D, L, b6, O1, O2, b9, Sb, OA, Nat.le_refl _⟩ ?_
        clear BL D L b6 O1 O2 b9 Sb OA
        rintro n_ a_ wl1 ⟨j, tb, rfl, hc1_0, hc1_1, ⟨s3, rfl⟩, BL, D, L, b6, O1, O2, b9, Sb, OA, zl1⟩
        have lO1_3 := O1.ge
        have lO2_3 := O2.ge
        have lOA_3 := OA.ge
        refine wp_seq_k fun K19 hK19 => ?_
        refine cPlain ?_
        refine sv 97 (.bool (decide (((j : Nat) : Int) < ((runX all (pcs all.length l i)).2.length : Int)))) (Val.cmp .lss 3 _ (.tmp 96) (.tmp 95) rfl .i64 ((j : Nat) : Int) ((runX all (pcs all.length l i)).2.length : Int) (by kernel_rfl) (by kernel_rfl) (by simp) _ rfl) ?_
        simp only [List.set_cons_zero, List.set_cons_succ]
        refine wpList_nil ?_
        refine hK19 _ _ ?_
        refine wp_seq_k fun K20 hK20 => ?_
        refine cDec (((j : Nat) : Int) < ((runX all (pcs all.length l i)).2.length : Int)) (by kernel_rfl) (fun c97 => ?_) (fun c97 => ?_)
        · skip
          refine wp_skip ?_
          refine hK20 _ _ ?_
          refine wp_seq_k fun K21 hK21 => ?_
          refine wp_block ?_
          refine wp_seq_k fun K22 hK22 => ?_
          refine cPlain ?_
          refine sv 98 (elemE 2 (.slice BX (runX all (pcs all.length l i)).2.length EX) j) (Val.ixE 54 (.tmp 94) (.tmp 96) rfl (.slice BX (runX all (pcs all.length l i)).2.length EX) j (by kernel_rfl) (by kernel_rfl) O2.se Try.underlying54 (by kernel_rfl) (by simp only [spS_len]; omega)) ?_
          simp only [List.set_cons_zero, List.set_cons_succ]
          refine sv 99 (.agg #[.int .i64 (((runX all (pcs all.length l i)).2).getD j (0, 0)).1, .int .i64 (((runX all (pcs all.length l i)).2).getD j (0, 0)).2]) (Val.ldS 70 _ rfl (.slice BX (runX all (pcs all.length l i)).2.length EX) j (by kernel_rfl) O2.se _ Try.underlying70 rfl (by kernel_rfl) (by omega)) ?_
          simp only [List.set_cons_zero, List.set_cons_succ]
          refine xAlloc 20 70 [.int .i64 0, .int .i64 0] rfl (by kernel_rfl) ?_
          intro w15 n3
          have zn3 := n3.z
          have b20 := n3.c
          replace BL := BL.e0 n3.e
          replace D := D.e0 n3.e
          replace L := L.e0 n3.e
          replace b6 := b6.e0 n3.e
          replace O1 := O1.e0 n3.e
          replace O2 := O2.e0 n3.e
          replace b9 := b9.e0 n3.e
          replace Sb := Sb.e0 n3.e
          replace OA := OA.e0 n3.e
          simp only [List.set_cons_zero, List.set_cons_succ]
          refine xStoreR 70 (.tmp 20) (.tmp 99) rfl wl1.heap.size 70 [.int .i64 0, .int .i64 0] 0 [.int .i64 (((runX all (pcs all.length l i)).2).getD j (0, 0)).1, .int .i64 (((runX all (pcs all.length l i)).2).getD j (0, 0)).2] (by kernel_rfl) (by kernel_rfl) b20 (by kernel_rfl) (by simp) rfl [.int .i64 (((runX all (pcs all.length l i)).2).getD j (0, 0)).1, .int .i64 (((runX all (pcs all.length l i)).2).getD j (0, 0)).2] rfl ?_
          intro w16 t3
          have zt3 := t3.z
          have BL_ := BL.ev t3.e (fun i h => show w.heap.size ≤ i by have h : i = wl1.heap.size := h; omega)
          have D_ := D.ev t3.e (fun i hi => show ¬ (i = wl1.heap.size) by have := hdl i hi; omega)
          have L_ := L.ev t3.e (fun i hi => show ¬ (i = wl1.heap.size) by have := hll i hi; omega)
          have b6_ := b6.ev t3.e (show ¬ (w.heap.size = wl1.heap.size) by omega)
          have O1_ := O1.ev t3.e (fun i hi => show ¬ (i = wl1.heap.size) by have := kO1 i hi; omega)
          have O2_ := O2.ev t3.e (fun i hi => show ¬ (i = wl1.heap.size) by have := kO2 i hi; omega)
          have b9_ := b9.ev t3.e (show ¬ (w4.heap.size = wl1.heap.size) by omega)
          have Sb_ := Sb.ev t3.e (fun i hi => show ¬ (i = wl1.heap.size) by have := hsb i hi; omega)
          have OA_ := OA.ev t3.e (fun i hi => show ¬ (i = wl1.heap.size) by have := lOA_3 i hi; omega)
          replace BL := BL_; clear BL_
          replace D := D_; clear D_
          replace L := L_; clear L_
          replace b6 := b6_; clear b6_
          replace O1 := O1_; clear O1_
          replace O2 := O2_; clear O2_
          replace b9 := b9_; clear b9_
          replace Sb := Sb_; clear Sb_
          replace OA := OA_; clear OA_
          replace b20 : Cel w16 wl1.heap.size 70 [.int .i64 (((runX all (pcs all.length l i)).2).getD j (0, 0)).1, .int .i64 (((runX all (pcs all.length l i)).2).getD j (0, 0)).2] := t3.c
          clear t3
          refine wpList_nil ?_
          refine hK22 _ _ ?_
          refine cPlain ?_
          refine sv 100 (.bool tb) .of ?_
          simp only [List.set_cons_zero, List.set_cons_succ]
          refine sv 101 (.bool tb) .of ?_
          simp only [List.set_cons_zero, List.set_cons_succ]
          obtain v102 | v102 : tb = true ∨ tb = false := by cases tb <;> simp
          · skip
            subst v102
            refine xSkip 102 ?_
            simp only [List.set_cons_zero, List.set_cons_succ]
            refine xSkip 103 ?_
            simp only [List.set_cons_zero, List.set_cons_succ]
            refine xSkip 104 ?_
            simp only [List.set_cons_zero, List.set_cons_succ]
            refine xSkip 105 ?_
            simp only [List.set_cons_zero, List.set_cons_succ]
            refine xSkip 106 ?_
            simp only [List.set_cons_zero, List.set_cons_succ]
            refine xSkip 107 ?_
            simp only [List.set_cons_zero, List.set_cons_succ]
            refine xSkip 108 ?_
            simp only [List.set_cons_zero, List.set_cons_succ]
            refine xSkip 109 ?_
            simp only [List.set_cons_zero, List.set_cons_succ]
            refine xSkip 110 ?_
            simp only [List.set_cons_zero, List.set_cons_succ]
            refine xSkip 111 ?_
            simp only [List.set_cons_zero, List.set_cons_succ]
            refine xSkip 112 ?_
            simp only [List.set_cons_zero, List.set_cons_succ]
            refine xSkip 113 ?_
            simp only [List.set_cons_zero, List.set_cons_succ]
            refine xSkip 114 ?_
            simp only [List.set_cons_zero, List.set_cons_succ]
            refine xSkip 115 ?_
            simp only [List.set_cons_zero, List.set_cons_succ]
            refine sv 116 (.bool true) .of ?_
            simp only [List.set_cons_zero, List.set_cons_succ]
            refine sv 18 (.bool true) .of ?_
            simp only [List.set_cons_zero, List.set_cons_succ]
            refine wpList_nil ?_
            refine hK21 _ _ ?_
            refine cPlain ?_
            refine sv 117 (.int .i64 (((j : Nat) : Int) + 1)) (Val.add 3 _ (.tmp 96) _ rfl ((j : Nat) : Int) 1 (by kernel_rfl) (by kernel_rfl) (by omega)) ?_
            simp only [List.set_cons_zero, List.set_cons_succ]
            refine sv 96 (.int .i64 (((j : Nat) : Int) + 1)) .of ?_
            simp only [List.set_cons_zero, List.set_cons_succ]
            refine wpList_nil ?_
            refine ⟨_, ?_, j + 1, true, rfl, (by omega), (by rw [memS_next (by omega), ← hc1_1]; first | rfl | (rw [Bool.false_or]; exact (decide_eq_false (fun h => g109 h.1)).symm) | (rw [Bool.false_or]; exact decide_eq_decide.2 ⟨fun h => ⟨g109, h⟩, fun h => h.2⟩)), cutE, BL, D, L, b6, O1, O2, b9, Sb, OA, by omega⟩
            omega
          · skip
            subst v102
            refine sv 102 (.pointer (some ⟨wl1.heap.size, 0, none⟩)) .of ?_
            simp only [List.set_cons_zero, List.set_cons_succ]
            refine sv 103 (.int .i64 (((runX all (pcs all.length l i)).2).getD j (0, 0)).1) (Val.cel1 3 _ rfl wl1.heap.size 0 _ (by kernel_rfl) (fun _ => (by kernel_rfl)) b20 rfl) ?_
            simp only [List.set_cons_zero, List.set_cons_succ]
            refine sv 104 (.int .i64 (((cutF all.length oa) : Nat) : Int)) .of ?_
            simp only [List.set_cons_zero, List.set_cons_succ]
            refine sv 105 (.int .i64 ((wh % ((segN all (pcO all.length (oa, ob))).length) : Nat) : Int)) .of ?_
            simp only [List.set_cons_zero, List.set_cons_succ]
            refine sv 106 (.int .i64 ((((cutF all.length oa) + (wh % (segN all (pcO all.length (oa, ob))).length)) : Nat) : Int)) (Val.as (Val.add 3 _ (.tmp 104) (.tmp 105) rfl (((cutF all.length oa) : Nat) : Int) ((wh % ((segN all (pcO all.length (oa, ob))).length) : Nat) : Int) (by kernel_rfl) (by kernel_rfl) (by omega)) (congrArg (Value.int .i64) (show (((((cutF all.length oa) : Nat) : Int) + ((wh % ((segN all (pcO all.length (oa, ob))).length) : Nat) : Int)) : Int) = ((((cutF all.length oa) + (wh % (segN all (pcO all.length (oa, ob))).length)) : Nat) : Int) by omega))) ?_
            simp only [List.set_cons_zero, List.set_cons_succ]
            refine sv 107 (.bool (decide ((((runX all (pcs all.length l i)).2).getD j (0, 0)).1 ≤ ((((cutF all.length oa) + (wh % (segN all (pcO all.length (oa, ob))).length)) : Nat) : Int)))) (Val.cmp .leq 3 _ (.tmp 103) (.tmp 106) rfl .i64 ((((runX all (pcs all.length l i)).2).getD j (0, 0)).1) ((((cutF all.length oa) + (wh % (segN all (pcO all.length (oa, ob))).length)) : Nat) : Int) (by kernel_rfl) (by kernel_rfl) (by simp) _ rfl) ?_
            simp only [List.set_cons_zero, List.set_cons_succ]
            refine sv 108 (.bool (decide ((((runX all (pcs all.length l i)).2).getD j (0, 0)).1 ≤ ((((cutF all.length oa) + (wh % (segN all (pcO all.length (oa, ob))).length)) : Nat) : Int)))) .of ?_
            simp only [List.set_cons_zero, List.set_cons_succ]
            by_cases g109 : (((runX all (pcs all.length l i)).2).getD j (0, 0)).1 ≤ ((((cutF all.length oa) + (wh % (segN all (pcO all.length (oa, ob))).length)) : Nat) : Int)
            · skip
              have dg109 : decide ((((runX all (pcs all.length l i)).2).getD j (0, 0)).1 ≤ ((((cutF all.length oa) + (wh % (segN all (pcO all.length (oa, ob))).length)) : Nat) : Int)) = true := decide_eq_true g109
              simp only [dg109]
              clear dg109
              refine sv 109 (.int .i64 (((cutF all.length oa) : Nat) : Int)) .of ?_
              simp only [List.set_cons_zero, List.set_cons_succ]
              refine sv 110 (.int .i64 ((wh % ((segN all (pcO all.length (oa, ob))).length) : Nat) : Int)) .of ?_
              simp only [List.set_cons_zero, List.set_cons_succ]
              refine sv 111 (.int .i64 ((((cutF all.length oa) + (wh % (segN all (pcO all.length (oa, ob))).length)) : Nat) : Int)) (Val.as (Val.add 3 _ (.tmp 109) (.tmp 110) rfl (((cutF all.length oa) : Nat) : Int) ((wh % ((segN all (pcO all.length (oa, ob))).length) : Nat) : Int) (by kernel_rfl) (by kernel_rfl) (by omega)) (congrArg (Value.int .i64) (show (((((cutF all.length oa) : Nat) : Int) + ((wh % ((segN all (pcO all.length (oa, ob))).length) : Nat) : Int)) : Int) = ((((cutF all.length oa) + (wh % (segN all (pcO all.length (oa, ob))).length)) : Nat) : Int) by omega))) ?_
              simp only [List.set_cons_zero, List.set_cons_succ]
              refine sv 112 (.pointer (some ⟨wl1.heap.size, 1, none⟩)) .of ?_
              simp only [List.set_cons_zero, List.set_cons_succ]
              refine sv 113 (.int .i64 (((runX all (pcs all.length l i)).2).getD j (0, 0)).2) (Val.cel1 3 _ rfl wl1.heap.size 1 _ (by kernel_rfl) (fun _ => (by kernel_rfl)) b20 rfl) ?_
              simp only [List.set_cons_zero, List.set_cons_succ]
              refine sv 114 (.bool (decide (((((cutF all.length oa) + (wh % (segN all (pcO all.length (oa, ob))).length)) : Nat) : Int) < (((runX all (pcs all.length l i)).2).getD j (0, 0)).2))) (Val.cmp .lss 3 _ (.tmp 111) (.tmp 113) rfl .i64 ((((cutF all.length oa) + (wh % (segN all (pcO all.length (oa, ob))).length)) : Nat) : Int) ((((runX all (pcs all.length l i)).2).getD j (0, 0)).2) (by kernel_rfl) (by kernel_rfl) (by simp) _ rfl) ?_
              simp only [List.set_cons_zero, List.set_cons_succ]
              refine sv 115 (.bool (decide (((((cutF all.length oa) + (wh % (segN all (pcO all.length (oa, ob))).length)) : Nat) : Int) < (((runX all (pcs all.length l i)).2).getD j (0, 0)).2))) .of ?_
              simp only [List.set_cons_zero, List.set_cons_succ]
              refine sv 116 (.bool (decide (((((cutF all.length oa) + (wh % (segN all (pcO all.length (oa, ob))).length)) : Nat) : Int) < (((runX all (pcs all.length l i)).2).getD j (0, 0)).2))) .of ?_
              simp only [List.set_cons_zero, List.set_cons_succ]
              refine sv 18 (.bool (decide (((((cutF all.length oa) + (wh % (segN all (pcO all.length (oa, ob))).length)) : Nat) : Int) < (((runX all (pcs all.length l i)).2).getD j (0, 0)).2))) .of ?_
              simp only [List.set_cons_zero, List.set_cons_succ]
              refine wpList_nil ?_
              refine hK21 _ _ ?_
              refine cPlain ?_
              refine sv 117 (.int .i64 (((j : Nat) : Int) + 1)) (Val.add 3 _ (.tmp 96) _ rfl ((j : Nat) : Int) 1 (by kernel_rfl) (by kernel_rfl) (by omega)) ?_
              simp only [List.set_cons_zero, List.set_cons_succ]
              refine sv 96 (.int .i64 (((j : Nat) : Int) + 1)) .of ?_
              simp only [List.set_cons_zero, List.set_cons_succ]
              refine wpList_nil ?_
              refine ⟨_, ?_, j + 1, (decide (((((cutF all.length oa) + (wh % (segN all (pcO all.length (oa, ob))).length)) : Nat) : Int) < (((runX all (pcs all.length l i)).2).getD j (0, 0)).2)), rfl, (by omega), (by rw [memS_next (by omega), ← hc1_1]; first | rfl | (rw [Bool.false_or]; exact (decide_eq_false (fun h => g109 h.1)).symm) | (rw [Bool.false_or]; exact decide_eq_decide.2 ⟨fun h => ⟨g109, h⟩, fun h => h.2⟩)), cutE, BL, D, L, b6, O1, O2, b9, Sb, OA, by omega⟩
              omega
            · skip
              have dg109 : decide ((((runX all (pcs all.length l i)).2).getD j (0, 0)).1 ≤ ((((cutF all.length oa) + (wh % (segN all (pcO all.length (oa, ob))).length)) : Nat) : Int)) = false := decide_eq_false g109
              simp only [dg109]
              clear dg109
              refine xSkip 109 ?_
              simp only [List.set_cons_zero, List.set_cons_succ]
              refine xSkip 110 ?_
              simp only [List.set_cons_zero, List.set_cons_succ]
              refine xSkip 111 ?_
              simp only [List.set_cons_zero, List.set_cons_succ]
              refine xSkip 112 ?_
              simp only [List.set_cons_zero, List.set_cons_succ]
              refine xSkip 113 ?_
              simp only [List.set_cons_zero, List.set_cons_succ]
              refine xSkip 114 ?_
              simp only [List.set_cons_zero, List.set_cons_succ]
              refine sv 115 (.bool false) .of ?_
              simp only [List.set_cons_zero, List.set_cons_succ]
              refine sv 116 (.bool false) .of ?_
              simp only [List.set_cons_zero, List.set_cons_succ]
              refine sv 18 (.bool false) .of ?_
              simp only [List.set_cons_zero, List.set_cons_succ]
              refine wpList_nil ?_
              refine hK21 _ _ ?_
              refine cPlain ?_
              refine sv 117 (.int .i64 (((j : Nat) : Int) + 1)) (Val.add 3 _ (.tmp 96) _ rfl ((j : Nat) : Int) 1 (by kernel_rfl) (by kernel_rfl) (by omega)) ?_
              simp only [List.set_cons_zero, List.set_cons_succ]
              refine sv 96 (.int .i64 (((j : Nat) : Int) + 1)) .of ?_
              simp only [List.set_cons_zero, List.set_cons_succ]
              refine wpList_nil ?_
              refine ⟨_, ?_, j + 1, false, rfl, (by omega), (by rw [memS_next (by omega), ← hc1_1]; first | rfl | (rw [Bool.false_or]; exact (decide_eq_false (fun h => g109 h.1)).symm) | (rw [Bool.false_or]; exact decide_eq_decide.2 ⟨fun h => ⟨g109, h⟩, fun h => h.2⟩)), cutE, BL, D, L, b6, O1, O2, b9, Sb, OA, by omega⟩
              omega
        · skip
          refine wp_exit ?_
          simp only [Exit.then, Exit.inBlock, ↓reduceIte, Nat.reduceEqDiff]
          refine hK17 _ _ ?_
          refine wp_seq_k fun K23 hK23 => ?_
          refine cPlain ?_
          refine sv 119 (.agg #[.slice AX all.length CX, .slice BX (runX all (pcs all.length l i)).2.length EX]) (Val.cel 56 _ rfl 0 2 (by kernel_rfl) b9 _ Try.underlying56 rfl (by kernel_rfl) (by simp) [.slice AX all.length CX, .slice BX (runX all (pcs all.length l i)).2.length EX] rfl) ?_
          simp only [List.set_cons_zero, List.set_cons_succ]
          refine sv 120 (.int .i64 (((cutF all.length oa) : Nat) : Int)) .of ?_
          simp only [List.set_cons_zero, List.set_cons_succ]
          refine sv 121 (.slice AO (segN all (pcO all.length (oa, ob))).length CO) .of ?_
          simp only [List.set_cons_zero, List.set_cons_succ]
          refine xCall 122 33 #[.agg #[.slice AX all.length CX, .slice BX (runX all (pcs all.length l i)).2.length EX], .int .i64 (((cutF all.length oa) : Nat) : Int), .slice AO (segN all (pcO all.length (oa, ob))).length CO] (by kernel_rfl) ?_
          refine (put_any _ _ _ (((cutF all.length oa) : Nat) : Int) (by omega) (runX all (pcs all.length l i)).1 ((segN all (pcO all.length (oa, ob))).set (wh % (segN all (pcO all.length (oa, ob))).length) (((segN all (pcO all.length (oa, ob))).getD (wh % (segN all (pcO all.length (oa, ob))).length) 0 ^^^ 1) % 256)) (runX all (pcs all.length l i)).2 wl1 O1.sl OA.sl O2.se (by rw [hg.len]; omega) hg.many).mono ?_
          rintro en w17 ⟨⟨dv2, hv2, rfl, P2, Q2⟩, hb1⟩
          obtain ⟨X2, Y2, hq⟩ := P2.len
          rw [nn_len] at hq
          subst hq
          obtain ⟨Z2, T2, hq, _⟩ := Q2.len
          rw [spS_len] at hq
          subst hq
          have e11 := belE0 hb1
          have ze11 := e11.size
          replace BL := BL.e0 e11
          replace D := D.e0 e11
          replace L := L.e0 e11
          replace b6 := b6.e0 e11
          replace O1 := O1.e0 e11
          replace O2 := O2.e0 e11
          replace b9 := b9.e0 e11
          replace Sb := Sb.e0 e11
          replace OA := OA.e0 e11
          clear e11
          have lP2_1 := P2.ge
          have lQ2_1 := Q2.ge
          refine ⟨.tuple #[.agg #[.slice X2 (putX (runX all (pcs all.length l i)).1 (runX all (pcs all.length l i)).2 (((cutF all.length oa) : Nat) : Int) ((segN all (pcO all.length (oa, ob))).set (wh % (segN all (pcO all.length (oa, ob))).length) (((segN all (pcO all.length (oa, ob))).getD (wh % (segN all (pcO all.length (oa, ob))).length) 0 ^^^ 1) % 256))).1.length Y2, .slice Z2 (putX (runX all (pcs all.length l i)).1 (runX all (pcs all.length l i)).2 (((cutF all.length oa) : Nat) : Int) ((segN all (pcO all.length (oa, ob))).set (wh % (segN all (pcO all.length (oa, ob))).length) (((segN all (pcO all.length (oa, ob))).getD (wh % (segN all (pcO all.length (oa, ob))).length) 0 ^^^ 1) % 256))).2.1.length T2], .int .i64 (putX (runX all (pcs all.length l i)).1 (runX all (pcs all.length l i)).2 (((cutF all.length oa) : Nat) : Int) ((segN all (pcO all.length (oa, ob))).set (wh % (segN all (pcO all.length (oa, ob))).length) (((segN all (pcO all.length (oa, ob))).getD (wh % (segN all (pcO all.length (oa, ob))).length) 0 ^^^ 1) % 256))).2.2], rfl, ?_⟩
          simp only [List.set_cons_zero, List.set_cons_succ]
          refine sv 118 (.tuple #[.agg #[.slice X2 (putX (runX all (pcs all.length l i)).1 (runX all (pcs all.length l i)).2 (((cutF all.length oa) : Nat) : Int) ((segN all (pcO all.length (oa, ob))).set (wh % (segN all (pcO all.length (oa, ob))).length) (((segN all (pcO all.length (oa, ob))).getD (wh % (segN all (pcO all.length (oa, ob))).length) 0 ^^^ 1) % 256))).1.length Y2, .slice Z2 (putX (runX all (pcs all.length l i)).1 (runX all (pcs all.length l i)).2 (((cutF all.length oa) : Nat) : Int) ((segN all (pcO all.length (oa, ob))).set (wh % (segN all (pcO all.length (oa, ob))).length) (((segN all (pcO all.length (oa, ob))).getD (wh % (segN all (pcO all.length (oa, ob))).length) 0 ^^^ 1) % 256))).2.1.length T2], .int .i64 (putX (runX all (pcs all.length l i)).1 (runX all (pcs all.length l i)).2 (((cutF all.length oa) : Nat) : Int) ((segN all (pcO all.length (oa, ob))).set (wh % (segN all (pcO all.length (oa, ob))).length) (((segN all (pcO all.length (oa, ob))).getD (wh % (segN all (pcO all.length (oa, ob))).length) 0 ^^^ 1) % 256))).2.2]) .of ?_
          simp only [List.set_cons_zero, List.set_cons_succ]
          refine sv 123 (.agg #[.slice X2 (putX (runX all (pcs all.length l i)).1 (runX all (pcs all.length l i)).2 (((cutF all.length oa) : Nat) : Int) ((segN all (pcO all.length (oa, ob))).set (wh % (segN all (pcO all.length (oa, ob))).length) (((segN all (pcO all.length (oa, ob))).getD (wh % (segN all (pcO all.length (oa, ob))).length) 0 ^^^ 1) % 256))).1.length Y2, .slice Z2 (putX (runX all (pcs all.length l i)).1 (runX all (pcs all.length l i)).2 (((cutF all.length oa) : Nat) : Int) ((segN all (pcO all.length (oa, ob))).set (wh % (segN all (pcO all.length (oa, ob))).length) (((segN all (pcO all.length (oa, ob))).getD (wh % (segN all (pcO all.length (oa, ob))).length) 0 ^^^ 1) % 256))).2.1.length T2]) .of ?_
          simp only [List.set_cons_zero, List.set_cons_succ]
          refine sv 124 (.int .i64 (putX (runX all (pcs all.length l i)).1 (runX all (pcs all.length l i)).2 (((cutF all.length oa) : Nat) : Int) ((segN all (pcO all.length (oa, ob))).set (wh % (segN all (pcO all.length (oa, ob))).length) (((segN all (pcO all.length (oa, ob))).getD (wh % (segN all (pcO all.length (oa, ob))).length) 0 ^^^ 1) % 256))).2.2) .of ?_
          simp only [List.set_cons_zero, List.set_cons_succ]
          refine xAlloc 21 56 [.slice none 0 0, .slice none 0 0] rfl (by kernel_rfl) ?_
          intro w18 n4
          have zn4 := n4.z
          have b21 := n4.c
          replace BL := BL.e0 n4.e
          replace D := D.e0 n4.e
          replace L := L.e0 n4.e
          replace b6 := b6.e0 n4.e
          replace O1 := O1.e0 n4.e
          replace O2 := O2.e0 n4.e
          replace b9 := b9.e0 n4.e
          replace Sb := Sb.e0 n4.e
          replace OA := OA.e0 n4.e
          replace P2 := P2.e0 n4.e
          replace Q2 := Q2.e0 n4.e
          simp only [List.set_cons_zero, List.set_cons_succ]
          refine xStoreR 56 (.tmp 21) (.tmp 123) rfl w17.heap.size 56 [.slice none 0 0, .slice none 0 0] 0 [.slice X2 (putX (runX all (pcs all.length l i)).1 (runX all (pcs all.length l i)).2 (((cutF all.length oa) : Nat) : Int) ((segN all (pcO all.length (oa, ob))).set (wh % (segN all (pcO all.length (oa, ob))).length) (((segN all (pcO all.length (oa, ob))).getD (wh % (segN all (pcO all.length (oa, ob))).length) 0 ^^^ 1) % 256))).1.length Y2, .slice Z2 (putX (runX all (pcs all.length l i)).1 (runX all (pcs all.length l i)).2 (((cutF all.length oa) : Nat) : Int) ((segN all (pcO all.length (oa, ob))).set (wh % (segN all (pcO all.length (oa, ob))).length) (((segN all (pcO all.length (oa, ob))).getD (wh % (segN all (pcO all.length (oa, ob))).length) 0 ^^^ 1) % 256))).2.1.length T2] (by kernel_rfl) (by kernel_rfl) b21 (by kernel_rfl) (by simp) rfl [.slice X2 (putX (runX all (pcs all.length l i)).1 (runX all (pcs all.length l i)).2 (((cutF all.length oa) : Nat) : Int) ((segN all (pcO all.length (oa, ob))).set (wh % (segN all (pcO all.length (oa, ob))).length) (((segN all (pcO all.length (oa, ob))).getD (wh % (segN all (pcO all.length (oa, ob))).length) 0 ^^^ 1) % 256))).1.length Y2, .slice Z2 (putX (runX all (pcs all.length l i)).1 (runX all (pcs all.length l i)).2 (((cutF all.length oa) : Nat) : Int) ((segN all (pcO all.length (oa, ob))).set (wh % (segN all (pcO all.length (oa, ob))).length) (((segN all (pcO all.length (oa, ob))).getD (wh % (segN all (pcO all.length (oa, ob))).length) 0 ^^^ 1) % 256))).2.1.length T2] rfl ?_
          intro w19 t4
          have zt4 := t4.z
          have BL_ := BL.ev t4.e (fun i h => show w.heap.size ≤ i by have h : i = w17.heap.size := h; omega)
          have D_ := D.ev t4.e (fun i hi => show ¬ (i = w17.heap.size) by have := hdl i hi; omega)
          have L_ := L.ev t4.e (fun i hi => show ¬ (i = w17.heap.size) by have := hll i hi; omega)
          have b6_ := b6.ev t4.e (show ¬ (w.heap.size = w17.heap.size) by omega)
          have O1_ := O1.ev t4.e (fun i hi => show ¬ (i = w17.heap.size) by have := kO1 i hi; omega)
          have O2_ := O2.ev t4.e (fun i hi => show ¬ (i = w17.heap.size) by have := kO2 i hi; omega)
          have b9_ := b9.ev t4.e (show ¬ (w4.heap.size = w17.heap.size) by omega)
          have Sb_ := Sb.ev t4.e (fun i hi => show ¬ (i = w17.heap.size) by have := hsb i hi; omega)
          have OA_ := OA.ev t4.e (fun i hi => show ¬ (i = w17.heap.size) by have := lOA_3 i hi; omega)
          have P2_ := P2.ev t4.e (fun i hi => show ¬ (i = w17.heap.size) by have := lP2_1 i hi; omega)
          have Q2_ := Q2.ev t4.e (fun i hi => show ¬ (i = w17.heap.size) by have := lQ2_1 i hi; omega)
          replace BL := BL_; clear BL_
          replace D := D_; clear D_
          replace L := L_; clear L_
          replace b6 := b6_; clear b6_
          replace O1 := O1_; clear O1_
          replace O2 := O2_; clear O2_
          replace b9 := b9_; clear b9_
          replace Sb := Sb_; clear Sb_
          replace OA := OA_; clear OA_
          replace P2 := P2_; clear P2_
          replace Q2 := Q2_; clear Q2_
          replace b21 : Cel w19 w17.heap.size 56 [.slice X2 (putX (runX all (pcs all.length l i)).1 (runX all (pcs all.length l i)).2 (((cutF all.length oa) : Nat) : Int) ((segN all (pcO all.length (oa, ob))).set (wh % (segN all (pcO all.length (oa, ob))).length) (((segN all (pcO all.length (oa, ob))).getD (wh % (segN all (pcO all.length (oa, ob))).length) 0 ^^^ 1) % 256))).1.length Y2, .slice Z2 (putX (runX all (pcs all.length l i)).1 (runX all (pcs all.length l i)).2 (((cutF all.length oa) : Nat) : Int) ((segN all (pcO all.length (oa, ob))).set (wh % (segN all (pcO all.length (oa, ob))).length) (((segN all (pcO all.length (oa, ob))).getD (wh % (segN all (pcO all.length (oa, ob))).length) 0 ^^^ 1) % 256))).2.1.length T2] := t4.c
          clear t4
          refine sv 22 (.int .i64 (putX (runX all (pcs all.length l i)).1 (runX all (pcs all.length l i)).2 (((cutF all.length oa) : Nat) : Int) ((segN all (pcO all.length (oa, ob))).set (wh % (segN all (pcO all.length (oa, ob))).length) (((segN all (pcO all.length (oa, ob))).getD (wh % (segN all (pcO all.length (oa, ob))).length) 0 ^^^ 1) % 256))).2.2) .of ?_
          simp only [List.set_cons_zero, List.set_cons_succ]
          refine wpList_nil ?_
          refine hK23 _ _ ?_
          refine wp_seq_k fun K24 hK24 => ?_
          refine wp_seq_k fun K25 hK25 => ?_
          refine cPlain ?_
          refine sv 125 (.bool tb) .of ?_
          simp only [List.set_cons_zero, List.set_cons_succ]
          refine wpList_nil ?_
          refine hK25 _ _ ?_
          refine wp_cond_split (t := tb) (by kernel_rfl) (fun c125 => ?_) (fun c125 => ?_)
          · skip
            have hmj : memS (runX all (pcs all.length l i)).2 ((((cutF all.length oa) + (wh % (segN all (pcO all.length (oa, ob))).length)) : Nat) : Int) = true := by rw [← c125, hc1_1, show j = (runX all (pcs all.length l i)).2.length by omega, List.take_length]
            have hcl : (putX (runX all (pcs all.length l i)).1 (runX all (pcs all.length l i)).2 (((cutF all.length oa) : Nat) : Int) ((segN all (pcO all.length (oa, ob))).set (wh % (segN all (pcO all.length (oa, ob))).length) (((segN all (pcO all.length (oa, ob))).getD (wh % (segN all (pcO all.length (oa, ob))).length) 0 ^^^ 1) % 256))) = ((runX all (pcs all.length l i)).1, (runX all (pcs all.length l i)).2, 241) := clash_yes hg hpo hKl (xor1_ne _ (getD_lt' (fun x hx => hb x (List.mem_of_mem_drop (List.mem_of_mem_take hx))) _)) hmj
            refine wp_seq_k fun K26 hK26 => ?_
            refine cPlain ?_
            refine sv 126 (.int .i64 0) .of ?_
            simp only [List.set_cons_zero, List.set_cons_succ]
            refine sv 127 (.bool true) (Val.cmp .eql 37 _ (.tmp 126) _ rfl .i64 0 0 (by kernel_rfl) (by kernel_rfl) (by simp) _ rfl) ?_
            simp only [List.set_cons_zero, List.set_cons_succ]
            refine sv 128 (.bool true) .of ?_
            simp only [List.set_cons_zero, List.set_cons_succ]
            refine sv 129 (.int .i64 (putX (runX all (pcs all.length l i)).1 (runX all (pcs all.length l i)).2 (((cutF all.length oa) : Nat) : Int) ((segN all (pcO all.length (oa, ob))).set (wh % (segN all (pcO all.length (oa, ob))).length) (((segN all (pcO all.length (oa, ob))).getD (wh % (segN all (pcO all.length (oa, ob))).length) 0 ^^^ 1) % 256))).2.2) .of ?_
            simp only [List.set_cons_zero, List.set_cons_succ]
            refine sv 130 (.bool true) (Val.cmp .eql 37 _ (.tmp 129) _ rfl .i64 ((putX (runX all (pcs all.length l i)).1 (runX all (pcs all.length l i)).2 (((cutF all.length oa) : Nat) : Int) ((segN all (pcO all.length (oa, ob))).set (wh % (segN all (pcO all.length (oa, ob))).length) (((segN all (pcO all.length (oa, ob))).getD (wh % (segN all (pcO all.length (oa, ob))).length) 0 ^^^ 1) % 256))).2.2) 241 (by kernel_rfl) (by kernel_rfl) (by simp) _ (by rw [hcl]; simp [cmpB])) ?_
            simp only [List.set_cons_zero, List.set_cons_succ]
            refine sv 131 (.bool true) .of ?_
            simp only [List.set_cons_zero, List.set_cons_succ]
            refine sv 132 (.bool true) .of ?_
            simp only [List.set_cons_zero, List.set_cons_succ]
            refine sv 133 (.agg #[.slice AX all.length CX, .slice BX (runX all (pcs all.length l i)).2.length EX]) (Val.cel 56 _ rfl 0 2 (by kernel_rfl) b9 _ Try.underlying56 rfl (by kernel_rfl) (by simp) [.slice AX all.length CX, .slice BX (runX all (pcs all.length l i)).2.length EX] rfl) ?_
            simp only [List.set_cons_zero, List.set_cons_succ]
            refine sv 134 (.agg #[.slice X2 (putX (runX all (pcs all.length l i)).1 (runX all (pcs all.length l i)).2 (((cutF all.length oa) : Nat) : Int) ((segN all (pcO all.length (oa, ob))).set (wh % (segN all (pcO all.length (oa, ob))).length) (((segN all (pcO all.length (oa, ob))).getD (wh % (segN all (pcO all.length (oa, ob))).length) 0 ^^^ 1) % 256))).1.length Y2, .slice Z2 (putX (runX all (pcs all.length l i)).1 (runX all (pcs all.length l i)).2 (((cutF all.length oa) : Nat) : Int) ((segN all (pcO all.length (oa, ob))).set (wh % (segN all (pcO all.length (oa, ob))).length) (((segN all (pcO all.length (oa, ob))).getD (wh % (segN all (pcO all.length (oa, ob))).length) 0 ^^^ 1) % 256))).2.1.length T2]) (Val.cel 56 _ rfl 0 2 (by kernel_rfl) b21 _ Try.underlying56 rfl (by kernel_rfl) (by simp) [.slice X2 (putX (runX all (pcs all.length l i)).1 (runX all (pcs all.length l i)).2 (((cutF all.length oa) : Nat) : Int) ((segN all (pcO all.length (oa, ob))).set (wh % (segN all (pcO all.length (oa, ob))).length) (((segN all (pcO all.length (oa, ob))).getD (wh % (segN all (pcO all.length (oa, ob))).length) 0 ^^^ 1) % 256))).1.length Y2, .slice Z2 (putX (runX all (pcs all.length l i)).1 (runX all (pcs all.length l i)).2 (((cutF all.length oa) : Nat) : Int) ((segN all (pcO all.length (oa, ob))).set (wh % (segN all (pcO all.length (oa, ob))).length) (((segN all (pcO all.length (oa, ob))).getD (wh % (segN all (pcO all.length (oa, ob))).length) 0 ^^^ 1) % 256))).2.1.length T2] rfl) ?_
            simp only [List.set_cons_zero, List.set_cons_succ]
            refine xCall 135 36 #[.agg #[.slice AX all.length CX, .slice BX (runX all (pcs all.length l i)).2.length EX], .agg #[.slice X2 (putX (runX all (pcs all.length l i)).1 (runX all (pcs all.length l i)).2 (((cutF all.length oa) : Nat) : Int) ((segN all (pcO all.length (oa, ob))).set (wh % (segN all (pcO all.length (oa, ob))).length) (((segN all (pcO all.length (oa, ob))).getD (wh % (segN all (pcO all.length (oa, ob))).length) 0 ^^^ 1) % 256))).1.length Y2, .slice Z2 (putX (runX all (pcs all.length l i)).1 (runX all (pcs all.length l i)).2 (((cutF all.length oa) : Nat) : Int) ((segN all (pcO all.length (oa, ob))).set (wh % (segN all (pcO all.length (oa, ob))).length) (((segN all (pcO all.length (oa, ob))).getD (wh % (segN all (pcO all.length (oa, ob))).length) 0 ^^^ 1) % 256))).2.1.length T2]] (by kernel_rfl) ?_
            refine (same_any _ _ _ _ (runX all (pcs all.length l i)).1 (putX (runX all (pcs all.length l i)).1 (runX all (pcs all.length l i)).2 (((cutF all.length oa) : Nat) : Int) ((segN all (pcO all.length (oa, ob))).set (wh % (segN all (pcO all.length (oa, ob))).length) (((segN all (pcO all.length (oa, ob))).getD (wh % (segN all (pcO all.length (oa, ob))).length) 0 ^^^ 1) % 256))).1 (runX all (pcs all.length l i)).2 (putX (runX all (pcs all.length l i)).1 (runX all (pcs all.length l i)).2 (((cutF all.length oa) : Nat) : Int) ((segN all (pcO all.length (oa, ob))).set (wh % (segN all (pcO all.length (oa, ob))).length) (((segN all (pcO all.length (oa, ob))).getD (wh % (segN all (pcO all.length (oa, ob))).length) 0 ^^^ 1) % 256))).2.1 w19 O1.sl O2.se P2.sl Q2.se (hg.lt hb) (by rw [hcl]; exact hg.lt hb) hg.wf (by rw [hcl]; exact hg.wf)).mono ?_
            rintro en w20 ⟨he, hb1⟩
            rw [decide_eq_true (show (runX all (pcs all.length l i)).1 = (putX (runX all (pcs all.length l i)).1 (runX all (pcs all.length l i)).2 (((cutF all.length oa) : Nat) : Int) ((segN all (pcO all.length (oa, ob))).set (wh % (segN all (pcO all.length (oa, ob))).length) (((segN all (pcO all.length (oa, ob))).getD (wh % (segN all (pcO all.length (oa, ob))).length) 0 ^^^ 1) % 256))).1 ∧ (runX all (pcs all.length l i)).2 = (putX (runX all (pcs all.length l i)).1 (runX all (pcs all.length l i)).2 (((cutF all.length oa) : Nat) : Int) ((segN all (pcO all.length (oa, ob))).set (wh % (segN all (pcO all.length (oa, ob))).length) (((segN all (pcO all.length (oa, ob))).getD (wh % (segN all (pcO all.length (oa, ob))).length) 0 ^^^ 1) % 256))).2.1 by rw [hcl]; exact ⟨rfl, rfl⟩)] at he
            subst he
            have e12 := belE0 hb1
            have ze12 := e12.size
            replace BL := BL.e0 e12
            replace D := D.e0 e12
            replace L := L.e0 e12
            replace b6 := b6.e0 e12
            replace O1 := O1.e0 e12
            replace O2 := O2.e0 e12
            replace b9 := b9.e0 e12
            replace Sb := Sb.e0 e12
            replace OA := OA.e0 e12
            replace P2 := P2.e0 e12
            replace Q2 := Q2.e0 e12
            replace b21 := b21.e0 e12
            clear e12
            refine ⟨.bool true, rfl, ?_⟩
            simp only [List.set_cons_zero, List.set_cons_succ]
            refine sv 136 (.bool true) .of ?_
            simp only [List.set_cons_zero, List.set_cons_succ]
            refine sv 137 (.bool true) .of ?_
            simp only [List.set_cons_zero, List.set_cons_succ]
            refine xCall 138 31 #[] (by kernel_rfl) ?_
            refine (awake24 w20).mono ?_
            rintro en w21 ⟨rfl, hb1⟩
            have e13 := belE0 hb1
            have ze13 := e13.size
            replace BL := BL.e0 e13
            replace D := D.e0 e13
            replace L := L.e0 e13
            replace b6 := b6.e0 e13
            replace O1 := O1.e0 e13
            replace O2 := O2.e0 e13
            replace b9 := b9.e0 e13
            replace Sb := Sb.e0 e13
            replace OA := OA.e0 e13
            replace P2 := P2.e0 e13
            replace Q2 := Q2.e0 e13
            replace b21 := b21.e0 e13
            clear e13
            refine ⟨.bool true, rfl, ?_⟩
            simp only [List.set_cons_zero, List.set_cons_succ]
            refine sv 139 (.bool true) .of ?_
            simp only [List.set_cons_zero, List.set_cons_succ]
            refine sv 8 (.bool true) .of ?_
            simp only [List.set_cons_zero, List.set_cons_succ]
            refine wpList_nil ?_
            refine hK26 _ _ ?_
            refine wp_ret ?_
            (try simp only [Exit.then, Exit.inBlock])
            refine bodyPost_ret (v := .bool true) rT rfl ?_
            exact ⟨rfl, BL.b⟩
          · skip
            have hmj : memS (runX all (pcs all.length l i)).2 ((((cutF all.length oa) + (wh % (segN all (pcO all.length (oa, ob))).length)) : Nat) : Int) = false := by rw [← c125, hc1_1, show j = (runX all (pcs all.length l i)).2.length by omega, List.take_length]
            have hcl := clash_not (v := ((segN all (pcO all.length (oa, ob))).getD (wh % (segN all (pcO all.length (oa, ob))).length) 0 ^^^ 1) % 256) hg hpo hKl hmj
            have hcg := clash_get (v := ((segN all (pcO all.length (oa, ob))).getD (wh % (segN all (pcO all.length (oa, ob))).length) 0 ^^^ 1) % 256) hg hpo hKl
            replace hcl : (putX (runX all (pcs all.length l i)).1 (runX all (pcs all.length l i)).2 (((cutF all.length oa) : Nat) : Int) ((segN all (pcO all.length (oa, ob))).set (wh % (segN all (pcO all.length (oa, ob))).length) (((segN all (pcO all.length (oa, ob))).getD (wh % (segN all (pcO all.length (oa, ob))).length) 0 ^^^ 1) % 256))) = _ := hcl
            have hP1 : (putX (runX all (pcs all.length l i)).1 (runX all (pcs all.length l i)).2 (((cutF all.length oa) : Nat) : Int) ((segN all (pcO all.length (oa, ob))).set (wh % (segN all (pcO all.length (oa, ob))).length) (((segN all (pcO all.length (oa, ob))).getD (wh % (segN all (pcO all.length (oa, ob))).length) 0 ^^^ 1) % 256))).1 = layB (runX all (pcs all.length l i)).1 (cutF all.length oa) ((segN all (pcO all.length (oa, ob))).set (wh % (segN all (pcO all.length (oa, ob))).length) (((segN all (pcO all.length (oa, ob))).getD (wh % (segN all (pcO all.length (oa, ob))).length) 0 ^^^ 1) % 256)) := by rw [hcl]; rfl
            have hP2 : (putX (runX all (pcs all.length l i)).1 (runX all (pcs all.length l i)).2 (((cutF all.length oa) : Nat) : Int) ((segN all (pcO all.length (oa, ob))).set (wh % (segN all (pcO all.length (oa, ob))).length) (((segN all (pcO all.length (oa, ob))).getD (wh % (segN all (pcO all.length (oa, ob))).length) 0 ^^^ 1) % 256))).2.2 = 0 := by rw [hcl]
            have hPl : (putX (runX all (pcs all.length l i)).1 (runX all (pcs all.length l i)).2 (((cutF all.length oa) : Nat) : Int) ((segN all (pcO all.length (oa, ob))).set (wh % (segN all (pcO all.length (oa, ob))).length) (((segN all (pcO all.length (oa, ob))).getD (wh % (segN all (pcO all.length (oa, ob))).length) 0 ^^^ 1) % 256))).1.length = all.length := by rw [hP1]; exact hcg.2
            have hPn := nn_len (putX (runX all (pcs all.length l i)).1 (runX all (pcs all.length l i)).2 (((cutF all.length oa) : Nat) : Int) ((segN all (pcO all.length (oa, ob))).set (wh % (segN all (pcO all.length (oa, ob))).length) (((segN all (pcO all.length (oa, ob))).getD (wh % (segN all (pcO all.length (oa, ob))).length) 0 ^^^ 1) % 256))).1
            have hCn := nn_len ((segN all (pcO all.length (oa, ob))).set (wh % (segN all (pcO all.length (oa, ob))).length) (((segN all (pcO all.length (oa, ob))).getD (wh % (segN all (pcO all.length (oa, ob))).length) 0 ^^^ 1) % 256))
            have hCl : ((segN all (pcO all.length (oa, ob))).set (wh % (segN all (pcO all.length (oa, ob))).length) (((segN all (pcO all.length (oa, ob))).getD (wh % (segN all (pcO all.length (oa, ob))).length) 0 ^^^ 1) % 256)).length = (segN all (pcO all.length (oa, ob))).length := List.length_set
            refine wp_skip ?_
            refine hK24 _ _ ?_
            refine wp_seq_k fun K27 hK27 => ?_
            have e14 := drew_e0 w19
            refine zg (fun w_ => Bl w.heap.size w w_ ∧ SL .u8 w_ (.slice A all.length C) (nn all) ∧ SE .i64 2 w_ (.slice B l.length E) (spS l) ∧ Blk .i64 w_ w.heap.size 65 [oa, ob] ∧ Own 5 .u8 w.heap.size w_ (.slice AX all.length CX) (nn (runX all (pcs all.length l i)).1) ∧ OwnE 70 .i64 2 w.heap.size w_ (.slice BX (runX all (pcs all.length l i)).2.length EX) (spS (runX all (pcs all.length l i)).2) ∧ Cel w_ w4.heap.size 56 [.slice AX all.length CX, .slice BX (runX all (pcs all.length l i)).2.length EX] ∧ SL .u8 w_ (sliceV (.slice A all.length C) (cutF all.length oa) (cutT all.length oa ob)) (nn (segN all (pcO all.length (oa, ob)))) ∧ Own 5 .u8 w11.heap.size w_ (.slice AO (segN all (pcO all.length (oa, ob))).length CO) (nn ((segN all (pcO all.length (oa, ob))).set (wh % ((segN all (pcO all.length (oa, ob))).length)) ((((segN all (pcO all.length (oa, ob))).getD (wh % ((segN all (pcO all.length (oa, ob))).length)) 0) ^^^ 1) % 256))) ∧ Own 5 .u8 wl1.heap.size w_ (.slice X2 (putX (runX all (pcs all.length l i)).1 (runX all (pcs all.length l i)).2 (((cutF all.length oa) : Nat) : Int) ((segN all (pcO all.length (oa, ob))).set (wh % (segN all (pcO all.length (oa, ob))).length) (((segN all (pcO all.length (oa, ob))).getD (wh % (segN all (pcO all.length (oa, ob))).length) 0 ^^^ 1) % 256))).1.length Y2) (nn (putX (runX all (pcs all.length l i)).1 (runX all (pcs all.length l i)).2 (((cutF all.length oa) : Nat) : Int) ((segN all (pcO all.length (oa, ob))).set (wh % (segN all (pcO all.length (oa, ob))).length) (((segN all (pcO all.length (oa, ob))).getD (wh % (segN all (pcO all.length (oa, ob))).length) 0 ^^^ 1) % 256))).1) ∧ OwnE 70 .i64 2 wl1.heap.size w_ (.slice Z2 (putX (runX all (pcs all.length l i)).1 (runX all (pcs all.length l i)).2 (((cutF all.length oa) : Nat) : Int) ((segN all (pcO all.length (oa, ob))).set (wh % (segN all (pcO all.length (oa, ob))).length) (((segN all (pcO all.length (oa, ob))).getD (wh % (segN all (pcO all.length (oa, ob))).length) 0 ^^^ 1) % 256))).2.1.length T2) (spS (putX (runX all (pcs all.length l i)).1 (runX all (pcs all.length l i)).2 (((cutF all.length oa) : Nat) : Int) ((segN all (pcO all.length (oa, ob))).set (wh % (segN all (pcO all.length (oa, ob))).length) (((segN all (pcO all.length (oa, ob))).getD (wh % (segN all (pcO all.length (oa, ob))).length) 0 ^^^ 1) % 256))).2.1) ∧ Cel w_ w17.heap.size 56 [.slice X2 (putX (runX all (pcs all.length l i)).1 (runX all (pcs all.length l i)).2 (((cutF all.length oa) : Nat) : Int) ((segN all (pcO all.length (oa, ob))).set (wh % (segN all (pcO all.length (oa, ob))).length) (((segN all (pcO all.length (oa, ob))).getD (wh % (segN all (pcO all.length (oa, ob))).length) 0 ^^^ 1) % 256))).1.length Y2, .slice Z2 (putX (runX all (pcs all.length l i)).1 (runX all (pcs all.length l i)).2 (((cutF all.length oa) : Nat) : Int) ((segN all (pcO all.length (oa, ob))).set (wh % (segN all (pcO all.length (oa, ob))).length) (((segN all (pcO all.length (oa, ob))).getD (wh % (segN all (pcO all.length (oa, ob))).length) 0 ^^^ 1) % 256))).2.1.length T2] ∧ w19.heap.size ≤ w_.heap.size) (fun w_ => Bl w.heap.size w w_ ∧ SL .u8 w_ (.slice A all.length C) (nn all) ∧ SE .i64 2 w_ (.slice B l.length E) (spS l) ∧ Blk .i64 w_ w.heap.size 65 [oa, ob] ∧ Own 5 .u8 w.heap.size w_ (.slice AX all.length CX) (nn (runX all (pcs all.length l i)).1) ∧ OwnE 70 .i64 2 w.heap.size w_ (.slice BX (runX all (pcs all.length l i)).2.length EX) (spS (runX all (pcs all.length l i)).2) ∧ Cel w_ w4.heap.size 56 [.slice AX all.length CX, .slice BX (runX all (pcs all.length l i)).2.length EX] ∧ SL .u8 w_ (sliceV (.slice A all.length C) (cutF all.length oa) (cutT all.length oa ob)) (nn (segN all (pcO all.length (oa, ob)))) ∧ Own 5 .u8 w11.heap.size w_ (.slice AO (segN all (pcO all.length (oa, ob))).length CO) (nn ((segN all (pcO all.length (oa, ob))).set (wh % ((segN all (pcO all.length (oa, ob))).length)) ((((segN all (pcO all.length (oa, ob))).getD (wh % ((segN all (pcO all.length (oa, ob))).length)) 0) ^^^ 1) % 256))) ∧ Own 5 .u8 wl1.heap.size w_ (.slice X2 (putX (runX all (pcs all.length l i)).1 (runX all (pcs all.length l i)).2 (((cutF all.length oa) : Nat) : Int) ((segN all (pcO all.length (oa, ob))).set (wh % (segN all (pcO all.length (oa, ob))).length) (((segN all (pcO all.length (oa, ob))).getD (wh % (segN all (pcO all.length (oa, ob))).length) 0 ^^^ 1) % 256))).1.length Y2) (nn (putX (runX all (pcs all.length l i)).1 (runX all (pcs all.length l i)).2 (((cutF all.length oa) : Nat) : Int) ((segN all (pcO all.length (oa, ob))).set (wh % (segN all (pcO all.length (oa, ob))).length) (((segN all (pcO all.length (oa, ob))).getD (wh % (segN all (pcO all.length (oa, ob))).length) 0 ^^^ 1) % 256))).1) ∧ OwnE 70 .i64 2 wl1.heap.size w_ (.slice Z2 (putX (runX all (pcs all.length l i)).1 (runX all (pcs all.length l i)).2 (((cutF all.length oa) : Nat) : Int) ((segN all (pcO all.length (oa, ob))).set (wh % (segN all (pcO all.length (oa, ob))).length) (((segN all (pcO all.length (oa, ob))).getD (wh % (segN all (pcO all.length (oa, ob))).length) 0 ^^^ 1) % 256))).2.1.length T2) (spS (putX (runX all (pcs all.length l i)).1 (runX all (pcs all.length l i)).2 (((cutF all.length oa) : Nat) : Int) ((segN all (pcO all.length (oa, ob))).set (wh % (segN all (pcO all.length (oa, ob))).length) (((segN all (pcO all.length (oa, ob))).getD (wh % (segN all (pcO all.length (oa, ob))).length) 0 ^^^ 1) % 256))).2.1) ∧ Cel w_ w17.heap.size 56 [.slice X2 (putX (runX all (pcs all.length l i)).1 (runX all (pcs all.length l i)).2 (((cutF all.length oa) : Nat) : Int) ((segN all (pcO all.length (oa, ob))).set (wh % (segN all (pcO all.length (oa, ob))).length) (((segN all (pcO all.length (oa, ob))).getD (wh % (segN all (pcO all.length (oa, ob))).length) 0 ^^^ 1) % 256))).1.length Y2, .slice Z2 (putX (runX all (pcs all.length l i)).1 (runX all (pcs all.length l i)).2 (((cutF all.length oa) : Nat) : Int) ((segN all (pcO all.length (oa, ob))).set (wh % (segN all (pcO all.length (oa, ob))).length) (((segN all (pcO all.length (oa, ob))).getD (wh % (segN all (pcO all.length (oa, ob))).length) 0 ^^^ 1) % 256))).2.1.length T2] ∧ w19.heap.size ≤ w_.heap.size) 100000 33 ⟨BL.e0 e14, D.e0 e14, L.e0 e14, b6.e0 e14, O1.e0 e14, O2.e0 e14, b9.e0 e14, Sb.e0 e14, OA.e0 e14, P2.e0 e14, Q2.e0 e14, b21.e0 e14, Nat.le_refl _⟩ ?_
            clear BL D L b6 O1 O2 b9 Sb OA P2 Q2 b21
            clear e14
            intro w22
            rintro ⟨BL, D, L, b6, O1, O2, b9, Sb, OA, P2, Q2, b21, z2⟩
            refine zv 0 140 (.int .i64 0) (fun _ _ => .of) ⟨BL, D, L, b6, O1, O2, b9, Sb, OA, P2, Q2, b21, by omega⟩ ?_
            simp only [List.set_cons_zero, List.set_cons_succ]
            refine zv 1 141 (.bool true) (fun _ ⟨BL, D, L, b6, O1, O2, b9, Sb, OA, P2, Q2, b21, z2⟩ => Val.cmp .eql 37 _ (.tmp 140) _ rfl .i64 0 0 (by kernel_rfl) (by kernel_rfl) (by simp) _ rfl) ⟨BL, D, L, b6, O1, O2, b9, Sb, OA, P2, Q2, b21, by omega⟩ ?_
            simp only [List.set_cons_zero, List.set_cons_succ]
            refine zv 2 142 (.bool true) (fun _ _ => .of) ⟨BL, D, L, b6, O1, O2, b9, Sb, OA, P2, Q2, b21, by omega⟩ ?_
            simp only [List.set_cons_zero, List.set_cons_succ]
            refine zv 3 143 (.int .i64 (putX (runX all (pcs all.length l i)).1 (runX all (pcs all.length l i)).2 (((cutF all.length oa) : Nat) : Int) ((segN all (pcO all.length (oa, ob))).set (wh % (segN all (pcO all.length (oa, ob))).length) (((segN all (pcO all.length (oa, ob))).getD (wh % (segN all (pcO all.length (oa, ob))).length) 0 ^^^ 1) % 256))).2.2) (fun _ _ => .of) ⟨BL, D, L, b6, O1, O2, b9, Sb, OA, P2, Q2, b21, by omega⟩ ?_
            simp only [List.set_cons_zero, List.set_cons_succ]
            refine zv 4 144 (.bool true) (fun _ ⟨BL, D, L, b6, O1, O2, b9, Sb, OA, P2, Q2, b21, z2⟩ => Val.cmp .eql 37 _ (.tmp 143) _ rfl .i64 ((putX (runX all (pcs all.length l i)).1 (runX all (pcs all.length l i)).2 (((cutF all.length oa) : Nat) : Int) ((segN all (pcO all.length (oa, ob))).set (wh % (segN all (pcO all.length (oa, ob))).length) (((segN all (pcO all.length (oa, ob))).getD (wh % (segN all (pcO all.length (oa, ob))).length) 0 ^^^ 1) % 256))).2.2) 0 (by kernel_rfl) (by kernel_rfl) (by simp) _ (by rw [hP2]; simp [cmpB])) ⟨BL, D, L, b6, O1, O2, b9, Sb, OA, P2, Q2, b21, by omega⟩ ?_
            simp only [List.set_cons_zero, List.set_cons_succ]
            refine zv 5 145 (.bool true) (fun _ _ => .of) ⟨BL, D, L, b6, O1, O2, b9, Sb, OA, P2, Q2, b21, by omega⟩ ?_
            simp only [List.set_cons_zero, List.set_cons_succ]
            refine zv 6 146 (.bool true) (fun _ _ => .of) ⟨BL, D, L, b6, O1, O2, b9, Sb, OA, P2, Q2, b21, by omega⟩ ?_
            simp only [List.set_cons_zero, List.set_cons_succ]
            refine zv 7 147 (.int .i64 (((cutF all.length oa) : Nat) : Int)) (fun _ _ => .of) ⟨BL, D, L, b6, O1, O2, b9, Sb, OA, P2, Q2, b21, by omega⟩ ?_
            simp only [List.set_cons_zero, List.set_cons_succ]
            refine zv 8 148 (.int .i64 ((wh % ((segN all (pcO all.length (oa, ob))).length) : Nat) : Int)) (fun _ _ => .of) ⟨BL, D, L, b6, O1, O2, b9, Sb, OA, P2, Q2, b21, by omega⟩ ?_
            simp only [List.set_cons_zero, List.set_cons_succ]
            refine zv 9 149 (.int .i64 ((((cutF all.length oa) + (wh % (segN all (pcO all.length (oa, ob))).length)) : Nat) : Int)) (fun _ ⟨BL, D, L, b6, O1, O2, b9, Sb, OA, P2, Q2, b21, z2⟩ => Val.as (Val.add 3 _ (.tmp 147) (.tmp 148) rfl (((cutF all.length oa) : Nat) : Int) ((wh % ((segN all (pcO all.length (oa, ob))).length) : Nat) : Int) (by kernel_rfl) (by kernel_rfl) (by omega)) (congrArg (Value.int .i64) (show (((((cutF all.length oa) : Nat) : Int) + ((wh % ((segN all (pcO all.length (oa, ob))).length) : Nat) : Int)) : Int) = ((((cutF all.length oa) + (wh % (segN all (pcO all.length (oa, ob))).length)) : Nat) : Int) by omega))) ⟨BL, D, L, b6, O1, O2, b9, Sb, OA, P2, Q2, b21, by omega⟩ ?_
            simp only [List.set_cons_zero, List.set_cons_succ]
            refine zv 10 150 (.pointer (some ⟨w17.heap.size, 0, none⟩)) (fun _ _ => .of) ⟨BL, D, L, b6, O1, O2, b9, Sb, OA, P2, Q2, b21, by omega⟩ ?_
            simp only [List.set_cons_zero, List.set_cons_succ]
            refine zv 11 151 (.slice X2 (putX (runX all (pcs all.length l i)).1 (runX all (pcs all.length l i)).2 (((cutF all.length oa) : Nat) : Int) ((segN all (pcO all.length (oa, ob))).set (wh % (segN all (pcO all.length (oa, ob))).length) (((segN all (pcO all.length (oa, ob))).getD (wh % (segN all (pcO all.length (oa, ob))).length) 0 ^^^ 1) % 256))).1.length Y2) (fun _ ⟨BL, D, L, b6, O1, O2, b9, Sb, OA, P2, Q2, b21, z2⟩ => Val.cel1 29 _ rfl w17.heap.size 0 _ (by kernel_rfl) (fun _ => (by kernel_rfl)) b21 rfl) ⟨BL, D, L, b6, O1, O2, b9, Sb, OA, P2, Q2, b21, by omega⟩ ?_
            simp only [List.set_cons_zero, List.set_cons_succ]
            refine zv 12 152 (.int .i64 ((putX (runX all (pcs all.length l i)).1 (runX all (pcs all.length l i)).2 (((cutF all.length oa) : Nat) : Int) ((segN all (pcO all.length (oa, ob))).set (wh % (segN all (pcO all.length (oa, ob))).length) (((segN all (pcO all.length (oa, ob))).getD (wh % (segN all (pcO all.length (oa, ob))).length) 0 ^^^ 1) % 256))).1.length : Int)) (fun _ _ => .of) ⟨BL, D, L, b6, O1, O2, b9, Sb, OA, P2, Q2, b21, by omega⟩ ?_
            simp only [List.set_cons_zero, List.set_cons_succ]
            refine zv 13 153 (.bool true) (fun _ ⟨BL, D, L, b6, O1, O2, b9, Sb, OA, P2, Q2, b21, z2⟩ => Val.cmp .lss 3 _ (.tmp 149) (.tmp 152) rfl .i64 ((((cutF all.length oa) + (wh % (segN all (pcO all.length (oa, ob))).length)) : Nat) : Int) ((putX (runX all (pcs all.length l i)).1 (runX all (pcs all.length l i)).2 (((cutF all.length oa) : Nat) : Int) ((segN all (pcO all.length (oa, ob))).set (wh % (segN all (pcO all.length (oa, ob))).length) (((segN all (pcO all.length (oa, ob))).getD (wh % (segN all (pcO all.length (oa, ob))).length) 0 ^^^ 1) % 256))).1.length : Int) (by kernel_rfl) (by kernel_rfl) (by simp) _ (by rw [hPl]; simp [cmpB]; omega)) ⟨BL, D, L, b6, O1, O2, b9, Sb, OA, P2, Q2, b21, by omega⟩ ?_
            simp only [List.set_cons_zero, List.set_cons_succ]
            refine zv 14 154 (.bool true) (fun _ _ => .of) ⟨BL, D, L, b6, O1, O2, b9, Sb, OA, P2, Q2, b21, by omega⟩ ?_
            simp only [List.set_cons_zero, List.set_cons_succ]
            refine zv 15 155 (.bool true) (fun _ _ => .of) ⟨BL, D, L, b6, O1, O2, b9, Sb, OA, P2, Q2, b21, by omega⟩ ?_
            simp only [List.set_cons_zero, List.set_cons_succ]
            refine zv 16 156 (.pointer (some ⟨w17.heap.size, 0, none⟩)) (fun _ _ => .of) ⟨BL, D, L, b6, O1, O2, b9, Sb, OA, P2, Q2, b21, by omega⟩ ?_
            simp only [List.set_cons_zero, List.set_cons_succ]
            refine zv 17 157 (.slice X2 (putX (runX all (pcs all.length l i)).1 (runX all (pcs all.length l i)).2 (((cutF all.length oa) : Nat) : Int) ((segN all (pcO all.length (oa, ob))).set (wh % (segN all (pcO all.length (oa, ob))).length) (((segN all (pcO all.length (oa, ob))).getD (wh % (segN all (pcO all.length (oa, ob))).length) 0 ^^^ 1) % 256))).1.length Y2) (fun _ ⟨BL, D, L, b6, O1, O2, b9, Sb, OA, P2, Q2, b21, z2⟩ => Val.cel1 29 _ rfl w17.heap.size 0 _ (by kernel_rfl) (fun _ => (by kernel_rfl)) b21 rfl) ⟨BL, D, L, b6, O1, O2, b9, Sb, OA, P2, Q2, b21, by omega⟩ ?_
            simp only [List.set_cons_zero, List.set_cons_succ]
            refine zv 18 158 (.int .i64 (((cutF all.length oa) : Nat) : Int)) (fun _ _ => .of) ⟨BL, D, L, b6, O1, O2, b9, Sb, OA, P2, Q2, b21, by omega⟩ ?_
            simp only [List.set_cons_zero, List.set_cons_succ]
            refine zv 19 159 (.int .i64 ((wh % ((segN all (pcO all.length (oa, ob))).length) : Nat) : Int)) (fun _ _ => .of) ⟨BL, D, L, b6, O1, O2, b9, Sb, OA, P2, Q2, b21, by omega⟩ ?_
            simp only [List.set_cons_zero, List.set_cons_succ]
            refine zv 20 160 (.int .i64 ((((cutF all.length oa) + (wh % (segN all (pcO all.length (oa, ob))).length)) : Nat) : Int)) (fun _ ⟨BL, D, L, b6, O1, O2, b9, Sb, OA, P2, Q2, b21, z2⟩ => Val.as (Val.add 3 _ (.tmp 158) (.tmp 159) rfl (((cutF all.length oa) : Nat) : Int) ((wh % ((segN all (pcO all.length (oa, ob))).length) : Nat) : Int) (by kernel_rfl) (by kernel_rfl) (by omega)) (congrArg (Value.int .i64) (show (((((cutF all.length oa) : Nat) : Int) + ((wh % ((segN all (pcO all.length (oa, ob))).length) : Nat) : Int)) : Int) = ((((cutF all.length oa) + (wh % (segN all (pcO all.length (oa, ob))).length)) : Nat) : Int) by omega))) ⟨BL, D, L, b6, O1, O2, b9, Sb, OA, P2, Q2, b21, by omega⟩ ?_
            simp only [List.set_cons_zero, List.set_cons_succ]
            refine zv 21 161 (elemP (.slice X2 (putX (runX all (pcs all.length l i)).1 (runX all (pcs all.length l i)).2 (((cutF all.length oa) : Nat) : Int) ((segN all (pcO all.length (oa, ob))).set (wh % (segN all (pcO all.length (oa, ob))).length) (((segN all (pcO all.length (oa, ob))).getD (wh % (segN all (pcO all.length (oa, ob))).length) 0 ^^^ 1) % 256))).1.length Y2) ((cutF all.length oa) + (wh % (segN all (pcO all.length (oa, ob))).length))) (fun _ ⟨BL, D, L, b6, O1, O2, b9, Sb, OA, P2, Q2, b21, z2⟩ => Val.idxE 29 (.tmp 157) (.tmp 160) rfl (.slice X2 (putX (runX all (pcs all.length l i)).1 (runX all (pcs all.length l i)).2 (((cutF all.length oa) : Nat) : Int) ((segN all (pcO all.length (oa, ob))).set (wh % (segN all (pcO all.length (oa, ob))).length) (((segN all (pcO all.length (oa, ob))).getD (wh % (segN all (pcO all.length (oa, ob))).length) 0 ^^^ 1) % 256))).1.length Y2) ((cutF all.length oa) + (wh % (segN all (pcO all.length (oa, ob))).length)) (by kernel_rfl) (by kernel_rfl) P2.sl Try.underlying29 (by kernel_rfl) (by omega)) ⟨BL, D, L, b6, O1, O2, b9, Sb, OA, P2, Q2, b21, by omega⟩ ?_
            simp only [List.set_cons_zero, List.set_cons_succ]
            refine zv 22 162 (.int .u8 ((((putX (runX all (pcs all.length l i)).1 (runX all (pcs all.length l i)).2 (((cutF all.length oa) : Nat) : Int) ((segN all (pcO all.length (oa, ob))).set (wh % (segN all (pcO all.length (oa, ob))).length) (((segN all (pcO all.length (oa, ob))).getD (wh % (segN all (pcO all.length (oa, ob))).length) 0 ^^^ 1) % 256))).1).getD ((cutF all.length oa) + (wh % (segN all (pcO all.length (oa, ob))).length)) 0 : Nat) : Int)) (fun _ ⟨BL, D, L, b6, O1, O2, b9, Sb, OA, P2, Q2, b21, z2⟩ => Val.nldE 5 _ rfl (.slice X2 (putX (runX all (pcs all.length l i)).1 (runX all (pcs all.length l i)).2 (((cutF all.length oa) : Nat) : Int) ((segN all (pcO all.length (oa, ob))).set (wh % (segN all (pcO all.length (oa, ob))).length) (((segN all (pcO all.length (oa, ob))).getD (wh % (segN all (pcO all.length (oa, ob))).length) 0 ^^^ 1) % 256))).1.length Y2) ((cutF all.length oa) + (wh % (segN all (pcO all.length (oa, ob))).length)) (by kernel_rfl) (fun _ => (by kernel_rfl)) P2.sl (by omega)) ⟨BL, D, L, b6, O1, O2, b9, Sb, OA, P2, Q2, b21, by omega⟩ ?_
            simp only [List.set_cons_zero, List.set_cons_succ]
            refine zv 23 163 (.slice AO (segN all (pcO all.length (oa, ob))).length CO) (fun _ _ => .of) ⟨BL, D, L, b6, O1, O2, b9, Sb, OA, P2, Q2, b21, by omega⟩ ?_
            simp only [List.set_cons_zero, List.set_cons_succ]
            refine zv 24 164 (.int .i64 ((wh % ((segN all (pcO all.length (oa, ob))).length) : Nat) : Int)) (fun _ _ => .of) ⟨BL, D, L, b6, O1, O2, b9, Sb, OA, P2, Q2, b21, by omega⟩ ?_
            simp only [List.set_cons_zero, List.set_cons_succ]
            refine zv 25 165 (elemP (.slice AO (segN all (pcO all.length (oa, ob))).length CO) (wh % ((segN all (pcO all.length (oa, ob))).length))) (fun _ ⟨BL, D, L, b6, O1, O2, b9, Sb, OA, P2, Q2, b21, z2⟩ => Val.idxE 29 (.tmp 163) (.tmp 164) rfl (.slice AO (segN all (pcO all.length (oa, ob))).length CO) (wh % ((segN all (pcO all.length (oa, ob))).length)) (by kernel_rfl) (by kernel_rfl) OA.sl Try.underlying29 (by kernel_rfl) (by omega)) ⟨BL, D, L, b6, O1, O2, b9, Sb, OA, P2, Q2, b21, by omega⟩ ?_
            simp only [List.set_cons_zero, List.set_cons_succ]
            refine zv 26 166 (.int .u8 ((((segN all (pcO all.length (oa, ob))).set (wh % ((segN all (pcO all.length (oa, ob))).length)) ((((segN all (pcO all.length (oa, ob))).getD (wh % ((segN all (pcO all.length (oa, ob))).length)) 0) ^^^ 1) % 256)).getD (wh % ((segN all (pcO all.length (oa, ob))).length)) 0 : Nat) : Int)) (fun _ ⟨BL, D, L, b6, O1, O2, b9, Sb, OA, P2, Q2, b21, z2⟩ => Val.nldE 5 _ rfl (.slice AO (segN all (pcO all.length (oa, ob))).length CO) (wh % ((segN all (pcO all.length (oa, ob))).length)) (by kernel_rfl) (fun _ => (by kernel_rfl)) OA.sl (by omega)) ⟨BL, D, L, b6, O1, O2, b9, Sb, OA, P2, Q2, b21, by omega⟩ ?_
            simp only [List.set_cons_zero, List.set_cons_succ]
            refine zv 27 167 (.bool true) (fun _ ⟨BL, D, L, b6, O1, O2, b9, Sb, OA, P2, Q2, b21, z2⟩ => Val.cmp .eql 5 _ (.tmp 162) (.tmp 166) rfl .u8 ((((putX (runX all (pcs all.length l i)).1 (runX all (pcs all.length l i)).2 (((cutF all.length oa) : Nat) : Int) ((segN all (pcO all.length (oa, ob))).set (wh % (segN all (pcO all.length (oa, ob))).length) (((segN all (pcO all.length (oa, ob))).getD (wh % (segN all (pcO all.length (oa, ob))).length) 0 ^^^ 1) % 256))).1).getD ((cutF all.length oa) + (wh % (segN all (pcO all.length (oa, ob))).length)) 0 : Nat) : Int) ((((segN all (pcO all.length (oa, ob))).set (wh % ((segN all (pcO all.length (oa, ob))).length)) ((((segN all (pcO all.length (oa, ob))).getD (wh % ((segN all (pcO all.length (oa, ob))).length)) 0) ^^^ 1) % 256)).getD (wh % ((segN all (pcO all.length (oa, ob))).length)) 0 : Nat) : Int) (by kernel_rfl) (by kernel_rfl) (by simp) _ (by rw [hP1]; exact decide_eq_true (congrArg (fun n : Nat => (n : Int)) hcg.1))) ⟨BL, D, L, b6, O1, O2, b9, Sb, OA, P2, Q2, b21, by omega⟩ ?_
            simp only [List.set_cons_zero, List.set_cons_succ]
            refine zv 28 168 (.bool true) (fun _ _ => .of) ⟨BL, D, L, b6, O1, O2, b9, Sb, OA, P2, Q2, b21, by omega⟩ ?_
            simp only [List.set_cons_zero, List.set_cons_succ]
            refine zv 29 169 (.bool true) (fun _ _ => .of) ⟨BL, D, L, b6, O1, O2, b9, Sb, OA, P2, Q2, b21, by omega⟩ ?_
            simp only [List.set_cons_zero, List.set_cons_succ]
            refine zo1 30 rfl ?_
            refine xCall 170 31 #[] (by kernel_rfl) ?_
            refine (awake24 w22).mono ?_
            rintro en w23 ⟨rfl, hb1⟩
            have e15 := belE0 hb1
            have ze15 := e15.size
            replace BL := BL.e0 e15
            replace D := D.e0 e15
            replace L := L.e0 e15
            replace b6 := b6.e0 e15
            replace O1 := O1.e0 e15
            replace O2 := O2.e0 e15
            replace b9 := b9.e0 e15
            replace Sb := Sb.e0 e15
            replace OA := OA.e0 e15
            replace P2 := P2.e0 e15
            replace Q2 := Q2.e0 e15
            replace b21 := b21.e0 e15
            clear e15
            refine ⟨.bool true, rfl, ?_⟩
            refine ze 30 ⟨BL, D, L, b6, O1, O2, b9, Sb, OA, P2, Q2, b21, by omega⟩ ?_
            simp only [List.set_cons_zero, List.set_cons_succ]
            refine zv 31 171 (.bool true) (fun _ _ => .of) ⟨BL, D, L, b6, O1, O2, b9, Sb, OA, P2, Q2, b21, by omega⟩ ?_
            simp only [List.set_cons_zero, List.set_cons_succ]
            refine zv 32 8 (.bool true) (fun _ _ => .of) ⟨BL, D, L, b6, O1, O2, b9, Sb, OA, P2, Q2, b21, by omega⟩ ?_
            simp only [List.set_cons_zero, List.set_cons_succ]
            refine zd (by kernel_rfl) ?_ _
            refine hK27 _ _ ?_
            refine wp_ret ?_
            (try simp only [Exit.then, Exit.inBlock])
            refine bodyPost_ret (v := .bool true) rT rfl ?_
            exact ⟨rfl, BL.b⟩

theorem xferClash_any (w : World) (v0 : Value) (x0 : List Int) (D0 : SL .u8 w v0 x0) (h0 : ∀ y ∈ x0, 0 ≤ y ∧ y < 256) (v1 : Value) (es : List (List Int)) (D1 : SE .i64 2 w v1 es) (w1 : ∀ y ∈ es, ∀ n ∈ y, (Lit.int .i64 n).wf = true) (x2 : List Value) (R2 : RInts .i64 2 w x2) (t : Int) (h3 : 0 ≤ t ∧ t ≤ 65535) :
    Calls Try.prog 6 #[v0, v1, .agg x2.toArray, .int .u16 t] w fun e w' => e = .returned (.bool true) ∧ Below w.heap.size w w' := by
  obtain ⟨all, rfl, _⟩ := nn_of (fun y hy => (h0 y hy).1)
  obtain ⟨l, rfl⟩ := spS_of D1.lens
  obtain ⟨A, C, hq, _⟩ := D0.len
  rw [nn_len] at hq
  subst hq
  obtain ⟨B, E, hq, _⟩ := D1.len
  rw [spS_len] at hq
  subst hq
  obtain ⟨xs, rfl, hl, hw⟩ := R2
  obtain ⟨k, rfl⟩ := Int.eq_ofNat_of_zero_le h3.1
  match xs, hl with
  | [oa, ob], _ => exact xferClash_walk w A B C E all l oa ob k D0 (fun y hy => by have := h0 (y : Int) (by unfold nn; exact List.mem_map.2 ⟨y, hy, rfl⟩); omega) D1 w1 (bounds_i64 (hw oa (by simp))) (bounds_i64 (hw ob (by simp))) (by omega)
end Go.Proofs.Ytanggdnmoaflfaa
