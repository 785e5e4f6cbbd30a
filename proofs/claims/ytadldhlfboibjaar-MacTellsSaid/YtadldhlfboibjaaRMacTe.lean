/-
  MacTells: the walk.
-/
import Derived.Test.YtadldhlfboibjaaRRefX
import Derived.Test.YtadldhlfboibjaaRMacA
import Derived.Test.YtadldhlfboibjaaREqA
import Derived.Test.YtadldhlfboibjaaRSlxS
import Derived.Test.YtadldhlfboibjaaREqk
import Derived.Test.YtadldhlfboibjaaRNnB
namespace Go.Proofs.YtadldhlfboibjaaR
open Go.RowKit
set_option linter.unusedVariables false
set_option linter.unusedSimpArgs false
set_option maxRecDepth 100000
attribute [local irreducible] wpList Code.wp wpAnyZ
/-- The first parts that are not long. -/
def few3L (ys : List (List Int)) (k : Nat) : List (List Int) := (ys.take k).filter fun y => decide (y.length ≤ 300)
theorem few3L_yes {ys : List (List Int)} {k : Nat} (h : k < ys.length) (hl : (ys.getD k []).length ≤ 300) : few3L ys (k + 1) = few3L ys k ++ [ys.getD k []] := by
  rw [List.getD_eq_getElem?_getD, List.getElem?_eq_getElem h] at hl ⊢
  unfold few3L
  rw [List.take_add_one, List.getElem?_eq_getElem h, List.filter_append]
  congr 1
  simp only [Option.toList_some, List.filter_cons, List.filter_nil, Option.getD_some] at hl ⊢
  rw [if_pos (by simpa using hl)]
theorem few3L_no {ys : List (List Int)} {k : Nat} (h : k < ys.length) (hl : ¬ (ys.getD k []).length ≤ 300) : few3L ys (k + 1) = few3L ys k := by
  rw [List.getD_eq_getElem?_getD, List.getElem?_eq_getElem h] at hl
  unfold few3L
  rw [List.take_add_one, List.getElem?_eq_getElem h, List.filter_append]
  simp only [Option.toList_some, List.filter_cons, List.filter_nil, Option.getD_some] at hl ⊢
  rw [if_neg (by simpa using hl), List.append_nil]
theorem few3L_0 (ys : List (List Int)) : few3L ys 0 = [] := rfl
theorem few3L_len (ys : List (List Int)) (k : Nat) : (few3L ys k).length ≤ k := by unfold few3L; exact Nat.le_trans (List.length_filter_le _ _) (by rw [List.length_take]; omega)
def few3P (ps : List (List Nat)) : List (List Nat) := (ps.take 6).filter fun p => decide (p.length ≤ 300)
theorem few3P_nn (ps : List (List Nat)) : few3L (ps.map nn) 6 = (few3P ps).map nn := by
  unfold few3L few3P
  rw [← List.map_take, List.filter_map]
  congr 2
  funext p
  simp [nn_len]
theorem few3P_len (ps : List (List Nat)) : (few3P ps).length ≤ 6 := by unfold few3P; exact Nat.le_trans (List.length_filter_le _ _) (by rw [List.length_take]; omega)
theorem few3P_le {ps : List (List Nat)} : ∀ p ∈ few3P ps, p.length ≤ 300 := by
  intro p hp
  have := (List.mem_filter.1 hp).2
  simpa using this
theorem few3P_b {ps : List (List Nat)} (h : ∀ p ∈ ps, ∀ x ∈ p, x < 256) : ∀ p ∈ few3P ps, ∀ x ∈ p, x < 256 := by
  intro p hp
  unfold few3P at hp
  exact h p (List.mem_of_mem_take (List.mem_filter.1 hp).1)
theorem few3_blobs (ps : List (List Nat)) : (blobsB ((few3P ps).map nn)).length ≤ 3000 := by
  have h1 := blobsB_small (few3P ps) 300 few3P_le (by omega)
  have h2 : (few3P ps).length * 310 ≤ 6 * 310 := Nat.mul_le_mul_right _ (few3P_len ps)
  omega
attribute [local irreducible] few3L few3P ofN textN taggedN macN

theorem tagged_32t (tab : List Nat) (tag : Nat) (ps : List (List Nat)) : (taggedN tab tag ps).length = 32 := by unfold taggedN; exact ofN_32 _ _
set_option maxHeartbeats 8000000 in
theorem macTells_walk (tab : List Nat) (ht : tab.length = 72) (h32 : ∀ x ∈ tab, x < 4294967296) (key bs : List Nat) (v1 v2 : Value) (w : World) (D1 : SL .u8 w v1 (nn key)) (hk8 : ∀ x ∈ key, x < 256) (D2 : SL .u8 w v2 (nn bs)) (hb8 : ∀ x ∈ bs, x < 256) (tag : Nat) (htag : tag < 256) (v : Value) (us : List Value) (ps : List (List Nat)) (ys : List (List Int)) (hys : ys = ps.map nn) (HV : SV w v us) (HY : SLxs w.heap.size w us ys) (hp8 : ∀ p ∈ ps, ∀ x ∈ p, x < 256) :
    Calls Try.prog 3 #[.agg (cellsOf .u32 (nn tab)), v1, v2, .int .u8 ((tag : Nat) : Int), v] w fun e w' => e = .returned (.bool true) ∧ Below w.heap.size w w' := by
  have BL := Bl.refl w
  have hd1 := D1.lt
  have hd2 := D2.lt
  have hul := HY.1
  obtain ⟨A, C, rfl, hvm⟩ := HV.len
  rw [hul] at HV hvm ⊢
  have hvl := SVx.lt HV
  unfold maxLen at hvm
  have hml := macN_len tab key bs
  have htd := tagged_32t tab tag (few3P ps)
  have hfl := few3P_len ps
  have hfb := few3_blobs ps
  have hxl : (textN tag (few3P ps)).length ≤ 5000 := by
    have h3 := ndig_le 9 ((few3P ps).map nn).length
    rw [← nn_len, textN_nn, textB, List.length_append, List.length_append, uintB_length]
    simp only [List.length_cons, List.length_nil]
    omega
  have hx8 := text_b (tag := tag) htag (few3P_b hp8)
  have hp' : ∀ y ∈ (few3P ps).map nn, y.length ≤ 1000000000 := fun y hy => by obtain ⟨p, hpm, rfl⟩ := List.mem_map.1 hy; rw [nn_len]; exact Nat.le_trans (few3P_le p hpm) (by omega)
  go_enter Try.func3, Try.ntmps3
  refine wp_seq_k fun K1 hK1 => ?_
  refine cPlain ?_
  refine xBox 5 26 _ ((nn tab).map (Value.int .u32)) rfl (cells_toList _ _) ?_
  intro w1 n1
  have zn1 := n1.z
  have b5 := n1.c
  replace b5 : Blk .u32 w1 w.heap.size 26 (nn tab) := b5
  replace BL := BL.e0 n1.e
  replace D1 := D1.e0 n1.e
  replace D2 := D2.e0 n1.e
  have HV : SV w1 (.slice A ys.length C) us := SVx.evB HV n1.e w.heap.size hvl (fun i hi => hi.elim)
  have HY : SLxs w.heap.size w1 us ys := SLxs.e0 HY n1.e
  simp only [List.set_cons_zero, List.set_cons_succ]
  refine sv 10 (.bool false) .of ?_
  simp only [List.set_cons_zero, List.set_cons_succ]
  refine wpList_nil ?_
  refine hK1 _ _ ?_
  refine wp_seq_k fun K2 hK2 => ?_
  refine wp_seq_k fun K3 hK3 => ?_
  refine cPlain ?_
  refine sv 15 (v1) .of ?_
  simp only [List.set_cons_zero, List.set_cons_succ]
  refine sv 16 (.int .i64 ((key.length : Nat) : Int)) (Val.lenS (.tmp 15) 27 rfl (by kernel_rfl) D1 key.length (nn_len key) Try.underlying27) ?_
  simp only [List.set_cons_zero, List.set_cons_succ]
  refine sv 17 (.bool (decide (300 < ((key.length : Nat) : Int)))) (Val.cmp .gtr 3 _ (.tmp 16) _ rfl .i64 ((key.length : Nat) : Int) 300 (by kernel_rfl) (by kernel_rfl) (by simp) _ rfl) ?_
  simp only [List.set_cons_zero, List.set_cons_succ]
  refine sv 18 (.bool (decide (300 < ((key.length : Nat) : Int)))) .of ?_
  simp only [List.set_cons_zero, List.set_cons_succ]
  by_cases g19 : 300 < ((key.length : Nat) : Int)
  · skip
    have dg19 : decide (300 < ((key.length : Nat) : Int)) = true := decide_eq_true g19
    simp only [dg19]
    clear dg19
    refine xSkip 19 ?_
    simp only [List.set_cons_zero, List.set_cons_succ]
    refine xSkip 20 ?_
    simp only [List.set_cons_zero, List.set_cons_succ]
    refine xSkip 21 ?_
    simp only [List.set_cons_zero, List.set_cons_succ]
    refine sv 22 (.bool true) .of ?_
    simp only [List.set_cons_zero, List.set_cons_succ]
    refine wpList_nil ?_
    refine hK3 _ _ ?_
    refine cT ?_
    refine wp_seq_k fun K4 hK4 => ?_
    refine cPlain ?_
    refine xCall 23 14 #[] (by kernel_rfl) ?_
    refine (awake03_any w1).mono ?_
    rintro en w2 ⟨rfl, hb1⟩
    have e1 := belE0 hb1
    have ze1 := e1.size
    replace BL := BL.e0 e1
    replace D1 := D1.e0 e1
    replace D2 := D2.e0 e1
    have HV : SV w2 (.slice A ys.length C) us := SVx.evB HV e1 w.heap.size hvl (fun i hi => hi.elim)
    have HY : SLxs w.heap.size w2 us ys := SLxs.e0 HY e1
    replace b5 := b5.e0 e1
    clear e1
    refine ⟨.bool true, rfl, ?_⟩
    simp only [List.set_cons_zero, List.set_cons_succ]
    refine sv 10 (.bool true) .of ?_
    simp only [List.set_cons_zero, List.set_cons_succ]
    refine wpList_nil ?_
    refine hK4 _ _ ?_
    refine wp_ret ?_
    (try simp only [Exit.then, Exit.inBlock])
    refine bodyPost_ret (v := .bool true) rT rfl ?_
    exact ⟨rfl, BL.b⟩
  · skip
    have dg19 : decide (300 < ((key.length : Nat) : Int)) = false := decide_eq_false g19
    simp only [dg19]
    clear dg19
    refine sv 19 (v2) .of ?_
    simp only [List.set_cons_zero, List.set_cons_succ]
    refine sv 20 (.int .i64 ((bs.length : Nat) : Int)) (Val.lenS (.tmp 19) 27 rfl (by kernel_rfl) D2 bs.length (nn_len bs) Try.underlying27) ?_
    simp only [List.set_cons_zero, List.set_cons_succ]
    refine sv 21 (.bool (decide (300 < ((bs.length : Nat) : Int)))) (Val.cmp .gtr 3 _ (.tmp 20) _ rfl .i64 ((bs.length : Nat) : Int) 300 (by kernel_rfl) (by kernel_rfl) (by simp) _ rfl) ?_
    simp only [List.set_cons_zero, List.set_cons_succ]
    refine sv 22 (.bool (decide (300 < ((bs.length : Nat) : Int)))) .of ?_
    simp only [List.set_cons_zero, List.set_cons_succ]
    refine wpList_nil ?_
    refine hK3 _ _ ?_
    refine cDec (300 < ((bs.length : Nat) : Int)) (by kernel_rfl) (fun c22 => ?_) (fun c22 => ?_)
    · skip
      refine wp_seq_k fun K5 hK5 => ?_
      refine cPlain ?_
      refine xCall 23 14 #[] (by kernel_rfl) ?_
      refine (awake03_any w1).mono ?_
      rintro en w3 ⟨rfl, hb1⟩
      have e2 := belE0 hb1
      have ze2 := e2.size
      replace BL := BL.e0 e2
      replace D1 := D1.e0 e2
      replace D2 := D2.e0 e2
      have HV : SV w3 (.slice A ys.length C) us := SVx.evB HV e2 w.heap.size hvl (fun i hi => hi.elim)
      have HY : SLxs w.heap.size w3 us ys := SLxs.e0 HY e2
      replace b5 := b5.e0 e2
      clear e2
      refine ⟨.bool true, rfl, ?_⟩
      simp only [List.set_cons_zero, List.set_cons_succ]
      refine sv 10 (.bool true) .of ?_
      simp only [List.set_cons_zero, List.set_cons_succ]
      refine wpList_nil ?_
      refine hK5 _ _ ?_
      refine wp_ret ?_
      (try simp only [Exit.then, Exit.inBlock])
      refine bodyPost_ret (v := .bool true) rT rfl ?_
      exact ⟨rfl, BL.b⟩
    · skip
      refine wp_skip ?_
      refine hK2 _ _ ?_
      refine wp_seq_k fun K6 hK6 => ?_
      refine cPlain ?_
      refine sv 11 (.slice none 0 0) .of ?_
      simp only [List.set_cons_zero, List.set_cons_succ]
      refine wpList_nil ?_
      refine hK6 _ _ ?_
      refine wp_seq_k fun K7 hK7 => ?_
      refine wp_seq_k fun K8 hK8 => ?_
      refine cPlain ?_
      refine sv 12 (.int .i64 0) .of ?_
      simp only [List.set_cons_zero, List.set_cons_succ]
      refine wpList_nil ?_
      refine hK8 _ _ ?_
      refine wp_block ?_
      refine cLoop (fun N_ A_ w_ => ∃ (k : Nat) (u : Value) (us2 : List Value), (N_ = ys.length - k ∧ (k ≤ ys.length) ∧ (k ≤ 6) ∧ (∃ s1 : Nat → Value, A_ = ⟨[.agg (cellsOf .u32 (nn tab)), v1, v2, .int .u8 ((tag : Nat) : Int), .slice A ys.length C, .pointer (some ⟨w.heap.size, 0, none⟩), undef, undef, undef, undef, .bool false, u, .int .i64 ((k : Nat) : Int), undef, undef, v1, .int .i64 ((key.length : Nat) : Int), .bool false, .bool false, v2, .int .i64 ((bs.length : Nat) : Int), .bool (decide (300 < ((bs.length : Nat) : Int))), .bool (decide (300 < ((bs.length : Nat) : Int))), undef, (s1 24), (s1 25), (s1 26), (s1 27), (s1 28), (s1 29), (s1 30), (s1 31), (s1 32), (s1 33), (s1 34), (s1 35), (s1 36), (s1 37), (s1 38), (s1 39), (s1 40), (s1 41), (s1 42), (s1 43), (s1 44), (s1 45), (s1 46), undef, undef, undef, undef, undef, undef, undef, undef, undef, undef, undef, undef, undef, undef, undef, undef, undef, undef, undef, undef, undef, undef, undef, undef, undef, undef, undef, undef, undef, undef, undef, undef, undef, undef, undef, undef, undef, undef, undef, undef, undef, undef, undef, undef, undef, undef, undef, undef, undef, undef, undef, undef].toArray, []⟩) ∧ Bl w.heap.size w w_ ∧ SL .u8 w_ v1 (nn key) ∧ SL .u8 w_ v2 (nn bs) ∧ SV w_ (.slice A ys.length C) us ∧ SLxs w.heap.size w_ us ys ∧ Blk .u32 w_ w.heap.size 26 (nn tab) ∧ OwnV 27 (w.heap.size + 1) w_ u us2 ∧ SLxs w.heap.size w_ us2 (few3L ys k) ∧ w1.heap.size ≤ w_.heap.size)) _ ⟨0, .slice none 0 0, [], rfl, (Nat.zero_le _), (by omega), cutE, BL, D1, D2, HV, HY, b5, (OwnV.nil _ _ _), (by rw [few3L_0]; exact (SLxs.nil _ _)), Nat.le_refl _⟩ ?_
      clear BL D1 D2 HV HY b5
      rintro n_ a_ wl0 ⟨k, u, us2, rfl, hc0_0, hc0_1, ⟨s1, rfl⟩, BL, D1, D2, HV, HY, b5, OV, HF, zl0⟩
      have hu2 := HF.1
      refine wp_seq_k fun K9 hK9 => ?_
      refine wp_seq_k fun K10 hK10 => ?_
      refine cPlain ?_
      refine sv 24 (.int .i64 ((k : Nat) : Int)) .of ?_
      simp only [List.set_cons_zero, List.set_cons_succ]
      refine sv 25 (.slice A ys.length C) .of ?_
      simp only [List.set_cons_zero, List.set_cons_succ]
      refine sv 26 (.int .i64 ((ys.length : Nat) : Int)) .of ?_
      simp only [List.set_cons_zero, List.set_cons_succ]
      refine sv 27 (.bool (decide (((k : Nat) : Int) < ((ys.length : Nat) : Int)))) (Val.cmp .lss 3 _ (.tmp 24) (.tmp 26) rfl .i64 ((k : Nat) : Int) ((ys.length : Nat) : Int) (by kernel_rfl) (by kernel_rfl) (by simp) _ rfl) ?_
      simp only [List.set_cons_zero, List.set_cons_succ]
      refine sv 28 (.bool (decide (((k : Nat) : Int) < ((ys.length : Nat) : Int)))) .of ?_
      simp only [List.set_cons_zero, List.set_cons_succ]
      by_cases g29 : ((k : Nat) : Int) < ((ys.length : Nat) : Int)
      · skip
        have dg29 : decide (((k : Nat) : Int) < ((ys.length : Nat) : Int)) = true := decide_eq_true g29
        simp only [dg29]
        clear dg29
        refine sv 29 (.int .i64 ((k : Nat) : Int)) .of ?_
        simp only [List.set_cons_zero, List.set_cons_succ]
        refine sv 30 (.bool (decide (((k : Nat) : Int) < 6))) (Val.cmp .lss 3 _ (.tmp 29) _ rfl .i64 ((k : Nat) : Int) 6 (by kernel_rfl) (by kernel_rfl) (by simp) _ rfl) ?_
        simp only [List.set_cons_zero, List.set_cons_succ]
        refine sv 31 (.bool (decide (((k : Nat) : Int) < 6))) .of ?_
        simp only [List.set_cons_zero, List.set_cons_succ]
        refine wpList_nil ?_
        refine hK10 _ _ ?_
        refine cDec (((k : Nat) : Int) < 6) (by kernel_rfl) (fun c31 => ?_) (fun c31 => ?_)
        · skip
          refine wp_skip ?_
          refine hK9 _ _ ?_
          refine wp_seq_k fun K11 hK11 => ?_
          refine wp_block ?_
          refine wp_seq_k fun K12 hK12 => ?_
          obtain ⟨Ak, Ck, hk⟩ := (HY.get k (by omega)).form
          refine cPlain ?_
          refine sv 34 (.slice A ys.length C) .of ?_
          simp only [List.set_cons_zero, List.set_cons_succ]
          refine sv 35 (.int .i64 ((k : Nat) : Int)) .of ?_
          simp only [List.set_cons_zero, List.set_cons_succ]
          refine sv 36 (elemP (.slice A ys.length C) k) (Val.idxV 28 (.tmp 34) (.tmp 35) rfl (.slice A ys.length C) k (by kernel_rfl) (by kernel_rfl) HV Try.underlying28 (by kernel_rfl) (by omega)) ?_
          simp only [List.set_cons_zero, List.set_cons_succ]
          refine sv 37 (.slice Ak (ys.getD k []).length Ck) (Val.as (Val.ldV 27 _ rfl (.slice A ys.length C) k (by kernel_rfl) (fun _ => by kernel_rfl) HV (by omega)) hk) ?_
          simp only [List.set_cons_zero, List.set_cons_succ]
          refine sv 38 (.int .i64 (((ys.getD k []).length : Nat) : Int)) .of ?_
          simp only [List.set_cons_zero, List.set_cons_succ]
          refine sv 39 (.bool (decide ((((ys.getD k []).length : Nat) : Int) ≤ 300))) (Val.cmp .leq 3 _ (.tmp 38) _ rfl .i64 (((ys.getD k []).length : Nat) : Int) 300 (by kernel_rfl) (by kernel_rfl) (by simp) _ rfl) ?_
          simp only [List.set_cons_zero, List.set_cons_succ]
          refine wpList_nil ?_
          refine hK12 _ _ ?_
          refine cDec ((((ys.getD k []).length : Nat) : Int) ≤ 300) (by kernel_rfl) (fun c39 => ?_) (fun c39 => ?_)
          · skip
            refine cPlain ?_
            refine sv 40 (u) .of ?_
            simp only [List.set_cons_zero, List.set_cons_succ]
            refine sv 41 (.slice A ys.length C) .of ?_
            simp only [List.set_cons_zero, List.set_cons_succ]
            refine sv 42 (.int .i64 ((k : Nat) : Int)) .of ?_
            simp only [List.set_cons_zero, List.set_cons_succ]
            refine sv 43 (elemP (.slice A ys.length C) k) (Val.idxV 28 (.tmp 41) (.tmp 42) rfl (.slice A ys.length C) k (by kernel_rfl) (by kernel_rfl) HV Try.underlying28 (by kernel_rfl) (by omega)) ?_
            simp only [List.set_cons_zero, List.set_cons_succ]
            refine sv 44 (.slice Ak (ys.getD k []).length Ck) (Val.as (Val.ldV 27 _ rfl (.slice A ys.length C) k (by kernel_rfl) (fun _ => by kernel_rfl) HV (by omega)) hk) ?_
            simp only [List.set_cons_zero, List.set_cons_succ]
            refine xLit 45 28 27 1 _ #[(0, .slice Ak (ys.getD k []).length Ck)] [.slice Ak (ys.getD k []).length Ck] rfl (by kernel_rfl) (by kernel_rfl) ?_
            intro w4 n2
            have zn2 := n2.z
            have b45 := n2.c
            replace BL := BL.e0 n2.e
            replace D1 := D1.e0 n2.e
            replace D2 := D2.e0 n2.e
            have HV : SV w4 (.slice A ys.length C) us := SVx.evB HV n2.e w.heap.size hvl (fun i hi => hi.elim)
            have HY : SLxs w.heap.size w4 us ys := SLxs.e0 HY n2.e
            replace b5 := b5.e0 n2.e
            have OV : OwnV 27 (w.heap.size + 1) w4 u us2 := OwnV.ev OV n2.e (fun _ _ x => x)
            have HF : SLxs w.heap.size w4 us2 (few3L ys k) := SLxs.e0 HF n2.e
            simp only [List.set_cons_zero, List.set_cons_succ]
            refine xAppV 46 (.tmp 40) (.tmp 45) 28 27 (.slice none 0 0) 24 rfl Try.underlying28 info_xsl8 rfl (w.heap.size + 1) u us2 (by kernel_rfl) OV _ [.slice Ak (ys.getD k []).length Ck] (by kernel_rfl) (SV.ofCelM (n := 1) b45 rfl (by unfold maxLen; omega)) (fun y hy => by rw [List.mem_singleton.1 hy]; rfl) (by have := few3L_len ys k; simp only [List.length_cons, List.length_nil]; omega) (by have := few3L_len ys k; simp only [List.length_cons, List.length_nil]; unfold maxLen; omega) (by omega) ?_
            intro v2x w5 hOV hBb
            have e3 := belEv hBb
            have ze3 := e3.size
            have BL_ := BL.ev e3 (fun i h => show w.heap.size ≤ i by have h : (w.heap.size + 1) ≤ i := h; omega)
            have D1_ := D1.ev e3 (fun i hi => show ¬ ((w.heap.size + 1) ≤ i) by have := hd1 i hi; omega)
            have D2_ := D2.ev e3 (fun i hi => show ¬ ((w.heap.size + 1) ≤ i) by have := hd2 i hi; omega)
            have HV : SV w5 (.slice A ys.length C) us := SVx.evB HV e3 w.heap.size hvl (fun i hi => Nat.le_of_succ_le hi)
            have HY : SLxs w.heap.size w5 us ys := SLxs.ev HY e3 (fun i hi => Nat.le_of_succ_le hi)
            have b5_ := b5.ev e3 (show ¬ ((w.heap.size + 1) ≤ w.heap.size) by omega)
            have HF : SLxs w.heap.size w5 us2 (few3L ys k) := SLxs.ev HF e3 (fun i hi => Nat.le_of_succ_le hi)
            replace BL := BL_; clear BL_
            replace D1 := D1_; clear D1_
            replace D2 := D2_; clear D2_
            replace b5 := b5_; clear b5_
            clear e3
            have OV : OwnV 27 (w.heap.size + 1) w5 v2x (us2 ++ [.slice Ak (ys.getD k []).length Ck]) := hOV
            have HF : SLxs w.heap.size w5 (us2 ++ [.slice Ak (ys.getD k []).length Ck]) (few3L ys k ++ [ys.getD k []]) := (SLxs.snoc HF (by have h := HY.low (Nat.le_refl _) k (by omega); rw [hk] at h; exact h))
            simp only [List.set_cons_zero, List.set_cons_succ]
            refine sv 11 (v2x) .of ?_
            simp only [List.set_cons_zero, List.set_cons_succ]
            refine wpList_nil ?_
            refine hK11 _ _ ?_
            refine cPlain ?_
            refine sv 32 (.int .i64 ((k : Nat) : Int)) .of ?_
            simp only [List.set_cons_zero, List.set_cons_succ]
            refine sv 33 (.int .i64 (((k : Nat) : Int) + 1)) (Val.add 3 _ (.tmp 32) _ rfl ((k : Nat) : Int) 1 (by kernel_rfl) (by kernel_rfl) (by omega)) ?_
            simp only [List.set_cons_zero, List.set_cons_succ]
            refine sv 12 (.int .i64 (((k : Nat) : Int) + 1)) .of ?_
            simp only [List.set_cons_zero, List.set_cons_succ]
            refine wpList_nil ?_
            refine ⟨_, ?_, k + 1, v2x, _, rfl, (by omega), (by omega), cutE, BL, D1, D2, HV, HY, b5, OV, (by first | (rw [few3L_yes (by omega) (by omega)]; exact HF) | (rw [few3L_no (by omega) (by omega)]; exact HF)), by omega⟩
            omega
          · skip
            refine wp_skip ?_
            refine hK11 _ _ ?_
            refine cPlain ?_
            refine sv 32 (.int .i64 ((k : Nat) : Int)) .of ?_
            simp only [List.set_cons_zero, List.set_cons_succ]
            refine sv 33 (.int .i64 (((k : Nat) : Int) + 1)) (Val.add 3 _ (.tmp 32) _ rfl ((k : Nat) : Int) 1 (by kernel_rfl) (by kernel_rfl) (by omega)) ?_
            simp only [List.set_cons_zero, List.set_cons_succ]
            refine sv 12 (.int .i64 (((k : Nat) : Int) + 1)) .of ?_
            simp only [List.set_cons_zero, List.set_cons_succ]
            refine wpList_nil ?_
            refine ⟨_, ?_, k + 1, u, _, rfl, (by omega), (by omega), cutE, BL, D1, D2, HV, HY, b5, OV, (by first | (rw [few3L_yes (by omega) (by omega)]; exact HF) | (rw [few3L_no (by omega) (by omega)]; exact HF)), by omega⟩
            omega
        · skip
          refine wp_exit ?_
          simp only [Exit.then, Exit.inBlock, ↓reduceIte, Nat.reduceEqDiff]
          refine hK7 _ _ ?_
          refine wp_seq_k fun K13 hK13 => ?_
          have hfin : few3L ys 6 = few3L ys k := by unfold few3L; first | rw [show k = 6 by omega] | rw [List.take_of_length_le (show ys.length ≤ 6 by omega), List.take_of_length_le (show ys.length ≤ k by omega)]
          have HX : SLxs w.heap.size wl0 us2 ((few3P ps).map nn) := (by rw [← few3P_nn, ← hys, hfin]; exact HF)
          clear HF
          clear HV
          clear HY
          refine cPlain ?_
          refine sv 47 (v1) .of ?_
          simp only [List.set_cons_zero, List.set_cons_succ]
          refine xCall 48 15 #[v1] (by kernel_rfl) ?_
          refine (copyB_any v1 (nn key) wl0 D1 (by rw [nn_len]; omega)).mono ?_
          rintro en w6 ⟨uk, rfl, hO, hb1⟩
          have e4 := belE0 hb1
          have ze4 := e4.size
          replace BL := BL.e0 e4
          replace D1 := D1.e0 e4
          replace D2 := D2.e0 e4
          replace b5 := b5.e0 e4
          have OV : OwnV 27 (w.heap.size + 1) w6 u us2 := OwnV.ev OV e4 (fun _ _ x => x)
          have HX : SLxs w.heap.size w6 us2 ((few3P ps).map nn) := SLxs.e0 HX e4
          clear e4
          have K : Own 5 .u8 wl0.heap.size w6 uk (nn key) := hO
          have lK_1 := K.ge
          refine ⟨uk, rfl, ?_⟩
          simp only [List.set_cons_zero, List.set_cons_succ]
          refine sv 49 (v2) .of ?_
          simp only [List.set_cons_zero, List.set_cons_succ]
          refine xCall 50 15 #[v2] (by kernel_rfl) ?_
          refine (copyB_any v2 (nn bs) w6 D2 (by rw [nn_len]; omega)).mono ?_
          rintro en w7 ⟨ui, rfl, hO, hb1⟩
          have e5 := belE0 hb1
          have ze5 := e5.size
          replace BL := BL.e0 e5
          replace D1 := D1.e0 e5
          replace D2 := D2.e0 e5
          replace b5 := b5.e0 e5
          have OV : OwnV 27 (w.heap.size + 1) w7 u us2 := OwnV.ev OV e5 (fun _ _ x => x)
          have HX : SLxs w.heap.size w7 us2 ((few3P ps).map nn) := SLxs.e0 HX e5
          replace K := K.e0 e5
          clear e5
          have I : Own 5 .u8 w6.heap.size w7 ui (nn bs) := hO
          have lI_1 := I.ge
          refine ⟨ui, rfl, ?_⟩
          simp only [List.set_cons_zero, List.set_cons_succ]
          refine sv 13 (uk) .of ?_
          simp only [List.set_cons_zero, List.set_cons_succ]
          refine sv 14 (ui) .of ?_
          simp only [List.set_cons_zero, List.set_cons_succ]
          refine wpList_nil ?_
          refine hK13 _ _ ?_
          refine wp_seq_k fun K14 hK14 => ?_
          refine wp_seq_k fun K15 hK15 => ?_
          have e6 := drew_e0 w7
          refine zg (fun w_ => Bl w.heap.size w w_ ∧ SL .u8 w_ v1 (nn key) ∧ SL .u8 w_ v2 (nn bs) ∧ Blk .u32 w_ w.heap.size 26 (nn tab) ∧ OwnV 27 (w.heap.size + 1) w_ u us2 ∧ SLxs w.heap.size w_ us2 ((few3P ps).map nn) ∧ Own 5 .u8 wl0.heap.size w_ uk (nn key) ∧ Own 5 .u8 w6.heap.size w_ ui (nn bs) ∧ w7.heap.size ≤ w_.heap.size) (fun w_ => Bl w.heap.size w w_ ∧ SL .u8 w_ v1 (nn key) ∧ SL .u8 w_ v2 (nn bs) ∧ Blk .u32 w_ w.heap.size 26 (nn tab) ∧ OwnV 27 (w.heap.size + 1) w_ u us2 ∧ SLxs w.heap.size w_ us2 ((few3P ps).map nn) ∧ Own 5 .u8 wl0.heap.size w_ uk (nn key) ∧ Own 5 .u8 w6.heap.size w_ ui (nn bs) ∧ w7.heap.size ≤ w_.heap.size) 100000 20 ⟨BL.e0 e6, D1.e0 e6, D2.e0 e6, b5.e0 e6, OwnV.ev OV e6 (fun _ _ x => x), SLxs.e0 HX e6, K.e0 e6, I.e0 e6, Nat.le_refl _⟩ ?_
          clear BL D1 D2 b5 OV HX K I
          clear e6
          intro w8
          rintro ⟨BL, D1, D2, b5, OV, HX, K, I, z1⟩
          refine zv 0 51 (uk) (fun _ _ => .of) ⟨BL, D1, D2, b5, OV, HX, K, I, by omega⟩ ?_
          simp only [List.set_cons_zero, List.set_cons_succ]
          refine zv 1 52 (ui) (fun _ _ => .of) ⟨BL, D1, D2, b5, OV, HX, K, I, by omega⟩ ?_
          simp only [List.set_cons_zero, List.set_cons_succ]
          refine zv 3 54 (.agg (cellsOf .u32 (nn tab))) (fun _ ⟨BL, D1, D2, b5, OV, HX, K, I, z1⟩ => Val.blk 26 _ rfl 0 72 (by kernel_rfl) b5 _ Try.underlying26 rfl (by kernel_rfl) (by (try simp only [nn_len, List.length_cons, List.length_nil, List.length_set, List.length_replicate]); try omega) _ (seg_all' _ (by (try simp only [nn_len, List.length_cons, List.length_nil, List.length_set, List.length_replicate]); try omega))) ⟨BL, D1, D2, b5, OV, HX, K, I, by omega⟩ ?_
          simp only [List.set_cons_zero, List.set_cons_succ]
          refine zv 4 55 (v1) (fun _ _ => .of) ⟨BL, D1, D2, b5, OV, HX, K, I, by omega⟩ ?_
          simp only [List.set_cons_zero, List.set_cons_succ]
          refine zv 5 56 (v2) (fun _ _ => .of) ⟨BL, D1, D2, b5, OV, HX, K, I, by omega⟩ ?_
          simp only [List.set_cons_zero, List.set_cons_succ]
          refine zo1 2 rfl ?_
          refine xCall 53 16 #[.pointer (some ⟨w.heap.size, 0, none⟩), uk, ui] (by kernel_rfl) ?_
          refine (mac_any w.heap.size tab ht w8 b5 key bs uk ui K.sl (by omega) I.sl (by omega)).mono ?_
          rintro en w9 ⟨rfl, hb1⟩
          have e7 := belE0 hb1
          have ze7 := e7.size
          replace BL := BL.e0 e7
          replace D1 := D1.e0 e7
          replace D2 := D2.e0 e7
          replace b5 := b5.e0 e7
          have OV : OwnV 27 (w.heap.size + 1) w9 u us2 := OwnV.ev OV e7 (fun _ _ x => x)
          have HX : SLxs w.heap.size w9 us2 ((few3P ps).map nn) := SLxs.e0 HX e7
          replace K := K.e0 e7
          replace I := I.e0 e7
          clear e7
          refine ⟨.agg (cellsOf .u8 (nn (macN tab key bs))), rfl, ?_⟩
          refine ze 2 ⟨BL, D1, D2, b5, OV, HX, K, I, by omega⟩ ?_
          simp only [List.set_cons_zero, List.set_cons_succ]
          refine zo1 6 rfl ?_
          refine xCall 57 17 #[.agg (cellsOf .u32 (nn tab)), v1, v2] (by kernel_rfl) ?_
          refine (rmac_any tab ht h32 w9 key bs v1 v2 hk8 hb8 D1 (by omega) D2 (by omega)).mono ?_
          rintro en w10 ⟨rfl, hb1⟩
          have e8 := belE0 hb1
          have ze8 := e8.size
          replace BL := BL.e0 e8
          replace D1 := D1.e0 e8
          replace D2 := D2.e0 e8
          replace b5 := b5.e0 e8
          have OV : OwnV 27 (w.heap.size + 1) w10 u us2 := OwnV.ev OV e8 (fun _ _ x => x)
          have HX : SLxs w.heap.size w10 us2 ((few3P ps).map nn) := SLxs.e0 HX e8
          replace K := K.e0 e8
          replace I := I.e0 e8
          clear e8
          refine ⟨.agg (cellsOf .u8 (nn (macN tab key bs))), rfl, ?_⟩
          refine ze 6 ⟨BL, D1, D2, b5, OV, HX, K, I, by omega⟩ ?_
          simp only [List.set_cons_zero, List.set_cons_succ]
          refine zv 7 58 (.bool false) (fun _ ⟨BL, D1, D2, b5, OV, HX, K, I, z1⟩ => Val.eqA .neq 32 _ (.tmp 53) (.tmp 57) rfl Try.underlying32 Try.underlying5 (by kernel_rfl) (by kernel_rfl) (nn (macN tab key bs)) (nn (macN tab key bs)) (by kernel_rfl) (by kernel_rfl) (by rw [nn_len]; exact hml) (by rw [nn_len]; exact hml) (.inr rfl) false (by simp)) ⟨BL, D1, D2, b5, OV, HX, K, I, by omega⟩ ?_
          simp only [List.set_cons_zero, List.set_cons_succ]
          refine zv 8 59 (.bool false) (fun _ _ => .of) ⟨BL, D1, D2, b5, OV, HX, K, I, by omega⟩ ?_
          simp only [List.set_cons_zero, List.set_cons_succ]
          refine zv 9 60 (uk) (fun _ _ => .of) ⟨BL, D1, D2, b5, OV, HX, K, I, by omega⟩ ?_
          simp only [List.set_cons_zero, List.set_cons_succ]
          refine zv 10 61 (v1) (fun _ _ => .of) ⟨BL, D1, D2, b5, OV, HX, K, I, by omega⟩ ?_
          simp only [List.set_cons_zero, List.set_cons_succ]
          refine zo1 11 rfl ?_
          refine xCall 62 18 #[uk, v1] (by kernel_rfl) ?_
          refine (same_any _ _ (nn (key)) (nn (key)) w10 K.sl D1 (bytes_nn hk8) (bytes_nn hk8)).mono ?_
          rintro en w11 ⟨he, hw⟩
          rw [decide_eq_true rfl] at he
          subst he
          obtain rfl := (hw.symm).symm
          refine ⟨.bool true, rfl, ?_⟩
          refine ze 11 ⟨BL, D1, D2, b5, OV, HX, K, I, by omega⟩ ?_
          simp only [List.set_cons_zero, List.set_cons_succ]
          refine zv 12 63 (.bool false) (fun _ _ => .of) ⟨BL, D1, D2, b5, OV, HX, K, I, by omega⟩ ?_
          simp only [List.set_cons_zero, List.set_cons_succ]
          refine zv 13 64 (.bool false) (fun _ _ => .of) ⟨BL, D1, D2, b5, OV, HX, K, I, by omega⟩ ?_
          simp only [List.set_cons_zero, List.set_cons_succ]
          refine zv 14 65 (.bool false) (fun _ _ => .of) ⟨BL, D1, D2, b5, OV, HX, K, I, by omega⟩ ?_
          simp only [List.set_cons_zero, List.set_cons_succ]
          refine zv 15 66 (ui) (fun _ _ => .of) ⟨BL, D1, D2, b5, OV, HX, K, I, by omega⟩ ?_
          simp only [List.set_cons_zero, List.set_cons_succ]
          refine zv 16 67 (v2) (fun _ _ => .of) ⟨BL, D1, D2, b5, OV, HX, K, I, by omega⟩ ?_
          simp only [List.set_cons_zero, List.set_cons_succ]
          refine zo1 17 rfl ?_
          refine xCall 68 18 #[ui, v2] (by kernel_rfl) ?_
          refine (same_any _ _ (nn (bs)) (nn (bs)) w10 I.sl D2 (bytes_nn hb8) (bytes_nn hb8)).mono ?_
          rintro en w12 ⟨he, hw⟩
          rw [decide_eq_true rfl] at he
          subst he
          obtain rfl := (hw.symm).symm
          refine ⟨.bool true, rfl, ?_⟩
          refine ze 17 ⟨BL, D1, D2, b5, OV, HX, K, I, by omega⟩ ?_
          simp only [List.set_cons_zero, List.set_cons_succ]
          refine zv 18 69 (.bool false) (fun _ _ => .of) ⟨BL, D1, D2, b5, OV, HX, K, I, by omega⟩ ?_
          simp only [List.set_cons_zero, List.set_cons_succ]
          refine zv 19 70 (.bool false) (fun _ _ => .of) ⟨BL, D1, D2, b5, OV, HX, K, I, by omega⟩ ?_
          simp only [List.set_cons_zero, List.set_cons_succ]
          refine zd (by kernel_rfl) ?_ _
          refine hK15 _ _ ?_
          refine cF ?_
          refine wp_skip ?_
          refine hK14 _ _ ?_
          refine wp_seq_k fun K16 hK16 => ?_
          refine wp_seq_k fun K17 hK17 => ?_
          have e9 := drew_e0 w10
          refine zg (fun w_ => Bl w.heap.size w w_ ∧ SL .u8 w_ v1 (nn key) ∧ SL .u8 w_ v2 (nn bs) ∧ Blk .u32 w_ w.heap.size 26 (nn tab) ∧ OwnV 27 (w.heap.size + 1) w_ u us2 ∧ SLxs w.heap.size w_ us2 ((few3P ps).map nn) ∧ Own 5 .u8 wl0.heap.size w_ uk (nn key) ∧ Own 5 .u8 w6.heap.size w_ ui (nn bs) ∧ w10.heap.size ≤ w_.heap.size) (fun w_ => Bl w.heap.size w w_ ∧ SL .u8 w_ v1 (nn key) ∧ SL .u8 w_ v2 (nn bs) ∧ Blk .u32 w_ w.heap.size 26 (nn tab) ∧ OwnV 27 (w.heap.size + 1) w_ u us2 ∧ SLxs w.heap.size w_ us2 ((few3P ps).map nn) ∧ Own 5 .u8 wl0.heap.size w_ uk (nn key) ∧ Own 5 .u8 w6.heap.size w_ ui (nn bs) ∧ w10.heap.size ≤ w_.heap.size) 100000 18 ⟨BL.e0 e9, D1.e0 e9, D2.e0 e9, b5.e0 e9, OwnV.ev OV e9 (fun _ _ x => x), SLxs.e0 HX e9, K.e0 e9, I.e0 e9, Nat.le_refl _⟩ ?_
          clear BL D1 D2 b5 OV HX K I
          clear e9
          intro w13
          rintro ⟨BL, D1, D2, b5, OV, HX, K, I, z2⟩
          refine zv 0 71 (.int .u8 ((tag : Nat) : Int)) (fun _ _ => .of) ⟨BL, D1, D2, b5, OV, HX, K, I, by omega⟩ ?_
          simp only [List.set_cons_zero, List.set_cons_succ]
          refine zv 1 72 (u) (fun _ _ => .of) ⟨BL, D1, D2, b5, OV, HX, K, I, by omega⟩ ?_
          simp only [List.set_cons_zero, List.set_cons_succ]
          refine zv 3 74 (.int .u8 ((tag : Nat) : Int)) (fun _ _ => .of) ⟨BL, D1, D2, b5, OV, HX, K, I, by omega⟩ ?_
          simp only [List.set_cons_zero, List.set_cons_succ]
          refine zv 4 75 (u) (fun _ _ => .of) ⟨BL, D1, D2, b5, OV, HX, K, I, by omega⟩ ?_
          simp only [List.set_cons_zero, List.set_cons_succ]
          refine zo1 2 rfl ?_
          refine xCall 73 19 #[.int .u8 ((tag : Nat) : Int), u] (by kernel_rfl) ?_
          refine (mactextx_any ((tag : Nat) : Int) u us2 ((few3P ps).map nn) w13 OV.sv w.heap.size (by omega) HX (by omega) hp').mono ?_
          rintro en w14 ⟨ut, rfl, hO, hb1⟩
          rw [← textN_nn] at hO
          have e10 := belE0 hb1
          have ze10 := e10.size
          replace BL := BL.e0 e10
          replace D1 := D1.e0 e10
          replace D2 := D2.e0 e10
          replace b5 := b5.e0 e10
          have OV : OwnV 27 (w.heap.size + 1) w14 u us2 := OwnV.ev OV e10 (fun _ _ x => x)
          have HX : SLxs w.heap.size w14 us2 ((few3P ps).map nn) := SLxs.e0 HX e10
          replace K := K.e0 e10
          replace I := I.e0 e10
          clear e10
          have U : Own 5 .u8 w13.heap.size w14 ut (nn (textN tag (few3P ps))) := hO
          have lU_1 := U.ge
          refine ⟨ut, rfl, ?_⟩
          refine ze 2 ⟨BL, D1, D2, b5, OV, HX, K, I, by omega⟩ ?_
          simp only [List.set_cons_zero, List.set_cons_succ]
          refine zo1 5 rfl ?_
          refine xCall 76 20 #[.int .u8 ((tag : Nat) : Int), u] (by kernel_rfl) ?_
          refine (rtextx_any tag htag u us2 (few3P ps) w.heap.size w14 (by omega) OV.sv HX (fun p hp => Nat.le_trans (few3P_le p hp) (by omega)) (by omega)).mono ?_
          rintro en w15 ⟨ur, rfl, hS, hb1⟩
          have hsl := hS.lt
          have e11 := belE0 hb1
          have ze11 := e11.size
          replace BL := BL.e0 e11
          replace D1 := D1.e0 e11
          replace D2 := D2.e0 e11
          replace b5 := b5.e0 e11
          have OV : OwnV 27 (w.heap.size + 1) w15 u us2 := OwnV.ev OV e11 (fun _ _ x => x)
          have HX : SLxs w.heap.size w15 us2 ((few3P ps).map nn) := SLxs.e0 HX e11
          replace K := K.e0 e11
          replace I := I.e0 e11
          replace U := U.e0 e11
          clear e11
          have S : SL .u8 w15 ur (nn (textN tag (few3P ps))) := hS
          refine ⟨ur, rfl, ?_⟩
          refine ze 5 ⟨BL, D1, D2, b5, OV, HX, K, I, by omega⟩ ?_
          simp only [List.set_cons_zero, List.set_cons_succ]
          refine zo1 6 rfl ?_
          refine xCall 77 18 #[ut, ur] (by kernel_rfl) ?_
          refine (same_any _ _ (nn (textN tag (few3P ps))) (nn (textN tag (few3P ps))) w15 U.sl S (bytes_nn hx8) (bytes_nn hx8)).mono ?_
          rintro en w16 ⟨he, hw⟩
          rw [decide_eq_true rfl] at he
          subst he
          obtain rfl := (hw.symm).symm
          refine ⟨.bool true, rfl, ?_⟩
          refine ze 6 ⟨BL, D1, D2, b5, OV, HX, K, I, by omega⟩ ?_
          simp only [List.set_cons_zero, List.set_cons_succ]
          refine zv 7 78 (.bool false) (fun _ _ => .of) ⟨BL, D1, D2, b5, OV, HX, K, I, by omega⟩ ?_
          simp only [List.set_cons_zero, List.set_cons_succ]
          refine zv 8 79 (.bool false) (fun _ _ => .of) ⟨BL, D1, D2, b5, OV, HX, K, I, by omega⟩ ?_
          simp only [List.set_cons_zero, List.set_cons_succ]
          refine zv 9 80 (.int .u8 ((tag : Nat) : Int)) (fun _ _ => .of) ⟨BL, D1, D2, b5, OV, HX, K, I, by omega⟩ ?_
          simp only [List.set_cons_zero, List.set_cons_succ]
          refine zv 10 81 (u) (fun _ _ => .of) ⟨BL, D1, D2, b5, OV, HX, K, I, by omega⟩ ?_
          simp only [List.set_cons_zero, List.set_cons_succ]
          refine zv 12 83 (.agg (cellsOf .u32 (nn tab))) (fun _ ⟨BL, D1, D2, b5, OV, HX, K, I, z2⟩ => Val.blk 26 _ rfl 0 72 (by kernel_rfl) b5 _ Try.underlying26 rfl (by kernel_rfl) (by (try simp only [nn_len, List.length_cons, List.length_nil, List.length_set, List.length_replicate]); try omega) _ (seg_all' _ (by (try simp only [nn_len, List.length_cons, List.length_nil, List.length_set, List.length_replicate]); try omega))) ⟨BL, D1, D2, b5, OV, HX, K, I, by omega⟩ ?_
          simp only [List.set_cons_zero, List.set_cons_succ]
          refine zv 13 84 (.int .u8 ((tag : Nat) : Int)) (fun _ _ => .of) ⟨BL, D1, D2, b5, OV, HX, K, I, by omega⟩ ?_
          simp only [List.set_cons_zero, List.set_cons_succ]
          refine zv 14 85 (u) (fun _ _ => .of) ⟨BL, D1, D2, b5, OV, HX, K, I, by omega⟩ ?_
          simp only [List.set_cons_zero, List.set_cons_succ]
          refine zo1 11 rfl ?_
          refine xCall 82 21 #[.pointer (some ⟨w.heap.size, 0, none⟩), .int .u8 ((tag : Nat) : Int), u] (by kernel_rfl) ?_
          refine (taggedx_any w.heap.size tab ht w15 b5 tag u us2 (few3P ps) w.heap.size (by omega) OV.sv HX (by omega) (fun p hp => Nat.le_trans (few3P_le p hp) (by omega)) (by omega)).mono ?_
          rintro en w17 ⟨rfl, hb1⟩
          have e12 := belE0 hb1
          have ze12 := e12.size
          replace BL := BL.e0 e12
          replace D1 := D1.e0 e12
          replace D2 := D2.e0 e12
          replace b5 := b5.e0 e12
          have OV : OwnV 27 (w.heap.size + 1) w17 u us2 := OwnV.ev OV e12 (fun _ _ x => x)
          have HX : SLxs w.heap.size w17 us2 ((few3P ps).map nn) := SLxs.e0 HX e12
          replace K := K.e0 e12
          replace I := I.e0 e12
          replace U := U.e0 e12
          replace S := S.e0 e12
          clear e12
          refine ⟨.agg (cellsOf .u8 (nn (taggedN tab tag (few3P ps)))), rfl, ?_⟩
          refine ze 11 ⟨BL, D1, D2, b5, OV, HX, K, I, by omega⟩ ?_
          simp only [List.set_cons_zero, List.set_cons_succ]
          refine zo1 15 rfl ?_
          refine xCall 86 22 #[.agg (cellsOf .u32 (nn tab)), .int .u8 ((tag : Nat) : Int), u] (by kernel_rfl) ?_
          refine (rtaggedx_any tab ht h32 w17 tag htag u us2 (few3P ps) w.heap.size (by omega) OV.sv HX (fun p hp => Nat.le_trans (few3P_le p hp) (by omega)) (by omega) (few3P_b hp8)).mono ?_
          rintro en w18 ⟨rfl, hb1⟩
          have e13 := belE0 hb1
          have ze13 := e13.size
          replace BL := BL.e0 e13
          replace D1 := D1.e0 e13
          replace D2 := D2.e0 e13
          replace b5 := b5.e0 e13
          have OV : OwnV 27 (w.heap.size + 1) w18 u us2 := OwnV.ev OV e13 (fun _ _ x => x)
          have HX : SLxs w.heap.size w18 us2 ((few3P ps).map nn) := SLxs.e0 HX e13
          replace K := K.e0 e13
          replace I := I.e0 e13
          replace U := U.e0 e13
          replace S := S.e0 e13
          clear e13
          refine ⟨.agg (cellsOf .u8 (nn (taggedN tab tag (few3P ps)))), rfl, ?_⟩
          refine ze 15 ⟨BL, D1, D2, b5, OV, HX, K, I, by omega⟩ ?_
          simp only [List.set_cons_zero, List.set_cons_succ]
          refine zv 16 87 (.bool false) (fun _ ⟨BL, D1, D2, b5, OV, HX, K, I, z2⟩ => Val.eqA .neq 32 _ (.tmp 82) (.tmp 86) rfl Try.underlying32 Try.underlying5 (by kernel_rfl) (by kernel_rfl) (nn (taggedN tab tag (few3P ps))) (nn (taggedN tab tag (few3P ps))) (by kernel_rfl) (by kernel_rfl) (by rw [nn_len]; exact htd) (by rw [nn_len]; exact htd) (.inr rfl) false (by simp)) ⟨BL, D1, D2, b5, OV, HX, K, I, by omega⟩ ?_
          simp only [List.set_cons_zero, List.set_cons_succ]
          refine zv 17 88 (.bool false) (fun _ _ => .of) ⟨BL, D1, D2, b5, OV, HX, K, I, by omega⟩ ?_
          simp only [List.set_cons_zero, List.set_cons_succ]
          refine zd (by kernel_rfl) ?_ _
          refine hK17 _ _ ?_
          refine cF ?_
          refine wp_skip ?_
          refine hK16 _ _ ?_
          refine wp_seq_k fun K18 hK18 => ?_
          refine cPlain ?_
          refine sv 89 (v1) .of ?_
          simp only [List.set_cons_zero, List.set_cons_succ]
          refine sv 90 (v2) .of ?_
          simp only [List.set_cons_zero, List.set_cons_succ]
          refine xCall 91 23 #[v1, v2] (by kernel_rfl) ?_
          refine (macsame_any v1 v2 key bs w18 D1 D2 hk8 hb8 (by omega) (by omega)).mono ?_
          rintro en w19 ⟨rfl, hb1⟩
          have e14 := belE0 hb1
          have ze14 := e14.size
          replace BL := BL.e0 e14
          replace D1 := D1.e0 e14
          replace D2 := D2.e0 e14
          replace b5 := b5.e0 e14
          have OV : OwnV 27 (w.heap.size + 1) w19 u us2 := OwnV.ev OV e14 (fun _ _ x => x)
          have HX : SLxs w.heap.size w19 us2 ((few3P ps).map nn) := SLxs.e0 HX e14
          replace K := K.e0 e14
          replace I := I.e0 e14
          replace U := U.e0 e14
          replace S := S.e0 e14
          clear e14
          refine ⟨.bool (decide (key = bs)), rfl, ?_⟩
          simp only [List.set_cons_zero, List.set_cons_succ]
          refine sv 92 (v1) .of ?_
          simp only [List.set_cons_zero, List.set_cons_succ]
          refine sv 93 (v2) .of ?_
          simp only [List.set_cons_zero, List.set_cons_succ]
          refine xCall 94 18 #[v1, v2] (by kernel_rfl) ?_
          refine (same_any v1 v2 (nn key) (nn bs) w19 D1 D2 (bytes_nn hk8) (bytes_nn hb8)).mono ?_
          rintro en w20 ⟨he, hw⟩
          rw [show decide (nn key = nn bs) = decide (key = bs) from decide_eq_decide.2 ⟨nn_inj, congrArg nn⟩] at he
          subst he
          obtain rfl := (hw.symm).symm
          refine ⟨.bool (decide (key = bs)), rfl, ?_⟩
          simp only [List.set_cons_zero, List.set_cons_succ]
          refine sv 95 (.bool true) (Val.bools .eql 4 _ _ _ rfl Try.underlying4 (decide (key = bs)) (decide (key = bs)) (by kernel_rfl) (by kernel_rfl) (.inl rfl) true (by simp)) ?_
          simp only [List.set_cons_zero, List.set_cons_succ]
          refine sv 96 (.bool true) .of ?_
          simp only [List.set_cons_zero, List.set_cons_succ]
          refine xCall 97 14 #[] (by kernel_rfl) ?_
          refine (awake03_any w19).mono ?_
          rintro en w21 ⟨rfl, hb1⟩
          have e15 := belE0 hb1
          have ze15 := e15.size
          replace BL := BL.e0 e15
          replace D1 := D1.e0 e15
          replace D2 := D2.e0 e15
          replace b5 := b5.e0 e15
          have OV : OwnV 27 (w.heap.size + 1) w21 u us2 := OwnV.ev OV e15 (fun _ _ x => x)
          have HX : SLxs w.heap.size w21 us2 ((few3P ps).map nn) := SLxs.e0 HX e15
          replace K := K.e0 e15
          replace I := I.e0 e15
          replace U := U.e0 e15
          replace S := S.e0 e15
          clear e15
          refine ⟨.bool true, rfl, ?_⟩
          simp only [List.set_cons_zero, List.set_cons_succ]
          refine sv 98 (.bool true) .of ?_
          simp only [List.set_cons_zero, List.set_cons_succ]
          refine sv 10 (.bool true) .of ?_
          simp only [List.set_cons_zero, List.set_cons_succ]
          refine wpList_nil ?_
          refine hK18 _ _ ?_
          refine wp_ret ?_
          (try simp only [Exit.then, Exit.inBlock])
          refine bodyPost_ret (v := .bool true) rT rfl ?_
          exact ⟨rfl, BL.b⟩
      · skip
        have dg29 : decide (((k : Nat) : Int) < ((ys.length : Nat) : Int)) = false := decide_eq_false g29
        simp only [dg29]
        clear dg29
        refine xSkip 29 ?_
        simp only [List.set_cons_zero, List.set_cons_succ]
        refine xSkip 30 ?_
        simp only [List.set_cons_zero, List.set_cons_succ]
        refine sv 31 (.bool false) .of ?_
        simp only [List.set_cons_zero, List.set_cons_succ]
        refine wpList_nil ?_
        refine hK10 _ _ ?_
        refine cF ?_
        refine wp_exit ?_
        simp only [Exit.then, Exit.inBlock, ↓reduceIte, Nat.reduceEqDiff]
        refine hK7 _ _ ?_
        refine wp_seq_k fun K19 hK19 => ?_
        have hfin : few3L ys 6 = few3L ys k := by unfold few3L; first | rw [show k = 6 by omega] | rw [List.take_of_length_le (show ys.length ≤ 6 by omega), List.take_of_length_le (show ys.length ≤ k by omega)]
        have HX : SLxs w.heap.size wl0 us2 ((few3P ps).map nn) := (by rw [← few3P_nn, ← hys, hfin]; exact HF)
        clear HF
        clear HV
        clear HY
        refine cPlain ?_
        refine sv 47 (v1) .of ?_
        simp only [List.set_cons_zero, List.set_cons_succ]
        refine xCall 48 15 #[v1] (by kernel_rfl) ?_
        refine (copyB_any v1 (nn key) wl0 D1 (by rw [nn_len]; omega)).mono ?_
        rintro en w22 ⟨uk, rfl, hO, hb1⟩
        have e16 := belE0 hb1
        have ze16 := e16.size
        replace BL := BL.e0 e16
        replace D1 := D1.e0 e16
        replace D2 := D2.e0 e16
        replace b5 := b5.e0 e16
        have OV : OwnV 27 (w.heap.size + 1) w22 u us2 := OwnV.ev OV e16 (fun _ _ x => x)
        have HX : SLxs w.heap.size w22 us2 ((few3P ps).map nn) := SLxs.e0 HX e16
        clear e16
        have K : Own 5 .u8 wl0.heap.size w22 uk (nn key) := hO
        have lK_2 := K.ge
        refine ⟨uk, rfl, ?_⟩
        simp only [List.set_cons_zero, List.set_cons_succ]
        refine sv 49 (v2) .of ?_
        simp only [List.set_cons_zero, List.set_cons_succ]
        refine xCall 50 15 #[v2] (by kernel_rfl) ?_
        refine (copyB_any v2 (nn bs) w22 D2 (by rw [nn_len]; omega)).mono ?_
        rintro en w23 ⟨ui, rfl, hO, hb1⟩
        have e17 := belE0 hb1
        have ze17 := e17.size
        replace BL := BL.e0 e17
        replace D1 := D1.e0 e17
        replace D2 := D2.e0 e17
        replace b5 := b5.e0 e17
        have OV : OwnV 27 (w.heap.size + 1) w23 u us2 := OwnV.ev OV e17 (fun _ _ x => x)
        have HX : SLxs w.heap.size w23 us2 ((few3P ps).map nn) := SLxs.e0 HX e17
        replace K := K.e0 e17
        clear e17
        have I : Own 5 .u8 w22.heap.size w23 ui (nn bs) := hO
        have lI_2 := I.ge
        refine ⟨ui, rfl, ?_⟩
        simp only [List.set_cons_zero, List.set_cons_succ]
        refine sv 13 (uk) .of ?_
        simp only [List.set_cons_zero, List.set_cons_succ]
        refine sv 14 (ui) .of ?_
        simp only [List.set_cons_zero, List.set_cons_succ]
        refine wpList_nil ?_
        refine hK19 _ _ ?_
        refine wp_seq_k fun K20 hK20 => ?_
        refine wp_seq_k fun K21 hK21 => ?_
        have e18 := drew_e0 w23
        refine zg (fun w_ => Bl w.heap.size w w_ ∧ SL .u8 w_ v1 (nn key) ∧ SL .u8 w_ v2 (nn bs) ∧ Blk .u32 w_ w.heap.size 26 (nn tab) ∧ OwnV 27 (w.heap.size + 1) w_ u us2 ∧ SLxs w.heap.size w_ us2 ((few3P ps).map nn) ∧ Own 5 .u8 wl0.heap.size w_ uk (nn key) ∧ Own 5 .u8 w22.heap.size w_ ui (nn bs) ∧ w23.heap.size ≤ w_.heap.size) (fun w_ => Bl w.heap.size w w_ ∧ SL .u8 w_ v1 (nn key) ∧ SL .u8 w_ v2 (nn bs) ∧ Blk .u32 w_ w.heap.size 26 (nn tab) ∧ OwnV 27 (w.heap.size + 1) w_ u us2 ∧ SLxs w.heap.size w_ us2 ((few3P ps).map nn) ∧ Own 5 .u8 wl0.heap.size w_ uk (nn key) ∧ Own 5 .u8 w22.heap.size w_ ui (nn bs) ∧ w23.heap.size ≤ w_.heap.size) 100000 20 ⟨BL.e0 e18, D1.e0 e18, D2.e0 e18, b5.e0 e18, OwnV.ev OV e18 (fun _ _ x => x), SLxs.e0 HX e18, K.e0 e18, I.e0 e18, Nat.le_refl _⟩ ?_
        clear BL D1 D2 b5 OV HX K I
        clear e18
        intro w24
        rintro ⟨BL, D1, D2, b5, OV, HX, K, I, z3⟩
        refine zv 0 51 (uk) (fun _ _ => .of) ⟨BL, D1, D2, b5, OV, HX, K, I, by omega⟩ ?_
        simp only [List.set_cons_zero, List.set_cons_succ]
        refine zv 1 52 (ui) (fun _ _ => .of) ⟨BL, D1, D2, b5, OV, HX, K, I, by omega⟩ ?_
        simp only [List.set_cons_zero, List.set_cons_succ]
        refine zv 3 54 (.agg (cellsOf .u32 (nn tab))) (fun _ ⟨BL, D1, D2, b5, OV, HX, K, I, z3⟩ => Val.blk 26 _ rfl 0 72 (by kernel_rfl) b5 _ Try.underlying26 rfl (by kernel_rfl) (by (try simp only [nn_len, List.length_cons, List.length_nil, List.length_set, List.length_replicate]); try omega) _ (seg_all' _ (by (try simp only [nn_len, List.length_cons, List.length_nil, List.length_set, List.length_replicate]); try omega))) ⟨BL, D1, D2, b5, OV, HX, K, I, by omega⟩ ?_
        simp only [List.set_cons_zero, List.set_cons_succ]
        refine zv 4 55 (v1) (fun _ _ => .of) ⟨BL, D1, D2, b5, OV, HX, K, I, by omega⟩ ?_
        simp only [List.set_cons_zero, List.set_cons_succ]
        refine zv 5 56 (v2) (fun _ _ => .of) ⟨BL, D1, D2, b5, OV, HX, K, I, by omega⟩ ?_
        simp only [List.set_cons_zero, List.set_cons_succ]
        refine zo1 2 rfl ?_
        refine xCall 53 16 #[.pointer (some ⟨w.heap.size, 0, none⟩), uk, ui] (by kernel_rfl) ?_
        refine (mac_any w.heap.size tab ht w24 b5 key bs uk ui K.sl (by omega) I.sl (by omega)).mono ?_
        rintro en w25 ⟨rfl, hb1⟩
        have e19 := belE0 hb1
        have ze19 := e19.size
        replace BL := BL.e0 e19
        replace D1 := D1.e0 e19
        replace D2 := D2.e0 e19
        replace b5 := b5.e0 e19
        have OV : OwnV 27 (w.heap.size + 1) w25 u us2 := OwnV.ev OV e19 (fun _ _ x => x)
        have HX : SLxs w.heap.size w25 us2 ((few3P ps).map nn) := SLxs.e0 HX e19
        replace K := K.e0 e19
        replace I := I.e0 e19
        clear e19
        refine ⟨.agg (cellsOf .u8 (nn (macN tab key bs))), rfl, ?_⟩
        refine ze 2 ⟨BL, D1, D2, b5, OV, HX, K, I, by omega⟩ ?_
        simp only [List.set_cons_zero, List.set_cons_succ]
        refine zo1 6 rfl ?_
        refine xCall 57 17 #[.agg (cellsOf .u32 (nn tab)), v1, v2] (by kernel_rfl) ?_
        refine (rmac_any tab ht h32 w25 key bs v1 v2 hk8 hb8 D1 (by omega) D2 (by omega)).mono ?_
        rintro en w26 ⟨rfl, hb1⟩
        have e20 := belE0 hb1
        have ze20 := e20.size
        replace BL := BL.e0 e20
        replace D1 := D1.e0 e20
        replace D2 := D2.e0 e20
        replace b5 := b5.e0 e20
        have OV : OwnV 27 (w.heap.size + 1) w26 u us2 := OwnV.ev OV e20 (fun _ _ x => x)
        have HX : SLxs w.heap.size w26 us2 ((few3P ps).map nn) := SLxs.e0 HX e20
        replace K := K.e0 e20
        replace I := I.e0 e20
        clear e20
        refine ⟨.agg (cellsOf .u8 (nn (macN tab key bs))), rfl, ?_⟩
        refine ze 6 ⟨BL, D1, D2, b5, OV, HX, K, I, by omega⟩ ?_
        simp only [List.set_cons_zero, List.set_cons_succ]
        refine zv 7 58 (.bool false) (fun _ ⟨BL, D1, D2, b5, OV, HX, K, I, z3⟩ => Val.eqA .neq 32 _ (.tmp 53) (.tmp 57) rfl Try.underlying32 Try.underlying5 (by kernel_rfl) (by kernel_rfl) (nn (macN tab key bs)) (nn (macN tab key bs)) (by kernel_rfl) (by kernel_rfl) (by rw [nn_len]; exact hml) (by rw [nn_len]; exact hml) (.inr rfl) false (by simp)) ⟨BL, D1, D2, b5, OV, HX, K, I, by omega⟩ ?_
        simp only [List.set_cons_zero, List.set_cons_succ]
        refine zv 8 59 (.bool false) (fun _ _ => .of) ⟨BL, D1, D2, b5, OV, HX, K, I, by omega⟩ ?_
        simp only [List.set_cons_zero, List.set_cons_succ]
        refine zv 9 60 (uk) (fun _ _ => .of) ⟨BL, D1, D2, b5, OV, HX, K, I, by omega⟩ ?_
        simp only [List.set_cons_zero, List.set_cons_succ]
        refine zv 10 61 (v1) (fun _ _ => .of) ⟨BL, D1, D2, b5, OV, HX, K, I, by omega⟩ ?_
        simp only [List.set_cons_zero, List.set_cons_succ]
        refine zo1 11 rfl ?_
        refine xCall 62 18 #[uk, v1] (by kernel_rfl) ?_
        refine (same_any _ _ (nn (key)) (nn (key)) w26 K.sl D1 (bytes_nn hk8) (bytes_nn hk8)).mono ?_
        rintro en w27 ⟨he, hw⟩
        rw [decide_eq_true rfl] at he
        subst he
        obtain rfl := (hw.symm).symm
        refine ⟨.bool true, rfl, ?_⟩
        refine ze 11 ⟨BL, D1, D2, b5, OV, HX, K, I, by omega⟩ ?_
        simp only [List.set_cons_zero, List.set_cons_succ]
        refine zv 12 63 (.bool false) (fun _ _ => .of) ⟨BL, D1, D2, b5, OV, HX, K, I, by omega⟩ ?_
        simp only [List.set_cons_zero, List.set_cons_succ]
        refine zv 13 64 (.bool false) (fun _ _ => .of) ⟨BL, D1, D2, b5, OV, HX, K, I, by omega⟩ ?_
        simp only [List.set_cons_zero, List.set_cons_succ]
        refine zv 14 65 (.bool false) (fun _ _ => .of) ⟨BL, D1, D2, b5, OV, HX, K, I, by omega⟩ ?_
        simp only [List.set_cons_zero, List.set_cons_succ]
        refine zv 15 66 (ui) (fun _ _ => .of) ⟨BL, D1, D2, b5, OV, HX, K, I, by omega⟩ ?_
        simp only [List.set_cons_zero, List.set_cons_succ]
        refine zv 16 67 (v2) (fun _ _ => .of) ⟨BL, D1, D2, b5, OV, HX, K, I, by omega⟩ ?_
        simp only [List.set_cons_zero, List.set_cons_succ]
        refine zo1 17 rfl ?_
        refine xCall 68 18 #[ui, v2] (by kernel_rfl) ?_
        refine (same_any _ _ (nn (bs)) (nn (bs)) w26 I.sl D2 (bytes_nn hb8) (bytes_nn hb8)).mono ?_
        rintro en w28 ⟨he, hw⟩
        rw [decide_eq_true rfl] at he
        subst he
        obtain rfl := (hw.symm).symm
        refine ⟨.bool true, rfl, ?_⟩
        refine ze 17 ⟨BL, D1, D2, b5, OV, HX, K, I, by omega⟩ ?_
        simp only [List.set_cons_zero, List.set_cons_succ]
        refine zv 18 69 (.bool false) (fun _ _ => .of) ⟨BL, D1, D2, b5, OV, HX, K, I, by omega⟩ ?_
        simp only [List.set_cons_zero, List.set_cons_succ]
        refine zv 19 70 (.bool false) (fun _ _ => .of) ⟨BL, D1, D2, b5, OV, HX, K, I, by omega⟩ ?_
        simp only [List.set_cons_zero, List.set_cons_succ]
        refine zd (by kernel_rfl) ?_ _
        refine hK21 _ _ ?_
        refine cF ?_
        refine wp_skip ?_
        refine hK20 _ _ ?_
        refine wp_seq_k fun K22 hK22 => ?_
        refine wp_seq_k fun K23 hK23 => ?_
        have e21 := drew_e0 w26
        refine zg (fun w_ => Bl w.heap.size w w_ ∧ SL .u8 w_ v1 (nn key) ∧ SL .u8 w_ v2 (nn bs) ∧ Blk .u32 w_ w.heap.size 26 (nn tab) ∧ OwnV 27 (w.heap.size + 1) w_ u us2 ∧ SLxs w.heap.size w_ us2 ((few3P ps).map nn) ∧ Own 5 .u8 wl0.heap.size w_ uk (nn key) ∧ Own 5 .u8 w22.heap.size w_ ui (nn bs) ∧ w26.heap.size ≤ w_.heap.size) (fun w_ => Bl w.heap.size w w_ ∧ SL .u8 w_ v1 (nn key) ∧ SL .u8 w_ v2 (nn bs) ∧ Blk .u32 w_ w.heap.size 26 (nn tab) ∧ OwnV 27 (w.heap.size + 1) w_ u us2 ∧ SLxs w.heap.size w_ us2 ((few3P ps).map nn) ∧ Own 5 .u8 wl0.heap.size w_ uk (nn key) ∧ Own 5 .u8 w22.heap.size w_ ui (nn bs) ∧ w26.heap.size ≤ w_.heap.size) 100000 18 ⟨BL.e0 e21, D1.e0 e21, D2.e0 e21, b5.e0 e21, OwnV.ev OV e21 (fun _ _ x => x), SLxs.e0 HX e21, K.e0 e21, I.e0 e21, Nat.le_refl _⟩ ?_
        clear BL D1 D2 b5 OV HX K I
        clear e21
        intro w29
        rintro ⟨BL, D1, D2, b5, OV, HX, K, I, z4⟩
        refine zv 0 71 (.int .u8 ((tag : Nat) : Int)) (fun _ _ => .of) ⟨BL, D1, D2, b5, OV, HX, K, I, by omega⟩ ?_
        simp only [List.set_cons_zero, List.set_cons_succ]
        refine zv 1 72 (u) (fun _ _ => .of) ⟨BL, D1, D2, b5, OV, HX, K, I, by omega⟩ ?_
        simp only [List.set_cons_zero, List.set_cons_succ]
        refine zv 3 74 (.int .u8 ((tag : Nat) : Int)) (fun _ _ => .of) ⟨BL, D1, D2, b5, OV, HX, K, I, by omega⟩ ?_
        simp only [List.set_cons_zero, List.set_cons_succ]
        refine zv 4 75 (u) (fun _ _ => .of) ⟨BL, D1, D2, b5, OV, HX, K, I, by omega⟩ ?_
        simp only [List.set_cons_zero, List.set_cons_succ]
        refine zo1 2 rfl ?_
        refine xCall 73 19 #[.int .u8 ((tag : Nat) : Int), u] (by kernel_rfl) ?_
        refine (mactextx_any ((tag : Nat) : Int) u us2 ((few3P ps).map nn) w29 OV.sv w.heap.size (by omega) HX (by omega) hp').mono ?_
        rintro en w30 ⟨ut, rfl, hO, hb1⟩
        rw [← textN_nn] at hO
        have e22 := belE0 hb1
        have ze22 := e22.size
        replace BL := BL.e0 e22
        replace D1 := D1.e0 e22
        replace D2 := D2.e0 e22
        replace b5 := b5.e0 e22
        have OV : OwnV 27 (w.heap.size + 1) w30 u us2 := OwnV.ev OV e22 (fun _ _ x => x)
        have HX : SLxs w.heap.size w30 us2 ((few3P ps).map nn) := SLxs.e0 HX e22
        replace K := K.e0 e22
        replace I := I.e0 e22
        clear e22
        have U : Own 5 .u8 w29.heap.size w30 ut (nn (textN tag (few3P ps))) := hO
        have lU_2 := U.ge
        refine ⟨ut, rfl, ?_⟩
        refine ze 2 ⟨BL, D1, D2, b5, OV, HX, K, I, by omega⟩ ?_
        simp only [List.set_cons_zero, List.set_cons_succ]
        refine zo1 5 rfl ?_
        refine xCall 76 20 #[.int .u8 ((tag : Nat) : Int), u] (by kernel_rfl) ?_
        refine (rtextx_any tag htag u us2 (few3P ps) w.heap.size w30 (by omega) OV.sv HX (fun p hp => Nat.le_trans (few3P_le p hp) (by omega)) (by omega)).mono ?_
        rintro en w31 ⟨ur, rfl, hS, hb1⟩
        have hsl := hS.lt
        have e23 := belE0 hb1
        have ze23 := e23.size
        replace BL := BL.e0 e23
        replace D1 := D1.e0 e23
        replace D2 := D2.e0 e23
        replace b5 := b5.e0 e23
        have OV : OwnV 27 (w.heap.size + 1) w31 u us2 := OwnV.ev OV e23 (fun _ _ x => x)
        have HX : SLxs w.heap.size w31 us2 ((few3P ps).map nn) := SLxs.e0 HX e23
        replace K := K.e0 e23
        replace I := I.e0 e23
        replace U := U.e0 e23
        clear e23
        have S : SL .u8 w31 ur (nn (textN tag (few3P ps))) := hS
        refine ⟨ur, rfl, ?_⟩
        refine ze 5 ⟨BL, D1, D2, b5, OV, HX, K, I, by omega⟩ ?_
        simp only [List.set_cons_zero, List.set_cons_succ]
        refine zo1 6 rfl ?_
        refine xCall 77 18 #[ut, ur] (by kernel_rfl) ?_
        refine (same_any _ _ (nn (textN tag (few3P ps))) (nn (textN tag (few3P ps))) w31 U.sl S (bytes_nn hx8) (bytes_nn hx8)).mono ?_
        rintro en w32 ⟨he, hw⟩
        rw [decide_eq_true rfl] at he
        subst he
        obtain rfl := (hw.symm).symm
        refine ⟨.bool true, rfl, ?_⟩
        refine ze 6 ⟨BL, D1, D2, b5, OV, HX, K, I, by omega⟩ ?_
        simp only [List.set_cons_zero, List.set_cons_succ]
        refine zv 7 78 (.bool false) (fun _ _ => .of) ⟨BL, D1, D2, b5, OV, HX, K, I, by omega⟩ ?_
        simp only [List.set_cons_zero, List.set_cons_succ]
        refine zv 8 79 (.bool false) (fun _ _ => .of) ⟨BL, D1, D2, b5, OV, HX, K, I, by omega⟩ ?_
        simp only [List.set_cons_zero, List.set_cons_succ]
        refine zv 9 80 (.int .u8 ((tag : Nat) : Int)) (fun _ _ => .of) ⟨BL, D1, D2, b5, OV, HX, K, I, by omega⟩ ?_
        simp only [List.set_cons_zero, List.set_cons_succ]
        refine zv 10 81 (u) (fun _ _ => .of) ⟨BL, D1, D2, b5, OV, HX, K, I, by omega⟩ ?_
        simp only [List.set_cons_zero, List.set_cons_succ]
        refine zv 12 83 (.agg (cellsOf .u32 (nn tab))) (fun _ ⟨BL, D1, D2, b5, OV, HX, K, I, z4⟩ => Val.blk 26 _ rfl 0 72 (by kernel_rfl) b5 _ Try.underlying26 rfl (by kernel_rfl) (by (try simp only [nn_len, List.length_cons, List.length_nil, List.length_set, List.length_replicate]); try omega) _ (seg_all' _ (by (try simp only [nn_len, List.length_cons, List.length_nil, List.length_set, List.length_replicate]); try omega))) ⟨BL, D1, D2, b5, OV, HX, K, I, by omega⟩ ?_
        simp only [List.set_cons_zero, List.set_cons_succ]
        refine zv 13 84 (.int .u8 ((tag : Nat) : Int)) (fun _ _ => .of) ⟨BL, D1, D2, b5, OV, HX, K, I, by omega⟩ ?_
        simp only [List.set_cons_zero, List.set_cons_succ]
        refine zv 14 85 (u) (fun _ _ => .of) ⟨BL, D1, D2, b5, OV, HX, K, I, by omega⟩ ?_
        simp only [List.set_cons_zero, List.set_cons_succ]
        refine zo1 11 rfl ?_
        refine xCall 82 21 #[.pointer (some ⟨w.heap.size, 0, none⟩), .int .u8 ((tag : Nat) : Int), u] (by kernel_rfl) ?_
        refine (taggedx_any w.heap.size tab ht w31 b5 tag u us2 (few3P ps) w.heap.size (by omega) OV.sv HX (by omega) (fun p hp => Nat.le_trans (few3P_le p hp) (by omega)) (by omega)).mono ?_
        rintro en w33 ⟨rfl, hb1⟩
        have e24 := belE0 hb1
        have ze24 := e24.size
        replace BL := BL.e0 e24
        replace D1 := D1.e0 e24
        replace D2 := D2.e0 e24
        replace b5 := b5.e0 e24
        have OV : OwnV 27 (w.heap.size + 1) w33 u us2 := OwnV.ev OV e24 (fun _ _ x => x)
        have HX : SLxs w.heap.size w33 us2 ((few3P ps).map nn) := SLxs.e0 HX e24
        replace K := K.e0 e24
        replace I := I.e0 e24
        replace U := U.e0 e24
        replace S := S.e0 e24
        clear e24
        refine ⟨.agg (cellsOf .u8 (nn (taggedN tab tag (few3P ps)))), rfl, ?_⟩
        refine ze 11 ⟨BL, D1, D2, b5, OV, HX, K, I, by omega⟩ ?_
        simp only [List.set_cons_zero, List.set_cons_succ]
        refine zo1 15 rfl ?_
        refine xCall 86 22 #[.agg (cellsOf .u32 (nn tab)), .int .u8 ((tag : Nat) : Int), u] (by kernel_rfl) ?_
        refine (rtaggedx_any tab ht h32 w33 tag htag u us2 (few3P ps) w.heap.size (by omega) OV.sv HX (fun p hp => Nat.le_trans (few3P_le p hp) (by omega)) (by omega) (few3P_b hp8)).mono ?_
        rintro en w34 ⟨rfl, hb1⟩
        have e25 := belE0 hb1
        have ze25 := e25.size
        replace BL := BL.e0 e25
        replace D1 := D1.e0 e25
        replace D2 := D2.e0 e25
        replace b5 := b5.e0 e25
        have OV : OwnV 27 (w.heap.size + 1) w34 u us2 := OwnV.ev OV e25 (fun _ _ x => x)
        have HX : SLxs w.heap.size w34 us2 ((few3P ps).map nn) := SLxs.e0 HX e25
        replace K := K.e0 e25
        replace I := I.e0 e25
        replace U := U.e0 e25
        replace S := S.e0 e25
        clear e25
        refine ⟨.agg (cellsOf .u8 (nn (taggedN tab tag (few3P ps)))), rfl, ?_⟩
        refine ze 15 ⟨BL, D1, D2, b5, OV, HX, K, I, by omega⟩ ?_
        simp only [List.set_cons_zero, List.set_cons_succ]
        refine zv 16 87 (.bool false) (fun _ ⟨BL, D1, D2, b5, OV, HX, K, I, z4⟩ => Val.eqA .neq 32 _ (.tmp 82) (.tmp 86) rfl Try.underlying32 Try.underlying5 (by kernel_rfl) (by kernel_rfl) (nn (taggedN tab tag (few3P ps))) (nn (taggedN tab tag (few3P ps))) (by kernel_rfl) (by kernel_rfl) (by rw [nn_len]; exact htd) (by rw [nn_len]; exact htd) (.inr rfl) false (by simp)) ⟨BL, D1, D2, b5, OV, HX, K, I, by omega⟩ ?_
        simp only [List.set_cons_zero, List.set_cons_succ]
        refine zv 17 88 (.bool false) (fun _ _ => .of) ⟨BL, D1, D2, b5, OV, HX, K, I, by omega⟩ ?_
        simp only [List.set_cons_zero, List.set_cons_succ]
        refine zd (by kernel_rfl) ?_ _
        refine hK23 _ _ ?_
        refine cF ?_
        refine wp_skip ?_
        refine hK22 _ _ ?_
        refine wp_seq_k fun K24 hK24 => ?_
        refine cPlain ?_
        refine sv 89 (v1) .of ?_
        simp only [List.set_cons_zero, List.set_cons_succ]
        refine sv 90 (v2) .of ?_
        simp only [List.set_cons_zero, List.set_cons_succ]
        refine xCall 91 23 #[v1, v2] (by kernel_rfl) ?_
        refine (macsame_any v1 v2 key bs w34 D1 D2 hk8 hb8 (by omega) (by omega)).mono ?_
        rintro en w35 ⟨rfl, hb1⟩
        have e26 := belE0 hb1
        have ze26 := e26.size
        replace BL := BL.e0 e26
        replace D1 := D1.e0 e26
        replace D2 := D2.e0 e26
        replace b5 := b5.e0 e26
        have OV : OwnV 27 (w.heap.size + 1) w35 u us2 := OwnV.ev OV e26 (fun _ _ x => x)
        have HX : SLxs w.heap.size w35 us2 ((few3P ps).map nn) := SLxs.e0 HX e26
        replace K := K.e0 e26
        replace I := I.e0 e26
        replace U := U.e0 e26
        replace S := S.e0 e26
        clear e26
        refine ⟨.bool (decide (key = bs)), rfl, ?_⟩
        simp only [List.set_cons_zero, List.set_cons_succ]
        refine sv 92 (v1) .of ?_
        simp only [List.set_cons_zero, List.set_cons_succ]
        refine sv 93 (v2) .of ?_
        simp only [List.set_cons_zero, List.set_cons_succ]
        refine xCall 94 18 #[v1, v2] (by kernel_rfl) ?_
        refine (same_any v1 v2 (nn key) (nn bs) w35 D1 D2 (bytes_nn hk8) (bytes_nn hb8)).mono ?_
        rintro en w36 ⟨he, hw⟩
        rw [show decide (nn key = nn bs) = decide (key = bs) from decide_eq_decide.2 ⟨nn_inj, congrArg nn⟩] at he
        subst he
        obtain rfl := (hw.symm).symm
        refine ⟨.bool (decide (key = bs)), rfl, ?_⟩
        simp only [List.set_cons_zero, List.set_cons_succ]
        refine sv 95 (.bool true) (Val.bools .eql 4 _ _ _ rfl Try.underlying4 (decide (key = bs)) (decide (key = bs)) (by kernel_rfl) (by kernel_rfl) (.inl rfl) true (by simp)) ?_
        simp only [List.set_cons_zero, List.set_cons_succ]
        refine sv 96 (.bool true) .of ?_
        simp only [List.set_cons_zero, List.set_cons_succ]
        refine xCall 97 14 #[] (by kernel_rfl) ?_
        refine (awake03_any w35).mono ?_
        rintro en w37 ⟨rfl, hb1⟩
        have e27 := belE0 hb1
        have ze27 := e27.size
        replace BL := BL.e0 e27
        replace D1 := D1.e0 e27
        replace D2 := D2.e0 e27
        replace b5 := b5.e0 e27
        have OV : OwnV 27 (w.heap.size + 1) w37 u us2 := OwnV.ev OV e27 (fun _ _ x => x)
        have HX : SLxs w.heap.size w37 us2 ((few3P ps).map nn) := SLxs.e0 HX e27
        replace K := K.e0 e27
        replace I := I.e0 e27
        replace U := U.e0 e27
        replace S := S.e0 e27
        clear e27
        refine ⟨.bool true, rfl, ?_⟩
        simp only [List.set_cons_zero, List.set_cons_succ]
        refine sv 98 (.bool true) .of ?_
        simp only [List.set_cons_zero, List.set_cons_succ]
        refine sv 10 (.bool true) .of ?_
        simp only [List.set_cons_zero, List.set_cons_succ]
        refine wpList_nil ?_
        refine hK24 _ _ ?_
        refine wp_ret ?_
        (try simp only [Exit.then, Exit.inBlock])
        refine bodyPost_ret (v := .bool true) rT rfl ?_
        exact ⟨rfl, BL.b⟩

theorem rows_nnT : ∀ {ys : List (List Int)}, (∀ y ∈ ys, ∀ n ∈ y, (Lit.int .u8 n).wf = true) → ∃ ps : List (List Nat), ys = ps.map nn ∧ ∀ p ∈ ps, ∀ x ∈ p, x < 256
  | [], _ => ⟨[], rfl, fun p hp => by cases hp⟩
  | y :: ys, h => by
    obtain ⟨ps, e, hb⟩ := rows_nnT (ys := ys) fun z hz => h z (List.mem_cons_of_mem _ hz)
    obtain ⟨p, e2, hp⟩ := row8 (wf_bounds_u8 (h y (List.mem_cons_self ..)))
    refine ⟨p :: ps, by rw [e, e2]; rfl, fun q hq => ?_⟩
    rcases List.mem_cons.1 hq with rfl | hq
    · exact hp
    · exact hb q hq
theorem macTells_any (w : World) (x0 : List Value) (R0 : RInts .u32 72 w x0) (v1 : Value) (k1 : List Int) (D1 : SL .u8 w v1 k1) (h1 : ∀ n ∈ k1, 0 ≤ n ∧ n < 256) (v2 : Value) (k2 : List Int) (D2 : SL .u8 w v2 k2) (h2 : ∀ n ∈ k2, 0 ≤ n ∧ n < 256) (tag : Int) (ht : 0 ≤ tag ∧ tag ≤ 255) (v : Value) (us : List Value) (ys : List (List Int)) (HV : SV w v us) (HY : SLxs w.heap.size w us ys) (hw : ∀ y ∈ ys, ∀ n ∈ y, (Lit.int .u8 n).wf = true) :
    Calls Try.prog 3 #[.agg x0.toArray, v1, v2, .int .u8 tag, v] w fun e w' => e = .returned (.bool true) ∧ Below w.heap.size w w' := by
  obtain ⟨tab, htl, rfl, h32⟩ := rints32 R0
  obtain ⟨m, rfl⟩ : ∃ n : Nat, tag = (n : Int) := ⟨tag.toNat, by omega⟩
  obtain ⟨key, rfl, hk⟩ := row8 h1
  obtain ⟨bs, rfl, hb⟩ := row8 h2
  obtain ⟨ps, rfl, hp⟩ := rows_nnT hw
  exact macTells_walk tab htl h32 key bs v1 v2 w D1 hk D2 hb m (by omega) v us ps _ rfl HV HY hp
end Go.Proofs.YtadldhlfboibjaaR
