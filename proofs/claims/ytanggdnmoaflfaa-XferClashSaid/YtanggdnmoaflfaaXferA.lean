/-
  xfer.blank, xfer.Right, xfer.Many, xfer.Over, xfer.Begin, xfer.Next.
-/
import Derived.Test.YtanggdnmoaflfaaSpanL
import Derived.Test.YtanggdnmoaflfaaXferL
import Derived.Test.YtanggdnmoaflfaaPk1
namespace Go.Proofs.Ytanggdnmoaflfaa
open Go.RowKit
set_option linter.unusedVariables false
set_option linter.unusedSimpArgs false
set_option maxRecDepth 100000
attribute [local irreducible] wpList Code.wp wpAnyZ
theorem blank_at {xs : List Nat} {k : Nat} (hk : k < xs.length) (h : ¬ (xs.getD k 0 = 0)) : blankL xs = false := by
  cases hb : blankL xs with
  | false => rfl
  | true => exact absurd ((blankL_iff xs).1 hb k hk) h
theorem blank_none {xs : List Nat} {k : Nat} (hk : k = xs.length) (h : ∀ j, j < k → xs.getD j 0 = 0) : blankL xs = true := (blankL_iff xs).2 (hk ▸ h)

theorem blank1_any (c : Nat) (w : World) :
    Calls Try.prog 94 #[.int .u8 ((c : Nat) : Int)] w fun e w' => e = .returned (.bool (decide (¬ (((c : Nat) : Int) = 0)))) ∧ w' = w := by
  skip
  go_enter Try.func94, Try.ntmps94
  refine wp_seq_k fun K1 hK1 => ?_
  refine cPlain ?_
  refine sv 2 (.bool false) .of ?_
  simp only [List.set_cons_zero, List.set_cons_succ]
  refine wpList_nil ?_
  refine hK1 _ _ ?_
  refine wp_seq_k fun K2 hK2 => ?_
  refine cPlain ?_
  refine sv 3 (.int .u8 ((c : Nat) : Int)) .of ?_
  simp only [List.set_cons_zero, List.set_cons_succ]
  refine sv 4 (.bool (decide (¬ (((c : Nat) : Int) = 0)))) (Val.cmp .neq 5 _ (.tmp 3) _ rfl .u8 ((c : Nat) : Int) 0 (by kernel_rfl) (by kernel_rfl) (by simp) _ (by simp [cmpB])) ?_
  simp only [List.set_cons_zero, List.set_cons_succ]
  refine sv 2 (.bool (decide (¬ (((c : Nat) : Int) = 0)))) .of ?_
  simp only [List.set_cons_zero, List.set_cons_succ]
  refine wpList_nil ?_
  refine hK2 _ _ ?_
  refine wp_ret ?_
  (try simp only [Exit.then, Exit.inBlock])
  refine bodyPost_ret (v := .bool (decide (¬ (((c : Nat) : Int) = 0)))) rT rfl ?_
  exact ⟨rfl, rfl⟩

theorem bidx_any (qs : List Nat) (v : Value) (w : World) (R : SL .u8 w v (nn qs)) :
    Calls Try.prog 99 #[v, .func (.func 94) #[] #[]] w fun e w' => (∃ k : Int, e = .returned (.int .i64 k) ∧ ((0 ≤ k ∧ blankL qs = false) ∨ (k < 0 ∧ blankL qs = true))) ∧ Below w.heap.size w w' := by
  have BL := Bl.refl w
  have hrl := R.lt
  have hln := nn_len qs
  obtain ⟨A, C, rfl, hmx⟩ := R.len
  unfold maxLen at hmx
  go_enter Try.func99, Try.ntmps99
  refine wp_seq_k fun K1 hK1 => ?_
  refine cPlain ?_
  refine sv 4 (.int .i64 0) .of ?_
  simp only [List.set_cons_zero, List.set_cons_succ]
  refine wpList_nil ?_
  refine hK1 _ _ ?_
  refine wp_seq_k fun K2 hK2 => ?_
  refine wp_seq_k fun K3 hK3 => ?_
  refine cPlain ?_
  refine sv 6 (.slice A (nn qs).length C) .of ?_
  simp only [List.set_cons_zero, List.set_cons_succ]
  refine sv 7 (.int .i64 ((qs.length : Nat) : Int)) (Val.lenS (.tmp 6) 29 rfl (by kernel_rfl) R qs.length (nn_len qs) Try.underlying29) ?_
  simp only [List.set_cons_zero, List.set_cons_succ]
  refine sv 8 (.int .i64 0) .of ?_
  simp only [List.set_cons_zero, List.set_cons_succ]
  refine wpList_nil ?_
  refine hK3 _ _ ?_
  refine wp_block ?_
  refine cLoop (fun N_ A_ w_ => ∃ (k : Nat), (N_ = qs.length - k ∧ (k ≤ qs.length) ∧ (∀ j, j < k → qs.getD j 0 = 0) ∧ (∃ s1 : Nat → Value, A_ = ⟨[.slice A (nn qs).length C, .func (.func 94) #[] #[], undef, undef, (s1 4), (s1 5), .slice A (nn qs).length C, .int .i64 ((qs.length : Nat) : Int), .int .i64 (k : Int), (s1 9), (s1 10), (s1 11), (s1 12), (s1 13), (s1 14), (s1 15), (s1 16), (s1 17), (s1 18)].toArray, []⟩) ∧ Bl w.heap.size w w_ ∧ SL .u8 w_ (.slice A (nn qs).length C) (nn qs) ∧ w.heap.size ≤ w_.heap.size)) _ ⟨0, rfl, by omega, fun j hj => by omega, cutE, BL, R, Nat.le_refl _⟩ ?_
  clear BL R
  rintro n_ a_ wl0 ⟨k, rfl, hc0_0, hc0_1, ⟨s1, rfl⟩, BL, R, zl0⟩
  refine wp_seq_k fun K4 hK4 => ?_
  refine cPlain ?_
  refine sv 9 (.bool (decide ((k : Int) < ((qs.length : Nat) : Int)))) (Val.cmp .lss 3 _ (.tmp 8) (.tmp 7) rfl .i64 (k : Int) ((qs.length : Nat) : Int) (by kernel_rfl) (by kernel_rfl) (by simp) _ rfl) ?_
  simp only [List.set_cons_zero, List.set_cons_succ]
  refine wpList_nil ?_
  refine hK4 _ _ ?_
  refine wp_seq_k fun K5 hK5 => ?_
  refine cDec ((k : Int) < ((qs.length : Nat) : Int)) (by kernel_rfl) (fun c9 => ?_) (fun c9 => ?_)
  · skip
    refine wp_skip ?_
    refine hK5 _ _ ?_
    refine wp_seq_k fun K6 hK6 => ?_
    refine wp_block ?_
    refine wp_seq_k fun K7 hK7 => ?_
    refine cPlain ?_
    refine sv 10 (.int .i64 (k : Int)) .of ?_
    simp only [List.set_cons_zero, List.set_cons_succ]
    refine sv 5 (.int .i64 (k : Int)) .of ?_
    simp only [List.set_cons_zero, List.set_cons_succ]
    refine wpList_nil ?_
    refine hK7 _ _ ?_
    refine wp_seq_k fun K8 hK8 => ?_
    refine cPlain ?_
    refine sv 11 (.func (.func 94) #[] #[]) .of ?_
    simp only [List.set_cons_zero, List.set_cons_succ]
    refine sv 12 (.slice A (nn qs).length C) .of ?_
    simp only [List.set_cons_zero, List.set_cons_succ]
    refine sv 13 (.int .i64 (k : Int)) .of ?_
    simp only [List.set_cons_zero, List.set_cons_succ]
    refine sv 14 (elemP (.slice A (nn qs).length C) k) (Val.idxE 29 (.tmp 12) (.tmp 13) rfl (.slice A (nn qs).length C) k (by kernel_rfl) (by kernel_rfl) R Try.underlying29 (by kernel_rfl) (by omega)) ?_
    simp only [List.set_cons_zero, List.set_cons_succ]
    refine sv 15 (.int .u8 ((qs.getD k 0 : Nat) : Int)) (Val.nldE 5 _ rfl (.slice A (nn qs).length C) k (by kernel_rfl) (fun _ => (by kernel_rfl)) R (by omega)) ?_
    simp only [List.set_cons_zero, List.set_cons_succ]
    refine xCall 16 94 #[.int .u8 ((qs.getD k 0 : Nat) : Int)] (by kernel_rfl) ?_
    refine (blank1_any (qs.getD k 0) wl0).mono ?_
    rintro en w1 ⟨rfl, hw⟩
    obtain rfl := (hw).symm
    refine ⟨.bool (decide (¬ (((qs.getD k 0 : Nat) : Int) = 0))), rfl, ?_⟩
    simp only [List.set_cons_zero, List.set_cons_succ]
    refine wpList_nil ?_
    refine hK8 _ _ ?_
    refine cDec (¬ (((qs.getD k 0 : Nat) : Int) = 0)) (by kernel_rfl) (fun c16 => ?_) (fun c16 => ?_)
    · skip
      refine wp_seq_k fun K9 hK9 => ?_
      refine cPlain ?_
      refine sv 17 (.int .i64 (k : Int)) .of ?_
      simp only [List.set_cons_zero, List.set_cons_succ]
      refine sv 4 (.int .i64 (k : Int)) .of ?_
      simp only [List.set_cons_zero, List.set_cons_succ]
      refine wpList_nil ?_
      refine hK9 _ _ ?_
      refine wp_ret ?_
      (try simp only [Exit.then, Exit.inBlock])
      refine bodyPost_ret (v := .int .i64 (k : Int)) rT rfl ?_
      refine ⟨⟨_, rfl, .inl ⟨by omega, blank_at (k := k) (by omega) (by omega)⟩⟩, BL.b⟩
    · skip
      refine wp_skip ?_
      refine hK6 _ _ ?_
      refine cPlain ?_
      refine sv 18 (.int .i64 ((k : Int) + 1)) (Val.add 3 _ (.tmp 8) _ rfl (k : Int) 1 (by kernel_rfl) (by kernel_rfl) (by omega)) ?_
      simp only [List.set_cons_zero, List.set_cons_succ]
      refine sv 8 (.int .i64 ((k : Int) + 1)) .of ?_
      simp only [List.set_cons_zero, List.set_cons_succ]
      refine wpList_nil ?_
      refine ⟨_, ?_, k + 1, rfl, by omega, fun j hj => by rcases Nat.lt_succ_iff_lt_or_eq.1 hj with h | rfl; exact hc0_1 j h; omega, cutE, BL, R, by omega⟩
      omega
  · skip
    refine wp_exit ?_
    simp only [Exit.then, Exit.inBlock, ↓reduceIte, Nat.reduceEqDiff]
    refine hK2 _ _ ?_
    refine wp_seq_k fun K10 hK10 => ?_
    refine cPlain ?_
    refine sv 4 (.int .i64 (-1)) .of ?_
    simp only [List.set_cons_zero, List.set_cons_succ]
    refine wpList_nil ?_
    refine hK10 _ _ ?_
    refine wp_ret ?_
    (try simp only [Exit.then, Exit.inBlock])
    refine bodyPost_ret (v := .int .i64 (-1)) rT rfl ?_
    refine ⟨⟨_, rfl, .inr ⟨by omega, blank_none (k := k) (by omega) hc0_1⟩⟩, BL.b⟩

theorem bcont_any (qs : List Nat) (v : Value) (w : World) (R : SL .u8 w v (nn qs)) :
    Calls Try.prog 93 #[v, .func (.func 94) #[] #[]] w fun e w' => e = .returned (.bool (!blankL qs)) ∧ Below w.heap.size w w' := by
  have BL := Bl.refl w
  have hrl := R.lt
  go_enter Try.func93, Try.ntmps93
  refine wp_seq_k fun K1 hK1 => ?_
  refine cPlain ?_
  refine sv 4 (.bool false) .of ?_
  simp only [List.set_cons_zero, List.set_cons_succ]
  refine wpList_nil ?_
  refine hK1 _ _ ?_
  refine wp_seq_k fun K2 hK2 => ?_
  refine cPlain ?_
  refine sv 5 (v) .of ?_
  simp only [List.set_cons_zero, List.set_cons_succ]
  refine sv 6 (.func (.func 94) #[] #[]) .of ?_
  simp only [List.set_cons_zero, List.set_cons_succ]
  refine xCall 7 99 #[v, .func (.func 94) #[] #[]] (by kernel_rfl) ?_
  refine (bidx_any qs v w R).mono ?_
  rintro en w1 ⟨⟨k, rfl, hk⟩, hb1⟩
  have e1 := belE0 hb1
  have ze1 := e1.size
  replace BL := BL.e0 e1
  replace R := R.e0 e1
  clear e1
  refine ⟨.int .i64 k, rfl, ?_⟩
  simp only [List.set_cons_zero, List.set_cons_succ]
  refine sv 8 (.bool (decide (0 ≤ k))) (Val.cmp .geq 3 _ (.tmp 7) _ rfl .i64 k 0 (by kernel_rfl) (by kernel_rfl) (by simp) _ rfl) ?_
  simp only [List.set_cons_zero, List.set_cons_succ]
  refine sv 4 (.bool (decide (0 ≤ k))) .of ?_
  simp only [List.set_cons_zero, List.set_cons_succ]
  refine wpList_nil ?_
  refine hK2 _ _ ?_
  refine wp_ret ?_
  (try simp only [Exit.then, Exit.inBlock])
  refine bodyPost_ret (v := .bool (decide (0 ≤ k))) rT rfl ?_
  have hR : decide (0 ≤ k) = !blankL qs := by
    rcases hk with ⟨h, h'⟩ | ⟨h, h'⟩
    · rw [h']; exact decide_eq_true h
    · rw [h']; exact decide_eq_false (by omega)
  rw [hR]
  exact ⟨rfl, BL.b⟩

theorem blank_any (qs : List Nat) (v : Value) (w : World) (R : SL .u8 w v (nn qs)) :
    Calls Try.prog 63 #[v] w fun e w' => e = .returned (.bool (blankL qs)) ∧ Below w.heap.size w w' := by
  have BL := Bl.refl w
  have hrl := R.lt
  go_enter Try.func63, Try.ntmps63
  refine wp_seq_k fun K1 hK1 => ?_
  refine cPlain ?_
  refine sv 2 (.bool false) .of ?_
  simp only [List.set_cons_zero, List.set_cons_succ]
  refine wpList_nil ?_
  refine hK1 _ _ ?_
  refine wp_seq_k fun K2 hK2 => ?_
  refine cPlain ?_
  refine sv 3 (v) .of ?_
  simp only [List.set_cons_zero, List.set_cons_succ]
  refine xCall 4 93 #[v, .func (.func 94) #[] #[]] (by kernel_rfl) ?_
  refine (bcont_any qs v w R).mono ?_
  rintro en w1 ⟨rfl, hb1⟩
  have e1 := belE0 hb1
  have ze1 := e1.size
  replace BL := BL.e0 e1
  replace R := R.e0 e1
  clear e1
  refine ⟨.bool (!blankL qs), rfl, ?_⟩
  simp only [List.set_cons_zero, List.set_cons_succ]
  refine sv 5 (.bool (blankL qs)) (Val.not _ _ rfl (!blankL qs) (blankL qs) (by kernel_rfl) (by simp)) ?_
  simp only [List.set_cons_zero, List.set_cons_succ]
  refine sv 2 (.bool (blankL qs)) .of ?_
  simp only [List.set_cons_zero, List.set_cons_succ]
  refine wpList_nil ?_
  refine hK2 _ _ ?_
  refine wp_ret ?_
  (try simp only [Exit.then, Exit.inBlock])
  refine bodyPost_ret (v := .bool (blankL qs)) rT rfl ?_
  exact ⟨rfl, BL.b⟩

theorem SL.castX {k : IntKind} {w : World} {v : Value} {xs ys : List Int} (h : SL k w v xs) (he : xs = ys) : SL k w v ys := he ▸ h
theorem rightF_next {d : List Nat} {h : List (Int × Int)} {fr : Int} {p : Bool} {i : Nat} (hi : i < h.length) : rightF d fr p (h.drop i) = (!badS d fr p (h.getD i (0, 0)) && rightF d (h.getD i (0, 0)).2 true (h.drop (i + 1))) := by
  rw [List.drop_eq_getElem_cons hi]
  simp only [rightF, List.getD_eq_getElem?_getD, List.getElem?_eq_getElem hi, Option.getD_some]
theorem nn_seg (d : List Nat) (a b : Nat) : ((nn d).drop a).take (b - a) = nn ((d.drop a).take (b - a)) := by simp [nn, List.map_drop, List.map_take]
theorem nn_tail (d : List Nat) (a : Nat) : ((nn d).drop a).take ((nn d).length - a) = nn (d.drop a) := by rw [List.take_of_length_le (by rw [List.length_drop]; exact Nat.le_refl _)]; simp [nn, List.map_drop]
theorem badS_iff {d : List Nat} {fr : Int} {p : Bool} {s : Int × Int} : badS d fr p s = true ↔ s.1 < fr ∨ (p = true ∧ s.1 = fr) ∨ s.2 ≤ s.1 ∨ (d.length : Int) < s.2 ∨ blankL ((d.drop fr.toNat).take (s.1.toNat - fr.toNat)) = false := by
  unfold badS
  simp only [Bool.or_eq_true, Bool.and_eq_true, decide_eq_true_eq, Bool.not_eq_true', or_assoc]
theorem rightF_go {d : List Nat} {h : List (Int × Int)} {F i : Nat} (hi : i < h.length) (h1 : ¬ (h.getD i (0, 0)).1 < (F : Int)) (h2 : ¬ (0 < i ∧ (h.getD i (0, 0)).1 = (F : Int))) (h3 : ¬ (h.getD i (0, 0)).2 ≤ (h.getD i (0, 0)).1) (h4 : ¬ (d.length : Int) < (h.getD i (0, 0)).2)
    (h5 : ¬ blankL ((d.drop F).take ((h.getD i (0, 0)).1.toNat - F)) = false) : rightF d (F : Int) (decide (0 < i)) (h.drop i) = rightF d (((h.getD i (0, 0)).2.toNat : Nat) : Int) (decide (0 < i + 1)) (h.drop (i + 1)) := by
  rw [rightF_next hi, show badS d (F : Int) (decide (0 < i)) (h.getD i (0, 0)) = false from ?_, show (((h.getD i (0, 0)).2.toNat : Nat) : Int) = (h.getD i (0, 0)).2 by omega]
  · simp
  · cases hq : badS d (F : Int) (decide (0 < i)) (h.getD i (0, 0)) with
    | false => rfl
    | true =>
      rcases badS_iff.1 hq with q | ⟨q, q'⟩ | q | q | q
      · exact absurd q h1
      · exact absurd ⟨of_decide_eq_true q, q'⟩ h2
      · exact absurd q h3
      · exact absurd q h4
      · exact absurd q h5
theorem rightF_bad {d : List Nat} {h : List (Int × Int)} {F i : Nat} (hi : i < h.length) (hb : badS d (F : Int) (decide (0 < i)) (h.getD i (0, 0)) = true) : rightF d (F : Int) (decide (0 < i)) (h.drop i) = false := by
  rw [rightF_next hi, hb]; rfl
theorem rightX_of {d : List Nat} {h : List (Int × Int)} {b : Bool} (hl : d.length ≤ 65536) (hr : rightF d 0 false h = b) : rightX d h = b := by
  unfold rightX; rw [decide_eq_true hl, Bool.true_and, hr]
theorem rightX_long {d : List Nat} {h : List (Int × Int)} (hl : ¬ d.length ≤ 65536) : rightX d h = false := by
  unfold rightX; rw [decide_eq_false hl, Bool.false_and]
theorem rightF_end {d : List Nat} {h : List (Int × Int)} {F i : Nat} {p : Bool} (hi : i = h.length) : rightF d (F : Int) p (h.drop i) = blankL (d.drop F) := by
  rw [hi, List.drop_length]; rfl
attribute [local irreducible] blankL rightF badS
theorem xright_any (dv hv : Value) (d : List Nat) (h : List (Int × Int)) (w : World) (D : SL .u8 w dv (nn d)) (H : SE .i64 2 w hv (spS h)) :
    Calls Try.prog 40 #[.agg #[dv, hv]] w fun e w' => e = .returned (.bool (rightX d h)) ∧ Below w.heap.size w w' := by
  have BL := Bl.refl w
  have hdl := D.lt
  have hhl := H.lt
  obtain ⟨A, C, hv0, hmx⟩ := D.len
  rw [nn_len] at hv0 hmx
  obtain ⟨B, E, hv1, hmy⟩ := H.len
  rw [spS_len] at hv1 hmy
  subst hv0 hv1
  have hmz := H.cap.2.2
  unfold maxLen at hmx hmz
  go_enter Try.func40, Try.ntmps40
  refine wp_seq_k fun K1 hK1 => ?_
  refine cPlain ?_
  refine xBox 1 56 _ [.slice A d.length C, .slice B h.length E] rfl (by kernel_rfl) ?_
  intro w1 n1
  have zn1 := n1.z
  have b1 := n1.c
  replace BL := BL.e0 n1.e
  replace D := D.e0 n1.e
  replace H := H.e0 n1.e
  simp only [List.set_cons_zero, List.set_cons_succ]
  refine sv 2 (.bool false) .of ?_
  simp only [List.set_cons_zero, List.set_cons_succ]
  refine wpList_nil ?_
  refine hK1 _ _ ?_
  refine wp_seq_k fun K2 hK2 => ?_
  refine wp_seq_k fun K3 hK3 => ?_
  refine cPlain ?_
  refine sv 6 (.pointer (some ⟨w.heap.size, 0, none⟩)) .of ?_
  simp only [List.set_cons_zero, List.set_cons_succ]
  refine sv 7 (.slice A d.length C) (Val.cel1 29 _ rfl w.heap.size 0 _ (by kernel_rfl) (fun _ => (by kernel_rfl)) b1 rfl) ?_
  simp only [List.set_cons_zero, List.set_cons_succ]
  refine sv 8 (.int .i64 (d.length : Int)) .of ?_
  simp only [List.set_cons_zero, List.set_cons_succ]
  refine sv 9 (.bool (decide (65536 < (d.length : Int)))) (Val.cmp .gtr 3 _ (.tmp 8) _ rfl .i64 (d.length : Int) 65536 (by kernel_rfl) (by kernel_rfl) (by simp) _ rfl) ?_
  simp only [List.set_cons_zero, List.set_cons_succ]
  refine wpList_nil ?_
  refine hK3 _ _ ?_
  refine cDec (65536 < (d.length : Int)) (by kernel_rfl) (fun c9 => ?_) (fun c9 => ?_)
  · skip
    refine wp_seq_k fun K4 hK4 => ?_
    refine cPlain ?_
    refine sv 2 (.bool false) .of ?_
    simp only [List.set_cons_zero, List.set_cons_succ]
    refine wpList_nil ?_
    refine hK4 _ _ ?_
    refine wp_ret ?_
    (try simp only [Exit.then, Exit.inBlock])
    refine bodyPost_ret (v := .bool false) rT rfl ?_
    rw [rightX_long (by omega)]
    exact ⟨rfl, BL.b⟩
  · skip
    refine wp_skip ?_
    refine hK2 _ _ ?_
    refine wp_seq_k fun K5 hK5 => ?_
    refine cPlain ?_
    refine sv 3 (.int .i64 0) .of ?_
    simp only [List.set_cons_zero, List.set_cons_succ]
    refine wpList_nil ?_
    refine hK5 _ _ ?_
    refine wp_seq_k fun K6 hK6 => ?_
    refine wp_seq_k fun K7 hK7 => ?_
    refine cPlain ?_
    refine sv 10 (.pointer (some ⟨w.heap.size, 1, none⟩)) .of ?_
    simp only [List.set_cons_zero, List.set_cons_succ]
    refine sv 11 (.slice B h.length E) (Val.cel1 54 _ rfl w.heap.size 1 _ (by kernel_rfl) (fun _ => (by kernel_rfl)) b1 rfl) ?_
    simp only [List.set_cons_zero, List.set_cons_succ]
    refine sv 12 (.int .i64 (h.length : Int)) .of ?_
    simp only [List.set_cons_zero, List.set_cons_succ]
    refine sv 13 (.int .i64 0) .of ?_
    simp only [List.set_cons_zero, List.set_cons_succ]
    refine wpList_nil ?_
    refine hK7 _ _ ?_
    refine wp_block ?_
    refine cLoop (fun N_ A_ w_ => ∃ (i F : Nat), (N_ = h.length - i ∧ (i ≤ h.length) ∧ (F ≤ d.length) ∧ (rightF d 0 false h = rightF d ((F : Nat) : Int) (decide (0 < i)) (h.drop i)) ∧ (∃ s1 : Nat → Value, A_ = ⟨[.agg #[.slice A d.length C, .slice B h.length E], .pointer (some ⟨w.heap.size, 0, none⟩), (s1 2), .int .i64 ((F : Nat) : Int), (s1 4), (s1 5), .pointer (some ⟨w.heap.size, 0, none⟩), .slice A d.length C, .int .i64 (d.length : Int), .bool (decide (65536 < (d.length : Int))), .pointer (some ⟨w.heap.size, 1, none⟩), .slice B h.length E, .int .i64 (h.length : Int), .int .i64 ((i : Nat) : Int), (s1 14), (s1 15), (s1 16), (s1 17), (s1 18), (s1 19), (s1 20), (s1 21), (s1 22), (s1 23), (s1 24), (s1 25), (s1 26), (s1 27), (s1 28), (s1 29), (s1 30), (s1 31), (s1 32), (s1 33), (s1 34), (s1 35), (s1 36), (s1 37), (s1 38), (s1 39), (s1 40), (s1 41), (s1 42), (s1 43), (s1 44), (s1 45), (s1 46), (s1 47), (s1 48), (s1 49), (s1 50), (s1 51), (s1 52), (s1 53), (s1 54), (s1 55), (s1 56), (s1 57), (s1 58), (s1 59), undef, undef, undef, undef, undef].toArray, []⟩) ∧ Bl w.heap.size w w_ ∧ SL .u8 w_ (.slice A d.length C) (nn d) ∧ SE .i64 2 w_ (.slice B h.length E) (spS h) ∧ Cel w_ w.heap.size 56 [.slice A d.length C, .slice B h.length E] ∧ w1.heap.size ≤ w_.heap.size)) _ ⟨0, 0, rfl, (Nat.zero_le _), (Nat.zero_le _), rfl, cutE, BL, D, H, b1, Nat.le_refl _⟩ ?_
    clear BL D H b1
    rintro n_ a_ wl0 ⟨i, F, rfl, hc0_0, hc0_1, hc0_2, ⟨s1, rfl⟩, BL, D, H, b1, zl0⟩
    refine wp_seq_k fun K8 hK8 => ?_
    refine cPlain ?_
    refine sv 14 (.bool (decide (((i : Nat) : Int) < (h.length : Int)))) (Val.cmp .lss 3 _ (.tmp 13) (.tmp 12) rfl .i64 ((i : Nat) : Int) (h.length : Int) (by kernel_rfl) (by kernel_rfl) (by simp) _ rfl) ?_
    simp only [List.set_cons_zero, List.set_cons_succ]
    refine wpList_nil ?_
    refine hK8 _ _ ?_
    refine wp_seq_k fun K9 hK9 => ?_
    refine cDec (((i : Nat) : Int) < (h.length : Int)) (by kernel_rfl) (fun c14 => ?_) (fun c14 => ?_)
    · skip
      refine wp_skip ?_
      refine hK9 _ _ ?_
      refine wp_seq_k fun K10 hK10 => ?_
      refine wp_block ?_
      refine wp_seq_k fun K11 hK11 => ?_
      refine cPlain ?_
      refine sv 15 (.int .i64 ((i : Nat) : Int)) .of ?_
      simp only [List.set_cons_zero, List.set_cons_succ]
      refine sv 16 (elemE 2 (.slice B h.length E) i) (Val.ixE 54 (.tmp 11) (.tmp 13) rfl (.slice B h.length E) i (by kernel_rfl) (by kernel_rfl) H Try.underlying54 (by kernel_rfl) (by simp only [spS_len]; omega)) ?_
      simp only [List.set_cons_zero, List.set_cons_succ]
      refine sv 17 (.agg #[.int .i64 (h.getD i (0, 0)).1, .int .i64 (h.getD i (0, 0)).2]) (Val.ldS 70 _ rfl (.slice B h.length E) i (by kernel_rfl) H _ Try.underlying70 rfl (by kernel_rfl) (by omega)) ?_
      simp only [List.set_cons_zero, List.set_cons_succ]
      refine xAlloc 5 70 [.int .i64 0, .int .i64 0] rfl (by kernel_rfl) ?_
      intro w2 n2
      have zn2 := n2.z
      have b5 := n2.c
      replace BL := BL.e0 n2.e
      replace D := D.e0 n2.e
      replace H := H.e0 n2.e
      replace b1 := b1.e0 n2.e
      simp only [List.set_cons_zero, List.set_cons_succ]
      refine sv 4 (.int .i64 ((i : Nat) : Int)) .of ?_
      simp only [List.set_cons_zero, List.set_cons_succ]
      refine xStoreR 70 (.tmp 5) (.tmp 17) rfl wl0.heap.size 70 [.int .i64 0, .int .i64 0] 0 [.int .i64 (h.getD i (0, 0)).1, .int .i64 (h.getD i (0, 0)).2] (by kernel_rfl) (by kernel_rfl) b5 (by kernel_rfl) (by simp) rfl [.int .i64 (h.getD i (0, 0)).1, .int .i64 (h.getD i (0, 0)).2] rfl ?_
      intro w3 t1
      have zt1 := t1.z
      have BL_ := BL.ev t1.e (fun i h => show w.heap.size ≤ i by have h : i = wl0.heap.size := h; omega)
      have D_ := D.ev t1.e (fun i hi => show ¬ (i = wl0.heap.size) by have := hdl i hi; omega)
      have H_ := H.ev t1.e (fun i hi => show ¬ (i = wl0.heap.size) by have := hhl i hi; omega)
      have b1_ := b1.ev t1.e (show ¬ (w.heap.size = wl0.heap.size) by omega)
      replace BL := BL_; clear BL_
      replace D := D_; clear D_
      replace H := H_; clear H_
      replace b1 := b1_; clear b1_
      replace b5 : Cel w3 wl0.heap.size 70 [.int .i64 (h.getD i (0, 0)).1, .int .i64 (h.getD i (0, 0)).2] := t1.c
      clear t1
      refine wpList_nil ?_
      refine hK11 _ _ ?_
      refine wp_seq_k fun K12 hK12 => ?_
      refine wp_seq_k fun K13 hK13 => ?_
      refine cPlain ?_
      refine sv 18 (.pointer (some ⟨wl0.heap.size, 0, none⟩)) .of ?_
      simp only [List.set_cons_zero, List.set_cons_succ]
      refine sv 19 (.int .i64 (h.getD i (0, 0)).1) (Val.cel1 3 _ rfl wl0.heap.size 0 _ (by kernel_rfl) (fun _ => (by kernel_rfl)) b5 rfl) ?_
      simp only [List.set_cons_zero, List.set_cons_succ]
      refine sv 20 (.int .i64 ((F : Nat) : Int)) .of ?_
      simp only [List.set_cons_zero, List.set_cons_succ]
      refine sv 21 (.bool (decide ((h.getD i (0, 0)).1 < ((F : Nat) : Int)))) (Val.cmp .lss 3 _ (.tmp 19) (.tmp 20) rfl .i64 ((h.getD i (0, 0)).1) ((F : Nat) : Int) (by kernel_rfl) (by kernel_rfl) (by simp) _ rfl) ?_
      simp only [List.set_cons_zero, List.set_cons_succ]
      refine sv 22 (.bool (decide ((h.getD i (0, 0)).1 < ((F : Nat) : Int)))) .of ?_
      simp only [List.set_cons_zero, List.set_cons_succ]
      by_cases g23 : (h.getD i (0, 0)).1 < ((F : Nat) : Int)
      · skip
        have dg23 : decide ((h.getD i (0, 0)).1 < ((F : Nat) : Int)) = true := decide_eq_true g23
        simp only [dg23]
        clear dg23
        refine xSkip 23 ?_
        simp only [List.set_cons_zero, List.set_cons_succ]
        refine xSkip 24 ?_
        simp only [List.set_cons_zero, List.set_cons_succ]
        refine xSkip 25 ?_
        simp only [List.set_cons_zero, List.set_cons_succ]
        refine xSkip 26 ?_
        simp only [List.set_cons_zero, List.set_cons_succ]
        refine xSkip 27 ?_
        simp only [List.set_cons_zero, List.set_cons_succ]
        refine xSkip 28 ?_
        simp only [List.set_cons_zero, List.set_cons_succ]
        refine xSkip 29 ?_
        simp only [List.set_cons_zero, List.set_cons_succ]
        refine xSkip 30 ?_
        simp only [List.set_cons_zero, List.set_cons_succ]
        refine sv 31 (.bool true) .of ?_
        simp only [List.set_cons_zero, List.set_cons_succ]
        refine sv 32 (.bool true) .of ?_
        simp only [List.set_cons_zero, List.set_cons_succ]
        refine xSkip 33 ?_
        simp only [List.set_cons_zero, List.set_cons_succ]
        refine xSkip 34 ?_
        simp only [List.set_cons_zero, List.set_cons_succ]
        refine xSkip 35 ?_
        simp only [List.set_cons_zero, List.set_cons_succ]
        refine xSkip 36 ?_
        simp only [List.set_cons_zero, List.set_cons_succ]
        refine xSkip 37 ?_
        simp only [List.set_cons_zero, List.set_cons_succ]
        refine sv 38 (.bool true) .of ?_
        simp only [List.set_cons_zero, List.set_cons_succ]
        refine sv 39 (.bool true) .of ?_
        simp only [List.set_cons_zero, List.set_cons_succ]
        refine xSkip 40 ?_
        simp only [List.set_cons_zero, List.set_cons_succ]
        refine xSkip 41 ?_
        simp only [List.set_cons_zero, List.set_cons_succ]
        refine xSkip 42 ?_
        simp only [List.set_cons_zero, List.set_cons_succ]
        refine xSkip 43 ?_
        simp only [List.set_cons_zero, List.set_cons_succ]
        refine xSkip 44 ?_
        simp only [List.set_cons_zero, List.set_cons_succ]
        refine xSkip 45 ?_
        simp only [List.set_cons_zero, List.set_cons_succ]
        refine sv 46 (.bool true) .of ?_
        simp only [List.set_cons_zero, List.set_cons_succ]
        refine sv 47 (.bool true) .of ?_
        simp only [List.set_cons_zero, List.set_cons_succ]
        refine xSkip 48 ?_
        simp only [List.set_cons_zero, List.set_cons_succ]
        refine xSkip 49 ?_
        simp only [List.set_cons_zero, List.set_cons_succ]
        refine xSkip 50 ?_
        simp only [List.set_cons_zero, List.set_cons_succ]
        refine xSkip 51 ?_
        simp only [List.set_cons_zero, List.set_cons_succ]
        refine xSkip 52 ?_
        simp only [List.set_cons_zero, List.set_cons_succ]
        refine xSkip 53 ?_
        simp only [List.set_cons_zero, List.set_cons_succ]
        refine xSkip 54 ?_
        simp only [List.set_cons_zero, List.set_cons_succ]
        refine xSkip 55 ?_
        simp only [List.set_cons_zero, List.set_cons_succ]
        refine sv 56 (.bool true) .of ?_
        simp only [List.set_cons_zero, List.set_cons_succ]
        refine wpList_nil ?_
        refine hK13 _ _ ?_
        refine cT ?_
        refine wp_seq_k fun K14 hK14 => ?_
        refine cPlain ?_
        refine sv 2 (.bool false) .of ?_
        simp only [List.set_cons_zero, List.set_cons_succ]
        refine wpList_nil ?_
        refine hK14 _ _ ?_
        refine wp_ret ?_
        (try simp only [Exit.then, Exit.inBlock])
        refine bodyPost_ret (v := .bool false) rT rfl ?_
        have hbad : (badS d ((F : Nat) : Int) (decide (0 < i)) (h.getD i (0, 0))) = true := badS_iff.2 (by first | exact .inl (by omega) | exact .inr (.inl ⟨decide_eq_true (by omega), by omega⟩) | exact .inr (.inr (.inl (by omega))) | exact .inr (.inr (.inr (.inl (by omega)))) | exact .inr (.inr (.inr (.inr c56))))
        rw [rightX_of (by omega) (hc0_2.trans (rightF_bad (by omega) hbad))]
        exact ⟨rfl, BL.b⟩
      · skip
        have dg23 : decide ((h.getD i (0, 0)).1 < ((F : Nat) : Int)) = false := decide_eq_false g23
        simp only [dg23]
        clear dg23
        refine sv 23 (.int .i64 ((i : Nat) : Int)) .of ?_
        simp only [List.set_cons_zero, List.set_cons_succ]
        refine sv 24 (.bool (decide (0 < ((i : Nat) : Int)))) (Val.cmp .gtr 3 _ (.tmp 23) _ rfl .i64 ((i : Nat) : Int) 0 (by kernel_rfl) (by kernel_rfl) (by simp) _ rfl) ?_
        simp only [List.set_cons_zero, List.set_cons_succ]
        refine sv 25 (.bool (decide (0 < ((i : Nat) : Int)))) .of ?_
        simp only [List.set_cons_zero, List.set_cons_succ]
        by_cases g26 : 0 < ((i : Nat) : Int)
        · skip
          have dg26 : decide (0 < ((i : Nat) : Int)) = true := decide_eq_true g26
          simp only [dg26]
          clear dg26
          refine sv 26 (.pointer (some ⟨wl0.heap.size, 0, none⟩)) .of ?_
          simp only [List.set_cons_zero, List.set_cons_succ]
          refine sv 27 (.int .i64 (h.getD i (0, 0)).1) (Val.cel1 3 _ rfl wl0.heap.size 0 _ (by kernel_rfl) (fun _ => (by kernel_rfl)) b5 rfl) ?_
          simp only [List.set_cons_zero, List.set_cons_succ]
          refine sv 28 (.int .i64 ((F : Nat) : Int)) .of ?_
          simp only [List.set_cons_zero, List.set_cons_succ]
          refine sv 29 (.bool (decide ((h.getD i (0, 0)).1 = ((F : Nat) : Int)))) (Val.cmp .eql 3 _ (.tmp 27) (.tmp 28) rfl .i64 ((h.getD i (0, 0)).1) ((F : Nat) : Int) (by kernel_rfl) (by kernel_rfl) (by simp) _ rfl) ?_
          simp only [List.set_cons_zero, List.set_cons_succ]
          refine sv 30 (.bool (decide ((h.getD i (0, 0)).1 = ((F : Nat) : Int)))) .of ?_
          simp only [List.set_cons_zero, List.set_cons_succ]
          refine sv 31 (.bool (decide ((h.getD i (0, 0)).1 = ((F : Nat) : Int)))) .of ?_
          simp only [List.set_cons_zero, List.set_cons_succ]
          refine sv 32 (.bool (decide ((h.getD i (0, 0)).1 = ((F : Nat) : Int)))) .of ?_
          simp only [List.set_cons_zero, List.set_cons_succ]
          by_cases g33 : (h.getD i (0, 0)).1 = ((F : Nat) : Int)
          · skip
            have dg33 : decide ((h.getD i (0, 0)).1 = ((F : Nat) : Int)) = true := decide_eq_true g33
            simp only [dg33]
            clear dg33
            refine xSkip 33 ?_
            simp only [List.set_cons_zero, List.set_cons_succ]
            refine xSkip 34 ?_
            simp only [List.set_cons_zero, List.set_cons_succ]
            refine xSkip 35 ?_
            simp only [List.set_cons_zero, List.set_cons_succ]
            refine xSkip 36 ?_
            simp only [List.set_cons_zero, List.set_cons_succ]
            refine xSkip 37 ?_
            simp only [List.set_cons_zero, List.set_cons_succ]
            refine sv 38 (.bool true) .of ?_
            simp only [List.set_cons_zero, List.set_cons_succ]
            refine sv 39 (.bool true) .of ?_
            simp only [List.set_cons_zero, List.set_cons_succ]
            refine xSkip 40 ?_
            simp only [List.set_cons_zero, List.set_cons_succ]
            refine xSkip 41 ?_
            simp only [List.set_cons_zero, List.set_cons_succ]
            refine xSkip 42 ?_
            simp only [List.set_cons_zero, List.set_cons_succ]
            refine xSkip 43 ?_
            simp only [List.set_cons_zero, List.set_cons_succ]
            refine xSkip 44 ?_
            simp only [List.set_cons_zero, List.set_cons_succ]
            refine xSkip 45 ?_
            simp only [List.set_cons_zero, List.set_cons_succ]
            refine sv 46 (.bool true) .of ?_
            simp only [List.set_cons_zero, List.set_cons_succ]
            refine sv 47 (.bool true) .of ?_
            simp only [List.set_cons_zero, List.set_cons_succ]
            refine xSkip 48 ?_
            simp only [List.set_cons_zero, List.set_cons_succ]
            refine xSkip 49 ?_
            simp only [List.set_cons_zero, List.set_cons_succ]
            refine xSkip 50 ?_
            simp only [List.set_cons_zero, List.set_cons_succ]
            refine xSkip 51 ?_
            simp only [List.set_cons_zero, List.set_cons_succ]
            refine xSkip 52 ?_
            simp only [List.set_cons_zero, List.set_cons_succ]
            refine xSkip 53 ?_
            simp only [List.set_cons_zero, List.set_cons_succ]
            refine xSkip 54 ?_
            simp only [List.set_cons_zero, List.set_cons_succ]
            refine xSkip 55 ?_
            simp only [List.set_cons_zero, List.set_cons_succ]
            refine sv 56 (.bool true) .of ?_
            simp only [List.set_cons_zero, List.set_cons_succ]
            refine wpList_nil ?_
            refine hK13 _ _ ?_
            refine cT ?_
            refine wp_seq_k fun K15 hK15 => ?_
            refine cPlain ?_
            refine sv 2 (.bool false) .of ?_
            simp only [List.set_cons_zero, List.set_cons_succ]
            refine wpList_nil ?_
            refine hK15 _ _ ?_
            refine wp_ret ?_
            (try simp only [Exit.then, Exit.inBlock])
            refine bodyPost_ret (v := .bool false) rT rfl ?_
            have hbad : (badS d ((F : Nat) : Int) (decide (0 < i)) (h.getD i (0, 0))) = true := badS_iff.2 (by first | exact .inl (by omega) | exact .inr (.inl ⟨decide_eq_true (by omega), by omega⟩) | exact .inr (.inr (.inl (by omega))) | exact .inr (.inr (.inr (.inl (by omega)))) | exact .inr (.inr (.inr (.inr c56))))
            rw [rightX_of (by omega) (hc0_2.trans (rightF_bad (by omega) hbad))]
            exact ⟨rfl, BL.b⟩
          · skip
            have dg33 : decide ((h.getD i (0, 0)).1 = ((F : Nat) : Int)) = false := decide_eq_false g33
            simp only [dg33]
            clear dg33
            refine sv 33 (.pointer (some ⟨wl0.heap.size, 1, none⟩)) .of ?_
            simp only [List.set_cons_zero, List.set_cons_succ]
            refine sv 34 (.int .i64 (h.getD i (0, 0)).2) (Val.cel1 3 _ rfl wl0.heap.size 1 _ (by kernel_rfl) (fun _ => (by kernel_rfl)) b5 rfl) ?_
            simp only [List.set_cons_zero, List.set_cons_succ]
            refine sv 35 (.pointer (some ⟨wl0.heap.size, 0, none⟩)) .of ?_
            simp only [List.set_cons_zero, List.set_cons_succ]
            refine sv 36 (.int .i64 (h.getD i (0, 0)).1) (Val.cel1 3 _ rfl wl0.heap.size 0 _ (by kernel_rfl) (fun _ => (by kernel_rfl)) b5 rfl) ?_
            simp only [List.set_cons_zero, List.set_cons_succ]
            refine sv 37 (.bool (decide ((h.getD i (0, 0)).2 ≤ (h.getD i (0, 0)).1))) (Val.cmp .leq 3 _ (.tmp 34) (.tmp 36) rfl .i64 ((h.getD i (0, 0)).2) ((h.getD i (0, 0)).1) (by kernel_rfl) (by kernel_rfl) (by simp) _ rfl) ?_
            simp only [List.set_cons_zero, List.set_cons_succ]
            refine sv 38 (.bool (decide ((h.getD i (0, 0)).2 ≤ (h.getD i (0, 0)).1))) .of ?_
            simp only [List.set_cons_zero, List.set_cons_succ]
            refine sv 39 (.bool (decide ((h.getD i (0, 0)).2 ≤ (h.getD i (0, 0)).1))) .of ?_
            simp only [List.set_cons_zero, List.set_cons_succ]
            by_cases g40 : (h.getD i (0, 0)).2 ≤ (h.getD i (0, 0)).1
            · skip
              have dg40 : decide ((h.getD i (0, 0)).2 ≤ (h.getD i (0, 0)).1) = true := decide_eq_true g40
              simp only [dg40]
              clear dg40
              refine xSkip 40 ?_
              simp only [List.set_cons_zero, List.set_cons_succ]
              refine xSkip 41 ?_
              simp only [List.set_cons_zero, List.set_cons_succ]
              refine xSkip 42 ?_
              simp only [List.set_cons_zero, List.set_cons_succ]
              refine xSkip 43 ?_
              simp only [List.set_cons_zero, List.set_cons_succ]
              refine xSkip 44 ?_
              simp only [List.set_cons_zero, List.set_cons_succ]
              refine xSkip 45 ?_
              simp only [List.set_cons_zero, List.set_cons_succ]
              refine sv 46 (.bool true) .of ?_
              simp only [List.set_cons_zero, List.set_cons_succ]
              refine sv 47 (.bool true) .of ?_
              simp only [List.set_cons_zero, List.set_cons_succ]
              refine xSkip 48 ?_
              simp only [List.set_cons_zero, List.set_cons_succ]
              refine xSkip 49 ?_
              simp only [List.set_cons_zero, List.set_cons_succ]
              refine xSkip 50 ?_
              simp only [List.set_cons_zero, List.set_cons_succ]
              refine xSkip 51 ?_
              simp only [List.set_cons_zero, List.set_cons_succ]
              refine xSkip 52 ?_
              simp only [List.set_cons_zero, List.set_cons_succ]
              refine xSkip 53 ?_
              simp only [List.set_cons_zero, List.set_cons_succ]
              refine xSkip 54 ?_
              simp only [List.set_cons_zero, List.set_cons_succ]
              refine xSkip 55 ?_
              simp only [List.set_cons_zero, List.set_cons_succ]
              refine sv 56 (.bool true) .of ?_
              simp only [List.set_cons_zero, List.set_cons_succ]
              refine wpList_nil ?_
              refine hK13 _ _ ?_
              refine cT ?_
              refine wp_seq_k fun K16 hK16 => ?_
              refine cPlain ?_
              refine sv 2 (.bool false) .of ?_
              simp only [List.set_cons_zero, List.set_cons_succ]
              refine wpList_nil ?_
              refine hK16 _ _ ?_
              refine wp_ret ?_
              (try simp only [Exit.then, Exit.inBlock])
              refine bodyPost_ret (v := .bool false) rT rfl ?_
              have hbad : (badS d ((F : Nat) : Int) (decide (0 < i)) (h.getD i (0, 0))) = true := badS_iff.2 (by first | exact .inl (by omega) | exact .inr (.inl ⟨decide_eq_true (by omega), by omega⟩) | exact .inr (.inr (.inl (by omega))) | exact .inr (.inr (.inr (.inl (by omega)))) | exact .inr (.inr (.inr (.inr c56))))
              rw [rightX_of (by omega) (hc0_2.trans (rightF_bad (by omega) hbad))]
              exact ⟨rfl, BL.b⟩
            · skip
              have dg40 : decide ((h.getD i (0, 0)).2 ≤ (h.getD i (0, 0)).1) = false := decide_eq_false g40
              simp only [dg40]
              clear dg40
              refine sv 40 (.pointer (some ⟨wl0.heap.size, 1, none⟩)) .of ?_
              simp only [List.set_cons_zero, List.set_cons_succ]
              refine sv 41 (.int .i64 (h.getD i (0, 0)).2) (Val.cel1 3 _ rfl wl0.heap.size 1 _ (by kernel_rfl) (fun _ => (by kernel_rfl)) b5 rfl) ?_
              simp only [List.set_cons_zero, List.set_cons_succ]
              refine sv 42 (.pointer (some ⟨w.heap.size, 0, none⟩)) .of ?_
              simp only [List.set_cons_zero, List.set_cons_succ]
              refine sv 43 (.slice A d.length C) (Val.cel1 29 _ rfl w.heap.size 0 _ (by kernel_rfl) (fun _ => (by kernel_rfl)) b1 rfl) ?_
              simp only [List.set_cons_zero, List.set_cons_succ]
              refine sv 44 (.int .i64 (d.length : Int)) .of ?_
              simp only [List.set_cons_zero, List.set_cons_succ]
              refine sv 45 (.bool (decide ((d.length : Int) < (h.getD i (0, 0)).2))) (Val.cmp .gtr 3 _ (.tmp 41) (.tmp 44) rfl .i64 ((h.getD i (0, 0)).2) (d.length : Int) (by kernel_rfl) (by kernel_rfl) (by simp) _ rfl) ?_
              simp only [List.set_cons_zero, List.set_cons_succ]
              refine sv 46 (.bool (decide ((d.length : Int) < (h.getD i (0, 0)).2))) .of ?_
              simp only [List.set_cons_zero, List.set_cons_succ]
              refine sv 47 (.bool (decide ((d.length : Int) < (h.getD i (0, 0)).2))) .of ?_
              simp only [List.set_cons_zero, List.set_cons_succ]
              by_cases g48 : (d.length : Int) < (h.getD i (0, 0)).2
              · skip
                have dg48 : decide ((d.length : Int) < (h.getD i (0, 0)).2) = true := decide_eq_true g48
                simp only [dg48]
                clear dg48
                refine xSkip 48 ?_
                simp only [List.set_cons_zero, List.set_cons_succ]
                refine xSkip 49 ?_
                simp only [List.set_cons_zero, List.set_cons_succ]
                refine xSkip 50 ?_
                simp only [List.set_cons_zero, List.set_cons_succ]
                refine xSkip 51 ?_
                simp only [List.set_cons_zero, List.set_cons_succ]
                refine xSkip 52 ?_
                simp only [List.set_cons_zero, List.set_cons_succ]
                refine xSkip 53 ?_
                simp only [List.set_cons_zero, List.set_cons_succ]
                refine xSkip 54 ?_
                simp only [List.set_cons_zero, List.set_cons_succ]
                refine xSkip 55 ?_
                simp only [List.set_cons_zero, List.set_cons_succ]
                refine sv 56 (.bool true) .of ?_
                simp only [List.set_cons_zero, List.set_cons_succ]
                refine wpList_nil ?_
                refine hK13 _ _ ?_
                refine cT ?_
                refine wp_seq_k fun K17 hK17 => ?_
                refine cPlain ?_
                refine sv 2 (.bool false) .of ?_
                simp only [List.set_cons_zero, List.set_cons_succ]
                refine wpList_nil ?_
                refine hK17 _ _ ?_
                refine wp_ret ?_
                (try simp only [Exit.then, Exit.inBlock])
                refine bodyPost_ret (v := .bool false) rT rfl ?_
                have hbad : (badS d ((F : Nat) : Int) (decide (0 < i)) (h.getD i (0, 0))) = true := badS_iff.2 (by first | exact .inl (by omega) | exact .inr (.inl ⟨decide_eq_true (by omega), by omega⟩) | exact .inr (.inr (.inl (by omega))) | exact .inr (.inr (.inr (.inl (by omega)))) | exact .inr (.inr (.inr (.inr c56))))
                rw [rightX_of (by omega) (hc0_2.trans (rightF_bad (by omega) hbad))]
                exact ⟨rfl, BL.b⟩
              · skip
                have dg48 : decide ((d.length : Int) < (h.getD i (0, 0)).2) = false := decide_eq_false g48
                simp only [dg48]
                clear dg48
                refine sv 48 (.pointer (some ⟨w.heap.size, 0, none⟩)) .of ?_
                simp only [List.set_cons_zero, List.set_cons_succ]
                refine sv 49 (.slice A d.length C) (Val.cel1 29 _ rfl w.heap.size 0 _ (by kernel_rfl) (fun _ => (by kernel_rfl)) b1 rfl) ?_
                simp only [List.set_cons_zero, List.set_cons_succ]
                refine sv 50 (.int .i64 ((F : Nat) : Int)) .of ?_
                simp only [List.set_cons_zero, List.set_cons_succ]
                refine sv 51 (.pointer (some ⟨wl0.heap.size, 0, none⟩)) .of ?_
                simp only [List.set_cons_zero, List.set_cons_succ]
                refine sv 52 (.int .i64 (((h.getD i (0, 0)).1.toNat : Nat) : Int)) (Val.as (Val.cel1 3 _ rfl wl0.heap.size 0 _ (by kernel_rfl) (fun _ => (by kernel_rfl)) b5 rfl) (congrArg (Value.int .i64) (by omega))) ?_
                simp only [List.set_cons_zero, List.set_cons_succ]
                refine sv 53 (sliceV (.slice A d.length C) F ((h.getD i (0, 0)).1.toNat)) (Val.slc 29 (.tmp 49) (some (.tmp 50)) (some (.tmp 52)) rfl (.slice A d.length C) (by kernel_rfl) D F ((h.getD i (0, 0)).1.toNat) (.inl (by kernel_rfl)) (.inl (by kernel_rfl)) (by omega) (by rw [nn_len]; omega) Try.underlying29 (by kernel_rfl)) ?_
                simp only [List.set_cons_zero, List.set_cons_succ]
                refine xCall 54 63 #[sliceV (.slice A d.length C) F ((h.getD i (0, 0)).1.toNat)] (by kernel_rfl) ?_
                refine (blank_any ((d.drop F).take ((h.getD i (0, 0)).1.toNat - F)) _ w3 ((D.slice F (h.getD i (0, 0)).1.toNat (by omega) (by rw [nn_len]; omega)).castX (nn_seg d F _))).mono ?_
                rintro en w4 ⟨rfl, hb1⟩
                have e1 := belE0 hb1
                have ze1 := e1.size
                replace BL := BL.e0 e1
                replace D := D.e0 e1
                replace H := H.e0 e1
                replace b1 := b1.e0 e1
                replace b5 := b5.e0 e1
                clear e1
                refine ⟨.bool (blankL ((d.drop F).take ((h.getD i (0, 0)).1.toNat - F))), rfl, ?_⟩
                simp only [List.set_cons_zero, List.set_cons_succ]
                refine sv 55 (.bool (decide ((blankL ((d.drop F).take ((h.getD i (0, 0)).1.toNat - F))) = false))) (Val.not _ _ rfl (blankL ((d.drop F).take ((h.getD i (0, 0)).1.toNat - F))) _ (by kernel_rfl) eval_not) ?_
                simp only [List.set_cons_zero, List.set_cons_succ]
                refine sv 56 (.bool (decide ((blankL ((d.drop F).take ((h.getD i (0, 0)).1.toNat - F))) = false))) .of ?_
                simp only [List.set_cons_zero, List.set_cons_succ]
                refine wpList_nil ?_
                refine hK13 _ _ ?_
                refine cDec ((blankL ((d.drop F).take ((h.getD i (0, 0)).1.toNat - F))) = false) (by kernel_rfl) (fun c56 => ?_) (fun c56 => ?_)
                · skip
                  refine wp_seq_k fun K18 hK18 => ?_
                  refine cPlain ?_
                  refine sv 2 (.bool false) .of ?_
                  simp only [List.set_cons_zero, List.set_cons_succ]
                  refine wpList_nil ?_
                  refine hK18 _ _ ?_
                  refine wp_ret ?_
                  (try simp only [Exit.then, Exit.inBlock])
                  refine bodyPost_ret (v := .bool false) rT rfl ?_
                  have hbad : (badS d ((F : Nat) : Int) (decide (0 < i)) (h.getD i (0, 0))) = true := badS_iff.2 (by first | exact .inl (by omega) | exact .inr (.inl ⟨decide_eq_true (by omega), by omega⟩) | exact .inr (.inr (.inl (by omega))) | exact .inr (.inr (.inr (.inl (by omega)))) | exact .inr (.inr (.inr (.inr c56))))
                  rw [rightX_of (by omega) (hc0_2.trans (rightF_bad (by omega) hbad))]
                  exact ⟨rfl, BL.b⟩
                · skip
                  refine wp_skip ?_
                  refine hK12 _ _ ?_
                  refine cPlain ?_
                  refine sv 57 (.pointer (some ⟨wl0.heap.size, 1, none⟩)) .of ?_
                  simp only [List.set_cons_zero, List.set_cons_succ]
                  refine sv 58 (.int .i64 (((h.getD i (0, 0)).2.toNat : Nat) : Int)) (Val.as (Val.cel1 3 _ rfl wl0.heap.size 1 _ (by kernel_rfl) (fun _ => (by kernel_rfl)) b5 rfl) (congrArg (Value.int .i64) (by omega))) ?_
                  simp only [List.set_cons_zero, List.set_cons_succ]
                  refine sv 3 (.int .i64 (((h.getD i (0, 0)).2.toNat : Nat) : Int)) .of ?_
                  simp only [List.set_cons_zero, List.set_cons_succ]
                  refine wpList_nil ?_
                  refine hK10 _ _ ?_
                  refine cPlain ?_
                  refine sv 59 (.int .i64 (((i : Nat) : Int) + 1)) (Val.add 3 _ (.tmp 13) _ rfl ((i : Nat) : Int) 1 (by kernel_rfl) (by kernel_rfl) (by omega)) ?_
                  simp only [List.set_cons_zero, List.set_cons_succ]
                  refine sv 13 (.int .i64 (((i : Nat) : Int) + 1)) .of ?_
                  simp only [List.set_cons_zero, List.set_cons_succ]
                  refine wpList_nil ?_
                  refine ⟨_, ?_, i + 1, (h.getD i (0, 0)).2.toNat, rfl, (by omega), (by omega), (hc0_2.trans (rightF_go (by omega) (by omega) (by omega) (by omega) (by omega) c56)), cutE, BL, D, H, b1, by omega⟩
                  omega
        · skip
          have dg26 : decide (0 < ((i : Nat) : Int)) = false := decide_eq_false g26
          simp only [dg26]
          clear dg26
          refine xSkip 26 ?_
          simp only [List.set_cons_zero, List.set_cons_succ]
          refine xSkip 27 ?_
          simp only [List.set_cons_zero, List.set_cons_succ]
          refine xSkip 28 ?_
          simp only [List.set_cons_zero, List.set_cons_succ]
          refine xSkip 29 ?_
          simp only [List.set_cons_zero, List.set_cons_succ]
          refine sv 30 (.bool false) .of ?_
          simp only [List.set_cons_zero, List.set_cons_succ]
          refine sv 31 (.bool false) .of ?_
          simp only [List.set_cons_zero, List.set_cons_succ]
          refine sv 32 (.bool false) .of ?_
          simp only [List.set_cons_zero, List.set_cons_succ]
          refine sv 33 (.pointer (some ⟨wl0.heap.size, 1, none⟩)) .of ?_
          simp only [List.set_cons_zero, List.set_cons_succ]
          refine sv 34 (.int .i64 (h.getD i (0, 0)).2) (Val.cel1 3 _ rfl wl0.heap.size 1 _ (by kernel_rfl) (fun _ => (by kernel_rfl)) b5 rfl) ?_
          simp only [List.set_cons_zero, List.set_cons_succ]
          refine sv 35 (.pointer (some ⟨wl0.heap.size, 0, none⟩)) .of ?_
          simp only [List.set_cons_zero, List.set_cons_succ]
          refine sv 36 (.int .i64 (h.getD i (0, 0)).1) (Val.cel1 3 _ rfl wl0.heap.size 0 _ (by kernel_rfl) (fun _ => (by kernel_rfl)) b5 rfl) ?_
          simp only [List.set_cons_zero, List.set_cons_succ]
          refine sv 37 (.bool (decide ((h.getD i (0, 0)).2 ≤ (h.getD i (0, 0)).1))) (Val.cmp .leq 3 _ (.tmp 34) (.tmp 36) rfl .i64 ((h.getD i (0, 0)).2) ((h.getD i (0, 0)).1) (by kernel_rfl) (by kernel_rfl) (by simp) _ rfl) ?_
          simp only [List.set_cons_zero, List.set_cons_succ]
          refine sv 38 (.bool (decide ((h.getD i (0, 0)).2 ≤ (h.getD i (0, 0)).1))) .of ?_
          simp only [List.set_cons_zero, List.set_cons_succ]
          refine sv 39 (.bool (decide ((h.getD i (0, 0)).2 ≤ (h.getD i (0, 0)).1))) .of ?_
          simp only [List.set_cons_zero, List.set_cons_succ]
          by_cases g40 : (h.getD i (0, 0)).2 ≤ (h.getD i (0, 0)).1
          · skip
            have dg40 : decide ((h.getD i (0, 0)).2 ≤ (h.getD i (0, 0)).1) = true := decide_eq_true g40
            simp only [dg40]
            clear dg40
            refine xSkip 40 ?_
            simp only [List.set_cons_zero, List.set_cons_succ]
            refine xSkip 41 ?_
            simp only [List.set_cons_zero, List.set_cons_succ]
            refine xSkip 42 ?_
            simp only [List.set_cons_zero, List.set_cons_succ]
            refine xSkip 43 ?_
            simp only [List.set_cons_zero, List.set_cons_succ]
            refine xSkip 44 ?_
            simp only [List.set_cons_zero, List.set_cons_succ]
            refine xSkip 45 ?_
            simp only [List.set_cons_zero, List.set_cons_succ]
            refine sv 46 (.bool true) .of ?_
            simp only [List.set_cons_zero, List.set_cons_succ]
            refine sv 47 (.bool true) .of ?_
            simp only [List.set_cons_zero, List.set_cons_succ]
            refine xSkip 48 ?_
            simp only [List.set_cons_zero, List.set_cons_succ]
            refine xSkip 49 ?_
            simp only [List.set_cons_zero, List.set_cons_succ]
            refine xSkip 50 ?_
            simp only [List.set_cons_zero, List.set_cons_succ]
            refine xSkip 51 ?_
            simp only [List.set_cons_zero, List.set_cons_succ]
            refine xSkip 52 ?_
            simp only [List.set_cons_zero, List.set_cons_succ]
            refine xSkip 53 ?_
            simp only [List.set_cons_zero, List.set_cons_succ]
            refine xSkip 54 ?_
            simp only [List.set_cons_zero, List.set_cons_succ]
            refine xSkip 55 ?_
            simp only [List.set_cons_zero, List.set_cons_succ]
            refine sv 56 (.bool true) .of ?_
            simp only [List.set_cons_zero, List.set_cons_succ]
            refine wpList_nil ?_
            refine hK13 _ _ ?_
            refine cT ?_
            refine wp_seq_k fun K19 hK19 => ?_
            refine cPlain ?_
            refine sv 2 (.bool false) .of ?_
            simp only [List.set_cons_zero, List.set_cons_succ]
            refine wpList_nil ?_
            refine hK19 _ _ ?_
            refine wp_ret ?_
            (try simp only [Exit.then, Exit.inBlock])
            refine bodyPost_ret (v := .bool false) rT rfl ?_
            have hbad : (badS d ((F : Nat) : Int) (decide (0 < i)) (h.getD i (0, 0))) = true := badS_iff.2 (by first | exact .inl (by omega) | exact .inr (.inl ⟨decide_eq_true (by omega), by omega⟩) | exact .inr (.inr (.inl (by omega))) | exact .inr (.inr (.inr (.inl (by omega)))) | exact .inr (.inr (.inr (.inr c56))))
            rw [rightX_of (by omega) (hc0_2.trans (rightF_bad (by omega) hbad))]
            exact ⟨rfl, BL.b⟩
          · skip
            have dg40 : decide ((h.getD i (0, 0)).2 ≤ (h.getD i (0, 0)).1) = false := decide_eq_false g40
            simp only [dg40]
            clear dg40
            refine sv 40 (.pointer (some ⟨wl0.heap.size, 1, none⟩)) .of ?_
            simp only [List.set_cons_zero, List.set_cons_succ]
            refine sv 41 (.int .i64 (h.getD i (0, 0)).2) (Val.cel1 3 _ rfl wl0.heap.size 1 _ (by kernel_rfl) (fun _ => (by kernel_rfl)) b5 rfl) ?_
            simp only [List.set_cons_zero, List.set_cons_succ]
            refine sv 42 (.pointer (some ⟨w.heap.size, 0, none⟩)) .of ?_
            simp only [List.set_cons_zero, List.set_cons_succ]
            refine sv 43 (.slice A d.length C) (Val.cel1 29 _ rfl w.heap.size 0 _ (by kernel_rfl) (fun _ => (by kernel_rfl)) b1 rfl) ?_
            simp only [List.set_cons_zero, List.set_cons_succ]
            refine sv 44 (.int .i64 (d.length : Int)) .of ?_
            simp only [List.set_cons_zero, List.set_cons_succ]
            refine sv 45 (.bool (decide ((d.length : Int) < (h.getD i (0, 0)).2))) (Val.cmp .gtr 3 _ (.tmp 41) (.tmp 44) rfl .i64 ((h.getD i (0, 0)).2) (d.length : Int) (by kernel_rfl) (by kernel_rfl) (by simp) _ rfl) ?_
            simp only [List.set_cons_zero, List.set_cons_succ]
            refine sv 46 (.bool (decide ((d.length : Int) < (h.getD i (0, 0)).2))) .of ?_
            simp only [List.set_cons_zero, List.set_cons_succ]
            refine sv 47 (.bool (decide ((d.length : Int) < (h.getD i (0, 0)).2))) .of ?_
            simp only [List.set_cons_zero, List.set_cons_succ]
            by_cases g48 : (d.length : Int) < (h.getD i (0, 0)).2
            · skip
              have dg48 : decide ((d.length : Int) < (h.getD i (0, 0)).2) = true := decide_eq_true g48
              simp only [dg48]
              clear dg48
              refine xSkip 48 ?_
              simp only [List.set_cons_zero, List.set_cons_succ]
              refine xSkip 49 ?_
              simp only [List.set_cons_zero, List.set_cons_succ]
              refine xSkip 50 ?_
              simp only [List.set_cons_zero, List.set_cons_succ]
              refine xSkip 51 ?_
              simp only [List.set_cons_zero, List.set_cons_succ]
              refine xSkip 52 ?_
              simp only [List.set_cons_zero, List.set_cons_succ]
              refine xSkip 53 ?_
              simp only [List.set_cons_zero, List.set_cons_succ]
              refine xSkip 54 ?_
              simp only [List.set_cons_zero, List.set_cons_succ]
              refine xSkip 55 ?_
              simp only [List.set_cons_zero, List.set_cons_succ]
              refine sv 56 (.bool true) .of ?_
              simp only [List.set_cons_zero, List.set_cons_succ]
              refine wpList_nil ?_
              refine hK13 _ _ ?_
              refine cT ?_
              refine wp_seq_k fun K20 hK20 => ?_
              refine cPlain ?_
              refine sv 2 (.bool false) .of ?_
              simp only [List.set_cons_zero, List.set_cons_succ]
              refine wpList_nil ?_
              refine hK20 _ _ ?_
              refine wp_ret ?_
              (try simp only [Exit.then, Exit.inBlock])
              refine bodyPost_ret (v := .bool false) rT rfl ?_
              have hbad : (badS d ((F : Nat) : Int) (decide (0 < i)) (h.getD i (0, 0))) = true := badS_iff.2 (by first | exact .inl (by omega) | exact .inr (.inl ⟨decide_eq_true (by omega), by omega⟩) | exact .inr (.inr (.inl (by omega))) | exact .inr (.inr (.inr (.inl (by omega)))) | exact .inr (.inr (.inr (.inr c56))))
              rw [rightX_of (by omega) (hc0_2.trans (rightF_bad (by omega) hbad))]
              exact ⟨rfl, BL.b⟩
            · skip
              have dg48 : decide ((d.length : Int) < (h.getD i (0, 0)).2) = false := decide_eq_false g48
              simp only [dg48]
              clear dg48
              refine sv 48 (.pointer (some ⟨w.heap.size, 0, none⟩)) .of ?_
              simp only [List.set_cons_zero, List.set_cons_succ]
              refine sv 49 (.slice A d.length C) (Val.cel1 29 _ rfl w.heap.size 0 _ (by kernel_rfl) (fun _ => (by kernel_rfl)) b1 rfl) ?_
              simp only [List.set_cons_zero, List.set_cons_succ]
              refine sv 50 (.int .i64 ((F : Nat) : Int)) .of ?_
              simp only [List.set_cons_zero, List.set_cons_succ]
              refine sv 51 (.pointer (some ⟨wl0.heap.size, 0, none⟩)) .of ?_
              simp only [List.set_cons_zero, List.set_cons_succ]
              refine sv 52 (.int .i64 (((h.getD i (0, 0)).1.toNat : Nat) : Int)) (Val.as (Val.cel1 3 _ rfl wl0.heap.size 0 _ (by kernel_rfl) (fun _ => (by kernel_rfl)) b5 rfl) (congrArg (Value.int .i64) (by omega))) ?_
              simp only [List.set_cons_zero, List.set_cons_succ]
              refine sv 53 (sliceV (.slice A d.length C) F ((h.getD i (0, 0)).1.toNat)) (Val.slc 29 (.tmp 49) (some (.tmp 50)) (some (.tmp 52)) rfl (.slice A d.length C) (by kernel_rfl) D F ((h.getD i (0, 0)).1.toNat) (.inl (by kernel_rfl)) (.inl (by kernel_rfl)) (by omega) (by rw [nn_len]; omega) Try.underlying29 (by kernel_rfl)) ?_
              simp only [List.set_cons_zero, List.set_cons_succ]
              refine xCall 54 63 #[sliceV (.slice A d.length C) F ((h.getD i (0, 0)).1.toNat)] (by kernel_rfl) ?_
              refine (blank_any ((d.drop F).take ((h.getD i (0, 0)).1.toNat - F)) _ w3 ((D.slice F (h.getD i (0, 0)).1.toNat (by omega) (by rw [nn_len]; omega)).castX (nn_seg d F _))).mono ?_
              rintro en w5 ⟨rfl, hb1⟩
              have e2 := belE0 hb1
              have ze2 := e2.size
              replace BL := BL.e0 e2
              replace D := D.e0 e2
              replace H := H.e0 e2
              replace b1 := b1.e0 e2
              replace b5 := b5.e0 e2
              clear e2
              refine ⟨.bool (blankL ((d.drop F).take ((h.getD i (0, 0)).1.toNat - F))), rfl, ?_⟩
              simp only [List.set_cons_zero, List.set_cons_succ]
              refine sv 55 (.bool (decide ((blankL ((d.drop F).take ((h.getD i (0, 0)).1.toNat - F))) = false))) (Val.not _ _ rfl (blankL ((d.drop F).take ((h.getD i (0, 0)).1.toNat - F))) _ (by kernel_rfl) eval_not) ?_
              simp only [List.set_cons_zero, List.set_cons_succ]
              refine sv 56 (.bool (decide ((blankL ((d.drop F).take ((h.getD i (0, 0)).1.toNat - F))) = false))) .of ?_
              simp only [List.set_cons_zero, List.set_cons_succ]
              refine wpList_nil ?_
              refine hK13 _ _ ?_
              refine cDec ((blankL ((d.drop F).take ((h.getD i (0, 0)).1.toNat - F))) = false) (by kernel_rfl) (fun c56 => ?_) (fun c56 => ?_)
              · skip
                refine wp_seq_k fun K21 hK21 => ?_
                refine cPlain ?_
                refine sv 2 (.bool false) .of ?_
                simp only [List.set_cons_zero, List.set_cons_succ]
                refine wpList_nil ?_
                refine hK21 _ _ ?_
                refine wp_ret ?_
                (try simp only [Exit.then, Exit.inBlock])
                refine bodyPost_ret (v := .bool false) rT rfl ?_
                have hbad : (badS d ((F : Nat) : Int) (decide (0 < i)) (h.getD i (0, 0))) = true := badS_iff.2 (by first | exact .inl (by omega) | exact .inr (.inl ⟨decide_eq_true (by omega), by omega⟩) | exact .inr (.inr (.inl (by omega))) | exact .inr (.inr (.inr (.inl (by omega)))) | exact .inr (.inr (.inr (.inr c56))))
                rw [rightX_of (by omega) (hc0_2.trans (rightF_bad (by omega) hbad))]
                exact ⟨rfl, BL.b⟩
              · skip
                refine wp_skip ?_
                refine hK12 _ _ ?_
                refine cPlain ?_
                refine sv 57 (.pointer (some ⟨wl0.heap.size, 1, none⟩)) .of ?_
                simp only [List.set_cons_zero, List.set_cons_succ]
                refine sv 58 (.int .i64 (((h.getD i (0, 0)).2.toNat : Nat) : Int)) (Val.as (Val.cel1 3 _ rfl wl0.heap.size 1 _ (by kernel_rfl) (fun _ => (by kernel_rfl)) b5 rfl) (congrArg (Value.int .i64) (by omega))) ?_
                simp only [List.set_cons_zero, List.set_cons_succ]
                refine sv 3 (.int .i64 (((h.getD i (0, 0)).2.toNat : Nat) : Int)) .of ?_
                simp only [List.set_cons_zero, List.set_cons_succ]
                refine wpList_nil ?_
                refine hK10 _ _ ?_
                refine cPlain ?_
                refine sv 59 (.int .i64 (((i : Nat) : Int) + 1)) (Val.add 3 _ (.tmp 13) _ rfl ((i : Nat) : Int) 1 (by kernel_rfl) (by kernel_rfl) (by omega)) ?_
                simp only [List.set_cons_zero, List.set_cons_succ]
                refine sv 13 (.int .i64 (((i : Nat) : Int) + 1)) .of ?_
                simp only [List.set_cons_zero, List.set_cons_succ]
                refine wpList_nil ?_
                refine ⟨_, ?_, i + 1, (h.getD i (0, 0)).2.toNat, rfl, (by omega), (by omega), (hc0_2.trans (rightF_go (by omega) (by omega) (by omega) (by omega) (by omega) c56)), cutE, BL, D, H, b1, by omega⟩
                omega
    · skip
      refine wp_exit ?_
      simp only [Exit.then, Exit.inBlock, ↓reduceIte, Nat.reduceEqDiff]
      refine hK6 _ _ ?_
      refine wp_seq_k fun K22 hK22 => ?_
      refine cPlain ?_
      refine sv 60 (.pointer (some ⟨w.heap.size, 0, none⟩)) .of ?_
      simp only [List.set_cons_zero, List.set_cons_succ]
      refine sv 61 (.slice A d.length C) (Val.cel1 29 _ rfl w.heap.size 0 _ (by kernel_rfl) (fun _ => (by kernel_rfl)) b1 rfl) ?_
      simp only [List.set_cons_zero, List.set_cons_succ]
      refine sv 62 (.int .i64 ((F : Nat) : Int)) .of ?_
      simp only [List.set_cons_zero, List.set_cons_succ]
      refine sv 63 (sliceV (.slice A d.length C) F ((nn d).length)) (Val.slc 29 (.tmp 61) (some (.tmp 62)) none rfl (.slice A d.length C) (by kernel_rfl) D F ((nn d).length) (.inl (by kernel_rfl)) (.inr ⟨rfl, rfl⟩) (by rw [nn_len]; omega) (Nat.le_refl _) Try.underlying29 (by kernel_rfl)) ?_
      simp only [List.set_cons_zero, List.set_cons_succ]
      refine xCall 64 63 #[sliceV (.slice A d.length C) F ((nn d).length)] (by kernel_rfl) ?_
      refine (blank_any (d.drop F) _ wl0 ((D.slice F (nn d).length (by rw [nn_len]; omega) (Nat.le_refl _)).castX (nn_tail d F))).mono ?_
      rintro en w6 ⟨rfl, hb1⟩
      have e3 := belE0 hb1
      have ze3 := e3.size
      replace BL := BL.e0 e3
      replace D := D.e0 e3
      replace H := H.e0 e3
      replace b1 := b1.e0 e3
      clear e3
      refine ⟨.bool (blankL (d.drop F)), rfl, ?_⟩
      simp only [List.set_cons_zero, List.set_cons_succ]
      refine sv 2 (.bool (blankL (d.drop F))) .of ?_
      simp only [List.set_cons_zero, List.set_cons_succ]
      refine wpList_nil ?_
      refine hK22 _ _ ?_
      refine wp_ret ?_
      (try simp only [Exit.then, Exit.inBlock])
      refine bodyPost_ret (v := .bool (blankL (d.drop F))) rT rfl ?_
      rw [rightX_of (by omega) (hc0_2.trans (rightF_end (by omega)))]
      exact ⟨rfl, BL.b⟩

end Go.Proofs.Ytanggdnmoaflfaa
