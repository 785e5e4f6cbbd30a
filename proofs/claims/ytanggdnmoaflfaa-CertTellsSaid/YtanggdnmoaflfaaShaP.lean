/-
  sha.primes.
-/
import Derived.Test.YtanggdnmoaflfaaShaM
import Derived.Test.YtanggdnmoaflfaaPk1
namespace Go.Proofs.Ytanggdnmoaflfaa
open Go.RowKit
set_option linter.unusedVariables false
set_option linter.unusedSimpArgs false
set_option maxRecDepth 100000
attribute [local irreducible] wpList Code.wp wpAnyZ
theorem prim1_any (p q : Nat) (hq : 0 < q) (w : World) :
    Calls Try.prog 66 #[.int .u64 ((p : Nat) : Int), .int .u64 ((q : Nat) : Int)] w fun e w' => e = .returned (.bool (decide (((p % q : Nat) : Int) = 0))) ∧ w' = w := by
  skip
  go_enter Try.func66, Try.ntmps66
  refine wp_seq_k fun K1 hK1 => ?_
  refine cPlain ?_
  refine sv 4 (.bool false) .of ?_
  simp only [sZ, sS]
  refine wpList_nil ?_
  refine hK1 _ _ ?_
  refine wp_seq_k fun K2 hK2 => ?_
  refine cPlain ?_
  refine sv 5 (.int .u64 ((p : Nat) : Int)) .of ?_
  simp only [sZ, sS]
  refine sv 6 (.int .u64 ((q : Nat) : Int)) .of ?_
  simp only [sZ, sS]
  refine sv 7 (.int .u64 ((p % q : Nat) : Int)) (Val.remN 84 _ (.tmp 5) (.tmp 6) rfl .u64 p q (by kernel_rfl) (by kernel_rfl) (by omega)) ?_
  simp only [sZ, sS]
  refine sv 8 (.bool (decide (((p % q : Nat) : Int) = 0))) (Val.cmp .eql 84 _ (.tmp 7) _ rfl .u64 ((p % q : Nat) : Int) 0 (by kernel_rfl) (by kernel_rfl) (by simp) _ rfl) ?_
  simp only [sZ, sS]
  refine sv 4 (.bool (decide (((p % q : Nat) : Int) = 0))) .of ?_
  simp only [sZ, sS]
  refine wpList_nil ?_
  refine hK2 _ _ ?_
  refine wp_ret ?_
  (try simp only [Exit.then, Exit.inBlock])
  refine bodyPost_ret (v := .bool (decide (((p % q : Nat) : Int) = 0))) rT rfl ?_
  exact ⟨rfl, rfl⟩

theorem prim2_any (p q P4 P5 : Nat) (hq : 0 < q) (w : World) (B4 : Cel w P4 109 [.func (.func 66) #[] #[]]) (B5 : Cel w P5 84 [.int .u64 ((p : Nat) : Int)]) :
    Calls Try.prog 68 #[.int .u64 ((q : Nat) : Int), .pointer (some ⟨P4, 0, none⟩), .pointer (some ⟨P5, 0, none⟩)] w fun e w' => e = .returned (.bool (decide (((p % q : Nat) : Int) = 0))) ∧ Below w.heap.size w w' := by
  have BL := Bl.refl w
  go_enter Try.func68, Try.ntmps68
  refine wp_seq_k fun K1 hK1 => ?_
  refine cPlain ?_
  refine sv 4 (.bool false) .of ?_
  simp only [sZ, sS]
  refine wpList_nil ?_
  refine hK1 _ _ ?_
  refine wp_seq_k fun K2 hK2 => ?_
  refine cPlain ?_
  refine sv 5 (.func (.func 66) #[] #[]) (Val.cel1 109 _ rfl P4 0 _ (by kernel_rfl) (fun _ => (by kernel_rfl)) B4 rfl) ?_
  simp only [sZ, sS]
  refine sv 6 (.int .u64 ((p : Nat) : Int)) (Val.cel1 84 _ rfl P5 0 _ (by kernel_rfl) (fun _ => (by kernel_rfl)) B5 rfl) ?_
  simp only [sZ, sS]
  refine sv 7 (.int .u64 ((q : Nat) : Int)) .of ?_
  simp only [sZ, sS]
  refine xCall 8 66 #[.int .u64 ((p : Nat) : Int), .int .u64 ((q : Nat) : Int)] (by kernel_rfl) ?_
  refine (prim1_any p q hq w).mono ?_
  rintro en w1 ⟨rfl, hw⟩
  obtain rfl := (hw).symm
  refine ⟨.bool (decide (((p % q : Nat) : Int) = 0)), rfl, ?_⟩
  simp only [sZ, sS]
  refine sv 4 (.bool (decide (((p % q : Nat) : Int) = 0))) .of ?_
  simp only [sZ, sS]
  refine wpList_nil ?_
  refine hK2 _ _ ?_
  refine wp_ret ?_
  (try simp only [Exit.then, Exit.inBlock])
  refine bodyPost_ret (v := .bool (decide (((p % q : Nat) : Int) = 0))) rT rfl ?_
  exact ⟨rfl, BL.b⟩

/-- Does one of the numbers divide p? -/
def divs (p : Nat) (qs : List Nat) : Bool := qs.any fun q => decide (p % q = 0)
theorem any_at {qs : List Nat} {p k : Nat} (hk : k < qs.length) (h : p % qs.getD k 0 = 0) : divs p qs = true := by
  refine List.any_eq_true.2 ⟨qs.getD k 0, ?_, decide_eq_true h⟩
  rw [List.getD_eq_getElem?_getD, List.getElem?_eq_getElem hk]; exact List.getElem_mem hk
theorem any_none {qs : List Nat} {p k : Nat} (hk : k = qs.length) (h : ∀ j, j < k → ¬ p % qs.getD j 0 = 0) : divs p qs = false := by
  subst hk
  refine List.any_eq_false.2 fun q hq => ?_
  obtain ⟨j, hj, rfl⟩ := List.getElem_of_mem hq
  have := h j hj
  rw [List.getD_eq_getElem?_getD, List.getElem?_eq_getElem hj] at this
  simpa using this

theorem idxF_any (p P4 P5 : Nat) (qs : List Nat) (v : Value) (w : World) (B4 : Cel w P4 109 [.func (.func 66) #[] #[]]) (B5 : Cel w P5 84 [.int .u64 ((p : Nat) : Int)]) (R : SL .u64 w v (nn qs)) (hq : ∀ j, j < qs.length → 0 < qs.getD j 0) :
    Calls Try.prog 95 #[v, .func (.func 68) #[] #[.pointer (some ⟨P4, 0, none⟩), .pointer (some ⟨P5, 0, none⟩)]] w fun e w' => (∃ k : Int, e = .returned (.int .i64 k) ∧ ((0 ≤ k ∧ divs p qs = true) ∨ (k < 0 ∧ divs p qs = false))) ∧ Below w.heap.size w w' := by
  have BL := Bl.refl w
  have hrl := R.lt
  have hln := nn_len qs
  obtain ⟨A, C, rfl, hmx⟩ := R.len
  unfold maxLen at hmx
  go_enter Try.func95, Try.ntmps95
  refine wp_seq_k fun K1 hK1 => ?_
  refine cPlain ?_
  refine sv 4 (.int .i64 0) .of ?_
  simp only [sZ, sS]
  refine wpList_nil ?_
  refine hK1 _ _ ?_
  refine wp_seq_k fun K2 hK2 => ?_
  refine wp_seq_k fun K3 hK3 => ?_
  refine cPlain ?_
  refine sv 6 (.slice A (nn qs).length C) .of ?_
  simp only [sZ, sS]
  refine sv 7 (.int .i64 ((qs.length : Nat) : Int)) (Val.lenS (.tmp 6) 81 rfl (by kernel_rfl) R qs.length (nn_len qs) Try.underlying81) ?_
  simp only [sZ, sS]
  refine sv 8 (.int .i64 0) .of ?_
  simp only [sZ, sS]
  refine wpList_nil ?_
  refine hK3 _ _ ?_
  refine wp_block ?_
  refine cLoop (fun N_ A_ w_ => ∃ (k : Nat), (N_ = qs.length - k ∧ (k ≤ qs.length) ∧ (∀ j, j < k → ¬ p % qs.getD j 0 = 0) ∧ (∃ s1 : Nat → Value, A_ = ⟨[.slice A (nn qs).length C, .func (.func 68) #[] #[.pointer (some ⟨P4, 0, none⟩), .pointer (some ⟨P5, 0, none⟩)], undef, undef, (s1 4), (s1 5), .slice A (nn qs).length C, .int .i64 ((qs.length : Nat) : Int), .int .i64 (k : Int), (s1 9), (s1 10), (s1 11), (s1 12), (s1 13), (s1 14), (s1 15), (s1 16), (s1 17), (s1 18)].toArray, []⟩) ∧ Cel w_ P4 109 [.func (.func 66) #[] #[]] ∧ Cel w_ P5 84 [.int .u64 ((p : Nat) : Int)] ∧ Bl w.heap.size w w_ ∧ SL .u64 w_ (.slice A (nn qs).length C) (nn qs) ∧ w.heap.size ≤ w_.heap.size)) _ ⟨0, rfl, by omega, fun j hj => by omega, cutE, B4, B5, BL, R, Nat.le_refl _⟩ ?_
  clear B4 B5 BL R
  rintro n_ a_ wl0 ⟨k, rfl, hc0_0, hc0_1, ⟨s1, rfl⟩, B4, B5, BL, R, zl0⟩
  refine wp_seq_k fun K4 hK4 => ?_
  refine cPlain ?_
  refine sv 9 (.bool (decide ((k : Int) < ((qs.length : Nat) : Int)))) (Val.cmp .lss 3 _ (.tmp 8) (.tmp 7) rfl .i64 (k : Int) ((qs.length : Nat) : Int) (by kernel_rfl) (by kernel_rfl) (by simp) _ rfl) ?_
  simp only [sZ, sS]
  refine wpList_nil ?_
  refine hK4 _ _ ?_
  refine wp_seq_k fun K5 hK5 => ?_
  refine cDec ((k : Int) < ((qs.length : Nat) : Int)) (by kernel_rfl) (fun c9 => ?_) (fun c9 => ?_)
  · skip
    refine wp_skip ?_
    refine hK5 _ _ ?_
    refine wp_seq_k fun K6 hK6 => ?_
    refine wp_block ?_
    refine wp_seq_k fun K7 hK7 => ?_
    refine cPlain ?_
    refine sv 10 (.int .i64 (k : Int)) .of ?_
    simp only [sZ, sS]
    refine sv 5 (.int .i64 (k : Int)) .of ?_
    simp only [sZ, sS]
    refine wpList_nil ?_
    refine hK7 _ _ ?_
    refine wp_seq_k fun K8 hK8 => ?_
    refine cPlain ?_
    refine sv 11 (.func (.func 68) #[] #[.pointer (some ⟨P4, 0, none⟩), .pointer (some ⟨P5, 0, none⟩)]) .of ?_
    simp only [sZ, sS]
    refine sv 12 (.slice A (nn qs).length C) .of ?_
    simp only [sZ, sS]
    refine sv 13 (.int .i64 (k : Int)) .of ?_
    simp only [sZ, sS]
    refine sv 14 (elemP (.slice A (nn qs).length C) k) (Val.idxE 81 (.tmp 12) (.tmp 13) rfl (.slice A (nn qs).length C) k (by kernel_rfl) (by kernel_rfl) R Try.underlying81 (by kernel_rfl) (by omega)) ?_
    simp only [sZ, sS]
    refine sv 15 (.int .u64 ((qs.getD k 0 : Nat) : Int)) (Val.nldE 84 _ rfl (.slice A (nn qs).length C) k (by kernel_rfl) (fun _ => (by kernel_rfl)) R (by omega)) ?_
    simp only [sZ, sS]
    refine xCall 16 68 #[.int .u64 ((qs.getD k 0 : Nat) : Int), .pointer (some ⟨P4, 0, none⟩), .pointer (some ⟨P5, 0, none⟩)] (by kernel_rfl) ?_
    refine (prim2_any p (qs.getD k 0) P4 P5 (hq k (by omega)) wl0 B4 B5).mono ?_
    rintro en w1 ⟨rfl, hb1⟩
    have e1 := belE0 hb1
    have ze1 := e1.size
    replace B4 := B4.e0 e1
    replace B5 := B5.e0 e1
    replace BL := BL.e0 e1
    replace R := R.e0 e1
    clear e1
    refine ⟨.bool (decide (((p % qs.getD k 0 : Nat) : Int) = 0)), rfl, ?_⟩
    simp only [sZ, sS]
    refine wpList_nil ?_
    refine hK8 _ _ ?_
    refine cDec (((p % qs.getD k 0 : Nat) : Int) = 0) (by kernel_rfl) (fun c16 => ?_) (fun c16 => ?_)
    · skip
      refine wp_seq_k fun K9 hK9 => ?_
      refine cPlain ?_
      refine sv 17 (.int .i64 (k : Int)) .of ?_
      simp only [sZ, sS]
      refine sv 4 (.int .i64 (k : Int)) .of ?_
      simp only [sZ, sS]
      refine wpList_nil ?_
      refine hK9 _ _ ?_
      refine wp_ret ?_
      (try simp only [Exit.then, Exit.inBlock])
      refine bodyPost_ret (v := .int .i64 (k : Int)) rT rfl ?_
      refine ⟨⟨_, rfl, .inl ⟨by omega, any_at (k := k) (by omega) (by omega)⟩⟩, BL.b⟩
    · skip
      refine wp_skip ?_
      refine hK6 _ _ ?_
      refine cPlain ?_
      refine sv 18 (.int .i64 ((k : Int) + 1)) (Val.add 3 _ (.tmp 8) _ rfl (k : Int) 1 (by kernel_rfl) (by kernel_rfl) (by omega)) ?_
      simp only [sZ, sS]
      refine sv 8 (.int .i64 ((k : Int) + 1)) .of ?_
      simp only [sZ, sS]
      refine wpList_nil ?_
      refine ⟨_, ?_, k + 1, rfl, by omega, fun j hj => by rcases Nat.lt_succ_iff_lt_or_eq.1 hj with h | rfl; exact hc0_1 j h; omega, cutE, B4, B5, BL, R, by omega⟩
      omega
  · skip
    refine wp_exit ?_
    simp only [Exit.then, Exit.inBlock, ↓reduceIte, Nat.reduceEqDiff]
    refine hK2 _ _ ?_
    refine wp_seq_k fun K10 hK10 => ?_
    refine cPlain ?_
    refine sv 4 (.int .i64 (-1)) .of ?_
    simp only [sZ, sS]
    refine wpList_nil ?_
    refine hK10 _ _ ?_
    refine wp_ret ?_
    (try simp only [Exit.then, Exit.inBlock])
    refine bodyPost_ret (v := .int .i64 (-1)) rT rfl ?_
    refine ⟨⟨_, rfl, .inr ⟨by omega, any_none (k := k) (by omega) hc0_1⟩⟩, BL.b⟩

theorem contF_any (p P4 P5 : Nat) (qs : List Nat) (v : Value) (w : World) (B4 : Cel w P4 109 [.func (.func 66) #[] #[]]) (B5 : Cel w P5 84 [.int .u64 ((p : Nat) : Int)]) (R : SL .u64 w v (nn qs)) (hq : ∀ j, j < qs.length → 0 < qs.getD j 0) :
    Calls Try.prog 67 #[v, .func (.func 68) #[] #[.pointer (some ⟨P4, 0, none⟩), .pointer (some ⟨P5, 0, none⟩)]] w fun e w' => e = .returned (.bool (divs p qs)) ∧ Below w.heap.size w w' := by
  have BL := Bl.refl w
  have hrl := R.lt
  go_enter Try.func67, Try.ntmps67
  refine wp_seq_k fun K1 hK1 => ?_
  refine cPlain ?_
  refine sv 4 (.bool false) .of ?_
  simp only [sZ, sS]
  refine wpList_nil ?_
  refine hK1 _ _ ?_
  refine wp_seq_k fun K2 hK2 => ?_
  refine cPlain ?_
  refine sv 5 (v) .of ?_
  simp only [sZ, sS]
  refine sv 6 (.func (.func 68) #[] #[.pointer (some ⟨P4, 0, none⟩), .pointer (some ⟨P5, 0, none⟩)]) .of ?_
  simp only [sZ, sS]
  refine xCall 7 95 #[v, .func (.func 68) #[] #[.pointer (some ⟨P4, 0, none⟩), .pointer (some ⟨P5, 0, none⟩)]] (by kernel_rfl) ?_
  refine (idxF_any p P4 P5 qs v w B4 B5 R hq).mono ?_
  rintro en w1 ⟨⟨k, rfl, hk⟩, hb1⟩
  have e1 := belE0 hb1
  have ze1 := e1.size
  replace B4 := B4.e0 e1
  replace B5 := B5.e0 e1
  replace BL := BL.e0 e1
  replace R := R.e0 e1
  clear e1
  refine ⟨.int .i64 k, rfl, ?_⟩
  simp only [sZ, sS]
  refine sv 8 (.bool (decide (0 ≤ k))) (Val.cmp .geq 3 _ (.tmp 7) _ rfl .i64 k 0 (by kernel_rfl) (by kernel_rfl) (by simp) _ rfl) ?_
  simp only [sZ, sS]
  refine sv 4 (.bool (decide (0 ≤ k))) .of ?_
  simp only [sZ, sS]
  refine wpList_nil ?_
  refine hK2 _ _ ?_
  refine wp_ret ?_
  (try simp only [Exit.then, Exit.inBlock])
  refine bodyPost_ret (v := .bool (decide (0 ≤ k))) rT rfl ?_
  have hR : decide (0 ≤ k) = divs p qs := by
    rcases hk with ⟨h, h'⟩ | ⟨h, h'⟩
    · rw [h']; exact decide_eq_true h
    · rw [h']; exact decide_eq_false (by omega)
  rw [hR]
  exact ⟨rfl, BL.b⟩

/-- The primes up to a number. -/
def prStep (i : Nat) (q : List Nat) : List Nat := if divs (i + 2) q = true then q else q ++ [i + 2]
def prN : Nat → List Nat
  | 0 => []
  | i + 1 => prStep i (prN i)
theorem prN_pos : ∀ i, ∀ q ∈ prN i, 0 < q
  | 0, q, h => by cases h
  | i + 1, q, h => by
    simp only [prN, prStep] at h
    split at h
    · exact prN_pos i q h
    · rcases List.mem_append.1 h with h | h
      · exact prN_pos i q h
      · rw [List.mem_singleton.1 h]; omega
theorem prN_at (i j : Nat) (h : j < (prN i).length) : 0 < (prN i).getD j 0 := by
  rw [List.getD_eq_getElem?_getD, List.getElem?_eq_getElem h]; exact prN_pos i _ (List.getElem_mem h)
theorem prN_le : ∀ i, (prN i).length ≤ i
  | 0 => Nat.le_refl _
  | i + 1 => by
    have := prN_le i
    simp only [prN, prStep]; split
    · omega
    · rw [List.length_append, List.length_singleton]; omega
theorem prN_mono (i : Nat) : ∀ d, (prN i).length ≤ (prN (i + d)).length
  | 0 => Nat.le_refl _
  | d + 1 => by
    have := prN_mono i d
    show _ ≤ (prStep (i + d) (prN (i + d))).length
    unfold prStep; split
    · exact this
    · rw [List.length_append]; omega
theorem prN_309 : (prN 309).length = 63 := by kernel_rfl
theorem prN_310 : (prN 310).length = 64 := by kernel_rfl
theorem prN_lt {i : Nat} (h : i ≤ 310) (hl : ((prN i).length : Int) < 64) : i < 310 := by
  rcases Nat.lt_or_ge i 310 with h1 | h1
  · exact h1
  · have : i = 310 := by omega
    subst this; rw [prN_310] at hl; omega
theorem prN_end {i : Nat} (h : i ≤ 310) (hl : ¬ ((prN i).length : Int) < 64) : i = 310 := by
  rcases Nat.lt_or_ge i 310 with h1 | h1
  · have := prN_mono i (309 - i)
    rw [show i + (309 - i) = 309 by omega, prN_309] at this; omega
  · omega
theorem prN_yes {i : Nat} (h : divs (i + 2) (prN i) = true) : prN i = prN (i + 1) := (if_pos h).symm
theorem prN_no {i : Nat} (h : divs (i + 2) (prN i) = false) : prN i ++ [i + 2] = prN (i + 1) := (if_neg (by simp [h])).symm

theorem primes_any (w : World) :
    Calls Try.prog 46 #[.int .i64 64] w fun e w' => ∃ u, e = .returned u ∧ Own 84 .u64 w.heap.size w' u (nn (prN 310)) ∧ Below w.heap.size w w' := by
  have BL := Bl.refl w
  go_enter Try.func46, Try.ntmps46
  refine wp_seq_k fun K1 hK1 => ?_
  refine cPlain ?_
  refine sv 2 (.slice none 0 0) .of ?_
  simp only [sZ, sS]
  refine wpList_nil ?_
  refine hK1 _ _ ?_
  refine wp_seq_k fun K2 hK2 => ?_
  refine cPlain ?_
  refine sv 3 (.slice none 0 0) .of ?_
  simp only [sZ, sS]
  refine wpList_nil ?_
  refine hK2 _ _ ?_
  refine wp_seq_k fun K3 hK3 => ?_
  refine cPlain ?_
  refine xAlloc 4 109 [.nilFunc] rfl (by kernel_rfl) ?_
  intro w1 n1
  have zn1 := n1.z
  have b4 := n1.c
  replace BL := BL.e0 n1.e
  simp only [sZ, sS]
  refine xStore 109 (.tmp 4) _ rfl w.heap.size 109 [.nilFunc] 0 (.func (.func 66) #[] #[]) (by kernel_rfl) (by kernel_rfl) b4 (by kernel_rfl) (by simp) rfl [.func (.func 66) #[] #[]] rfl ?_
  intro w2 t1
  have zt1 := t1.z
  have BL_ := BL.ev t1.e (fun i h => show w.heap.size ≤ i by have h : i = w.heap.size := h; omega)
  replace BL := BL_; clear BL_
  replace b4 : Cel w2 w.heap.size 109 [.func (.func 66) #[] #[]] := t1.c
  clear t1
  refine wpList_nil ?_
  refine hK3 _ _ ?_
  refine wp_seq_k fun K4 hK4 => ?_
  refine wp_seq_k fun K5 hK5 => ?_
  refine cPlain ?_
  refine xAlloc 5 84 [.int .u64 0] rfl (by kernel_rfl) ?_
  intro w3 n2
  have zn2 := n2.z
  have b5 := n2.c
  replace BL := BL.e0 n2.e
  replace b4 := b4.e0 n2.e
  simp only [sZ, sS]
  refine xStore 84 (.tmp 5) _ rfl w2.heap.size 84 [.int .u64 0] 0 (.int .u64 2) (by kernel_rfl) (by kernel_rfl) b5 (by kernel_rfl) (by simp) rfl [.int .u64 2] rfl ?_
  intro w4 t2
  have zt2 := t2.z
  have BL_ := BL.ev t2.e (fun i h => show w.heap.size ≤ i by have h : i = w2.heap.size := h; omega)
  have b4_ := b4.ev t2.e (show ¬ (w.heap.size = w2.heap.size) by omega)
  replace BL := BL_; clear BL_
  replace b4 := b4_; clear b4_
  replace b5 : Cel w4 w2.heap.size 84 [.int .u64 2] := t2.c
  clear t2
  refine wpList_nil ?_
  refine hK5 _ _ ?_
  refine wp_block ?_
  refine cLoop (fun N_ A_ w_ => ∃ (i G : Nat) (u : Value), (N_ = 310 - i ∧ (i ≤ 310) ∧ (∀ j, Value.ownBlock u = some j → w.heap.size + 1 ≤ j ∧ j < G) ∧ (w.heap.size + 1 ≤ G) ∧ (∃ s1 : Nat → Value, A_ = ⟨[.int .i64 64, undef, .slice none 0 0, u, .pointer (some ⟨w.heap.size, 0, none⟩), .pointer (some ⟨G, 0, none⟩), (s1 6), (s1 7), (s1 8), (s1 9), (s1 10), (s1 11), (s1 12), (s1 13), (s1 14), (s1 15), (s1 16), (s1 17), (s1 18), (s1 19), (s1 20), undef].toArray, []⟩) ∧ Bl w.heap.size w w_ ∧ Cel w_ w.heap.size 109 [.func (.func 66) #[] #[]] ∧ Cel w_ G 84 [.int .u64 ((i + 2 : Nat) : Int)] ∧ Own 84 .u64 (w.heap.size + 1) w_ u (nn (prN i)) ∧ w4.heap.size ≤ w_.heap.size)) _ ⟨0, w2.heap.size, .slice none 0 0, rfl, by omega, (fun j hj => by cases hj), by omega, cutE, BL, b4, b5, (Own.nil _ _ _ _), Nat.le_refl _⟩ ?_
  clear BL b4 b5
  rintro n_ a_ wl0 ⟨i, G, u, rfl, hc0_0, hc0_1, hc0_2, ⟨s1, rfl⟩, BL, b4, b5, OA, zl0⟩
  have lOA_1 := OA.ge
  have hG := b5.lt
  have hpl := prN_le i
  refine wp_seq_k fun K6 hK6 => ?_
  refine wp_seq_k fun K7 hK7 => ?_
  refine cPlain ?_
  refine sv 6 (u) .of ?_
  simp only [sZ, sS]
  refine sv 7 (.int .i64 (((prN i).length : Nat) : Int)) (Val.lenO (.tmp 6) 81 rfl (by kernel_rfl) OA ((prN i).length) (nn_len _) Try.underlying81) ?_
  simp only [sZ, sS]
  refine sv 8 (.int .i64 64) .of ?_
  simp only [sZ, sS]
  refine sv 9 (.bool (decide ((((prN i).length : Nat) : Int) < 64))) (Val.cmp .lss 3 _ (.tmp 7) (.tmp 8) rfl .i64 (((prN i).length : Nat) : Int) 64 (by kernel_rfl) (by kernel_rfl) (by simp) _ rfl) ?_
  simp only [sZ, sS]
  refine wpList_nil ?_
  refine hK7 _ _ ?_
  refine cDec ((((prN i).length : Nat) : Int) < 64) (by kernel_rfl) (fun c9 => ?_) (fun c9 => ?_)
  · skip
    have hi310 := prN_lt hc0_0 c9
    refine wp_skip ?_
    refine hK6 _ _ ?_
    refine wp_seq_k fun K8 hK8 => ?_
    refine wp_block ?_
    refine wp_seq_k fun K9 hK9 => ?_
    refine cPlain ?_
    refine sv 12 (u) .of ?_
    simp only [sZ, sS]
    refine sv 13 (.func (.func 68) #[] #[.pointer (some ⟨w.heap.size, 0, none⟩), .pointer (some ⟨G, 0, none⟩)]) .of ?_
    simp only [sZ, sS]
    refine xCall 14 67 #[u, .func (.func 68) #[] #[.pointer (some ⟨w.heap.size, 0, none⟩), .pointer (some ⟨G, 0, none⟩)]] (by kernel_rfl) ?_
    refine (contF_any (i + 2) w.heap.size G (prN i) u wl0 b4 b5 OA.sl (prN_at i)).mono ?_
    rintro en w5 ⟨rfl, hb1⟩
    have e1 := belE0 hb1
    have ze1 := e1.size
    replace BL := BL.e0 e1
    replace b4 := b4.e0 e1
    replace b5 := b5.e0 e1
    replace OA := OA.e0 e1
    clear e1
    refine ⟨.bool (divs (i + 2) (prN i)), rfl, ?_⟩
    simp only [sZ, sS]
    refine sv 15 (.bool (decide ((divs (i + 2) (prN i)) = false))) (Val.not _ _ rfl (divs (i + 2) (prN i)) _ (by kernel_rfl) eval_not) ?_
    simp only [sZ, sS]
    refine wpList_nil ?_
    refine hK9 _ _ ?_
    refine cDec ((divs (i + 2) (prN i)) = false) (by kernel_rfl) (fun c15 => ?_) (fun c15 => ?_)
    · skip
      refine cPlain ?_
      refine sv 16 (u) .of ?_
      simp only [sZ, sS]
      refine sv 17 (.int .u64 ((i + 2 : Nat) : Int)) (Val.cel1 84 _ rfl G 0 _ (by kernel_rfl) (fun _ => (by kernel_rfl)) b5 rfl) ?_
      simp only [sZ, sS]
      refine xLit 18 81 84 1 _ #[(0, .int .u64 ((i + 2 : Nat) : Int))] [.int .u64 ((i + 2 : Nat) : Int)] rfl (by kernel_rfl) (by kernel_rfl) ?_
      intro w6 n3
      have zn3 := n3.z
      have b18 := n3.c
      replace b18 : Blk .u64 w6 w5.heap.size 84 [((i + 2 : Nat) : Int)] := b18
      replace BL := BL.e0 n3.e
      replace b4 := b4.e0 n3.e
      replace b5 := b5.e0 n3.e
      replace OA := OA.e0 n3.e
      have sb18 : SL .u64 w6 (.slice (some ⟨w5.heap.size, 0, none⟩) 1 1) [((i + 2 : Nat) : Int)] := SL.ofBlk b18 rfl (by unfold maxLen; omega)
      have lb18 : ∀ i, Value.ownBlock (.slice (some ⟨w5.heap.size, 0, none⟩) 1 1) = some i → w5.heap.size ≤ i ∧ i < w6.heap.size := ownB_lit (by omega)
      simp only [sZ, sS]
      refine xApp 19 (.tmp 16) (.tmp 18) 81 84 .u64 8 rfl Try.underlying81 (by kernel_rfl) (w.heap.size + 1) u (nn (prN i)) (by kernel_rfl) OA (.slice (some ⟨w5.heap.size, 0, none⟩) 1 1) [((i + 2 : Nat) : Int)] (by kernel_rfl) sb18 ?va1_1 ?va1_2 ?va1_3 ?_
      case va1_1 => simp only [nn_len, List.length_cons, List.length_nil]; omega
      case va1_2 => simp only [nn_len, List.length_cons, List.length_nil]; unfold maxLen; omega
      case va1_3 => omega
      intro va1 w7 rva1 e2
      have ze2 := e2.size
      have BL_ := BL.ev e2 (fun i h => by have := hc0_1 _ h; omega)
      have b4_ := b4.ev e2 (fun h => by have := hc0_1 _ h; omega)
      have b5_ := b5.ev e2 (fun h => by have := hc0_1 _ h; omega)
      have b18_ := b18.ev e2 (fun h => by have := hc0_1 _ h; omega)
      have sb18_ := sb18.ev e2 (fun i hi h => by have := lb18 i hi; have := hc0_1 _ h; omega)
      replace BL := BL_; clear BL_
      replace b4 := b4_; clear b4_
      replace b5 := b5_; clear b5_
      replace b18 := b18_; clear b18_
      replace sb18 := sb18_; clear sb18_
      replace OA := rva1
      clear rva1 e2
      have lOA_2 := OA.ge
      simp only [sZ, sS]
      refine sv 3 (va1) .of ?_
      simp only [sZ, sS]
      refine wpList_nil ?_
      refine hK8 _ _ ?_
      refine wp_seq_k fun K10 hK10 => ?_
      refine wp_seq_k fun K11 hK11 => ?_
      refine cPlain ?_
      refine sv 20 (.int .u64 ((i + 2 : Nat) : Int)) (Val.cel1 84 _ rfl G 0 _ (by kernel_rfl) (fun _ => (by kernel_rfl)) b5 rfl) ?_
      simp only [sZ, sS]
      refine wpList_nil ?_
      refine hK11 _ _ ?_
      refine cPlain ?_
      refine xAlloc 5 84 [.int .u64 0] rfl (by kernel_rfl) ?_
      intro w8 n4
      have zn4 := n4.z
      have b5n := n4.c
      replace BL := BL.e0 n4.e
      replace b4 := b4.e0 n4.e
      replace b5 := b5.e0 n4.e
      replace OA := OA.e0 n4.e
      replace b18 := b18.e0 n4.e
      replace sb18 := sb18.e0 n4.e
      simp only [sZ, sS]
      refine xStore 84 (.tmp 5) (.tmp 20) rfl w7.heap.size 84 [.int .u64 0] 0 (.int .u64 ((i + 2 : Nat) : Int)) (by kernel_rfl) (by kernel_rfl) b5n (by kernel_rfl) (by simp) rfl [.int .u64 ((i + 2 : Nat) : Int)] rfl ?_
      intro w9 t3
      have zt3 := t3.z
      have BL_ := BL.ev t3.e (fun i h => show w.heap.size ≤ i by have h : i = w7.heap.size := h; omega)
      have b4_ := b4.ev t3.e (show ¬ (w.heap.size = w7.heap.size) by omega)
      have b5_ := b5.ev t3.e (show ¬ (G = w7.heap.size) by omega)
      have OA_ := OA.ev t3.e (fun i hi => show ¬ (i = w7.heap.size) by have := lOA_2 i hi; omega)
      have b18_ := b18.ev t3.e (show ¬ (w5.heap.size = w7.heap.size) by omega)
      have sb18_ := sb18.ev t3.e (fun i hi => show ¬ (i = w7.heap.size) by have := lb18 i hi; omega)
      replace BL := BL_; clear BL_
      replace b4 := b4_; clear b4_
      replace b5 := b5_; clear b5_
      replace OA := OA_; clear OA_
      replace b18 := b18_; clear b18_
      replace sb18 := sb18_; clear sb18_
      replace b5n : Cel w9 w7.heap.size 84 [.int .u64 ((i + 2 : Nat) : Int)] := t3.c
      clear t3
      refine wpList_nil ?_
      refine hK10 _ _ ?_
      refine cPlain ?_
      refine sv 10 (.int .u64 ((i + 2 : Nat) : Int)) (Val.cel1 84 _ rfl w7.heap.size 0 _ (by kernel_rfl) (fun _ => (by kernel_rfl)) b5n rfl) ?_
      simp only [sZ, sS]
      refine sv 11 (.int .u64 ((i + 3 : Nat) : Int)) (Val.asN (Val.addN 84 _ (.tmp 10) _ rfl .u64 (i + 2) 1 18446744073709551616 (by kernel_rfl) (by kernel_rfl)) (by omega)) ?_
      simp only [sZ, sS]
      refine xStore 84 (.tmp 5) (.tmp 11) rfl w7.heap.size 84 [.int .u64 ((i + 2 : Nat) : Int)] 0 (.int .u64 ((i + 3 : Nat) : Int)) (by kernel_rfl) (by kernel_rfl) b5n (by kernel_rfl) (by simp) rfl [.int .u64 ((i + 3 : Nat) : Int)] rfl ?_
      intro w10 t4
      have zt4 := t4.z
      have BL_ := BL.ev t4.e (fun i h => show w.heap.size ≤ i by have h : i = w7.heap.size := h; omega)
      have b4_ := b4.ev t4.e (show ¬ (w.heap.size = w7.heap.size) by omega)
      have b5_ := b5.ev t4.e (show ¬ (G = w7.heap.size) by omega)
      have OA_ := OA.ev t4.e (fun i hi => show ¬ (i = w7.heap.size) by have := lOA_2 i hi; omega)
      have b18_ := b18.ev t4.e (show ¬ (w5.heap.size = w7.heap.size) by omega)
      have sb18_ := sb18.ev t4.e (fun i hi => show ¬ (i = w7.heap.size) by have := lb18 i hi; omega)
      replace BL := BL_; clear BL_
      replace b4 := b4_; clear b4_
      replace b5 := b5_; clear b5_
      replace OA := OA_; clear OA_
      replace b18 := b18_; clear b18_
      replace sb18 := sb18_; clear sb18_
      replace b5n : Cel w10 w7.heap.size 84 [.int .u64 ((i + 3 : Nat) : Int)] := t4.c
      clear t4
      refine wpList_nil ?_
      refine ⟨_, ?_, i + 1, w7.heap.size, va1, rfl, by omega, (fun j hj => by have := lOA_2 j hj; omega), by omega, cutE, BL, b4, b5n, (OA.cast (by first | exact congrArg nn (prN_yes (by simpa using c15)) | (rw [← prN_no (by simpa using c15), nn_app]; rfl))), by omega⟩
      omega
    · skip
      refine wp_skip ?_
      refine hK8 _ _ ?_
      refine wp_seq_k fun K12 hK12 => ?_
      refine wp_seq_k fun K13 hK13 => ?_
      refine cPlain ?_
      refine sv 20 (.int .u64 ((i + 2 : Nat) : Int)) (Val.cel1 84 _ rfl G 0 _ (by kernel_rfl) (fun _ => (by kernel_rfl)) b5 rfl) ?_
      simp only [sZ, sS]
      refine wpList_nil ?_
      refine hK13 _ _ ?_
      refine cPlain ?_
      refine xAlloc 5 84 [.int .u64 0] rfl (by kernel_rfl) ?_
      intro w11 n5
      have zn5 := n5.z
      have b5n := n5.c
      replace BL := BL.e0 n5.e
      replace b4 := b4.e0 n5.e
      replace b5 := b5.e0 n5.e
      replace OA := OA.e0 n5.e
      simp only [sZ, sS]
      refine xStore 84 (.tmp 5) (.tmp 20) rfl w5.heap.size 84 [.int .u64 0] 0 (.int .u64 ((i + 2 : Nat) : Int)) (by kernel_rfl) (by kernel_rfl) b5n (by kernel_rfl) (by simp) rfl [.int .u64 ((i + 2 : Nat) : Int)] rfl ?_
      intro w12 t5
      have zt5 := t5.z
      have BL_ := BL.ev t5.e (fun i h => show w.heap.size ≤ i by have h : i = w5.heap.size := h; omega)
      have b4_ := b4.ev t5.e (show ¬ (w.heap.size = w5.heap.size) by omega)
      have b5_ := b5.ev t5.e (show ¬ (G = w5.heap.size) by omega)
      have OA_ := OA.ev t5.e (fun i hi => show ¬ (i = w5.heap.size) by have := hc0_1 i hi; omega)
      replace BL := BL_; clear BL_
      replace b4 := b4_; clear b4_
      replace b5 := b5_; clear b5_
      replace OA := OA_; clear OA_
      replace b5n : Cel w12 w5.heap.size 84 [.int .u64 ((i + 2 : Nat) : Int)] := t5.c
      clear t5
      refine wpList_nil ?_
      refine hK12 _ _ ?_
      refine cPlain ?_
      refine sv 10 (.int .u64 ((i + 2 : Nat) : Int)) (Val.cel1 84 _ rfl w5.heap.size 0 _ (by kernel_rfl) (fun _ => (by kernel_rfl)) b5n rfl) ?_
      simp only [sZ, sS]
      refine sv 11 (.int .u64 ((i + 3 : Nat) : Int)) (Val.asN (Val.addN 84 _ (.tmp 10) _ rfl .u64 (i + 2) 1 18446744073709551616 (by kernel_rfl) (by kernel_rfl)) (by omega)) ?_
      simp only [sZ, sS]
      refine xStore 84 (.tmp 5) (.tmp 11) rfl w5.heap.size 84 [.int .u64 ((i + 2 : Nat) : Int)] 0 (.int .u64 ((i + 3 : Nat) : Int)) (by kernel_rfl) (by kernel_rfl) b5n (by kernel_rfl) (by simp) rfl [.int .u64 ((i + 3 : Nat) : Int)] rfl ?_
      intro w13 t6
      have zt6 := t6.z
      have BL_ := BL.ev t6.e (fun i h => show w.heap.size ≤ i by have h : i = w5.heap.size := h; omega)
      have b4_ := b4.ev t6.e (show ¬ (w.heap.size = w5.heap.size) by omega)
      have b5_ := b5.ev t6.e (show ¬ (G = w5.heap.size) by omega)
      have OA_ := OA.ev t6.e (fun i hi => show ¬ (i = w5.heap.size) by have := hc0_1 i hi; omega)
      replace BL := BL_; clear BL_
      replace b4 := b4_; clear b4_
      replace b5 := b5_; clear b5_
      replace OA := OA_; clear OA_
      replace b5n : Cel w13 w5.heap.size 84 [.int .u64 ((i + 3 : Nat) : Int)] := t6.c
      clear t6
      refine wpList_nil ?_
      refine ⟨_, ?_, i + 1, w5.heap.size, u, rfl, by omega, (fun j hj => by have := hc0_1 j hj; omega), by omega, cutE, BL, b4, b5n, (OA.cast (by first | exact congrArg nn (prN_yes (by simpa using c15)) | (rw [← prN_no (by simpa using c15), nn_app]; rfl))), by omega⟩
      omega
  · skip
    have hi310 := prN_end hc0_0 c9
    refine wp_exit ?_
    simp only [Exit.then, Exit.inBlock, ↓reduceIte, Nat.reduceEqDiff]
    refine hK4 _ _ ?_
    refine wp_seq_k fun K14 hK14 => ?_
    refine cPlain ?_
    refine sv 21 (u) .of ?_
    simp only [sZ, sS]
    refine sv 2 (u) .of ?_
    simp only [sZ, sS]
    refine wpList_nil ?_
    refine hK14 _ _ ?_
    refine wp_ret ?_
    (try simp only [Exit.then, Exit.inBlock])
    refine bodyPost_ret (v := u) rT rfl ?_
    subst hi310
    exact ⟨_, rfl, OA.mono (by omega), BL.b⟩

end Go.Proofs.Ytanggdnmoaflfaa
