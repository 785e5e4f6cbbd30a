/-
  ShaPad: the walk.
-/
import Derived.Test.YtoeaekamoejhcaaShaLow
import Derived.Test.YtoeaekamoejhcaaShaLaw
import Derived.Test.YtoeaekamoejhcaaEqk
namespace Go.Proofs.Ytoeaekamoejhcaa
open Go.RowKit
set_option linter.unusedVariables false
set_option linter.unusedSimpArgs false
set_option maxRecDepth 100000

theorem SL.cast' {k : IntKind} {w : World} {v v' : Value} {xs ys : List Int} (h : SL k w v xs) (hv : v = v') (he : xs = ys) : SL k w v' ys := hv ▸ he ▸ h
theorem Val.maxI {P : Program} {a : Act} {o : Oper} {w : World} (x y : Operand) (t u : TypeId) (ho : o.op = .call { callee := .builtin .max, args := #[x, y], argTypes := #[t, u] }) (p q m : Int) (hx : a.eval x = .int .i64 p) (hy : a.eval y = .int .i64 q) (hm : (if q > p then q else p) = m) : Val P a o (.int .i64 m) w := by
  subst hm
  unfold Val
  simp only [execOp, ho]
  simp [resolve, invoke, builtin, hx, hy, Builtin.max_, Builtin.max2]
/-- The number that the first j of the last eight bytes tell. -/
def numP (n j : Nat) : Nat := if j ≤ 6 then 0 else if j = 7 then 8 * n / 256 else 8 * n
theorem padB_lt (n i : Nat) : padB n i < 256 := Nat.mod_lt _ (by decide)
theorem numP_step (n j : Nat) (hn : n ≤ 300) (hj : j < 8) : numP n j * 256 + padB n j = numP n (j + 1) := by
  rcases (by omega : j = 0 ∨ j = 1 ∨ j = 2 ∨ j = 3 ∨ j = 4 ∨ j = 5 ∨ j = 6 ∨ j = 7) with h | h | h | h | h | h | h | h <;> subst h <;> simp [numP, padB, Nat.shiftLeft_eq, Nat.shiftRight_eq_div_pow] <;> omega
theorem numP_le (n j : Nat) (hn : n ≤ 300) : numP n j ≤ 2400 := by unfold numP; split <;> (try split) <;> omega
theorem numP_8 (n : Nat) : numP n 8 = 8 * n := rfl
/-- The last eight bytes. -/
def lastP (n : Nat) : List Nat := (List.range 8).map (padB n)
theorem lastP_len (n : Nat) : (lastP n).length = 8 := rfl
theorem lastP_at (n j : Nat) (hj : j < 8) : (lastP n).getD j 0 = padB n j := by
  unfold lastP
  rw [List.getD_eq_getElem?_getD, List.getElem?_map, List.getElem?_range hj]
  rfl
theorem last_of (xs : List Nat) (lx : Nat) (h : lx = xs.length + (9 + (119 - xs.length % 64) % 64)) : (xs ++ padN xs.length).drop (lx - 8) = lastP xs.length := by
  have e : xs ++ padN xs.length = (xs ++ padZ xs.length) ++ lastP xs.length := (List.append_assoc _ _ _).symm
  have hl : (xs ++ padZ xs.length).length = lx - 8 := by
    rw [List.length_append, show (padZ xs.length).length = 1 + (119 - xs.length % 64) % 64 by simp [padZ]; omega]; omega
  rw [e, ← hl, List.drop_append_of_le_length (Nat.le_refl _), List.drop_length, List.nil_append]
theorem lastP_inj {n m : Nat} (hn : n ≤ 300) (hm : m ≤ 300) (h : lastP n = lastP m) : n = m := by
  have step : ∀ j, j ≤ 8 → numP n j = numP m j := by
    intro j
    induction j with
    | zero => intro _; rfl
    | succ j ih =>
      intro hj
      rw [← numP_step n j hn (by omega), ← numP_step m j hm (by omega), ih (by omega), ← lastP_at n j (by omega), ← lastP_at m j (by omega), h]
  have := step 8 (Nat.le_refl _)
  rw [numP_8, numP_8] at this
  omega
theorem padded_inj {xs ys : List Nat} (hx : xs.length ≤ 300) (hy : ys.length ≤ 300) (h : xs ++ padN xs.length = ys ++ padN ys.length) : xs = ys := by
  have hl := congrArg List.length h
  rw [List.length_append, List.length_append, padN_len, padN_len] at hl
  have e1 := last_of xs _ rfl
  have e2 := last_of ys _ rfl
  rw [h, show xs.length + (9 + (119 - xs.length % 64) % 64) = ys.length + (9 + (119 - ys.length % 64) % 64) by omega, e2] at e1
  have hn := lastP_inj hy hx e1
  exact (List.append_inj h hn.symm).1
theorem padN_b (n : Nat) : ∀ x ∈ padN n, x < 256 := by
  intro x hx
  unfold padN padZ at hx
  rcases List.mem_append.1 hx with h | h
  · rcases List.mem_cons.1 h with h | h
    · omega
    · have := List.eq_of_mem_replicate h; omega
  · obtain ⟨i, _, rfl⟩ := List.mem_map.1 h
    exact padB_lt n i
theorem padded_b {xs : List Nat} (h : ∀ x ∈ xs, x < 256) : ∀ x ∈ xs ++ padN xs.length, x < 256 := by
  intro x hx
  rcases List.mem_append.1 hx with h' | h'
  · exact h x h'
  · exact padN_b _ x h'
attribute [local irreducible] wpList Code.wp wpAnyZ padN numP padB lastP

set_option maxHeartbeats 4000000 in
theorem shaPad_walk (xs0 xs1 : List Nat) (v0 v1 : Value) (w : World) (hy0 : ∀ x ∈ xs0, x < 256) (D0 : SL .u8 w v0 (nn xs0)) (hy1 : ∀ x ∈ xs1, x < 256) (D1 : SL .u8 w v1 (nn xs1)) :
    Calls Try.prog 11 #[v0, v1] w fun e w' => e = .returned (.bool true) ∧ Below w.heap.size w w' := by
  have BL := Bl.refl w
  have hd0 := D0.lt
  have hd1 := D1.lt
  obtain ⟨lx, hlx⟩ : ∃ lx, lx = xs0.length + (9 + (119 - xs0.length % 64) % 64) := ⟨_, rfl⟩
  have hp0 := padN_len xs0.length
  have hp1 := padN_len xs1.length
  have hz0 := padded_b hy0
  have hz1 := padded_b hy1
  go_enter Try.func11, Try.ntmps11
  refine wp_seq_k fun K1 hK1 => ?_
  refine cPlain ?_
  refine sv 4 (.bool false) .of ?_
  simp only [List.set_cons_zero, List.set_cons_succ]
  refine wpList_nil ?_
  refine hK1 _ _ ?_
  refine wp_seq_k fun K2 hK2 => ?_
  refine wp_seq_k fun K3 hK3 => ?_
  refine cPlain ?_
  refine sv 10 (v0) .of ?_
  simp only [List.set_cons_zero, List.set_cons_succ]
  refine sv 11 (.int .i64 ((xs0.length : Nat) : Int)) (Val.lenS (.tmp 10) 28 rfl (by kernel_rfl) D0 xs0.length (nn_len xs0) Try.underlying28) ?_
  simp only [List.set_cons_zero, List.set_cons_succ]
  refine sv 12 (.bool (decide (300 < ((xs0.length : Nat) : Int)))) (Val.cmp .gtr 3 _ (.tmp 11) _ rfl .i64 ((xs0.length : Nat) : Int) 300 (by kernel_rfl) (by kernel_rfl) (by simp) _ rfl) ?_
  simp only [List.set_cons_zero, List.set_cons_succ]
  refine sv 13 (.bool (decide (300 < ((xs0.length : Nat) : Int)))) .of ?_
  simp only [List.set_cons_zero, List.set_cons_succ]
  by_cases g14 : 300 < ((xs0.length : Nat) : Int)
  · skip
    have dg14 : decide (300 < ((xs0.length : Nat) : Int)) = true := decide_eq_true g14
    simp only [dg14]
    clear dg14
    refine xSkip 14 ?_
    simp only [List.set_cons_zero, List.set_cons_succ]
    refine xSkip 15 ?_
    simp only [List.set_cons_zero, List.set_cons_succ]
    refine xSkip 16 ?_
    simp only [List.set_cons_zero, List.set_cons_succ]
    refine sv 17 (.bool true) .of ?_
    simp only [List.set_cons_zero, List.set_cons_succ]
    refine wpList_nil ?_
    refine hK3 _ _ ?_
    refine cT ?_
    refine wp_seq_k fun K4 hK4 => ?_
    refine cPlain ?_
    refine xCall 18 38 #[] (by kernel_rfl) ?_
    refine (awake02_any w).mono ?_
    rintro en w1 ⟨rfl, hb1⟩
    have e1 := belE0 hb1
    have ze1 := e1.size
    replace BL := BL.e0 e1
    replace D0 := D0.e0 e1
    replace D1 := D1.e0 e1
    clear e1
    refine ⟨.bool true, rfl, ?_⟩
    simp only [List.set_cons_zero, List.set_cons_succ]
    refine sv 4 (.bool true) .of ?_
    simp only [List.set_cons_zero, List.set_cons_succ]
    refine wpList_nil ?_
    refine hK4 _ _ ?_
    refine wp_ret ?_
    (try simp only [Exit.then, Exit.inBlock])
    refine bodyPost_ret (v := .bool true) rT rfl ?_
    exact ⟨rfl, BL.b⟩
  · skip
    have dg14 : decide (300 < ((xs0.length : Nat) : Int)) = false := decide_eq_false g14
    simp only [dg14]
    clear dg14
    refine sv 14 (v1) .of ?_
    simp only [List.set_cons_zero, List.set_cons_succ]
    refine sv 15 (.int .i64 ((xs1.length : Nat) : Int)) (Val.lenS (.tmp 14) 28 rfl (by kernel_rfl) D1 xs1.length (nn_len xs1) Try.underlying28) ?_
    simp only [List.set_cons_zero, List.set_cons_succ]
    refine sv 16 (.bool (decide (300 < ((xs1.length : Nat) : Int)))) (Val.cmp .gtr 3 _ (.tmp 15) _ rfl .i64 ((xs1.length : Nat) : Int) 300 (by kernel_rfl) (by kernel_rfl) (by simp) _ rfl) ?_
    simp only [List.set_cons_zero, List.set_cons_succ]
    refine sv 17 (.bool (decide (300 < ((xs1.length : Nat) : Int)))) .of ?_
    simp only [List.set_cons_zero, List.set_cons_succ]
    refine wpList_nil ?_
    refine hK3 _ _ ?_
    refine cDec (300 < ((xs1.length : Nat) : Int)) (by kernel_rfl) (fun c17 => ?_) (fun c17 => ?_)
    · skip
      refine wp_seq_k fun K5 hK5 => ?_
      refine cPlain ?_
      refine xCall 18 38 #[] (by kernel_rfl) ?_
      refine (awake02_any w).mono ?_
      rintro en w2 ⟨rfl, hb1⟩
      have e2 := belE0 hb1
      have ze2 := e2.size
      replace BL := BL.e0 e2
      replace D0 := D0.e0 e2
      replace D1 := D1.e0 e2
      clear e2
      refine ⟨.bool true, rfl, ?_⟩
      simp only [List.set_cons_zero, List.set_cons_succ]
      refine sv 4 (.bool true) .of ?_
      simp only [List.set_cons_zero, List.set_cons_succ]
      refine wpList_nil ?_
      refine hK5 _ _ ?_
      refine wp_ret ?_
      (try simp only [Exit.then, Exit.inBlock])
      refine bodyPost_ret (v := .bool true) rT rfl ?_
      exact ⟨rfl, BL.b⟩
    · skip
      refine wp_skip ?_
      refine hK2 _ _ ?_
      refine wp_seq_k fun K6 hK6 => ?_
      refine cPlain ?_
      refine sv 19 (v0) .of ?_
      simp only [List.set_cons_zero, List.set_cons_succ]
      refine xCall 20 39 #[v0] (by kernel_rfl) ?_
      refine (copyB_any _ (nn xs0) w D0 (by rw [nn_len]; omega)).mono ?_
      rintro en w3 ⟨u0, rfl, hO0, hb1⟩
      have e3 := belE0 hb1
      have ze3 := e3.size
      replace BL := BL.e0 e3
      replace D0 := D0.e0 e3
      replace D1 := D1.e0 e3
      clear e3
      have X0 : Own 5 .u8 w.heap.size w3 u0 (nn xs0) := hO0
      have lX0_1 := X0.ge
      refine ⟨u0, rfl, ?_⟩
      simp only [List.set_cons_zero, List.set_cons_succ]
      refine sv 21 (v0) .of ?_
      simp only [List.set_cons_zero, List.set_cons_succ]
      refine sv 22 (.int .i64 ((xs0.length : Nat) : Int)) (Val.lenS (.tmp 21) 28 rfl (by kernel_rfl) D0 xs0.length (nn_len xs0) Try.underlying28) ?_
      simp only [List.set_cons_zero, List.set_cons_succ]
      refine xCall 23 37 #[.int .i64 ((xs0.length : Nat) : Int)] (by kernel_rfl) ?_
      refine (pad_nat xs0.length w3).mono ?_
      rintro en w4 ⟨p0, rfl, hP0, hb1⟩
      have e4 := belE0 hb1
      have ze4 := e4.size
      replace BL := BL.e0 e4
      replace D0 := D0.e0 e4
      replace D1 := D1.e0 e4
      replace X0 := X0.e0 e4
      clear e4
      have Y0 : Own 5 .u8 w3.heap.size w4 p0 (nn (padN xs0.length)) := hP0
      have lY0_1 := Y0.ge
      refine ⟨p0, rfl, ?_⟩
      simp only [List.set_cons_zero, List.set_cons_succ]
      refine xApp 24 (.tmp 20) (.tmp 23) 28 5 .u8 1 rfl Try.underlying28 (by kernel_rfl) w.heap.size u0 (nn xs0) (by kernel_rfl) X0 p0 (nn (padN xs0.length)) (by kernel_rfl) Y0.sl ?va1_1 ?va1_2 ?va1_3 ?_
      case va1_1 => (simp only [List.length_append, List.length_nil, nn_len, padN_len]; omega)
      case va1_2 => (simp only [List.length_append, List.length_nil, nn_len, padN_len]; unfold maxLen; omega)
      case va1_3 => omega
      intro va1 w5 rva1 e5
      have ze5 := e5.size
      have BL_ := BL.ev e5 (fun i h => by have := lX0_1 _ h; omega)
      have D0_ := D0.ev e5 (fun i hi h => by have := hd0 i hi; have := lX0_1 _ h; omega)
      have D1_ := D1.ev e5 (fun i hi h => by have := hd1 i hi; have := lX0_1 _ h; omega)
      have Y0_ := Y0.ev e5 (fun i hi h => by have := lY0_1 i hi; have := lX0_1 _ h; omega)
      replace BL := BL_; clear BL_
      replace D0 := D0_; clear D0_
      replace D1 := D1_; clear D1_
      replace Y0 := Y0_; clear Y0_
      replace X0 := rva1
      clear rva1 e5
      have lX0_2 := X0.ge
      simp only [List.set_cons_zero, List.set_cons_succ]
      refine sv 5 (va1) .of ?_
      simp only [List.set_cons_zero, List.set_cons_succ]
      refine wpList_nil ?_
      refine hK6 _ _ ?_
      refine wp_seq_k fun K7 hK7 => ?_
      refine cPlain ?_
      refine sv 25 (v1) .of ?_
      simp only [List.set_cons_zero, List.set_cons_succ]
      refine xCall 26 39 #[v1] (by kernel_rfl) ?_
      refine (copyB_any _ (nn xs1) w5 D1 (by rw [nn_len]; omega)).mono ?_
      rintro en w6 ⟨u1, rfl, hO1, hb1⟩
      have e6 := belE0 hb1
      have ze6 := e6.size
      replace BL := BL.e0 e6
      replace D0 := D0.e0 e6
      replace D1 := D1.e0 e6
      replace X0 := X0.e0 e6
      replace Y0 := Y0.e0 e6
      clear e6
      have X1 : Own 5 .u8 w5.heap.size w6 u1 (nn xs1) := hO1
      have lX1_1 := X1.ge
      refine ⟨u1, rfl, ?_⟩
      simp only [List.set_cons_zero, List.set_cons_succ]
      refine sv 27 (v1) .of ?_
      simp only [List.set_cons_zero, List.set_cons_succ]
      refine sv 28 (.int .i64 ((xs1.length : Nat) : Int)) (Val.lenS (.tmp 27) 28 rfl (by kernel_rfl) D1 xs1.length (nn_len xs1) Try.underlying28) ?_
      simp only [List.set_cons_zero, List.set_cons_succ]
      refine xCall 29 37 #[.int .i64 ((xs1.length : Nat) : Int)] (by kernel_rfl) ?_
      refine (pad_nat xs1.length w6).mono ?_
      rintro en w7 ⟨p1, rfl, hP1, hb1⟩
      have e7 := belE0 hb1
      have ze7 := e7.size
      replace BL := BL.e0 e7
      replace D0 := D0.e0 e7
      replace D1 := D1.e0 e7
      replace X0 := X0.e0 e7
      replace Y0 := Y0.e0 e7
      replace X1 := X1.e0 e7
      clear e7
      have Y1 : Own 5 .u8 w6.heap.size w7 p1 (nn (padN xs1.length)) := hP1
      have lY1_1 := Y1.ge
      refine ⟨p1, rfl, ?_⟩
      simp only [List.set_cons_zero, List.set_cons_succ]
      refine xApp 30 (.tmp 26) (.tmp 29) 28 5 .u8 1 rfl Try.underlying28 (by kernel_rfl) w5.heap.size u1 (nn xs1) (by kernel_rfl) X1 p1 (nn (padN xs1.length)) (by kernel_rfl) Y1.sl ?va2_1 ?va2_2 ?va2_3 ?_
      case va2_1 => (simp only [List.length_append, List.length_nil, nn_len, padN_len]; omega)
      case va2_2 => (simp only [List.length_append, List.length_nil, nn_len, padN_len]; unfold maxLen; omega)
      case va2_3 => omega
      intro va2 w8 rva2 e8
      have ze8 := e8.size
      have BL_ := BL.ev e8 (fun i h => by have := lX1_1 _ h; omega)
      have D0_ := D0.ev e8 (fun i hi h => by have := hd0 i hi; have := lX1_1 _ h; omega)
      have D1_ := D1.ev e8 (fun i hi h => by have := hd1 i hi; have := lX1_1 _ h; omega)
      have X0_ := X0.ev e8 (fun i hi h => by have := lX0_2 i hi; have := lX1_1 _ h; omega)
      have Y0_ := Y0.ev e8 (fun i hi h => by have := lY0_1 i hi; have := lX1_1 _ h; omega)
      have Y1_ := Y1.ev e8 (fun i hi h => by have := lY1_1 i hi; have := lX1_1 _ h; omega)
      replace BL := BL_; clear BL_
      replace D0 := D0_; clear D0_
      replace D1 := D1_; clear D1_
      replace X0 := X0_; clear X0_
      replace Y0 := Y0_; clear Y0_
      replace Y1 := Y1_; clear Y1_
      replace X1 := rva2
      clear rva2 e8
      have lX1_2 := X1.ge
      simp only [List.set_cons_zero, List.set_cons_succ]
      refine sv 6 (va2) .of ?_
      simp only [List.set_cons_zero, List.set_cons_succ]
      refine wpList_nil ?_
      refine hK7 _ _ ?_
      refine wp_seq_k fun K8 hK8 => ?_
      refine cPlain ?_
      refine sv 7 (.int .i64 0) .of ?_
      simp only [List.set_cons_zero, List.set_cons_succ]
      refine wpList_nil ?_
      refine hK8 _ _ ?_
      refine wp_seq_k fun K9 hK9 => ?_
      refine wp_seq_k fun K10 hK10 => ?_
      refine cPlain ?_
      refine sv 31 (va1) .of ?_
      simp only [List.set_cons_zero, List.set_cons_succ]
      refine sv 32 (va1) .of ?_
      simp only [List.set_cons_zero, List.set_cons_succ]
      refine sv 33 (.int .i64 ((lx : Nat) : Int)) (Val.lenO (.tmp 32) 28 rfl (by kernel_rfl) X0 lx (by simp only [List.length_append, nn_len, padN_len]; omega) Try.underlying28) ?_
      simp only [List.set_cons_zero, List.set_cons_succ]
      refine sv 34 (.int .i64 (((lx : Nat) : Int) - 8)) (Val.sub 3 _ (.tmp 33) _ rfl ((lx : Nat) : Int) 8 (by kernel_rfl) (by kernel_rfl) (by omega)) ?_
      simp only [List.set_cons_zero, List.set_cons_succ]
      refine sv 35 (.int .i64 ((lx - 8 : Nat) : Int)) (Val.maxI (.tmp 34) (.const (.int .i64 0)) 3 3 rfl ((lx : Int) - 8) 0 _ (by kernel_rfl) (by kernel_rfl) (by split <;> omega)) ?_
      simp only [List.set_cons_zero, List.set_cons_succ]
      refine sv 36 (sliceV va1 (lx - 8) ((nn xs0 ++ nn (padN xs0.length)).length)) (Val.slc 28 (.tmp 31) (some (.tmp 35)) none rfl va1 (by kernel_rfl) X0.sl (lx - 8) ((nn xs0 ++ nn (padN xs0.length)).length) (.inl (by kernel_rfl)) (.inr ⟨rfl, rfl⟩) (by simp only [List.length_append, nn_len, padN_len]; omega) (Nat.le_refl _) Try.underlying28 (by kernel_rfl)) ?_
      simp only [List.set_cons_zero, List.set_cons_succ]
      refine sv 37 (.int .i64 ((8 : Nat) : Int)) (Val.lenS (.tmp 36) 28 rfl (by kernel_rfl) ((X0.sl.slice (lx - 8) (nn xs0 ++ nn (padN xs0.length)).length (by simp only [List.length_append, nn_len, padN_len]; omega) (Nat.le_refl _)).cast' rfl (by rw [List.take_of_length_le (by rw [List.length_drop]; exact Nat.le_refl _), ← nn_app, ← nn_drop, last_of _ _ hlx])) 8 (by rw [nn_len]; exact lastP_len _) Try.underlying28) ?_
      simp only [List.set_cons_zero, List.set_cons_succ]
      refine sv 38 (.int .i64 0) .of ?_
      simp only [List.set_cons_zero, List.set_cons_succ]
      refine wpList_nil ?_
      refine hK10 _ _ ?_
      refine wp_block ?_
      refine cLoop (fun N_ A_ w_ => ∃ (j : Nat), (N_ = 8 - j ∧ (j ≤ 8) ∧ (∃ s1 : Nat → Value, A_ = ⟨[v0, v1, undef, undef, .bool false, va1, va2, .int .i64 ((numP xs0.length j : Nat) : Int), undef, (s1 9), v0, .int .i64 ((xs0.length : Nat) : Int), .bool false, .bool false, v1, .int .i64 ((xs1.length : Nat) : Int), .bool (decide (300 < ((xs1.length : Nat) : Int))), .bool (decide (300 < ((xs1.length : Nat) : Int))), undef, v0, u0, v0, .int .i64 ((xs0.length : Nat) : Int), p0, va1, v1, u1, v1, .int .i64 ((xs1.length : Nat) : Int), p1, va2, va1, va1, .int .i64 ((lx : Nat) : Int), .int .i64 (((lx : Nat) : Int) - 8), .int .i64 ((lx - 8 : Nat) : Int), sliceV va1 (lx - 8) ((nn xs0 ++ nn (padN xs0.length)).length), .int .i64 ((8 : Nat) : Int), .int .i64 ((j : Nat) : Int), (s1 39), (s1 40), (s1 41), (s1 42), (s1 43), (s1 44), (s1 45), (s1 46), (s1 47), undef, undef, undef, undef, undef, undef, undef, undef, undef, undef, undef, undef, undef, undef, undef, undef, undef, undef, undef, undef, undef, undef, undef, undef, undef, undef, undef, undef, undef, undef, undef, undef, undef, undef, undef, undef, undef, undef, undef].toArray, []⟩) ∧ Bl w.heap.size w w_ ∧ SL .u8 w_ v0 (nn xs0) ∧ SL .u8 w_ v1 (nn xs1) ∧ Own 5 .u8 w.heap.size w_ va1 (nn xs0 ++ (nn (padN xs0.length))) ∧ Own 5 .u8 w3.heap.size w_ p0 (nn (padN xs0.length)) ∧ Own 5 .u8 w5.heap.size w_ va2 (nn xs1 ++ (nn (padN xs1.length))) ∧ Own 5 .u8 w6.heap.size w_ p1 (nn (padN xs1.length)) ∧ w8.heap.size ≤ w_.heap.size)) _ ⟨0, rfl, (by omega), cutE, BL, D0, D1, X0, Y0, X1, Y1, Nat.le_refl _⟩ ?_
      clear BL D0 D1 X0 Y0 X1 Y1
      rintro n_ a_ wl0 ⟨j, rfl, hc0_0, ⟨s1, rfl⟩, BL, D0, D1, X0, Y0, X1, Y1, zl0⟩
      have lX0_3 := X0.ge
      have lY0_2 := Y0.ge
      have lX1_3 := X1.ge
      have lY1_2 := Y1.ge
      refine wp_seq_k fun K11 hK11 => ?_
      refine cPlain ?_
      refine sv 39 (.bool (decide (((j : Nat) : Int) < ((8 : Nat) : Int)))) (Val.cmp .lss 3 _ (.tmp 38) (.tmp 37) rfl .i64 ((j : Nat) : Int) ((8 : Nat) : Int) (by kernel_rfl) (by kernel_rfl) (by simp) _ rfl) ?_
      simp only [List.set_cons_zero, List.set_cons_succ]
      refine wpList_nil ?_
      refine hK11 _ _ ?_
      refine wp_seq_k fun K12 hK12 => ?_
      refine cDec (((j : Nat) : Int) < ((8 : Nat) : Int)) (by kernel_rfl) (fun c39 => ?_) (fun c39 => ?_)
      · skip
        refine wp_skip ?_
        refine hK12 _ _ ?_
        refine wp_seq_k fun K13 hK13 => ?_
        refine wp_block ?_
        refine wp_seq_k fun K14 hK14 => ?_
        have hsum := numP_step xs0.length j (by omega) (by omega)
        have hnle := numP_le xs0.length j (by omega)
        have hpb := padB_lt xs0.length j
        have LS : SL .u8 wl0 (sliceV va1 (lx - 8) ((nn xs0 ++ nn (padN xs0.length)).length)) (nn (lastP xs0.length)) := (X0.sl.slice (lx - 8) (nn xs0 ++ nn (padN xs0.length)).length (by simp only [List.length_append, nn_len, padN_len]; omega) (Nat.le_refl _)).cast' rfl (by rw [List.take_of_length_le (by rw [List.length_drop]; exact Nat.le_refl _), ← nn_app, ← nn_drop, last_of _ _ hlx])
        refine cPlain ?_
        refine sv 40 (elemP (sliceV va1 (lx - 8) ((nn xs0 ++ nn (padN xs0.length)).length)) j) (Val.idxE 28 (.tmp 36) (.tmp 38) rfl (sliceV va1 (lx - 8) ((nn xs0 ++ nn (padN xs0.length)).length)) j (by kernel_rfl) (by kernel_rfl) LS Try.underlying28 (by kernel_rfl) (by rw [nn_len, lastP_len]; omega)) ?_
        simp only [List.set_cons_zero, List.set_cons_succ]
        refine sv 41 (.int .u8 ((padB xs0.length j : Nat) : Int)) (Val.asN (Val.nldE 5 _ rfl (sliceV va1 (lx - 8) ((nn xs0 ++ nn (padN xs0.length)).length)) j (by kernel_rfl) (fun _ => by kernel_rfl) LS (by rw [lastP_len]; omega)) (lastP_at _ _ (by omega))) ?_
        simp only [List.set_cons_zero, List.set_cons_succ]
        refine sv 9 (.int .u8 ((padB xs0.length j : Nat) : Int)) .of ?_
        simp only [List.set_cons_zero, List.set_cons_succ]
        refine wpList_nil ?_
        refine hK14 _ _ ?_
        refine cPlain ?_
        refine sv 42 (.int .i64 ((numP xs0.length j : Nat) : Int)) .of ?_
        simp only [List.set_cons_zero, List.set_cons_succ]
        refine sv 43 (.int .i64 (((numP xs0.length j : Nat) : Int) * 256)) (Val.mul 3 _ (.tmp 42) _ rfl ((numP xs0.length j : Nat) : Int) 256 (by kernel_rfl) (by kernel_rfl) (by omega)) ?_
        simp only [List.set_cons_zero, List.set_cons_succ]
        refine sv 44 (.int .u8 ((padB xs0.length j : Nat) : Int)) .of ?_
        simp only [List.set_cons_zero, List.set_cons_succ]
        refine sv 45 (.int .i64 ((padB xs0.length j : Nat) : Int)) (Val.conv64 5 3 (.tmp 44) rfl Try.underlying5 Try.underlying3 ((padB xs0.length j : Nat) : Int) (by kernel_rfl) (by omega)) ?_
        simp only [List.set_cons_zero, List.set_cons_succ]
        refine sv 46 (.int .i64 ((numP xs0.length (j + 1) : Nat) : Int)) (Val.as (Val.add 3 _ (.tmp 43) (.tmp 45) rfl (((numP xs0.length j : Nat) : Int) * 256) ((padB xs0.length j : Nat) : Int) (by kernel_rfl) (by kernel_rfl) (by omega)) (congrArg (Value.int .i64) (by omega))) ?_
        simp only [List.set_cons_zero, List.set_cons_succ]
        refine sv 7 (.int .i64 ((numP xs0.length (j + 1) : Nat) : Int)) .of ?_
        simp only [List.set_cons_zero, List.set_cons_succ]
        refine wpList_nil ?_
        refine hK13 _ _ ?_
        refine cPlain ?_
        refine sv 47 (.int .i64 (((j : Nat) : Int) + 1)) (Val.add 3 _ (.tmp 38) _ rfl ((j : Nat) : Int) 1 (by kernel_rfl) (by kernel_rfl) (by omega)) ?_
        simp only [List.set_cons_zero, List.set_cons_succ]
        refine sv 38 (.int .i64 (((j : Nat) : Int) + 1)) .of ?_
        simp only [List.set_cons_zero, List.set_cons_succ]
        refine wpList_nil ?_
        refine ⟨_, ?_, j + 1, rfl, (by omega), cutE, BL, D0, D1, X0, Y0, X1, Y1, by omega⟩
        omega
      · skip
        have hj8 : numP xs0.length j = 8 * xs0.length := by rw [show j = 8 by omega]; exact numP_8 _
        refine wp_exit ?_
        simp only [Exit.then, Exit.inBlock, ↓reduceIte, Nat.reduceEqDiff]
        refine hK9 _ _ ?_
        refine wp_seq_k fun K15 hK15 => ?_
        refine cPlain ?_
        refine sv 48 (va1) .of ?_
        simp only [List.set_cons_zero, List.set_cons_succ]
        refine sv 49 (.int .i64 ((lx : Nat) : Int)) (Val.lenO (.tmp 48) 28 rfl (by kernel_rfl) X0 lx (by simp only [List.length_append, nn_len, padN_len]; omega) Try.underlying28) ?_
        simp only [List.set_cons_zero, List.set_cons_succ]
        refine sv 50 (.int .i64 ((0 : Nat) : Int)) (Val.asN (Val.remN 3 _ (.tmp 49) _ rfl .i64 lx 64 (by kernel_rfl) (by kernel_rfl) (by omega)) (by omega)) ?_
        simp only [List.set_cons_zero, List.set_cons_succ]
        refine sv 51 (.bool true) (Val.cmp .eql 3 _ (.tmp 50) _ rfl .i64 0 0 (by kernel_rfl) (by kernel_rfl) (by simp) _ rfl) ?_
        simp only [List.set_cons_zero, List.set_cons_succ]
        refine sv 52 (.bool true) .of ?_
        simp only [List.set_cons_zero, List.set_cons_succ]
        refine sv 53 (va1) .of ?_
        simp only [List.set_cons_zero, List.set_cons_succ]
        refine sv 54 (.int .i64 ((lx : Nat) : Int)) (Val.lenO (.tmp 53) 28 rfl (by kernel_rfl) X0 lx (by simp only [List.length_append, nn_len, padN_len]; omega) Try.underlying28) ?_
        simp only [List.set_cons_zero, List.set_cons_succ]
        refine sv 55 (v0) .of ?_
        simp only [List.set_cons_zero, List.set_cons_succ]
        refine sv 56 (.int .i64 ((xs0.length : Nat) : Int)) (Val.lenS (.tmp 55) 28 rfl (by kernel_rfl) D0 xs0.length (nn_len xs0) Try.underlying28) ?_
        simp only [List.set_cons_zero, List.set_cons_succ]
        refine sv 57 (.int .i64 (((xs0.length : Nat) : Int) + 8)) (Val.add 3 _ (.tmp 56) _ rfl ((xs0.length : Nat) : Int) 8 (by kernel_rfl) (by kernel_rfl) (by omega)) ?_
        simp only [List.set_cons_zero, List.set_cons_succ]
        refine sv 58 (.bool true) (Val.cmp .gtr 3 _ (.tmp 54) (.tmp 57) rfl .i64 ((lx : Nat) : Int) (((xs0.length : Nat) : Int) + 8) (by kernel_rfl) (by kernel_rfl) (by simp) _ (by simp only [cmpB]; simp; omega)) ?_
        simp only [List.set_cons_zero, List.set_cons_succ]
        refine sv 59 (.bool true) .of ?_
        simp only [List.set_cons_zero, List.set_cons_succ]
        refine sv 60 (.bool true) .of ?_
        simp only [List.set_cons_zero, List.set_cons_succ]
        refine sv 61 (va1) .of ?_
        simp only [List.set_cons_zero, List.set_cons_succ]
        refine sv 62 (.int .i64 ((lx : Nat) : Int)) (Val.lenO (.tmp 61) 28 rfl (by kernel_rfl) X0 lx (by simp only [List.length_append, nn_len, padN_len]; omega) Try.underlying28) ?_
        simp only [List.set_cons_zero, List.set_cons_succ]
        refine sv 63 (v0) .of ?_
        simp only [List.set_cons_zero, List.set_cons_succ]
        refine sv 64 (.int .i64 ((xs0.length : Nat) : Int)) (Val.lenS (.tmp 63) 28 rfl (by kernel_rfl) D0 xs0.length (nn_len xs0) Try.underlying28) ?_
        simp only [List.set_cons_zero, List.set_cons_succ]
        refine sv 65 (.int .i64 (((xs0.length : Nat) : Int) + 72)) (Val.add 3 _ (.tmp 64) _ rfl ((xs0.length : Nat) : Int) 72 (by kernel_rfl) (by kernel_rfl) (by omega)) ?_
        simp only [List.set_cons_zero, List.set_cons_succ]
        refine sv 66 (.bool true) (Val.cmp .leq 3 _ (.tmp 62) (.tmp 65) rfl .i64 ((lx : Nat) : Int) (((xs0.length : Nat) : Int) + 72) (by kernel_rfl) (by kernel_rfl) (by simp) _ (by simp only [cmpB]; simp; omega)) ?_
        simp only [List.set_cons_zero, List.set_cons_succ]
        refine sv 67 (.bool true) .of ?_
        simp only [List.set_cons_zero, List.set_cons_succ]
        refine sv 68 (.bool true) .of ?_
        simp only [List.set_cons_zero, List.set_cons_succ]
        refine sv 69 (.int .i64 ((numP xs0.length j : Nat) : Int)) .of ?_
        simp only [List.set_cons_zero, List.set_cons_succ]
        refine sv 70 (v0) .of ?_
        simp only [List.set_cons_zero, List.set_cons_succ]
        refine sv 71 (.int .i64 ((xs0.length : Nat) : Int)) (Val.lenS (.tmp 70) 28 rfl (by kernel_rfl) D0 xs0.length (nn_len xs0) Try.underlying28) ?_
        simp only [List.set_cons_zero, List.set_cons_succ]
        refine sv 72 (.int .i64 (8 * ((xs0.length : Nat) : Int))) (Val.mul 3 _ _ (.tmp 71) rfl 8 ((xs0.length : Nat) : Int) (by kernel_rfl) (by kernel_rfl) (by omega)) ?_
        simp only [List.set_cons_zero, List.set_cons_succ]
        refine sv 73 (.bool true) (Val.cmp .eql 3 _ (.tmp 69) (.tmp 72) rfl .i64 ((numP xs0.length j : Nat) : Int) (8 * ((xs0.length : Nat) : Int)) (by kernel_rfl) (by kernel_rfl) (by simp) _ (by simp only [cmpB, hj8]; simp)) ?_
        simp only [List.set_cons_zero, List.set_cons_succ]
        refine sv 74 (.bool true) .of ?_
        simp only [List.set_cons_zero, List.set_cons_succ]
        refine sv 75 (.bool true) .of ?_
        simp only [List.set_cons_zero, List.set_cons_succ]
        refine sv 76 (va1) .of ?_
        simp only [List.set_cons_zero, List.set_cons_succ]
        refine sv 77 (va2) .of ?_
        simp only [List.set_cons_zero, List.set_cons_succ]
        refine xCall 78 16 #[va1, va2] (by kernel_rfl) ?_
        refine (same_any _ _ (nn (xs0 ++ padN xs0.length)) (nn (xs1 ++ padN xs1.length)) wl0 (X0.sl.cast' rfl (nn_app _ _).symm) (X1.sl.cast' rfl (nn_app _ _).symm) (bytes_nn hz0) (bytes_nn hz1)).mono ?_
        rintro en w9 ⟨rfl, hw⟩
        obtain rfl := (hw.symm).symm
        refine ⟨.bool (decide (nn (xs0 ++ padN xs0.length) = nn (xs1 ++ padN xs1.length))), rfl, ?_⟩
        simp only [List.set_cons_zero, List.set_cons_succ]
        refine sv 79 (v0) .of ?_
        simp only [List.set_cons_zero, List.set_cons_succ]
        refine sv 80 (v1) .of ?_
        simp only [List.set_cons_zero, List.set_cons_succ]
        refine xCall 81 16 #[v0, v1] (by kernel_rfl) ?_
        refine (same_any _ _ (nn xs0) (nn xs1) wl0 D0 D1 (bytes_nn hy0) (bytes_nn hy1)).mono ?_
        rintro en w10 ⟨rfl, hw⟩
        obtain rfl := (hw.symm).symm
        refine ⟨.bool (decide (nn xs0 = nn xs1)), rfl, ?_⟩
        simp only [List.set_cons_zero, List.set_cons_succ]
        have hiff : nn (xs0 ++ padN xs0.length) = nn (xs1 ++ padN xs1.length) ↔ nn xs0 = nn xs1 := ⟨fun h => congrArg nn (padded_inj (by omega) (by omega) (nn_inj h)), fun h => by rw [nn_inj h]⟩
        refine sv 82 (.bool true) (Val.bools .eql 4 _ (.tmp 78) (.tmp 81) rfl Try.underlying4 (decide (nn (xs0 ++ padN xs0.length) = nn (xs1 ++ padN xs1.length))) (decide (nn xs0 = nn xs1)) (by kernel_rfl) (by kernel_rfl) (.inl rfl) _ (by rw [if_pos rfl]; simp [hiff])) ?_
        simp only [List.set_cons_zero, List.set_cons_succ]
        refine sv 83 (.bool true) .of ?_
        simp only [List.set_cons_zero, List.set_cons_succ]
        refine sv 84 (.bool true) .of ?_
        simp only [List.set_cons_zero, List.set_cons_succ]
        refine xCall 85 38 #[] (by kernel_rfl) ?_
        refine (awake02_any wl0).mono ?_
        rintro en w11 ⟨rfl, hb1⟩
        have e9 := belE0 hb1
        have ze9 := e9.size
        replace BL := BL.e0 e9
        replace D0 := D0.e0 e9
        replace D1 := D1.e0 e9
        replace X0 := X0.e0 e9
        replace Y0 := Y0.e0 e9
        replace X1 := X1.e0 e9
        replace Y1 := Y1.e0 e9
        clear e9
        refine ⟨.bool true, rfl, ?_⟩
        simp only [List.set_cons_zero, List.set_cons_succ]
        refine sv 86 (.bool true) .of ?_
        simp only [List.set_cons_zero, List.set_cons_succ]
        refine sv 4 (.bool true) .of ?_
        simp only [List.set_cons_zero, List.set_cons_succ]
        refine wpList_nil ?_
        refine hK15 _ _ ?_
        refine wp_ret ?_
        (try simp only [Exit.then, Exit.inBlock])
        refine bodyPost_ret (v := .bool true) rT rfl ?_
        exact ⟨rfl, BL.b⟩

end Go.Proofs.Ytoeaekamoejhcaa
