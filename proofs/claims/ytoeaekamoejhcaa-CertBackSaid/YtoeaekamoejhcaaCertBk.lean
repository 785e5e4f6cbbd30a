/-
  CertBack, the walk.
-/
import Derived.Test.YtoeaekamoejhcaaCertL
import Derived.Test.YtoeaekamoejhcaaCertF
import Derived.Test.YtoeaekamoejhcaaEqk
import Derived.Test.YtoeaekamoejhcaaAwake18
import Derived.Test.YtoeaekamoejhcaaOpenG
namespace Go.Proofs.Ytoeaekamoejhcaa
open Go.RowKit
set_option linter.unusedVariables false
set_option linter.unusedSimpArgs false
set_option maxRecDepth 100000
attribute [local irreducible] wpList Code.wp wpAnyH

/-- nothing, if it is not right -/
def okv (b : Bool) (xs : List Int) : List Int := if b then xs else []
def ecF (b : Bool) : Int := if b then 0 else 180
theorem ec_eq (b : Bool) : cmpB .eql (ecF b) 0 = decide (b = true) := by cases b <;> rfl
theorem okv_true {b : Bool} (h : b = true) (xs : List Int) : okv b xs = xs := by rw [h]; rfl
theorem ec_true {b : Bool} (h : b = true) : ecF b = 0 := by rw [h]; rfl
theorem BytesPost.uni {w : World} {b : Bool} {xs : List Int} {e : Ending} {w' : World} (h : BytesPost w b xs e w') : ∃ a c, e = .returned (.tuple #[.slice a (okv b xs).length c, .int .i64 (ecF b)]) ∧ Below w.heap.size w w' ∧
    SL .u8 w' (.slice a (okv b xs).length c) (okv b xs) ∧ ∀ i, (Value.slice a (okv b xs).length c).ownBlock = some i → w.heap.size ≤ i ∧ i < w'.heap.size := by
  obtain ⟨hb, ⟨rfl, rfl⟩ | ⟨rfl, v, rfl, ho⟩⟩ := h
  · exact ⟨none, 0, rfl, hb, SL.nil _ _, fun i hi => by cases hi⟩
  · obtain ⟨a, c, rfl⟩ := ho.len
    exact ⟨a, c, rfl, hb, ho.sl, ho.ge⟩
theorem bytes_uint (n : Nat) (h : n < 2 ^ 64) : Bytes (uintB n) := by
  intro x hx
  rw [uintB_R n h] at hx
  have : ∀ f n, n < 128 ^ f * 128 → ∀ x ∈ uintR f n, 0 ≤ x ∧ x < 256 := by
    intro f
    induction f with
    | zero => intro n hn x hx; simp [uintR] at hx; omega
    | succ f ih =>
      intro n hn x hx
      simp only [uintR] at hx
      split at hx
      · simp at hx; omega
      · rcases List.mem_cons.1 hx with rfl | hx
        · omega
        · exact ih (n / 128) (by rw [Nat.div_lt_iff_lt_mul (by omega)]; rw [Nat.pow_succ] at hn; exact hn) x hx
  exact this 9 n (by omega) x hx
theorem Bytes.app {xs ys : List Int} (h : Bytes xs) (k : Bytes ys) : Bytes (xs ++ ys) := fun x hx => (List.mem_append.1 hx).elim (h x) (k x)
theorem bytes_uints : ∀ ns : List Int, (∀ x ∈ ns, x < 18446744073709551616) → Bytes (uintsB ns)
  | [], _ => fun x hx => by cases hx
  | n :: ns, h => (bytes_uint n.toNat (by have := h n (List.mem_cons_self ..); omega)).app (bytes_uints ns fun x hx => h x (List.mem_cons_of_mem _ hx))
theorem bytes_okv {b : Bool} {xs : List Int} (h : b = true → Bytes xs) : Bytes (okv b xs) := by
  cases b
  · intro x hx; cases hx
  · exact h rfl
theorem bytes_cert {k h : Int} {root : List Int} (hr : Bytes root) : Bytes (okv (rightC k h) (certB k root h)) := bytes_okv fun hq => by
  obtain ⟨h1, h2, h3, h4⟩ := (rightC_iff k h).1 hq
  refine (Bytes.app (fun x hx => ?_) (bytes_uints _ (fun x hx => ?_))).app hr
  · have : x = 1 := by simpa using hx
    omega
  · rcases List.mem_cons.1 hx with rfl | hx
    · omega
    · have : x = h := by simpa using hx
      omega
theorem bytes_list {q : Int} {ks : List Int} : Bytes (okv (rightL q ks) (listB q ks)) := bytes_okv fun hq => by
  obtain ⟨h1, h2, h3⟩ := rightL_all hq
  refine (Bytes.app (fun x hx => by have : x = 2 := by simpa using hx
                                    omega) (bytes_uints _ (fun x hx => ?_))).app (bytes_uints _ fun x hx => by have := h3 x hx; omega)
  rcases List.mem_cons.1 hx with rfl | hx
  · omega
  · have : x = ks.length := by simpa using hx
    omega
theorem seg0 (k h : Int) (root : List Int) (X : List Value) (hr : root.length = 32) : segV 0 34 (certL k root h ++ X) = certL k root h := by
  unfold segV
  rw [List.drop_zero, List.take_left' (certL_len _ _ _ hr)]
theorem seg1 (k h k' h' : Int) (root root' : List Int) (hr : root.length = 32) (hr' : root'.length = 32) : segV 34 34 (certL k root h ++ certL k' root' h') = certL k' root' h' := by
  unfold segV
  rw [List.drop_left' (certL_len _ _ _ hr), List.take_of_length_le (by rw [certL_len _ _ _ hr']; omega)]
def certK : List IntKind := [.i64] ++ (List.replicate 32 .u8 ++ ([.i64] ++ []))
theorem certK_len : certK.length = 34 := rfl
theorem certL_zip (k h : Int) (root : List Int) (hr : root.length = 32) : certL k root h = zipK certK ([k] ++ (root ++ ([h] ++ []))) := by
  unfold certK
  rw [zipK_app _ _ _ _ rfl, zipK_app _ _ _ _ (by simpa using hr), zipK_rep _ _ _ hr]
  rfl
theorem certN_len (k h : Int) (root : List Int) (hr : root.length = 32) : ([k] ++ (root ++ ([h] ++ []))).length = certK.length := by rw [certK_len]; simp [hr]
theorem certN_wf (k h : Int) (root : List Int) (hr : root.length = 32) (hb : ∀ x ∈ root, (Lit.int .u8 x).wf = true) (hk : (Lit.int .i64 k).wf = true) (hh : (Lit.int .i64 h).wf = true) : wfK certK ([k] ++ (root ++ ([h] ++ []))) :=
  wfK_append rfl (wfK_cons hk wfK_nil) (wfK_append (by simpa using hr) (wfK_rep hb) (wfK_append rfl (wfK_cons hh wfK_nil) wfK_nil))
theorem kt_cert : KT Try.prog 44 certK 3 :=
  KT.struct Try.underlying44 (by kernel_rfl) (by kernel_rfl) (KFields.cons rfl (by kernel_rfl) rfl ((KT.int Try.underlying3).up 1) (KFields.cons rfl (by kernel_rfl) rfl (by
    have := KT.array (P := Try.prog) Try.underlying23 (KT.int Try.underlying5) (by kernel_rfl) rfl (by kernel_rfl)
    exact this) (KFields.cons rfl (by kernel_rfl) rfl ((KT.int Try.underlying3).up 1) (KFields.nil _))))
structure COk (k : Int) (root : List Int) (h : Int) : Prop where
  l : root.length = 32
  b : Bytes root
  wb : ∀ x ∈ root, (Lit.int .u8 x).wf = true
  wk : (Lit.int .i64 k).wf = true
  wh : (Lit.int .i64 h).wf = true
theorem COk.of {k h : Int} {root : List Int} (hl : root.length = 32) (hb : Bytes root) (hk : rightC k h = true) : COk k root h := by
  obtain ⟨h1, h2, h3, h4⟩ := (rightC_iff k h).1 hk
  refine ⟨hl, hb, fun x hx => ?_, ?_, ?_⟩
  · have := hb x hx; simp [Lit.wf, IntKind.min, IntKind.max, IntKind.bits, IntKind.signed]; omega
  · simp [Lit.wf, IntKind.min, IntKind.max, IntKind.bits, IntKind.signed]; omega
  · simp [Lit.wf, IntKind.min, IntKind.max, IntKind.bits, IntKind.signed]; omega
theorem rem_val {P : Program} {a : Act} {o : Oper} {w : World} (t ty : TypeId) (x y : Operand) (ho : o.op = .binOp .rem t x y ty) (n : Int) (m : Nat) (hn : 0 ≤ n) (hx : a.eval x = .int .i64 n) (hy : a.eval y = .int .i64 (m : Int)) (hm : 0 < m) : Val P a o (.int .i64 ((n.toNat % m : Nat) : Int)) w := by
  refine Val.bin .rem t ty x y ho _ _ hx hy (guard_int n m) ?_
  have h0 : ¬ (m : Int) = 0 := by omega
  obtain ⟨k, rfl⟩ := Int.eq_ofNat_of_zero_le hn
  have hm0 : ¬ m = 0 := by omega
  simp [binOp, Op.intDiv, hm0]
  rw [Int.tmod_eq_emod_of_nonneg (by omega)]
theorem certB_pos (k h : Int) (root : List Int) (hr : root.length = 32) : 32 < (certB k root h).length := by rw [certB_len, hr]; omega
theorem listB_pos (q : Int) (ks : List Int) : 0 < (listB q ks).length := by rw [listB_len]; omega
theorem okF_cert (k h : Int) (root : List Int) : okF (certB k root h) 2 = false := by rw [certB_eq]; rfl
theorem okF_list (q : Int) (ks : List Int) : okF (listB q ks) 1 = false := by rw [listB_eq]; rfl
theorem okv_len {b : Bool} (h : b = true) (xs : List Int) : (okv b xs).length = xs.length := by rw [okv_true h]
theorem cert_cut {k h : Int} {root : List Int} (c : COk k root h) (g : rightC k h = true) (n : Nat) : readC ((okv (rightC k h) (certB k root h)).take (n % (okv (rightC k h) (certB k root h)).length)) = none := by
  rw [okv_true g]
  have hb := bytes_cert (k := k) (h := h) c.b
  rw [okv_true g] at hb
  exact readC_cut k h root c.l hb g _ (Nat.mod_lt _ (by have := certB_pos k h root c.l; omega))
theorem list_cut {q : Int} {ks : List Int} (g : rightL q ks = true) (n : Nat) : readL ((okv (rightL q ks) (listB q ks)).take (n % (okv (rightL q ks) (listB q ks)).length)) = none := by
  rw [okv_true g]
  have hb := bytes_list (q := q) (ks := ks)
  rw [okv_true g] at hb
  exact readL_cut q ks hb g _ (Nat.mod_lt _ (listB_pos q ks))
theorem readC_cases (xs : List Int) : readC xs = none ∨ ∃ k r h, readC xs = some (k, r, h) := by
  cases readC xs with
  | none => exact .inl rfl
  | some t => exact .inr ⟨t.1, t.2.1, t.2.2, rfl⟩
theorem readL_cases (xs : List Int) : readL xs = none ∨ ∃ q ks, readL xs = some (q, ks) := by
  cases readL xs with
  | none => exact .inl rfl
  | some t => exact .inr ⟨t.1, t.2, rfl⟩
theorem take_bytes {xs : List Int} (h : Bytes xs) (n : Nat) : Bytes (xs.take n) := fun x hx => h x (List.mem_of_mem_take hx)
theorem cert_same {k0 h0 k1 h1 : Int} {r0 r1 : List Int} (c0 : COk k0 r0 h0) (c1 : COk k1 r1 h1) (g0 : rightC k0 h0 = true) (g1 : rightC k1 h1 = true) :
    decide (okv (rightC k0 h0) (certB k0 r0 h0) = okv (rightC k1 h1) (certB k1 r1 h1)) = decide ([k0] ++ (r0 ++ ([h0] ++ [])) = [k1] ++ (r1 ++ ([h1] ++ []))) := by
  rw [okv_true g0, okv_true g1]
  refine decide_eq_decide.2 ⟨fun h => ?_, fun h => ?_⟩
  · have e := readC_put k0 h0 r0 c0.l g0
    rw [h, readC_put k1 h1 r1 c1.l g1] at e
    simp only [Option.some.injEq, Prod.mk.injEq] at e
    rw [e.1, e.2.1, e.2.2]
  · have a : k0 = k1 := by simpa using congrArg List.head? h
    have b : r0 ++ [h0] = r1 ++ [h1] := by simpa using congrArg List.tail h
    obtain ⟨b1, b2⟩ := List.append_inj b (by rw [c0.l, c1.l])
    rw [a, b1, List.singleton_inj.1 b2]
theorem list_same {q0 q1 : Int} {x0 x1 : List Int} (g0 : rightL q0 x0 = true) (g1 : rightL q1 x1 = true) :
    decide (okv (rightL q0 x0) (listB q0 x0) = okv (rightL q1 x1) (listB q1 x1)) = decide (q0 = q1 ∧ x0 = x1) := by
  rw [okv_true g0, okv_true g1]
  refine decide_eq_decide.2 ⟨fun h => ?_, fun h => by rw [h.1, h.2]⟩
  have e := readL_put q0 x0 g0
  rw [h, readL_put q1 x1 g1] at e
  simp only [Option.some.injEq, Prod.mk.injEq] at e
  exact ⟨e.1.symm, e.2.symm⟩
set_option maxHeartbeats 4000000 in
theorem certBack_walk (w : World) (k0 h0 k1 h1 : Int) (r0 r1 : List Int) (C0 : COk k0 r0 h0) (C1 : COk k1 r1 h1) (q0 q1 : Int) (v0 v1 : Value) (x0 x1 : List Int) (U0 : SL .i64 w v0 x0) (U1 : SL .i64 w v1 x1) (v : Value) (bs : List Int) (B : SL .u8 w v bs) (hbs : Bytes bs) (at_ : Int) (hat : 0 ≤ at_ ∧ at_ < 65536) :
    Calls Try.prog 6 #[.agg (certL k0 r0 h0 ++ certL k1 r1 h1).toArray, .agg #[.int .i64 q0, v0, .int .i64 q1, v1], v, .int .u16 at_] w fun e w' => e = .returned (.bool true) ∧ Below w.heap.size w w' := by
  obtain ⟨pa0, pc0, rfl, hm0⟩ := U0.len
  obtain ⟨pa1, pc1, rfl, hm1⟩ := U1.len
  obtain ⟨ab, cb, rfl, hmb⟩ := B.len
  have lU0 := U0.bd
  have lU1 := U1.bd
  have lB := B.bd
  have BL := Bl.refl w
  unfold maxLen at hm0 hm1 hmb
  go_enter Try.func6, Try.ntmps6
  refine wp_seq_k fun K1 hK1 => ?_
  refine cPlain ?_
  refine xBox 4 45 _ (certL k0 r0 h0 ++ certL k1 r1 h1) rfl (by kernel_rfl) ?_
  intro w1 n1
  have zn1 := n1.z
  have b4 := n1.c
  replace U0 := U0.e0 n1.e
  replace U1 := U1.e0 n1.e
  replace B := B.e0 n1.e
  replace BL := BL.e0 n1.e
  simp only [List.set_cons_zero, List.set_cons_succ]
  refine xBox 5 46 _ [.int .i64 q0, .slice pa0 x0.length pc0, .int .i64 q1, .slice pa1 x1.length pc1] rfl (by kernel_rfl) ?_
  intro w2 n2
  have zn2 := n2.z
  have b5 := n2.c
  replace U0 := U0.e0 n2.e
  replace U1 := U1.e0 n2.e
  replace B := B.e0 n2.e
  replace BL := BL.e0 n2.e
  replace b4 := b4.e0 n2.e
  simp only [List.set_cons_zero, List.set_cons_succ]
  refine sv 8 (.bool false) .of ?_
  simp only [List.set_cons_zero, List.set_cons_succ]
  refine wpList_nil ?_
  refine hK1 _ _ ?_
  refine cCut (fun A_ w_ => ((∃ s1 : Nat → Value, A_ = ⟨[.agg (certL k0 r0 h0 ++ certL k1 r1 h1).toArray, .agg #[.int .i64 q0, .slice pa0 x0.length pc0, .int .i64 q1, .slice pa1 x1.length pc1], .slice ab bs.length cb, .int .u16 at_, .pointer (some ⟨w.heap.size, 0, none⟩), .pointer (some ⟨w1.heap.size, 0, none⟩), undef, undef, (s1 8), undef, undef, undef, undef, undef, undef, undef, undef, undef, undef, undef, undef, undef, undef, undef, undef, undef, undef, undef, undef, undef, undef, undef, undef, undef, undef, undef, undef, (s1 37), (s1 38), (s1 39), (s1 40), (s1 41), (s1 42), (s1 43), (s1 44), (s1 45), (s1 46), (s1 47), (s1 48), (s1 49), (s1 50), (s1 51), (s1 52), (s1 53), (s1 54), undef, undef, undef, undef, undef, undef, undef, undef, undef, undef, undef, undef, undef, undef, undef, undef, undef, undef, undef, undef, undef, undef, undef, undef, undef, undef, undef, undef, undef, undef, undef, undef, undef, undef, undef, undef, undef, undef, undef, undef, undef, undef, undef, undef, undef, undef, undef, undef, undef, undef, undef, undef, undef, undef, undef, undef, undef, undef, undef, undef, undef, undef, undef, undef, undef, undef, undef, undef, undef, undef, undef, undef, undef, undef, undef, undef, undef, undef, undef, undef, undef, undef, undef, undef, undef, undef, undef, undef, undef, undef, undef, undef, undef, undef, undef, undef, undef, undef, undef, undef, undef, undef, undef, undef, undef, undef, undef, undef, undef, undef, undef, undef, undef, undef, undef, undef, undef, undef, undef, undef, undef, undef, undef, undef, undef, undef, undef, undef, undef, undef, undef, undef, undef, undef, undef, undef, undef, undef, undef, undef, undef, undef, undef, undef, undef, undef, undef, undef, undef, undef, undef, undef, undef, undef, undef, undef, undef, undef, undef, undef, undef, undef, undef, undef, undef, undef, undef, undef, undef, undef, undef, undef, undef, undef, undef, undef, undef, undef, undef, undef, undef, undef, undef, undef, undef, undef, undef, undef, undef, undef, undef, undef].toArray, []⟩) ∧ SL .i64 w_ (.slice pa0 x0.length pc0) x0 ∧ SL .i64 w_ (.slice pa1 x1.length pc1) x1 ∧ SL .u8 w_ (.slice ab bs.length cb) bs ∧ Bl w.heap.size w w_ ∧ Cel w_ w.heap.size 45 (certL k0 r0 h0 ++ certL k1 r1 h1) ∧ Cel w_ w1.heap.size 46 [.int .i64 q0, .slice pa0 x0.length pc0, .int .i64 q1, .slice pa1 x1.length pc1] ∧ w2.heap.size ≤ w_.heap.size)) ?_ ?_
  · skip
    refine wp_seq_k fun K2 hK2 => ?_
    refine cPlain ?_
    refine sv 37 (.pointer (some ⟨w1.heap.size, 0, none⟩)) .of ?_
    simp only [List.set_cons_zero, List.set_cons_succ]
    refine sv 38 (.pointer (some ⟨w1.heap.size, 1, none⟩)) .of ?_
    simp only [List.set_cons_zero, List.set_cons_succ]
    refine sv 39 (.slice pa0 x0.length pc0) (Val.cel1 36 _ rfl w1.heap.size 1 _ (by kernel_rfl) (fun _ => (by kernel_rfl)) b5 rfl) ?_
    simp only [List.set_cons_zero, List.set_cons_succ]
    refine sv 40 (.int .i64 (x0.length : Int)) .of ?_
    simp only [List.set_cons_zero, List.set_cons_succ]
    refine sv 41 (.bool (decide (80 < (x0.length : Int)))) (Val.cmp .gtr 3 _ (.tmp 40) _ rfl .i64 (x0.length : Int) 80 (by kernel_rfl) (by kernel_rfl) (by simp) _ rfl) ?_
    simp only [List.set_cons_zero, List.set_cons_succ]
    refine sv 42 (.bool (decide (80 < (x0.length : Int)))) .of ?_
    simp only [List.set_cons_zero, List.set_cons_succ]
    by_cases g43 : 80 < (x0.length : Int)
    · skip
      have dg43 : decide (80 < (x0.length : Int)) = true := decide_eq_true g43
      simp only [dg43]
      clear dg43
      refine xSkip 43 ?_
      simp only [List.set_cons_zero, List.set_cons_succ]
      refine xSkip 44 ?_
      simp only [List.set_cons_zero, List.set_cons_succ]
      refine xSkip 45 ?_
      simp only [List.set_cons_zero, List.set_cons_succ]
      refine xSkip 46 ?_
      simp only [List.set_cons_zero, List.set_cons_succ]
      refine xSkip 47 ?_
      simp only [List.set_cons_zero, List.set_cons_succ]
      refine sv 48 (.bool true) .of ?_
      simp only [List.set_cons_zero, List.set_cons_succ]
      refine sv 49 (.bool true) .of ?_
      simp only [List.set_cons_zero, List.set_cons_succ]
      refine xSkip 50 ?_
      simp only [List.set_cons_zero, List.set_cons_succ]
      refine xSkip 51 ?_
      simp only [List.set_cons_zero, List.set_cons_succ]
      refine xSkip 52 ?_
      simp only [List.set_cons_zero, List.set_cons_succ]
      refine sv 53 (.bool true) .of ?_
      simp only [List.set_cons_zero, List.set_cons_succ]
      refine wpList_nil ?_
      refine hK2 _ _ ?_
      refine cT ?_
      refine wp_seq_k fun K3 hK3 => ?_
      refine cPlain ?_
      refine xCall 54 22 #[] (by kernel_rfl) ?_
      refine (awake18 w2).mono ?_
      rintro en w3 ⟨rfl, hb1⟩
      have e1 := belE0 hb1
      have ze1 := e1.size
      replace U0 := U0.e0 e1
      replace U1 := U1.e0 e1
      replace B := B.e0 e1
      replace BL := BL.e0 e1
      replace b4 := b4.e0 e1
      replace b5 := b5.e0 e1
      clear e1
      refine ⟨.bool true, rfl, ?_⟩
      simp only [List.set_cons_zero, List.set_cons_succ]
      refine sv 8 (.bool true) .of ?_
      simp only [List.set_cons_zero, List.set_cons_succ]
      refine wpList_nil ?_
      refine hK3 _ _ ?_
      refine wp_ret ?_
      (try simp only [Exit.then, Exit.inBlock])
      refine bodyPost_ret (v := .bool true) rT rfl ?_
      exact ⟨rfl, BL.b⟩
    · skip
      have dg43 : decide (80 < (x0.length : Int)) = false := decide_eq_false g43
      simp only [dg43]
      clear dg43
      refine sv 43 (.pointer (some ⟨w1.heap.size, 2, none⟩)) .of ?_
      simp only [List.set_cons_zero, List.set_cons_succ]
      refine sv 44 (.pointer (some ⟨w1.heap.size, 3, none⟩)) .of ?_
      simp only [List.set_cons_zero, List.set_cons_succ]
      refine sv 45 (.slice pa1 x1.length pc1) (Val.cel1 36 _ rfl w1.heap.size 3 _ (by kernel_rfl) (fun _ => (by kernel_rfl)) b5 rfl) ?_
      simp only [List.set_cons_zero, List.set_cons_succ]
      refine sv 46 (.int .i64 (x1.length : Int)) .of ?_
      simp only [List.set_cons_zero, List.set_cons_succ]
      refine sv 47 (.bool (decide (80 < (x1.length : Int)))) (Val.cmp .gtr 3 _ (.tmp 46) _ rfl .i64 (x1.length : Int) 80 (by kernel_rfl) (by kernel_rfl) (by simp) _ rfl) ?_
      simp only [List.set_cons_zero, List.set_cons_succ]
      refine sv 48 (.bool (decide (80 < (x1.length : Int)))) .of ?_
      simp only [List.set_cons_zero, List.set_cons_succ]
      refine sv 49 (.bool (decide (80 < (x1.length : Int)))) .of ?_
      simp only [List.set_cons_zero, List.set_cons_succ]
      by_cases g50 : 80 < (x1.length : Int)
      · skip
        have dg50 : decide (80 < (x1.length : Int)) = true := decide_eq_true g50
        simp only [dg50]
        clear dg50
        refine xSkip 50 ?_
        simp only [List.set_cons_zero, List.set_cons_succ]
        refine xSkip 51 ?_
        simp only [List.set_cons_zero, List.set_cons_succ]
        refine xSkip 52 ?_
        simp only [List.set_cons_zero, List.set_cons_succ]
        refine sv 53 (.bool true) .of ?_
        simp only [List.set_cons_zero, List.set_cons_succ]
        refine wpList_nil ?_
        refine hK2 _ _ ?_
        refine cT ?_
        refine wp_seq_k fun K4 hK4 => ?_
        refine cPlain ?_
        refine xCall 54 22 #[] (by kernel_rfl) ?_
        refine (awake18 w2).mono ?_
        rintro en w4 ⟨rfl, hb1⟩
        have e2 := belE0 hb1
        have ze2 := e2.size
        replace U0 := U0.e0 e2
        replace U1 := U1.e0 e2
        replace B := B.e0 e2
        replace BL := BL.e0 e2
        replace b4 := b4.e0 e2
        replace b5 := b5.e0 e2
        clear e2
        refine ⟨.bool true, rfl, ?_⟩
        simp only [List.set_cons_zero, List.set_cons_succ]
        refine sv 8 (.bool true) .of ?_
        simp only [List.set_cons_zero, List.set_cons_succ]
        refine wpList_nil ?_
        refine hK4 _ _ ?_
        refine wp_ret ?_
        (try simp only [Exit.then, Exit.inBlock])
        refine bodyPost_ret (v := .bool true) rT rfl ?_
        exact ⟨rfl, BL.b⟩
      · skip
        have dg50 : decide (80 < (x1.length : Int)) = false := decide_eq_false g50
        simp only [dg50]
        clear dg50
        refine sv 50 (.slice ab bs.length cb) .of ?_
        simp only [List.set_cons_zero, List.set_cons_succ]
        refine sv 51 (.int .i64 (bs.length : Int)) .of ?_
        simp only [List.set_cons_zero, List.set_cons_succ]
        refine sv 52 (.bool (decide (3000 < (bs.length : Int)))) (Val.cmp .gtr 3 _ (.tmp 51) _ rfl .i64 (bs.length : Int) 3000 (by kernel_rfl) (by kernel_rfl) (by simp) _ rfl) ?_
        simp only [List.set_cons_zero, List.set_cons_succ]
        refine sv 53 (.bool (decide (3000 < (bs.length : Int)))) .of ?_
        simp only [List.set_cons_zero, List.set_cons_succ]
        refine wpList_nil ?_
        refine hK2 _ _ ?_
        refine cDec (3000 < (bs.length : Int)) (by kernel_rfl) (fun c53 => ?_) (fun c53 => ?_)
        · skip
          refine wp_seq_k fun K5 hK5 => ?_
          refine cPlain ?_
          refine xCall 54 22 #[] (by kernel_rfl) ?_
          refine (awake18 w2).mono ?_
          rintro en w5 ⟨rfl, hb1⟩
          have e3 := belE0 hb1
          have ze3 := e3.size
          replace U0 := U0.e0 e3
          replace U1 := U1.e0 e3
          replace B := B.e0 e3
          replace BL := BL.e0 e3
          replace b4 := b4.e0 e3
          replace b5 := b5.e0 e3
          clear e3
          refine ⟨.bool true, rfl, ?_⟩
          simp only [List.set_cons_zero, List.set_cons_succ]
          refine sv 8 (.bool true) .of ?_
          simp only [List.set_cons_zero, List.set_cons_succ]
          refine wpList_nil ?_
          refine hK5 _ _ ?_
          refine wp_ret ?_
          (try simp only [Exit.then, Exit.inBlock])
          refine bodyPost_ret (v := .bool true) rT rfl ?_
          exact ⟨rfl, BL.b⟩
        · skip
          refine wp_skip ?_
          exact ⟨cutE, U0, U1, B, BL, b4, b5, by omega⟩
  · skip
    clear U0 U1 B BL b4 b5
    rintro a_ wJ1 ⟨⟨s1, rfl⟩, U0, U1, B, BL, b4, b5, zJ1⟩
    refine wp_seq_k fun K6 hK6 => ?_
    refine cPlain ?_
    refine sv 56 (.pointer (some ⟨w.heap.size, 0, none⟩)) .of ?_
    simp only [List.set_cons_zero, List.set_cons_succ]
    refine sv 57 (.agg (certL k0 r0 h0).toArray) (Val.cel 44 _ rfl 0 34 (by kernel_rfl) b4 _ Try.underlying44 rfl (by kernel_rfl) (by rw [List.length_append, certL_len _ _ _ C0.l, certL_len _ _ _ C1.l]; omega) _ (seg0 _ _ _ _ C0.l)) ?_
    simp only [List.set_cons_zero, List.set_cons_succ]
    refine xCall 58 23 #[.agg (certL k0 r0 h0).toArray] (by kernel_rfl) ?_
    refine (certbytes_any k0 h0 r0 C0.l wJ1).mono ?_
    rintro en w6 hp
    obtain ⟨ax0, cx0, he, hb1, X0, lX0⟩ := hp.uni
    subst he
    clear hp
    have e4 := belE0 hb1
    have ze4 := e4.size
    replace U0 := U0.e0 e4
    replace U1 := U1.e0 e4
    replace B := B.e0 e4
    replace BL := BL.e0 e4
    replace b4 := b4.e0 e4
    replace b5 := b5.e0 e4
    clear e4
    refine ⟨.tuple #[.slice ax0 (okv (rightC k0 h0) (certB k0 r0 h0)).length cx0, .int .i64 (ecF (rightC k0 h0))], rfl, ?_⟩
    simp only [List.set_cons_zero, List.set_cons_succ]
    refine sv 55 (.tuple #[.slice ax0 (okv (rightC k0 h0) (certB k0 r0 h0)).length cx0, .int .i64 (ecF (rightC k0 h0))]) .of ?_
    simp only [List.set_cons_zero, List.set_cons_succ]
    refine sv 59 (.slice ax0 (okv (rightC k0 h0) (certB k0 r0 h0)).length cx0) .of ?_
    simp only [List.set_cons_zero, List.set_cons_succ]
    refine sv 60 (.int .i64 (ecF (rightC k0 h0))) .of ?_
    simp only [List.set_cons_zero, List.set_cons_succ]
    refine sv 9 (.slice ax0 (okv (rightC k0 h0) (certB k0 r0 h0)).length cx0) .of ?_
    simp only [List.set_cons_zero, List.set_cons_succ]
    refine sv 10 (.int .i64 (ecF (rightC k0 h0))) .of ?_
    simp only [List.set_cons_zero, List.set_cons_succ]
    refine wpList_nil ?_
    refine hK6 _ _ ?_
    refine wp_seq_k fun K7 hK7 => ?_
    refine cPlain ?_
    refine sv 62 (.pointer (some ⟨w.heap.size, 34, none⟩)) .of ?_
    simp only [List.set_cons_zero, List.set_cons_succ]
    refine sv 63 (.agg (certL k1 r1 h1).toArray) (Val.cel 44 _ rfl 34 34 (by kernel_rfl) b4 _ Try.underlying44 rfl (by kernel_rfl) (by rw [List.length_append, certL_len _ _ _ C0.l, certL_len _ _ _ C1.l]; omega) _ (seg1 _ _ _ _ _ _ C0.l C1.l)) ?_
    simp only [List.set_cons_zero, List.set_cons_succ]
    refine xCall 64 23 #[.agg (certL k1 r1 h1).toArray] (by kernel_rfl) ?_
    refine (certbytes_any k1 h1 r1 C1.l w6).mono ?_
    rintro en w7 hp
    obtain ⟨ax1, cx1, he, hb1, X1, lX1⟩ := hp.uni
    subst he
    clear hp
    have e5 := belE0 hb1
    have ze5 := e5.size
    replace U0 := U0.e0 e5
    replace U1 := U1.e0 e5
    replace B := B.e0 e5
    replace BL := BL.e0 e5
    replace b4 := b4.e0 e5
    replace b5 := b5.e0 e5
    replace X0 := X0.e0 e5
    clear e5
    refine ⟨.tuple #[.slice ax1 (okv (rightC k1 h1) (certB k1 r1 h1)).length cx1, .int .i64 (ecF (rightC k1 h1))], rfl, ?_⟩
    simp only [List.set_cons_zero, List.set_cons_succ]
    refine sv 61 (.tuple #[.slice ax1 (okv (rightC k1 h1) (certB k1 r1 h1)).length cx1, .int .i64 (ecF (rightC k1 h1))]) .of ?_
    simp only [List.set_cons_zero, List.set_cons_succ]
    refine sv 65 (.slice ax1 (okv (rightC k1 h1) (certB k1 r1 h1)).length cx1) .of ?_
    simp only [List.set_cons_zero, List.set_cons_succ]
    refine sv 66 (.int .i64 (ecF (rightC k1 h1))) .of ?_
    simp only [List.set_cons_zero, List.set_cons_succ]
    refine sv 11 (.slice ax1 (okv (rightC k1 h1) (certB k1 r1 h1)).length cx1) .of ?_
    simp only [List.set_cons_zero, List.set_cons_succ]
    refine sv 12 (.int .i64 (ecF (rightC k1 h1))) .of ?_
    simp only [List.set_cons_zero, List.set_cons_succ]
    refine wpList_nil ?_
    refine hK7 _ _ ?_
    refine wp_seq_k fun K8 hK8 => ?_
    refine cPlain ?_
    refine sv 68 (.pointer (some ⟨w1.heap.size, 0, none⟩)) .of ?_
    simp only [List.set_cons_zero, List.set_cons_succ]
    refine sv 69 (.agg #[.int .i64 q0, .slice pa0 x0.length pc0]) (Val.cel 38 _ rfl 0 2 (by kernel_rfl) b5 _ Try.underlying38 rfl (by kernel_rfl) (by simp) [.int .i64 q0, .slice pa0 x0.length pc0] rfl) ?_
    simp only [List.set_cons_zero, List.set_cons_succ]
    refine xCall 70 24 #[.agg #[.int .i64 q0, .slice pa0 x0.length pc0]] (by kernel_rfl) ?_
    refine (listbytes_any q0 _ x0 w7 U0).mono ?_
    rintro en w8 hp
    obtain ⟨ay0, cy0, he, hb1, Y0, lY0⟩ := hp.uni
    subst he
    clear hp
    have e6 := belE0 hb1
    have ze6 := e6.size
    replace U0 := U0.e0 e6
    replace U1 := U1.e0 e6
    replace B := B.e0 e6
    replace BL := BL.e0 e6
    replace b4 := b4.e0 e6
    replace b5 := b5.e0 e6
    replace X0 := X0.e0 e6
    replace X1 := X1.e0 e6
    clear e6
    refine ⟨.tuple #[.slice ay0 (okv (rightL q0 x0) (listB q0 x0)).length cy0, .int .i64 (ecF (rightL q0 x0))], rfl, ?_⟩
    simp only [List.set_cons_zero, List.set_cons_succ]
    refine sv 67 (.tuple #[.slice ay0 (okv (rightL q0 x0) (listB q0 x0)).length cy0, .int .i64 (ecF (rightL q0 x0))]) .of ?_
    simp only [List.set_cons_zero, List.set_cons_succ]
    refine sv 71 (.slice ay0 (okv (rightL q0 x0) (listB q0 x0)).length cy0) .of ?_
    simp only [List.set_cons_zero, List.set_cons_succ]
    refine sv 72 (.int .i64 (ecF (rightL q0 x0))) .of ?_
    simp only [List.set_cons_zero, List.set_cons_succ]
    refine sv 13 (.slice ay0 (okv (rightL q0 x0) (listB q0 x0)).length cy0) .of ?_
    simp only [List.set_cons_zero, List.set_cons_succ]
    refine sv 14 (.int .i64 (ecF (rightL q0 x0))) .of ?_
    simp only [List.set_cons_zero, List.set_cons_succ]
    refine wpList_nil ?_
    refine hK8 _ _ ?_
    refine wp_seq_k fun K9 hK9 => ?_
    refine cPlain ?_
    refine sv 74 (.pointer (some ⟨w1.heap.size, 2, none⟩)) .of ?_
    simp only [List.set_cons_zero, List.set_cons_succ]
    refine sv 75 (.agg #[.int .i64 q1, .slice pa1 x1.length pc1]) (Val.cel 38 _ rfl 2 2 (by kernel_rfl) b5 _ Try.underlying38 rfl (by kernel_rfl) (by simp) [.int .i64 q1, .slice pa1 x1.length pc1] rfl) ?_
    simp only [List.set_cons_zero, List.set_cons_succ]
    refine xCall 76 24 #[.agg #[.int .i64 q1, .slice pa1 x1.length pc1]] (by kernel_rfl) ?_
    refine (listbytes_any q1 _ x1 w8 U1).mono ?_
    rintro en w9 hp
    obtain ⟨ay1, cy1, he, hb1, Y1, lY1⟩ := hp.uni
    subst he
    clear hp
    have e7 := belE0 hb1
    have ze7 := e7.size
    replace U0 := U0.e0 e7
    replace U1 := U1.e0 e7
    replace B := B.e0 e7
    replace BL := BL.e0 e7
    replace b4 := b4.e0 e7
    replace b5 := b5.e0 e7
    replace X0 := X0.e0 e7
    replace X1 := X1.e0 e7
    replace Y0 := Y0.e0 e7
    clear e7
    refine ⟨.tuple #[.slice ay1 (okv (rightL q1 x1) (listB q1 x1)).length cy1, .int .i64 (ecF (rightL q1 x1))], rfl, ?_⟩
    simp only [List.set_cons_zero, List.set_cons_succ]
    refine sv 73 (.tuple #[.slice ay1 (okv (rightL q1 x1) (listB q1 x1)).length cy1, .int .i64 (ecF (rightL q1 x1))]) .of ?_
    simp only [List.set_cons_zero, List.set_cons_succ]
    refine sv 77 (.slice ay1 (okv (rightL q1 x1) (listB q1 x1)).length cy1) .of ?_
    simp only [List.set_cons_zero, List.set_cons_succ]
    refine sv 78 (.int .i64 (ecF (rightL q1 x1))) .of ?_
    simp only [List.set_cons_zero, List.set_cons_succ]
    refine sv 15 (.slice ay1 (okv (rightL q1 x1) (listB q1 x1)).length cy1) .of ?_
    simp only [List.set_cons_zero, List.set_cons_succ]
    refine sv 16 (.int .i64 (ecF (rightL q1 x1))) .of ?_
    simp only [List.set_cons_zero, List.set_cons_succ]
    refine wpList_nil ?_
    refine hK9 _ _ ?_
    refine cCut (fun A_ w_ => ((∃ s2 : Nat → Value, A_ = ⟨[.agg (certL k0 r0 h0 ++ certL k1 r1 h1).toArray, .agg #[.int .i64 q0, .slice pa0 x0.length pc0, .int .i64 q1, .slice pa1 x1.length pc1], .slice ab bs.length cb, .int .u16 at_, .pointer (some ⟨w.heap.size, 0, none⟩), .pointer (some ⟨w1.heap.size, 0, none⟩), undef, undef, (s2 8), .slice ax0 (okv (rightC k0 h0) (certB k0 r0 h0)).length cx0, .int .i64 (ecF (rightC k0 h0)), .slice ax1 (okv (rightC k1 h1) (certB k1 r1 h1)).length cx1, .int .i64 (ecF (rightC k1 h1)), .slice ay0 (okv (rightL q0 x0) (listB q0 x0)).length cy0, .int .i64 (ecF (rightL q0 x0)), .slice ay1 (okv (rightL q1 x1) (listB q1 x1)).length cy1, .int .i64 (ecF (rightL q1 x1)), undef, undef, undef, undef, undef, undef, undef, undef, undef, undef, undef, undef, undef, undef, undef, undef, undef, undef, undef, undef, (s1 37), (s1 38), (s1 39), (s1 40), (s1 41), (s1 42), (s1 43), (s1 44), (s1 45), (s1 46), (s1 47), (s1 48), (s1 49), (s1 50), (s1 51), (s1 52), (s1 53), (s1 54), .tuple #[.slice ax0 (okv (rightC k0 h0) (certB k0 r0 h0)).length cx0, .int .i64 (ecF (rightC k0 h0))], .pointer (some ⟨w.heap.size, 0, none⟩), .agg (certL k0 r0 h0).toArray, .tuple #[.slice ax0 (okv (rightC k0 h0) (certB k0 r0 h0)).length cx0, .int .i64 (ecF (rightC k0 h0))], .slice ax0 (okv (rightC k0 h0) (certB k0 r0 h0)).length cx0, .int .i64 (ecF (rightC k0 h0)), .tuple #[.slice ax1 (okv (rightC k1 h1) (certB k1 r1 h1)).length cx1, .int .i64 (ecF (rightC k1 h1))], .pointer (some ⟨w.heap.size, 34, none⟩), .agg (certL k1 r1 h1).toArray, .tuple #[.slice ax1 (okv (rightC k1 h1) (certB k1 r1 h1)).length cx1, .int .i64 (ecF (rightC k1 h1))], .slice ax1 (okv (rightC k1 h1) (certB k1 r1 h1)).length cx1, .int .i64 (ecF (rightC k1 h1)), .tuple #[.slice ay0 (okv (rightL q0 x0) (listB q0 x0)).length cy0, .int .i64 (ecF (rightL q0 x0))], .pointer (some ⟨w1.heap.size, 0, none⟩), .agg #[.int .i64 q0, .slice pa0 x0.length pc0], .tuple #[.slice ay0 (okv (rightL q0 x0) (listB q0 x0)).length cy0, .int .i64 (ecF (rightL q0 x0))], .slice ay0 (okv (rightL q0 x0) (listB q0 x0)).length cy0, .int .i64 (ecF (rightL q0 x0)), .tuple #[.slice ay1 (okv (rightL q1 x1) (listB q1 x1)).length cy1, .int .i64 (ecF (rightL q1 x1))], .pointer (some ⟨w1.heap.size, 2, none⟩), .agg #[.int .i64 q1, .slice pa1 x1.length pc1], .tuple #[.slice ay1 (okv (rightL q1 x1) (listB q1 x1)).length cy1, .int .i64 (ecF (rightL q1 x1))], .slice ay1 (okv (rightL q1 x1) (listB q1 x1)).length cy1, .int .i64 (ecF (rightL q1 x1)), (s2 79), (s2 80), (s2 81), (s2 82), (s2 83), (s2 84), (s2 85), (s2 86), (s2 87), (s2 88), (s2 89), (s2 90), (s2 91), (s2 92), (s2 93), (s2 94), (s2 95), (s2 96), (s2 97), (s2 98), (s2 99), (s2 100), (s2 101), (s2 102), (s2 103), (s2 104), (s2 105), (s2 106), (s2 107), (s2 108), (s2 109), (s2 110), (s2 111), (s2 112), (s2 113), (s2 114), (s2 115), (s2 116), (s2 117), (s2 118), undef, undef, undef, undef, undef, undef, undef, undef, undef, undef, undef, undef, undef, undef, undef, undef, undef, undef, undef, undef, undef, undef, undef, undef, undef, undef, undef, undef, undef, undef, undef, undef, undef, undef, undef, undef, undef, undef, undef, undef, undef, undef, undef, undef, undef, undef, undef, undef, undef, undef, undef, undef, undef, undef, undef, undef, undef, undef, undef, undef, undef, undef, undef, undef, undef, undef, undef, undef, undef, undef, undef, undef, undef, undef, undef, undef, undef, undef, undef, undef, undef, undef, undef, undef, undef, undef, undef, undef, undef, undef, undef, undef, undef, undef, undef, undef, undef, undef, undef, undef, undef, undef, undef, undef, undef, undef, undef, undef, undef, undef, undef, undef, undef, undef, undef, undef, undef, undef, undef, undef, undef, undef, undef, undef, undef, undef, undef, undef].toArray, []⟩) ∧ SL .i64 w_ (.slice pa0 x0.length pc0) x0 ∧ SL .i64 w_ (.slice pa1 x1.length pc1) x1 ∧ SL .u8 w_ (.slice ab bs.length cb) bs ∧ Bl w.heap.size w w_ ∧ Cel w_ w.heap.size 45 (certL k0 r0 h0 ++ certL k1 r1 h1) ∧ Cel w_ w1.heap.size 46 [.int .i64 q0, .slice pa0 x0.length pc0, .int .i64 q1, .slice pa1 x1.length pc1] ∧ SL .u8 w_ (.slice ax0 (okv (rightC k0 h0) (certB k0 r0 h0)).length cx0) (okv (rightC k0 h0) (certB k0 r0 h0)) ∧ SL .u8 w_ (.slice ax1 (okv (rightC k1 h1) (certB k1 r1 h1)).length cx1) (okv (rightC k1 h1) (certB k1 r1 h1)) ∧ SL .u8 w_ (.slice ay0 (okv (rightL q0 x0) (listB q0 x0)).length cy0) (okv (rightL q0 x0) (listB q0 x0)) ∧ SL .u8 w_ (.slice ay1 (okv (rightL q1 x1) (listB q1 x1)).length cy1) (okv (rightL q1 x1) (listB q1 x1)) ∧ w9.heap.size ≤ w_.heap.size)) ?_ ?_
    · skip
      refine wp_seq_k fun K10 hK10 => ?_
      have e8 := drew_e0 w9
      refine rgT (fun w_ => SL .i64 w_ (.slice pa0 x0.length pc0) x0 ∧ SL .i64 w_ (.slice pa1 x1.length pc1) x1 ∧ SL .u8 w_ (.slice ab bs.length cb) bs ∧ Bl w.heap.size w w_ ∧ Cel w_ w.heap.size 45 (certL k0 r0 h0 ++ certL k1 r1 h1) ∧ Cel w_ w1.heap.size 46 [.int .i64 q0, .slice pa0 x0.length pc0, .int .i64 q1, .slice pa1 x1.length pc1] ∧ SL .u8 w_ (.slice ax0 (okv (rightC k0 h0) (certB k0 r0 h0)).length cx0) (okv (rightC k0 h0) (certB k0 r0 h0)) ∧ SL .u8 w_ (.slice ax1 (okv (rightC k1 h1) (certB k1 r1 h1)).length cx1) (okv (rightC k1 h1) (certB k1 r1 h1)) ∧ SL .u8 w_ (.slice ay0 (okv (rightL q0 x0) (listB q0 x0)).length cy0) (okv (rightL q0 x0) (listB q0 x0)) ∧ SL .u8 w_ (.slice ay1 (okv (rightL q1 x1) (listB q1 x1)).length cy1) (okv (rightL q1 x1) (listB q1 x1)) ∧ w9.heap.size ≤ w_.heap.size) (fun w_ => SL .i64 w_ (.slice pa0 x0.length pc0) x0 ∧ SL .i64 w_ (.slice pa1 x1.length pc1) x1 ∧ SL .u8 w_ (.slice ab bs.length cb) bs ∧ Bl w.heap.size w w_ ∧ Cel w_ w.heap.size 45 (certL k0 r0 h0 ++ certL k1 r1 h1) ∧ Cel w_ w1.heap.size 46 [.int .i64 q0, .slice pa0 x0.length pc0, .int .i64 q1, .slice pa1 x1.length pc1] ∧ SL .u8 w_ (.slice ax0 (okv (rightC k0 h0) (certB k0 r0 h0)).length cx0) (okv (rightC k0 h0) (certB k0 r0 h0)) ∧ SL .u8 w_ (.slice ax1 (okv (rightC k1 h1) (certB k1 r1 h1)).length cx1) (okv (rightC k1 h1) (certB k1 r1 h1)) ∧ SL .u8 w_ (.slice ay0 (okv (rightL q0 x0) (listB q0 x0)).length cy0) (okv (rightL q0 x0) (listB q0 x0)) ∧ SL .u8 w_ (.slice ay1 (okv (rightL q1 x1) (listB q1 x1)).length cy1) (okv (rightL q1 x1) (listB q1 x1)) ∧ w9.heap.size ≤ w_.heap.size) 40 (fun _ ⟨U0, U1, B, BL, b4, b5, X0, X1, Y0, Y1, z1⟩ => ⟨U0, U1, B, BL, b4, b5, X0, X1, Y0, Y1, z1⟩) ⟨U0.e0 e8, U1.e0 e8, B.e0 e8, BL.e0 e8, b4.e0 e8, b5.e0 e8, X0.e0 e8, X1.e0 e8, Y0.e0 e8, Y1.e0 e8, Nat.le_refl _⟩ ?_
      clear U0 U1 B BL b4 b5 X0 X1 Y0 Y1
      clear e8
      intro w10
      rintro ⟨U0, U1, B, BL, b4, b5, X0, X1, Y0, Y1, z1⟩
      refine tv 0 79 (.int .i64 (ecF (rightC k0 h0))) (fun _ _ => .of) ⟨U0, U1, B, BL, b4, b5, X0, X1, Y0, Y1, by omega⟩ ?_
      simp only [List.set_cons_zero, List.set_cons_succ]
      refine tv 1 80 (.bool (decide (rightC k0 h0 = true))) (fun _ ⟨U0, U1, B, BL, b4, b5, X0, X1, Y0, Y1, z1⟩ => Val.cmp .eql 48 _ (.tmp 79) _ rfl .i64 (ecF (rightC k0 h0)) 0 (by kernel_rfl) (by kernel_rfl) (by simp) _ (ec_eq _)) ⟨U0, U1, B, BL, b4, b5, X0, X1, Y0, Y1, by omega⟩ ?_
      simp only [List.set_cons_zero, List.set_cons_succ]
      refine tv 2 81 (.bool (decide (rightC k0 h0 = true))) (fun _ _ => .of) ⟨U0, U1, B, BL, b4, b5, X0, X1, Y0, Y1, by omega⟩ ?_
      simp only [List.set_cons_zero, List.set_cons_succ]
      by_cases g82 : rightC k0 h0 = true
      · skip
        have dg82 : decide (rightC k0 h0 = true) = true := decide_eq_true g82
        simp only [dg82]
        clear dg82
        refine tv 3 82 (.int .i64 (ecF (rightC k1 h1))) (fun _ _ => .of) ⟨U0, U1, B, BL, b4, b5, X0, X1, Y0, Y1, by omega⟩ ?_
        simp only [List.set_cons_zero, List.set_cons_succ]
        refine tv 4 83 (.bool (decide (rightC k1 h1 = true))) (fun _ ⟨U0, U1, B, BL, b4, b5, X0, X1, Y0, Y1, z1⟩ => Val.cmp .eql 48 _ (.tmp 82) _ rfl .i64 (ecF (rightC k1 h1)) 0 (by kernel_rfl) (by kernel_rfl) (by simp) _ (ec_eq _)) ⟨U0, U1, B, BL, b4, b5, X0, X1, Y0, Y1, by omega⟩ ?_
        simp only [List.set_cons_zero, List.set_cons_succ]
        refine tv 5 84 (.bool (decide (rightC k1 h1 = true))) (fun _ _ => .of) ⟨U0, U1, B, BL, b4, b5, X0, X1, Y0, Y1, by omega⟩ ?_
        simp only [List.set_cons_zero, List.set_cons_succ]
        refine tv 6 85 (.bool (decide (rightC k1 h1 = true))) (fun _ _ => .of) ⟨U0, U1, B, BL, b4, b5, X0, X1, Y0, Y1, by omega⟩ ?_
        simp only [List.set_cons_zero, List.set_cons_succ]
        by_cases g86 : rightC k1 h1 = true
        · skip
          have dg86 : decide (rightC k1 h1 = true) = true := decide_eq_true g86
          simp only [dg86]
          clear dg86
          refine tv 7 86 (.slice ax0 (okv (rightC k0 h0) (certB k0 r0 h0)).length cx0) (fun _ _ => .of) ⟨U0, U1, B, BL, b4, b5, X0, X1, Y0, Y1, by omega⟩ ?_
          simp only [List.set_cons_zero, List.set_cons_succ]
          refine tv 8 87 (.string (strOf (okv (rightC k0 h0) (certB k0 r0 h0)))) (fun _ ⟨U0, U1, B, BL, b4, b5, X0, X1, Y0, Y1, z1⟩ => Val.str 28 9 5 _ rfl Try.underlying28 Try.underlying5 Try.underlying9 (.slice ax0 (okv (rightC k0 h0) (certB k0 r0 h0)).length cx0) (okv (rightC k0 h0) (certB k0 r0 h0)) (by kernel_rfl) X0) ⟨U0, U1, B, BL, b4, b5, X0, X1, Y0, Y1, by omega⟩ ?_
          simp only [List.set_cons_zero, List.set_cons_succ]
          refine tv 9 88 (.slice ax1 (okv (rightC k1 h1) (certB k1 r1 h1)).length cx1) (fun _ _ => .of) ⟨U0, U1, B, BL, b4, b5, X0, X1, Y0, Y1, by omega⟩ ?_
          simp only [List.set_cons_zero, List.set_cons_succ]
          refine tv 10 89 (.string (strOf (okv (rightC k1 h1) (certB k1 r1 h1)))) (fun _ ⟨U0, U1, B, BL, b4, b5, X0, X1, Y0, Y1, z1⟩ => Val.str 28 9 5 _ rfl Try.underlying28 Try.underlying5 Try.underlying9 (.slice ax1 (okv (rightC k1 h1) (certB k1 r1 h1)).length cx1) (okv (rightC k1 h1) (certB k1 r1 h1)) (by kernel_rfl) X1) ⟨U0, U1, B, BL, b4, b5, X0, X1, Y0, Y1, by omega⟩ ?_
          simp only [List.set_cons_zero, List.set_cons_succ]
          refine tv 11 90 (.bool (decide ((okv (rightC k0 h0) (certB k0 r0 h0)) = (okv (rightC k1 h1) (certB k1 r1 h1))))) (fun _ ⟨U0, U1, B, BL, b4, b5, X0, X1, Y0, Y1, z1⟩ => Val.eqStr .eql 9 _ (.tmp 87) (.tmp 89) rfl (okv (rightC k0 h0) (certB k0 r0 h0)) (okv (rightC k1 h1) (certB k1 r1 h1)) (by kernel_rfl) (by kernel_rfl) (bytes_cert C0.b) (bytes_cert C1.b) (.inl rfl) _ rfl) ⟨U0, U1, B, BL, b4, b5, X0, X1, Y0, Y1, by omega⟩ ?_
          simp only [List.set_cons_zero, List.set_cons_succ]
          refine tv 12 91 (.pointer (some ⟨w.heap.size, 0, none⟩)) (fun _ _ => .of) ⟨U0, U1, B, BL, b4, b5, X0, X1, Y0, Y1, by omega⟩ ?_
          simp only [List.set_cons_zero, List.set_cons_succ]
          refine tv 13 92 (.agg (certL k0 r0 h0).toArray) (fun _ ⟨U0, U1, B, BL, b4, b5, X0, X1, Y0, Y1, z1⟩ => Val.cel 44 _ rfl 0 34 (by kernel_rfl) b4 _ Try.underlying44 rfl (by kernel_rfl) (by rw [List.length_append, certL_len _ _ _ C0.l, certL_len _ _ _ C1.l]; omega) _ (seg0 _ _ _ _ C0.l)) ⟨U0, U1, B, BL, b4, b5, X0, X1, Y0, Y1, by omega⟩ ?_
          simp only [List.set_cons_zero, List.set_cons_succ]
          refine tv 14 93 (.pointer (some ⟨w.heap.size, 34, none⟩)) (fun _ _ => .of) ⟨U0, U1, B, BL, b4, b5, X0, X1, Y0, Y1, by omega⟩ ?_
          simp only [List.set_cons_zero, List.set_cons_succ]
          refine tv 15 94 (.agg (certL k1 r1 h1).toArray) (fun _ ⟨U0, U1, B, BL, b4, b5, X0, X1, Y0, Y1, z1⟩ => Val.cel 44 _ rfl 34 34 (by kernel_rfl) b4 _ Try.underlying44 rfl (by kernel_rfl) (by rw [List.length_append, certL_len _ _ _ C0.l, certL_len _ _ _ C1.l]; omega) _ (seg1 _ _ _ _ _ _ C0.l C1.l)) ⟨U0, U1, B, BL, b4, b5, X0, X1, Y0, Y1, by omega⟩ ?_
          simp only [List.set_cons_zero, List.set_cons_succ]
          refine tv 16 95 (.bool (decide ([k0] ++ (r0 ++ ([h0] ++ [])) = [k1] ++ (r1 ++ ([h1] ++ []))))) (fun _ ⟨U0, U1, B, BL, b4, b5, X0, X1, Y0, Y1, z1⟩ => Val.eqK .eql 44 _ (.tmp 92) (.tmp 94) rfl kt_cert 5 (by kernel_rfl) (by decide) Try.underlying44 rfl (by kernel_rfl) (by kernel_rfl) ([k0] ++ (r0 ++ ([h0] ++ []))) ([k1] ++ (r1 ++ ([h1] ++ []))) (by rw [← certL_zip _ _ _ C0.l]; kernel_rfl) (by rw [← certL_zip _ _ _ C1.l]; kernel_rfl) (certN_len _ _ _ C0.l) (certN_len _ _ _ C1.l) (certN_wf _ _ _ C0.l C0.wb C0.wk C0.wh) (certN_wf _ _ _ C1.l C1.wb C1.wk C1.wh) (.inl rfl) _ rfl) ⟨U0, U1, B, BL, b4, b5, X0, X1, Y0, Y1, by omega⟩ ?_
          simp only [List.set_cons_zero, List.set_cons_succ]
          refine tv 17 96 (.bool false) (fun _ ⟨U0, U1, B, BL, b4, b5, X0, X1, Y0, Y1, z1⟩ => Val.bools .neq 4 _ (.tmp 90) (.tmp 95) rfl Try.underlying4 (decide ((okv (rightC k0 h0) (certB k0 r0 h0)) = (okv (rightC k1 h1) (certB k1 r1 h1)))) (decide ([k0] ++ (r0 ++ ([h0] ++ [])) = [k1] ++ (r1 ++ ([h1] ++ [])))) (by kernel_rfl) (by kernel_rfl) (.inr rfl) _ (by rw [cert_same C0 C1 g82 g86]; simp)) ⟨U0, U1, B, BL, b4, b5, X0, X1, Y0, Y1, by omega⟩ ?_
          simp only [List.set_cons_zero, List.set_cons_succ]
          refine tv 18 97 (.bool false) (fun _ _ => .of) ⟨U0, U1, B, BL, b4, b5, X0, X1, Y0, Y1, by omega⟩ ?_
          simp only [List.set_cons_zero, List.set_cons_succ]
          refine tv 19 98 (.bool false) (fun _ _ => .of) ⟨U0, U1, B, BL, b4, b5, X0, X1, Y0, Y1, by omega⟩ ?_
          simp only [List.set_cons_zero, List.set_cons_succ]
          refine tv 20 99 (.int .i64 (ecF (rightL q0 x0))) (fun _ _ => .of) ⟨U0, U1, B, BL, b4, b5, X0, X1, Y0, Y1, by omega⟩ ?_
          simp only [List.set_cons_zero, List.set_cons_succ]
          refine tv 21 100 (.bool (decide (rightL q0 x0 = true))) (fun _ ⟨U0, U1, B, BL, b4, b5, X0, X1, Y0, Y1, z1⟩ => Val.cmp .eql 48 _ (.tmp 99) _ rfl .i64 (ecF (rightL q0 x0)) 0 (by kernel_rfl) (by kernel_rfl) (by simp) _ (ec_eq _)) ⟨U0, U1, B, BL, b4, b5, X0, X1, Y0, Y1, by omega⟩ ?_
          simp only [List.set_cons_zero, List.set_cons_succ]
          refine tv 22 101 (.bool (decide (rightL q0 x0 = true))) (fun _ _ => .of) ⟨U0, U1, B, BL, b4, b5, X0, X1, Y0, Y1, by omega⟩ ?_
          simp only [List.set_cons_zero, List.set_cons_succ]
          by_cases g102 : rightL q0 x0 = true
          · skip
            have dg102 : decide (rightL q0 x0 = true) = true := decide_eq_true g102
            simp only [dg102]
            clear dg102
            refine tv 23 102 (.int .i64 (ecF (rightL q1 x1))) (fun _ _ => .of) ⟨U0, U1, B, BL, b4, b5, X0, X1, Y0, Y1, by omega⟩ ?_
            simp only [List.set_cons_zero, List.set_cons_succ]
            refine tv 24 103 (.bool (decide (rightL q1 x1 = true))) (fun _ ⟨U0, U1, B, BL, b4, b5, X0, X1, Y0, Y1, z1⟩ => Val.cmp .eql 48 _ (.tmp 102) _ rfl .i64 (ecF (rightL q1 x1)) 0 (by kernel_rfl) (by kernel_rfl) (by simp) _ (ec_eq _)) ⟨U0, U1, B, BL, b4, b5, X0, X1, Y0, Y1, by omega⟩ ?_
            simp only [List.set_cons_zero, List.set_cons_succ]
            refine tv 25 104 (.bool (decide (rightL q1 x1 = true))) (fun _ _ => .of) ⟨U0, U1, B, BL, b4, b5, X0, X1, Y0, Y1, by omega⟩ ?_
            simp only [List.set_cons_zero, List.set_cons_succ]
            refine tv 26 105 (.bool (decide (rightL q1 x1 = true))) (fun _ _ => .of) ⟨U0, U1, B, BL, b4, b5, X0, X1, Y0, Y1, by omega⟩ ?_
            simp only [List.set_cons_zero, List.set_cons_succ]
            by_cases g106 : rightL q1 x1 = true
            · skip
              have dg106 : decide (rightL q1 x1 = true) = true := decide_eq_true g106
              simp only [dg106]
              clear dg106
              refine tv 27 106 (.slice ay0 (okv (rightL q0 x0) (listB q0 x0)).length cy0) (fun _ _ => .of) ⟨U0, U1, B, BL, b4, b5, X0, X1, Y0, Y1, by omega⟩ ?_
              simp only [List.set_cons_zero, List.set_cons_succ]
              refine tv 28 107 (.string (strOf (okv (rightL q0 x0) (listB q0 x0)))) (fun _ ⟨U0, U1, B, BL, b4, b5, X0, X1, Y0, Y1, z1⟩ => Val.str 28 9 5 _ rfl Try.underlying28 Try.underlying5 Try.underlying9 (.slice ay0 (okv (rightL q0 x0) (listB q0 x0)).length cy0) (okv (rightL q0 x0) (listB q0 x0)) (by kernel_rfl) Y0) ⟨U0, U1, B, BL, b4, b5, X0, X1, Y0, Y1, by omega⟩ ?_
              simp only [List.set_cons_zero, List.set_cons_succ]
              refine tv 29 108 (.slice ay1 (okv (rightL q1 x1) (listB q1 x1)).length cy1) (fun _ _ => .of) ⟨U0, U1, B, BL, b4, b5, X0, X1, Y0, Y1, by omega⟩ ?_
              simp only [List.set_cons_zero, List.set_cons_succ]
              refine tv 30 109 (.string (strOf (okv (rightL q1 x1) (listB q1 x1)))) (fun _ ⟨U0, U1, B, BL, b4, b5, X0, X1, Y0, Y1, z1⟩ => Val.str 28 9 5 _ rfl Try.underlying28 Try.underlying5 Try.underlying9 (.slice ay1 (okv (rightL q1 x1) (listB q1 x1)).length cy1) (okv (rightL q1 x1) (listB q1 x1)) (by kernel_rfl) Y1) ⟨U0, U1, B, BL, b4, b5, X0, X1, Y0, Y1, by omega⟩ ?_
              simp only [List.set_cons_zero, List.set_cons_succ]
              refine tv 31 110 (.bool (decide ((okv (rightL q0 x0) (listB q0 x0)) = (okv (rightL q1 x1) (listB q1 x1))))) (fun _ ⟨U0, U1, B, BL, b4, b5, X0, X1, Y0, Y1, z1⟩ => Val.eqStr .eql 9 _ (.tmp 107) (.tmp 109) rfl (okv (rightL q0 x0) (listB q0 x0)) (okv (rightL q1 x1) (listB q1 x1)) (by kernel_rfl) (by kernel_rfl) bytes_list bytes_list (.inl rfl) _ rfl) ⟨U0, U1, B, BL, b4, b5, X0, X1, Y0, Y1, by omega⟩ ?_
              simp only [List.set_cons_zero, List.set_cons_succ]
              refine tv 32 111 (.pointer (some ⟨w1.heap.size, 0, none⟩)) (fun _ _ => .of) ⟨U0, U1, B, BL, b4, b5, X0, X1, Y0, Y1, by omega⟩ ?_
              simp only [List.set_cons_zero, List.set_cons_succ]
              refine tv 33 112 (.agg #[.int .i64 q0, .slice pa0 x0.length pc0]) (fun _ ⟨U0, U1, B, BL, b4, b5, X0, X1, Y0, Y1, z1⟩ => Val.cel 38 _ rfl 0 2 (by kernel_rfl) b5 _ Try.underlying38 rfl (by kernel_rfl) (by simp) [.int .i64 q0, .slice pa0 x0.length pc0] rfl) ⟨U0, U1, B, BL, b4, b5, X0, X1, Y0, Y1, by omega⟩ ?_
              simp only [List.set_cons_zero, List.set_cons_succ]
              refine tv 34 113 (.pointer (some ⟨w1.heap.size, 2, none⟩)) (fun _ _ => .of) ⟨U0, U1, B, BL, b4, b5, X0, X1, Y0, Y1, by omega⟩ ?_
              simp only [List.set_cons_zero, List.set_cons_succ]
              refine tv 35 114 (.agg #[.int .i64 q1, .slice pa1 x1.length pc1]) (fun _ ⟨U0, U1, B, BL, b4, b5, X0, X1, Y0, Y1, z1⟩ => Val.cel 38 _ rfl 2 2 (by kernel_rfl) b5 _ Try.underlying38 rfl (by kernel_rfl) (by simp) [.int .i64 q1, .slice pa1 x1.length pc1] rfl) ⟨U0, U1, B, BL, b4, b5, X0, X1, Y0, Y1, by omega⟩ ?_
              simp only [List.set_cons_zero, List.set_cons_succ]
              refine a1 36 rfl ?_
              refine xCall 115 25 #[.agg #[.int .i64 q0, .slice pa0 x0.length pc0], .agg #[.int .i64 q1, .slice pa1 x1.length pc1]] (by kernel_rfl) ?_
              refine (samelist_any q0 q1 _ _ x0 x1 w10 U0 U1).mono ?_
              rintro en w11 ⟨rfl, hb1⟩
              have e9 := belE0 hb1
              have ze9 := e9.size
              replace U0 := U0.e0 e9
              replace U1 := U1.e0 e9
              replace B := B.e0 e9
              replace BL := BL.e0 e9
              replace b4 := b4.e0 e9
              replace b5 := b5.e0 e9
              replace X0 := X0.e0 e9
              replace X1 := X1.e0 e9
              replace Y0 := Y0.e0 e9
              replace Y1 := Y1.e0 e9
              clear e9
              refine ⟨.bool (decide (q0 = q1 ∧ x0 = x1)), rfl, ?_⟩
              refine e0 36 ⟨U0, U1, B, BL, b4, b5, X0, X1, Y0, Y1, by omega⟩ ?_
              simp only [List.set_cons_zero, List.set_cons_succ]
              refine tv 37 116 (.bool false) (fun _ ⟨U0, U1, B, BL, b4, b5, X0, X1, Y0, Y1, z1⟩ => Val.bools .neq 4 _ (.tmp 110) (.tmp 115) rfl Try.underlying4 (decide ((okv (rightL q0 x0) (listB q0 x0)) = (okv (rightL q1 x1) (listB q1 x1)))) (decide (q0 = q1 ∧ x0 = x1)) (by kernel_rfl) (by kernel_rfl) (.inr rfl) _ (by rw [list_same g102 g106]; simp)) ⟨U0, U1, B, BL, b4, b5, X0, X1, Y0, Y1, by omega⟩ ?_
              simp only [List.set_cons_zero, List.set_cons_succ]
              refine tv 38 117 (.bool false) (fun _ _ => .of) ⟨U0, U1, B, BL, b4, b5, X0, X1, Y0, Y1, by omega⟩ ?_
              simp only [List.set_cons_zero, List.set_cons_succ]
              refine tv 39 118 (.bool false) (fun _ _ => .of) ⟨U0, U1, B, BL, b4, b5, X0, X1, Y0, Y1, by omega⟩ ?_
              simp only [List.set_cons_zero, List.set_cons_succ]
              refine wpAnyH_done (by kernel_rfl) ?_ _
              refine hK10 _ _ ?_
              refine cF ?_
              refine wp_skip ?_
              exact ⟨cutE, U0, U1, B, BL, b4, b5, X0, X1, Y0, Y1, by omega⟩
            · skip
              have dg106 : decide (rightL q1 x1 = true) = false := decide_eq_false g106
              simp only [dg106]
              clear dg106
              refine ts 27 106 ⟨U0, U1, B, BL, b4, b5, X0, X1, Y0, Y1, by omega⟩ ?_
              simp only [List.set_cons_zero, List.set_cons_succ]
              refine ts 28 107 ⟨U0, U1, B, BL, b4, b5, X0, X1, Y0, Y1, by omega⟩ ?_
              simp only [List.set_cons_zero, List.set_cons_succ]
              refine ts 29 108 ⟨U0, U1, B, BL, b4, b5, X0, X1, Y0, Y1, by omega⟩ ?_
              simp only [List.set_cons_zero, List.set_cons_succ]
              refine ts 30 109 ⟨U0, U1, B, BL, b4, b5, X0, X1, Y0, Y1, by omega⟩ ?_
              simp only [List.set_cons_zero, List.set_cons_succ]
              refine ts 31 110 ⟨U0, U1, B, BL, b4, b5, X0, X1, Y0, Y1, by omega⟩ ?_
              simp only [List.set_cons_zero, List.set_cons_succ]
              refine ts 32 111 ⟨U0, U1, B, BL, b4, b5, X0, X1, Y0, Y1, by omega⟩ ?_
              simp only [List.set_cons_zero, List.set_cons_succ]
              refine ts 33 112 ⟨U0, U1, B, BL, b4, b5, X0, X1, Y0, Y1, by omega⟩ ?_
              simp only [List.set_cons_zero, List.set_cons_succ]
              refine ts 34 113 ⟨U0, U1, B, BL, b4, b5, X0, X1, Y0, Y1, by omega⟩ ?_
              simp only [List.set_cons_zero, List.set_cons_succ]
              refine ts 35 114 ⟨U0, U1, B, BL, b4, b5, X0, X1, Y0, Y1, by omega⟩ ?_
              simp only [List.set_cons_zero, List.set_cons_succ]
              refine ts 36 115 ⟨U0, U1, B, BL, b4, b5, X0, X1, Y0, Y1, by omega⟩ ?_
              simp only [List.set_cons_zero, List.set_cons_succ]
              refine ts 37 116 ⟨U0, U1, B, BL, b4, b5, X0, X1, Y0, Y1, by omega⟩ ?_
              simp only [List.set_cons_zero, List.set_cons_succ]
              refine tv 38 117 (.bool false) (fun _ _ => .of) ⟨U0, U1, B, BL, b4, b5, X0, X1, Y0, Y1, by omega⟩ ?_
              simp only [List.set_cons_zero, List.set_cons_succ]
              refine tv 39 118 (.bool false) (fun _ _ => .of) ⟨U0, U1, B, BL, b4, b5, X0, X1, Y0, Y1, by omega⟩ ?_
              simp only [List.set_cons_zero, List.set_cons_succ]
              refine wpAnyH_done (by kernel_rfl) ?_ _
              refine hK10 _ _ ?_
              refine cF ?_
              refine wp_skip ?_
              exact ⟨cutE, U0, U1, B, BL, b4, b5, X0, X1, Y0, Y1, by omega⟩
          · skip
            have dg102 : decide (rightL q0 x0 = true) = false := decide_eq_false g102
            simp only [dg102]
            clear dg102
            refine ts 23 102 ⟨U0, U1, B, BL, b4, b5, X0, X1, Y0, Y1, by omega⟩ ?_
            simp only [List.set_cons_zero, List.set_cons_succ]
            refine ts 24 103 ⟨U0, U1, B, BL, b4, b5, X0, X1, Y0, Y1, by omega⟩ ?_
            simp only [List.set_cons_zero, List.set_cons_succ]
            refine tv 25 104 (.bool false) (fun _ _ => .of) ⟨U0, U1, B, BL, b4, b5, X0, X1, Y0, Y1, by omega⟩ ?_
            simp only [List.set_cons_zero, List.set_cons_succ]
            refine tv 26 105 (.bool false) (fun _ _ => .of) ⟨U0, U1, B, BL, b4, b5, X0, X1, Y0, Y1, by omega⟩ ?_
            simp only [List.set_cons_zero, List.set_cons_succ]
            refine ts 27 106 ⟨U0, U1, B, BL, b4, b5, X0, X1, Y0, Y1, by omega⟩ ?_
            simp only [List.set_cons_zero, List.set_cons_succ]
            refine ts 28 107 ⟨U0, U1, B, BL, b4, b5, X0, X1, Y0, Y1, by omega⟩ ?_
            simp only [List.set_cons_zero, List.set_cons_succ]
            refine ts 29 108 ⟨U0, U1, B, BL, b4, b5, X0, X1, Y0, Y1, by omega⟩ ?_
            simp only [List.set_cons_zero, List.set_cons_succ]
            refine ts 30 109 ⟨U0, U1, B, BL, b4, b5, X0, X1, Y0, Y1, by omega⟩ ?_
            simp only [List.set_cons_zero, List.set_cons_succ]
            refine ts 31 110 ⟨U0, U1, B, BL, b4, b5, X0, X1, Y0, Y1, by omega⟩ ?_
            simp only [List.set_cons_zero, List.set_cons_succ]
            refine ts 32 111 ⟨U0, U1, B, BL, b4, b5, X0, X1, Y0, Y1, by omega⟩ ?_
            simp only [List.set_cons_zero, List.set_cons_succ]
            refine ts 33 112 ⟨U0, U1, B, BL, b4, b5, X0, X1, Y0, Y1, by omega⟩ ?_
            simp only [List.set_cons_zero, List.set_cons_succ]
            refine ts 34 113 ⟨U0, U1, B, BL, b4, b5, X0, X1, Y0, Y1, by omega⟩ ?_
            simp only [List.set_cons_zero, List.set_cons_succ]
            refine ts 35 114 ⟨U0, U1, B, BL, b4, b5, X0, X1, Y0, Y1, by omega⟩ ?_
            simp only [List.set_cons_zero, List.set_cons_succ]
            refine ts 36 115 ⟨U0, U1, B, BL, b4, b5, X0, X1, Y0, Y1, by omega⟩ ?_
            simp only [List.set_cons_zero, List.set_cons_succ]
            refine ts 37 116 ⟨U0, U1, B, BL, b4, b5, X0, X1, Y0, Y1, by omega⟩ ?_
            simp only [List.set_cons_zero, List.set_cons_succ]
            refine tv 38 117 (.bool false) (fun _ _ => .of) ⟨U0, U1, B, BL, b4, b5, X0, X1, Y0, Y1, by omega⟩ ?_
            simp only [List.set_cons_zero, List.set_cons_succ]
            refine tv 39 118 (.bool false) (fun _ _ => .of) ⟨U0, U1, B, BL, b4, b5, X0, X1, Y0, Y1, by omega⟩ ?_
            simp only [List.set_cons_zero, List.set_cons_succ]
            refine wpAnyH_done (by kernel_rfl) ?_ _
            refine hK10 _ _ ?_
            refine cF ?_
            refine wp_skip ?_
            exact ⟨cutE, U0, U1, B, BL, b4, b5, X0, X1, Y0, Y1, by omega⟩
        · skip
          have dg86 : decide (rightC k1 h1 = true) = false := decide_eq_false g86
          simp only [dg86]
          clear dg86
          refine ts 7 86 ⟨U0, U1, B, BL, b4, b5, X0, X1, Y0, Y1, by omega⟩ ?_
          simp only [List.set_cons_zero, List.set_cons_succ]
          refine ts 8 87 ⟨U0, U1, B, BL, b4, b5, X0, X1, Y0, Y1, by omega⟩ ?_
          simp only [List.set_cons_zero, List.set_cons_succ]
          refine ts 9 88 ⟨U0, U1, B, BL, b4, b5, X0, X1, Y0, Y1, by omega⟩ ?_
          simp only [List.set_cons_zero, List.set_cons_succ]
          refine ts 10 89 ⟨U0, U1, B, BL, b4, b5, X0, X1, Y0, Y1, by omega⟩ ?_
          simp only [List.set_cons_zero, List.set_cons_succ]
          refine ts 11 90 ⟨U0, U1, B, BL, b4, b5, X0, X1, Y0, Y1, by omega⟩ ?_
          simp only [List.set_cons_zero, List.set_cons_succ]
          refine ts 12 91 ⟨U0, U1, B, BL, b4, b5, X0, X1, Y0, Y1, by omega⟩ ?_
          simp only [List.set_cons_zero, List.set_cons_succ]
          refine ts 13 92 ⟨U0, U1, B, BL, b4, b5, X0, X1, Y0, Y1, by omega⟩ ?_
          simp only [List.set_cons_zero, List.set_cons_succ]
          refine ts 14 93 ⟨U0, U1, B, BL, b4, b5, X0, X1, Y0, Y1, by omega⟩ ?_
          simp only [List.set_cons_zero, List.set_cons_succ]
          refine ts 15 94 ⟨U0, U1, B, BL, b4, b5, X0, X1, Y0, Y1, by omega⟩ ?_
          simp only [List.set_cons_zero, List.set_cons_succ]
          refine ts 16 95 ⟨U0, U1, B, BL, b4, b5, X0, X1, Y0, Y1, by omega⟩ ?_
          simp only [List.set_cons_zero, List.set_cons_succ]
          refine ts 17 96 ⟨U0, U1, B, BL, b4, b5, X0, X1, Y0, Y1, by omega⟩ ?_
          simp only [List.set_cons_zero, List.set_cons_succ]
          refine tv 18 97 (.bool false) (fun _ _ => .of) ⟨U0, U1, B, BL, b4, b5, X0, X1, Y0, Y1, by omega⟩ ?_
          simp only [List.set_cons_zero, List.set_cons_succ]
          refine tv 19 98 (.bool false) (fun _ _ => .of) ⟨U0, U1, B, BL, b4, b5, X0, X1, Y0, Y1, by omega⟩ ?_
          simp only [List.set_cons_zero, List.set_cons_succ]
          refine tv 20 99 (.int .i64 (ecF (rightL q0 x0))) (fun _ _ => .of) ⟨U0, U1, B, BL, b4, b5, X0, X1, Y0, Y1, by omega⟩ ?_
          simp only [List.set_cons_zero, List.set_cons_succ]
          refine tv 21 100 (.bool (decide (rightL q0 x0 = true))) (fun _ ⟨U0, U1, B, BL, b4, b5, X0, X1, Y0, Y1, z1⟩ => Val.cmp .eql 48 _ (.tmp 99) _ rfl .i64 (ecF (rightL q0 x0)) 0 (by kernel_rfl) (by kernel_rfl) (by simp) _ (ec_eq _)) ⟨U0, U1, B, BL, b4, b5, X0, X1, Y0, Y1, by omega⟩ ?_
          simp only [List.set_cons_zero, List.set_cons_succ]
          refine tv 22 101 (.bool (decide (rightL q0 x0 = true))) (fun _ _ => .of) ⟨U0, U1, B, BL, b4, b5, X0, X1, Y0, Y1, by omega⟩ ?_
          simp only [List.set_cons_zero, List.set_cons_succ]
          by_cases g102 : rightL q0 x0 = true
          · skip
            have dg102 : decide (rightL q0 x0 = true) = true := decide_eq_true g102
            simp only [dg102]
            clear dg102
            refine tv 23 102 (.int .i64 (ecF (rightL q1 x1))) (fun _ _ => .of) ⟨U0, U1, B, BL, b4, b5, X0, X1, Y0, Y1, by omega⟩ ?_
            simp only [List.set_cons_zero, List.set_cons_succ]
            refine tv 24 103 (.bool (decide (rightL q1 x1 = true))) (fun _ ⟨U0, U1, B, BL, b4, b5, X0, X1, Y0, Y1, z1⟩ => Val.cmp .eql 48 _ (.tmp 102) _ rfl .i64 (ecF (rightL q1 x1)) 0 (by kernel_rfl) (by kernel_rfl) (by simp) _ (ec_eq _)) ⟨U0, U1, B, BL, b4, b5, X0, X1, Y0, Y1, by omega⟩ ?_
            simp only [List.set_cons_zero, List.set_cons_succ]
            refine tv 25 104 (.bool (decide (rightL q1 x1 = true))) (fun _ _ => .of) ⟨U0, U1, B, BL, b4, b5, X0, X1, Y0, Y1, by omega⟩ ?_
            simp only [List.set_cons_zero, List.set_cons_succ]
            refine tv 26 105 (.bool (decide (rightL q1 x1 = true))) (fun _ _ => .of) ⟨U0, U1, B, BL, b4, b5, X0, X1, Y0, Y1, by omega⟩ ?_
            simp only [List.set_cons_zero, List.set_cons_succ]
            by_cases g106 : rightL q1 x1 = true
            · skip
              have dg106 : decide (rightL q1 x1 = true) = true := decide_eq_true g106
              simp only [dg106]
              clear dg106
              refine tv 27 106 (.slice ay0 (okv (rightL q0 x0) (listB q0 x0)).length cy0) (fun _ _ => .of) ⟨U0, U1, B, BL, b4, b5, X0, X1, Y0, Y1, by omega⟩ ?_
              simp only [List.set_cons_zero, List.set_cons_succ]
              refine tv 28 107 (.string (strOf (okv (rightL q0 x0) (listB q0 x0)))) (fun _ ⟨U0, U1, B, BL, b4, b5, X0, X1, Y0, Y1, z1⟩ => Val.str 28 9 5 _ rfl Try.underlying28 Try.underlying5 Try.underlying9 (.slice ay0 (okv (rightL q0 x0) (listB q0 x0)).length cy0) (okv (rightL q0 x0) (listB q0 x0)) (by kernel_rfl) Y0) ⟨U0, U1, B, BL, b4, b5, X0, X1, Y0, Y1, by omega⟩ ?_
              simp only [List.set_cons_zero, List.set_cons_succ]
              refine tv 29 108 (.slice ay1 (okv (rightL q1 x1) (listB q1 x1)).length cy1) (fun _ _ => .of) ⟨U0, U1, B, BL, b4, b5, X0, X1, Y0, Y1, by omega⟩ ?_
              simp only [List.set_cons_zero, List.set_cons_succ]
              refine tv 30 109 (.string (strOf (okv (rightL q1 x1) (listB q1 x1)))) (fun _ ⟨U0, U1, B, BL, b4, b5, X0, X1, Y0, Y1, z1⟩ => Val.str 28 9 5 _ rfl Try.underlying28 Try.underlying5 Try.underlying9 (.slice ay1 (okv (rightL q1 x1) (listB q1 x1)).length cy1) (okv (rightL q1 x1) (listB q1 x1)) (by kernel_rfl) Y1) ⟨U0, U1, B, BL, b4, b5, X0, X1, Y0, Y1, by omega⟩ ?_
              simp only [List.set_cons_zero, List.set_cons_succ]
              refine tv 31 110 (.bool (decide ((okv (rightL q0 x0) (listB q0 x0)) = (okv (rightL q1 x1) (listB q1 x1))))) (fun _ ⟨U0, U1, B, BL, b4, b5, X0, X1, Y0, Y1, z1⟩ => Val.eqStr .eql 9 _ (.tmp 107) (.tmp 109) rfl (okv (rightL q0 x0) (listB q0 x0)) (okv (rightL q1 x1) (listB q1 x1)) (by kernel_rfl) (by kernel_rfl) bytes_list bytes_list (.inl rfl) _ rfl) ⟨U0, U1, B, BL, b4, b5, X0, X1, Y0, Y1, by omega⟩ ?_
              simp only [List.set_cons_zero, List.set_cons_succ]
              refine tv 32 111 (.pointer (some ⟨w1.heap.size, 0, none⟩)) (fun _ _ => .of) ⟨U0, U1, B, BL, b4, b5, X0, X1, Y0, Y1, by omega⟩ ?_
              simp only [List.set_cons_zero, List.set_cons_succ]
              refine tv 33 112 (.agg #[.int .i64 q0, .slice pa0 x0.length pc0]) (fun _ ⟨U0, U1, B, BL, b4, b5, X0, X1, Y0, Y1, z1⟩ => Val.cel 38 _ rfl 0 2 (by kernel_rfl) b5 _ Try.underlying38 rfl (by kernel_rfl) (by simp) [.int .i64 q0, .slice pa0 x0.length pc0] rfl) ⟨U0, U1, B, BL, b4, b5, X0, X1, Y0, Y1, by omega⟩ ?_
              simp only [List.set_cons_zero, List.set_cons_succ]
              refine tv 34 113 (.pointer (some ⟨w1.heap.size, 2, none⟩)) (fun _ _ => .of) ⟨U0, U1, B, BL, b4, b5, X0, X1, Y0, Y1, by omega⟩ ?_
              simp only [List.set_cons_zero, List.set_cons_succ]
              refine tv 35 114 (.agg #[.int .i64 q1, .slice pa1 x1.length pc1]) (fun _ ⟨U0, U1, B, BL, b4, b5, X0, X1, Y0, Y1, z1⟩ => Val.cel 38 _ rfl 2 2 (by kernel_rfl) b5 _ Try.underlying38 rfl (by kernel_rfl) (by simp) [.int .i64 q1, .slice pa1 x1.length pc1] rfl) ⟨U0, U1, B, BL, b4, b5, X0, X1, Y0, Y1, by omega⟩ ?_
              simp only [List.set_cons_zero, List.set_cons_succ]
              refine a1 36 rfl ?_
              refine xCall 115 25 #[.agg #[.int .i64 q0, .slice pa0 x0.length pc0], .agg #[.int .i64 q1, .slice pa1 x1.length pc1]] (by kernel_rfl) ?_
              refine (samelist_any q0 q1 _ _ x0 x1 w10 U0 U1).mono ?_
              rintro en w12 ⟨rfl, hb1⟩
              have e10 := belE0 hb1
              have ze10 := e10.size
              replace U0 := U0.e0 e10
              replace U1 := U1.e0 e10
              replace B := B.e0 e10
              replace BL := BL.e0 e10
              replace b4 := b4.e0 e10
              replace b5 := b5.e0 e10
              replace X0 := X0.e0 e10
              replace X1 := X1.e0 e10
              replace Y0 := Y0.e0 e10
              replace Y1 := Y1.e0 e10
              clear e10
              refine ⟨.bool (decide (q0 = q1 ∧ x0 = x1)), rfl, ?_⟩
              refine e0 36 ⟨U0, U1, B, BL, b4, b5, X0, X1, Y0, Y1, by omega⟩ ?_
              simp only [List.set_cons_zero, List.set_cons_succ]
              refine tv 37 116 (.bool false) (fun _ ⟨U0, U1, B, BL, b4, b5, X0, X1, Y0, Y1, z1⟩ => Val.bools .neq 4 _ (.tmp 110) (.tmp 115) rfl Try.underlying4 (decide ((okv (rightL q0 x0) (listB q0 x0)) = (okv (rightL q1 x1) (listB q1 x1)))) (decide (q0 = q1 ∧ x0 = x1)) (by kernel_rfl) (by kernel_rfl) (.inr rfl) _ (by rw [list_same g102 g106]; simp)) ⟨U0, U1, B, BL, b4, b5, X0, X1, Y0, Y1, by omega⟩ ?_
              simp only [List.set_cons_zero, List.set_cons_succ]
              refine tv 38 117 (.bool false) (fun _ _ => .of) ⟨U0, U1, B, BL, b4, b5, X0, X1, Y0, Y1, by omega⟩ ?_
              simp only [List.set_cons_zero, List.set_cons_succ]
              refine tv 39 118 (.bool false) (fun _ _ => .of) ⟨U0, U1, B, BL, b4, b5, X0, X1, Y0, Y1, by omega⟩ ?_
              simp only [List.set_cons_zero, List.set_cons_succ]
              refine wpAnyH_done (by kernel_rfl) ?_ _
              refine hK10 _ _ ?_
              refine cF ?_
              refine wp_skip ?_
              exact ⟨cutE, U0, U1, B, BL, b4, b5, X0, X1, Y0, Y1, by omega⟩
            · skip
              have dg106 : decide (rightL q1 x1 = true) = false := decide_eq_false g106
              simp only [dg106]
              clear dg106
              refine ts 27 106 ⟨U0, U1, B, BL, b4, b5, X0, X1, Y0, Y1, by omega⟩ ?_
              simp only [List.set_cons_zero, List.set_cons_succ]
              refine ts 28 107 ⟨U0, U1, B, BL, b4, b5, X0, X1, Y0, Y1, by omega⟩ ?_
              simp only [List.set_cons_zero, List.set_cons_succ]
              refine ts 29 108 ⟨U0, U1, B, BL, b4, b5, X0, X1, Y0, Y1, by omega⟩ ?_
              simp only [List.set_cons_zero, List.set_cons_succ]
              refine ts 30 109 ⟨U0, U1, B, BL, b4, b5, X0, X1, Y0, Y1, by omega⟩ ?_
              simp only [List.set_cons_zero, List.set_cons_succ]
              refine ts 31 110 ⟨U0, U1, B, BL, b4, b5, X0, X1, Y0, Y1, by omega⟩ ?_
              simp only [List.set_cons_zero, List.set_cons_succ]
              refine ts 32 111 ⟨U0, U1, B, BL, b4, b5, X0, X1, Y0, Y1, by omega⟩ ?_
              simp only [List.set_cons_zero, List.set_cons_succ]
              refine ts 33 112 ⟨U0, U1, B, BL, b4, b5, X0, X1, Y0, Y1, by omega⟩ ?_
              simp only [List.set_cons_zero, List.set_cons_succ]
              refine ts 34 113 ⟨U0, U1, B, BL, b4, b5, X0, X1, Y0, Y1, by omega⟩ ?_
              simp only [List.set_cons_zero, List.set_cons_succ]
              refine ts 35 114 ⟨U0, U1, B, BL, b4, b5, X0, X1, Y0, Y1, by omega⟩ ?_
              simp only [List.set_cons_zero, List.set_cons_succ]
              refine ts 36 115 ⟨U0, U1, B, BL, b4, b5, X0, X1, Y0, Y1, by omega⟩ ?_
              simp only [List.set_cons_zero, List.set_cons_succ]
              refine ts 37 116 ⟨U0, U1, B, BL, b4, b5, X0, X1, Y0, Y1, by omega⟩ ?_
              simp only [List.set_cons_zero, List.set_cons_succ]
              refine tv 38 117 (.bool false) (fun _ _ => .of) ⟨U0, U1, B, BL, b4, b5, X0, X1, Y0, Y1, by omega⟩ ?_
              simp only [List.set_cons_zero, List.set_cons_succ]
              refine tv 39 118 (.bool false) (fun _ _ => .of) ⟨U0, U1, B, BL, b4, b5, X0, X1, Y0, Y1, by omega⟩ ?_
              simp only [List.set_cons_zero, List.set_cons_succ]
              refine wpAnyH_done (by kernel_rfl) ?_ _
              refine hK10 _ _ ?_
              refine cF ?_
              refine wp_skip ?_
              exact ⟨cutE, U0, U1, B, BL, b4, b5, X0, X1, Y0, Y1, by omega⟩
          · skip
            have dg102 : decide (rightL q0 x0 = true) = false := decide_eq_false g102
            simp only [dg102]
            clear dg102
            refine ts 23 102 ⟨U0, U1, B, BL, b4, b5, X0, X1, Y0, Y1, by omega⟩ ?_
            simp only [List.set_cons_zero, List.set_cons_succ]
            refine ts 24 103 ⟨U0, U1, B, BL, b4, b5, X0, X1, Y0, Y1, by omega⟩ ?_
            simp only [List.set_cons_zero, List.set_cons_succ]
            refine tv 25 104 (.bool false) (fun _ _ => .of) ⟨U0, U1, B, BL, b4, b5, X0, X1, Y0, Y1, by omega⟩ ?_
            simp only [List.set_cons_zero, List.set_cons_succ]
            refine tv 26 105 (.bool false) (fun _ _ => .of) ⟨U0, U1, B, BL, b4, b5, X0, X1, Y0, Y1, by omega⟩ ?_
            simp only [List.set_cons_zero, List.set_cons_succ]
            refine ts 27 106 ⟨U0, U1, B, BL, b4, b5, X0, X1, Y0, Y1, by omega⟩ ?_
            simp only [List.set_cons_zero, List.set_cons_succ]
            refine ts 28 107 ⟨U0, U1, B, BL, b4, b5, X0, X1, Y0, Y1, by omega⟩ ?_
            simp only [List.set_cons_zero, List.set_cons_succ]
            refine ts 29 108 ⟨U0, U1, B, BL, b4, b5, X0, X1, Y0, Y1, by omega⟩ ?_
            simp only [List.set_cons_zero, List.set_cons_succ]
            refine ts 30 109 ⟨U0, U1, B, BL, b4, b5, X0, X1, Y0, Y1, by omega⟩ ?_
            simp only [List.set_cons_zero, List.set_cons_succ]
            refine ts 31 110 ⟨U0, U1, B, BL, b4, b5, X0, X1, Y0, Y1, by omega⟩ ?_
            simp only [List.set_cons_zero, List.set_cons_succ]
            refine ts 32 111 ⟨U0, U1, B, BL, b4, b5, X0, X1, Y0, Y1, by omega⟩ ?_
            simp only [List.set_cons_zero, List.set_cons_succ]
            refine ts 33 112 ⟨U0, U1, B, BL, b4, b5, X0, X1, Y0, Y1, by omega⟩ ?_
            simp only [List.set_cons_zero, List.set_cons_succ]
            refine ts 34 113 ⟨U0, U1, B, BL, b4, b5, X0, X1, Y0, Y1, by omega⟩ ?_
            simp only [List.set_cons_zero, List.set_cons_succ]
            refine ts 35 114 ⟨U0, U1, B, BL, b4, b5, X0, X1, Y0, Y1, by omega⟩ ?_
            simp only [List.set_cons_zero, List.set_cons_succ]
            refine ts 36 115 ⟨U0, U1, B, BL, b4, b5, X0, X1, Y0, Y1, by omega⟩ ?_
            simp only [List.set_cons_zero, List.set_cons_succ]
            refine ts 37 116 ⟨U0, U1, B, BL, b4, b5, X0, X1, Y0, Y1, by omega⟩ ?_
            simp only [List.set_cons_zero, List.set_cons_succ]
            refine tv 38 117 (.bool false) (fun _ _ => .of) ⟨U0, U1, B, BL, b4, b5, X0, X1, Y0, Y1, by omega⟩ ?_
            simp only [List.set_cons_zero, List.set_cons_succ]
            refine tv 39 118 (.bool false) (fun _ _ => .of) ⟨U0, U1, B, BL, b4, b5, X0, X1, Y0, Y1, by omega⟩ ?_
            simp only [List.set_cons_zero, List.set_cons_succ]
            refine wpAnyH_done (by kernel_rfl) ?_ _
            refine hK10 _ _ ?_
            refine cF ?_
            refine wp_skip ?_
            exact ⟨cutE, U0, U1, B, BL, b4, b5, X0, X1, Y0, Y1, by omega⟩
      · skip
        have dg82 : decide (rightC k0 h0 = true) = false := decide_eq_false g82
        simp only [dg82]
        clear dg82
        refine ts 3 82 ⟨U0, U1, B, BL, b4, b5, X0, X1, Y0, Y1, by omega⟩ ?_
        simp only [List.set_cons_zero, List.set_cons_succ]
        refine ts 4 83 ⟨U0, U1, B, BL, b4, b5, X0, X1, Y0, Y1, by omega⟩ ?_
        simp only [List.set_cons_zero, List.set_cons_succ]
        refine tv 5 84 (.bool false) (fun _ _ => .of) ⟨U0, U1, B, BL, b4, b5, X0, X1, Y0, Y1, by omega⟩ ?_
        simp only [List.set_cons_zero, List.set_cons_succ]
        refine tv 6 85 (.bool false) (fun _ _ => .of) ⟨U0, U1, B, BL, b4, b5, X0, X1, Y0, Y1, by omega⟩ ?_
        simp only [List.set_cons_zero, List.set_cons_succ]
        refine ts 7 86 ⟨U0, U1, B, BL, b4, b5, X0, X1, Y0, Y1, by omega⟩ ?_
        simp only [List.set_cons_zero, List.set_cons_succ]
        refine ts 8 87 ⟨U0, U1, B, BL, b4, b5, X0, X1, Y0, Y1, by omega⟩ ?_
        simp only [List.set_cons_zero, List.set_cons_succ]
        refine ts 9 88 ⟨U0, U1, B, BL, b4, b5, X0, X1, Y0, Y1, by omega⟩ ?_
        simp only [List.set_cons_zero, List.set_cons_succ]
        refine ts 10 89 ⟨U0, U1, B, BL, b4, b5, X0, X1, Y0, Y1, by omega⟩ ?_
        simp only [List.set_cons_zero, List.set_cons_succ]
        refine ts 11 90 ⟨U0, U1, B, BL, b4, b5, X0, X1, Y0, Y1, by omega⟩ ?_
        simp only [List.set_cons_zero, List.set_cons_succ]
        refine ts 12 91 ⟨U0, U1, B, BL, b4, b5, X0, X1, Y0, Y1, by omega⟩ ?_
        simp only [List.set_cons_zero, List.set_cons_succ]
        refine ts 13 92 ⟨U0, U1, B, BL, b4, b5, X0, X1, Y0, Y1, by omega⟩ ?_
        simp only [List.set_cons_zero, List.set_cons_succ]
        refine ts 14 93 ⟨U0, U1, B, BL, b4, b5, X0, X1, Y0, Y1, by omega⟩ ?_
        simp only [List.set_cons_zero, List.set_cons_succ]
        refine ts 15 94 ⟨U0, U1, B, BL, b4, b5, X0, X1, Y0, Y1, by omega⟩ ?_
        simp only [List.set_cons_zero, List.set_cons_succ]
        refine ts 16 95 ⟨U0, U1, B, BL, b4, b5, X0, X1, Y0, Y1, by omega⟩ ?_
        simp only [List.set_cons_zero, List.set_cons_succ]
        refine ts 17 96 ⟨U0, U1, B, BL, b4, b5, X0, X1, Y0, Y1, by omega⟩ ?_
        simp only [List.set_cons_zero, List.set_cons_succ]
        refine tv 18 97 (.bool false) (fun _ _ => .of) ⟨U0, U1, B, BL, b4, b5, X0, X1, Y0, Y1, by omega⟩ ?_
        simp only [List.set_cons_zero, List.set_cons_succ]
        refine tv 19 98 (.bool false) (fun _ _ => .of) ⟨U0, U1, B, BL, b4, b5, X0, X1, Y0, Y1, by omega⟩ ?_
        simp only [List.set_cons_zero, List.set_cons_succ]
        refine tv 20 99 (.int .i64 (ecF (rightL q0 x0))) (fun _ _ => .of) ⟨U0, U1, B, BL, b4, b5, X0, X1, Y0, Y1, by omega⟩ ?_
        simp only [List.set_cons_zero, List.set_cons_succ]
        refine tv 21 100 (.bool (decide (rightL q0 x0 = true))) (fun _ ⟨U0, U1, B, BL, b4, b5, X0, X1, Y0, Y1, z1⟩ => Val.cmp .eql 48 _ (.tmp 99) _ rfl .i64 (ecF (rightL q0 x0)) 0 (by kernel_rfl) (by kernel_rfl) (by simp) _ (ec_eq _)) ⟨U0, U1, B, BL, b4, b5, X0, X1, Y0, Y1, by omega⟩ ?_
        simp only [List.set_cons_zero, List.set_cons_succ]
        refine tv 22 101 (.bool (decide (rightL q0 x0 = true))) (fun _ _ => .of) ⟨U0, U1, B, BL, b4, b5, X0, X1, Y0, Y1, by omega⟩ ?_
        simp only [List.set_cons_zero, List.set_cons_succ]
        by_cases g102 : rightL q0 x0 = true
        · skip
          have dg102 : decide (rightL q0 x0 = true) = true := decide_eq_true g102
          simp only [dg102]
          clear dg102
          refine tv 23 102 (.int .i64 (ecF (rightL q1 x1))) (fun _ _ => .of) ⟨U0, U1, B, BL, b4, b5, X0, X1, Y0, Y1, by omega⟩ ?_
          simp only [List.set_cons_zero, List.set_cons_succ]
          refine tv 24 103 (.bool (decide (rightL q1 x1 = true))) (fun _ ⟨U0, U1, B, BL, b4, b5, X0, X1, Y0, Y1, z1⟩ => Val.cmp .eql 48 _ (.tmp 102) _ rfl .i64 (ecF (rightL q1 x1)) 0 (by kernel_rfl) (by kernel_rfl) (by simp) _ (ec_eq _)) ⟨U0, U1, B, BL, b4, b5, X0, X1, Y0, Y1, by omega⟩ ?_
          simp only [List.set_cons_zero, List.set_cons_succ]
          refine tv 25 104 (.bool (decide (rightL q1 x1 = true))) (fun _ _ => .of) ⟨U0, U1, B, BL, b4, b5, X0, X1, Y0, Y1, by omega⟩ ?_
          simp only [List.set_cons_zero, List.set_cons_succ]
          refine tv 26 105 (.bool (decide (rightL q1 x1 = true))) (fun _ _ => .of) ⟨U0, U1, B, BL, b4, b5, X0, X1, Y0, Y1, by omega⟩ ?_
          simp only [List.set_cons_zero, List.set_cons_succ]
          by_cases g106 : rightL q1 x1 = true
          · skip
            have dg106 : decide (rightL q1 x1 = true) = true := decide_eq_true g106
            simp only [dg106]
            clear dg106
            refine tv 27 106 (.slice ay0 (okv (rightL q0 x0) (listB q0 x0)).length cy0) (fun _ _ => .of) ⟨U0, U1, B, BL, b4, b5, X0, X1, Y0, Y1, by omega⟩ ?_
            simp only [List.set_cons_zero, List.set_cons_succ]
            refine tv 28 107 (.string (strOf (okv (rightL q0 x0) (listB q0 x0)))) (fun _ ⟨U0, U1, B, BL, b4, b5, X0, X1, Y0, Y1, z1⟩ => Val.str 28 9 5 _ rfl Try.underlying28 Try.underlying5 Try.underlying9 (.slice ay0 (okv (rightL q0 x0) (listB q0 x0)).length cy0) (okv (rightL q0 x0) (listB q0 x0)) (by kernel_rfl) Y0) ⟨U0, U1, B, BL, b4, b5, X0, X1, Y0, Y1, by omega⟩ ?_
            simp only [List.set_cons_zero, List.set_cons_succ]
            refine tv 29 108 (.slice ay1 (okv (rightL q1 x1) (listB q1 x1)).length cy1) (fun _ _ => .of) ⟨U0, U1, B, BL, b4, b5, X0, X1, Y0, Y1, by omega⟩ ?_
            simp only [List.set_cons_zero, List.set_cons_succ]
            refine tv 30 109 (.string (strOf (okv (rightL q1 x1) (listB q1 x1)))) (fun _ ⟨U0, U1, B, BL, b4, b5, X0, X1, Y0, Y1, z1⟩ => Val.str 28 9 5 _ rfl Try.underlying28 Try.underlying5 Try.underlying9 (.slice ay1 (okv (rightL q1 x1) (listB q1 x1)).length cy1) (okv (rightL q1 x1) (listB q1 x1)) (by kernel_rfl) Y1) ⟨U0, U1, B, BL, b4, b5, X0, X1, Y0, Y1, by omega⟩ ?_
            simp only [List.set_cons_zero, List.set_cons_succ]
            refine tv 31 110 (.bool (decide ((okv (rightL q0 x0) (listB q0 x0)) = (okv (rightL q1 x1) (listB q1 x1))))) (fun _ ⟨U0, U1, B, BL, b4, b5, X0, X1, Y0, Y1, z1⟩ => Val.eqStr .eql 9 _ (.tmp 107) (.tmp 109) rfl (okv (rightL q0 x0) (listB q0 x0)) (okv (rightL q1 x1) (listB q1 x1)) (by kernel_rfl) (by kernel_rfl) bytes_list bytes_list (.inl rfl) _ rfl) ⟨U0, U1, B, BL, b4, b5, X0, X1, Y0, Y1, by omega⟩ ?_
            simp only [List.set_cons_zero, List.set_cons_succ]
            refine tv 32 111 (.pointer (some ⟨w1.heap.size, 0, none⟩)) (fun _ _ => .of) ⟨U0, U1, B, BL, b4, b5, X0, X1, Y0, Y1, by omega⟩ ?_
            simp only [List.set_cons_zero, List.set_cons_succ]
            refine tv 33 112 (.agg #[.int .i64 q0, .slice pa0 x0.length pc0]) (fun _ ⟨U0, U1, B, BL, b4, b5, X0, X1, Y0, Y1, z1⟩ => Val.cel 38 _ rfl 0 2 (by kernel_rfl) b5 _ Try.underlying38 rfl (by kernel_rfl) (by simp) [.int .i64 q0, .slice pa0 x0.length pc0] rfl) ⟨U0, U1, B, BL, b4, b5, X0, X1, Y0, Y1, by omega⟩ ?_
            simp only [List.set_cons_zero, List.set_cons_succ]
            refine tv 34 113 (.pointer (some ⟨w1.heap.size, 2, none⟩)) (fun _ _ => .of) ⟨U0, U1, B, BL, b4, b5, X0, X1, Y0, Y1, by omega⟩ ?_
            simp only [List.set_cons_zero, List.set_cons_succ]
            refine tv 35 114 (.agg #[.int .i64 q1, .slice pa1 x1.length pc1]) (fun _ ⟨U0, U1, B, BL, b4, b5, X0, X1, Y0, Y1, z1⟩ => Val.cel 38 _ rfl 2 2 (by kernel_rfl) b5 _ Try.underlying38 rfl (by kernel_rfl) (by simp) [.int .i64 q1, .slice pa1 x1.length pc1] rfl) ⟨U0, U1, B, BL, b4, b5, X0, X1, Y0, Y1, by omega⟩ ?_
            simp only [List.set_cons_zero, List.set_cons_succ]
            refine a1 36 rfl ?_
            refine xCall 115 25 #[.agg #[.int .i64 q0, .slice pa0 x0.length pc0], .agg #[.int .i64 q1, .slice pa1 x1.length pc1]] (by kernel_rfl) ?_
            refine (samelist_any q0 q1 _ _ x0 x1 w10 U0 U1).mono ?_
            rintro en w13 ⟨rfl, hb1⟩
            have e11 := belE0 hb1
            have ze11 := e11.size
            replace U0 := U0.e0 e11
            replace U1 := U1.e0 e11
            replace B := B.e0 e11
            replace BL := BL.e0 e11
            replace b4 := b4.e0 e11
            replace b5 := b5.e0 e11
            replace X0 := X0.e0 e11
            replace X1 := X1.e0 e11
            replace Y0 := Y0.e0 e11
            replace Y1 := Y1.e0 e11
            clear e11
            refine ⟨.bool (decide (q0 = q1 ∧ x0 = x1)), rfl, ?_⟩
            refine e0 36 ⟨U0, U1, B, BL, b4, b5, X0, X1, Y0, Y1, by omega⟩ ?_
            simp only [List.set_cons_zero, List.set_cons_succ]
            refine tv 37 116 (.bool false) (fun _ ⟨U0, U1, B, BL, b4, b5, X0, X1, Y0, Y1, z1⟩ => Val.bools .neq 4 _ (.tmp 110) (.tmp 115) rfl Try.underlying4 (decide ((okv (rightL q0 x0) (listB q0 x0)) = (okv (rightL q1 x1) (listB q1 x1)))) (decide (q0 = q1 ∧ x0 = x1)) (by kernel_rfl) (by kernel_rfl) (.inr rfl) _ (by rw [list_same g102 g106]; simp)) ⟨U0, U1, B, BL, b4, b5, X0, X1, Y0, Y1, by omega⟩ ?_
            simp only [List.set_cons_zero, List.set_cons_succ]
            refine tv 38 117 (.bool false) (fun _ _ => .of) ⟨U0, U1, B, BL, b4, b5, X0, X1, Y0, Y1, by omega⟩ ?_
            simp only [List.set_cons_zero, List.set_cons_succ]
            refine tv 39 118 (.bool false) (fun _ _ => .of) ⟨U0, U1, B, BL, b4, b5, X0, X1, Y0, Y1, by omega⟩ ?_
            simp only [List.set_cons_zero, List.set_cons_succ]
            refine wpAnyH_done (by kernel_rfl) ?_ _
            refine hK10 _ _ ?_
            refine cF ?_
            refine wp_skip ?_
            exact ⟨cutE, U0, U1, B, BL, b4, b5, X0, X1, Y0, Y1, by omega⟩
          · skip
            have dg106 : decide (rightL q1 x1 = true) = false := decide_eq_false g106
            simp only [dg106]
            clear dg106
            refine ts 27 106 ⟨U0, U1, B, BL, b4, b5, X0, X1, Y0, Y1, by omega⟩ ?_
            simp only [List.set_cons_zero, List.set_cons_succ]
            refine ts 28 107 ⟨U0, U1, B, BL, b4, b5, X0, X1, Y0, Y1, by omega⟩ ?_
            simp only [List.set_cons_zero, List.set_cons_succ]
            refine ts 29 108 ⟨U0, U1, B, BL, b4, b5, X0, X1, Y0, Y1, by omega⟩ ?_
            simp only [List.set_cons_zero, List.set_cons_succ]
            refine ts 30 109 ⟨U0, U1, B, BL, b4, b5, X0, X1, Y0, Y1, by omega⟩ ?_
            simp only [List.set_cons_zero, List.set_cons_succ]
            refine ts 31 110 ⟨U0, U1, B, BL, b4, b5, X0, X1, Y0, Y1, by omega⟩ ?_
            simp only [List.set_cons_zero, List.set_cons_succ]
            refine ts 32 111 ⟨U0, U1, B, BL, b4, b5, X0, X1, Y0, Y1, by omega⟩ ?_
            simp only [List.set_cons_zero, List.set_cons_succ]
            refine ts 33 112 ⟨U0, U1, B, BL, b4, b5, X0, X1, Y0, Y1, by omega⟩ ?_
            simp only [List.set_cons_zero, List.set_cons_succ]
            refine ts 34 113 ⟨U0, U1, B, BL, b4, b5, X0, X1, Y0, Y1, by omega⟩ ?_
            simp only [List.set_cons_zero, List.set_cons_succ]
            refine ts 35 114 ⟨U0, U1, B, BL, b4, b5, X0, X1, Y0, Y1, by omega⟩ ?_
            simp only [List.set_cons_zero, List.set_cons_succ]
            refine ts 36 115 ⟨U0, U1, B, BL, b4, b5, X0, X1, Y0, Y1, by omega⟩ ?_
            simp only [List.set_cons_zero, List.set_cons_succ]
            refine ts 37 116 ⟨U0, U1, B, BL, b4, b5, X0, X1, Y0, Y1, by omega⟩ ?_
            simp only [List.set_cons_zero, List.set_cons_succ]
            refine tv 38 117 (.bool false) (fun _ _ => .of) ⟨U0, U1, B, BL, b4, b5, X0, X1, Y0, Y1, by omega⟩ ?_
            simp only [List.set_cons_zero, List.set_cons_succ]
            refine tv 39 118 (.bool false) (fun _ _ => .of) ⟨U0, U1, B, BL, b4, b5, X0, X1, Y0, Y1, by omega⟩ ?_
            simp only [List.set_cons_zero, List.set_cons_succ]
            refine wpAnyH_done (by kernel_rfl) ?_ _
            refine hK10 _ _ ?_
            refine cF ?_
            refine wp_skip ?_
            exact ⟨cutE, U0, U1, B, BL, b4, b5, X0, X1, Y0, Y1, by omega⟩
        · skip
          have dg102 : decide (rightL q0 x0 = true) = false := decide_eq_false g102
          simp only [dg102]
          clear dg102
          refine ts 23 102 ⟨U0, U1, B, BL, b4, b5, X0, X1, Y0, Y1, by omega⟩ ?_
          simp only [List.set_cons_zero, List.set_cons_succ]
          refine ts 24 103 ⟨U0, U1, B, BL, b4, b5, X0, X1, Y0, Y1, by omega⟩ ?_
          simp only [List.set_cons_zero, List.set_cons_succ]
          refine tv 25 104 (.bool false) (fun _ _ => .of) ⟨U0, U1, B, BL, b4, b5, X0, X1, Y0, Y1, by omega⟩ ?_
          simp only [List.set_cons_zero, List.set_cons_succ]
          refine tv 26 105 (.bool false) (fun _ _ => .of) ⟨U0, U1, B, BL, b4, b5, X0, X1, Y0, Y1, by omega⟩ ?_
          simp only [List.set_cons_zero, List.set_cons_succ]
          refine ts 27 106 ⟨U0, U1, B, BL, b4, b5, X0, X1, Y0, Y1, by omega⟩ ?_
          simp only [List.set_cons_zero, List.set_cons_succ]
          refine ts 28 107 ⟨U0, U1, B, BL, b4, b5, X0, X1, Y0, Y1, by omega⟩ ?_
          simp only [List.set_cons_zero, List.set_cons_succ]
          refine ts 29 108 ⟨U0, U1, B, BL, b4, b5, X0, X1, Y0, Y1, by omega⟩ ?_
          simp only [List.set_cons_zero, List.set_cons_succ]
          refine ts 30 109 ⟨U0, U1, B, BL, b4, b5, X0, X1, Y0, Y1, by omega⟩ ?_
          simp only [List.set_cons_zero, List.set_cons_succ]
          refine ts 31 110 ⟨U0, U1, B, BL, b4, b5, X0, X1, Y0, Y1, by omega⟩ ?_
          simp only [List.set_cons_zero, List.set_cons_succ]
          refine ts 32 111 ⟨U0, U1, B, BL, b4, b5, X0, X1, Y0, Y1, by omega⟩ ?_
          simp only [List.set_cons_zero, List.set_cons_succ]
          refine ts 33 112 ⟨U0, U1, B, BL, b4, b5, X0, X1, Y0, Y1, by omega⟩ ?_
          simp only [List.set_cons_zero, List.set_cons_succ]
          refine ts 34 113 ⟨U0, U1, B, BL, b4, b5, X0, X1, Y0, Y1, by omega⟩ ?_
          simp only [List.set_cons_zero, List.set_cons_succ]
          refine ts 35 114 ⟨U0, U1, B, BL, b4, b5, X0, X1, Y0, Y1, by omega⟩ ?_
          simp only [List.set_cons_zero, List.set_cons_succ]
          refine ts 36 115 ⟨U0, U1, B, BL, b4, b5, X0, X1, Y0, Y1, by omega⟩ ?_
          simp only [List.set_cons_zero, List.set_cons_succ]
          refine ts 37 116 ⟨U0, U1, B, BL, b4, b5, X0, X1, Y0, Y1, by omega⟩ ?_
          simp only [List.set_cons_zero, List.set_cons_succ]
          refine tv 38 117 (.bool false) (fun _ _ => .of) ⟨U0, U1, B, BL, b4, b5, X0, X1, Y0, Y1, by omega⟩ ?_
          simp only [List.set_cons_zero, List.set_cons_succ]
          refine tv 39 118 (.bool false) (fun _ _ => .of) ⟨U0, U1, B, BL, b4, b5, X0, X1, Y0, Y1, by omega⟩ ?_
          simp only [List.set_cons_zero, List.set_cons_succ]
          refine wpAnyH_done (by kernel_rfl) ?_ _
          refine hK10 _ _ ?_
          refine cF ?_
          refine wp_skip ?_
          exact ⟨cutE, U0, U1, B, BL, b4, b5, X0, X1, Y0, Y1, by omega⟩
    · skip
      clear U0 U1 B BL b4 b5 X0 X1 Y0 Y1
      rintro a_ wJ2 ⟨⟨s2, rfl⟩, U0, U1, B, BL, b4, b5, X0, X1, Y0, Y1, zJ2⟩
      refine cCut (fun A_ w_ => ((∃ s3 : Nat → Value, A_ = ⟨[.agg (certL k0 r0 h0 ++ certL k1 r1 h1).toArray, .agg #[.int .i64 q0, .slice pa0 x0.length pc0, .int .i64 q1, .slice pa1 x1.length pc1], .slice ab bs.length cb, .int .u16 at_, .pointer (some ⟨w.heap.size, 0, none⟩), .pointer (some ⟨w1.heap.size, 0, none⟩), undef, undef, (s3 8), .slice ax0 (okv (rightC k0 h0) (certB k0 r0 h0)).length cx0, .int .i64 (ecF (rightC k0 h0)), .slice ax1 (okv (rightC k1 h1) (certB k1 r1 h1)).length cx1, .int .i64 (ecF (rightC k1 h1)), .slice ay0 (okv (rightL q0 x0) (listB q0 x0)).length cy0, .int .i64 (ecF (rightL q0 x0)), .slice ay1 (okv (rightL q1 x1) (listB q1 x1)).length cy1, .int .i64 (ecF (rightL q1 x1)), (s3 17), (s3 18), (s3 19), (s3 20), (s3 21), (s3 22), undef, undef, undef, undef, undef, undef, undef, undef, undef, undef, undef, undef, undef, undef, (s1 37), (s1 38), (s1 39), (s1 40), (s1 41), (s1 42), (s1 43), (s1 44), (s1 45), (s1 46), (s1 47), (s1 48), (s1 49), (s1 50), (s1 51), (s1 52), (s1 53), (s1 54), .tuple #[.slice ax0 (okv (rightC k0 h0) (certB k0 r0 h0)).length cx0, .int .i64 (ecF (rightC k0 h0))], .pointer (some ⟨w.heap.size, 0, none⟩), .agg (certL k0 r0 h0).toArray, .tuple #[.slice ax0 (okv (rightC k0 h0) (certB k0 r0 h0)).length cx0, .int .i64 (ecF (rightC k0 h0))], .slice ax0 (okv (rightC k0 h0) (certB k0 r0 h0)).length cx0, .int .i64 (ecF (rightC k0 h0)), .tuple #[.slice ax1 (okv (rightC k1 h1) (certB k1 r1 h1)).length cx1, .int .i64 (ecF (rightC k1 h1))], .pointer (some ⟨w.heap.size, 34, none⟩), .agg (certL k1 r1 h1).toArray, .tuple #[.slice ax1 (okv (rightC k1 h1) (certB k1 r1 h1)).length cx1, .int .i64 (ecF (rightC k1 h1))], .slice ax1 (okv (rightC k1 h1) (certB k1 r1 h1)).length cx1, .int .i64 (ecF (rightC k1 h1)), .tuple #[.slice ay0 (okv (rightL q0 x0) (listB q0 x0)).length cy0, .int .i64 (ecF (rightL q0 x0))], .pointer (some ⟨w1.heap.size, 0, none⟩), .agg #[.int .i64 q0, .slice pa0 x0.length pc0], .tuple #[.slice ay0 (okv (rightL q0 x0) (listB q0 x0)).length cy0, .int .i64 (ecF (rightL q0 x0))], .slice ay0 (okv (rightL q0 x0) (listB q0 x0)).length cy0, .int .i64 (ecF (rightL q0 x0)), .tuple #[.slice ay1 (okv (rightL q1 x1) (listB q1 x1)).length cy1, .int .i64 (ecF (rightL q1 x1))], .pointer (some ⟨w1.heap.size, 2, none⟩), .agg #[.int .i64 q1, .slice pa1 x1.length pc1], .tuple #[.slice ay1 (okv (rightL q1 x1) (listB q1 x1)).length cy1, .int .i64 (ecF (rightL q1 x1))], .slice ay1 (okv (rightL q1 x1) (listB q1 x1)).length cy1, .int .i64 (ecF (rightL q1 x1)), (s2 79), (s2 80), (s2 81), (s2 82), (s2 83), (s2 84), (s2 85), (s2 86), (s2 87), (s2 88), (s2 89), (s2 90), (s2 91), (s2 92), (s2 93), (s2 94), (s2 95), (s2 96), (s2 97), (s2 98), (s2 99), (s2 100), (s2 101), (s2 102), (s2 103), (s2 104), (s2 105), (s2 106), (s2 107), (s2 108), (s2 109), (s2 110), (s2 111), (s2 112), (s2 113), (s2 114), (s2 115), (s2 116), (s2 117), (s2 118), (s3 119), (s3 120), (s3 121), (s3 122), (s3 123), (s3 124), (s3 125), (s3 126), (s3 127), (s3 128), (s3 129), (s3 130), (s3 131), (s3 132), (s3 133), (s3 134), (s3 135), (s3 136), (s3 137), (s3 138), (s3 139), (s3 140), (s3 141), (s3 142), (s3 143), (s3 144), (s3 145), (s3 146), (s3 147), (s3 148), (s3 149), (s3 150), (s3 151), (s3 152), (s3 153), (s3 154), (s3 155), (s3 156), (s3 157), (s3 158), (s3 159), (s3 160), undef, undef, undef, undef, undef, undef, undef, undef, undef, undef, undef, undef, undef, undef, undef, undef, undef, undef, undef, undef, undef, undef, undef, undef, undef, undef, undef, undef, undef, undef, undef, undef, undef, undef, undef, undef, undef, undef, undef, undef, undef, undef, undef, undef, undef, undef, undef, undef, undef, undef, undef, undef, undef, undef, undef, undef, undef, undef, undef, undef, undef, undef, undef, undef, undef, undef, undef, undef, undef, undef, undef, undef, undef, undef, undef, undef, undef, undef, undef, undef, undef, undef, undef, undef, undef, undef].toArray, []⟩) ∧ SL .i64 w_ (.slice pa0 x0.length pc0) x0 ∧ SL .i64 w_ (.slice pa1 x1.length pc1) x1 ∧ SL .u8 w_ (.slice ab bs.length cb) bs ∧ Bl w.heap.size w w_ ∧ Cel w_ w.heap.size 45 (certL k0 r0 h0 ++ certL k1 r1 h1) ∧ Cel w_ w1.heap.size 46 [.int .i64 q0, .slice pa0 x0.length pc0, .int .i64 q1, .slice pa1 x1.length pc1] ∧ SL .u8 w_ (.slice ax0 (okv (rightC k0 h0) (certB k0 r0 h0)).length cx0) (okv (rightC k0 h0) (certB k0 r0 h0)) ∧ SL .u8 w_ (.slice ax1 (okv (rightC k1 h1) (certB k1 r1 h1)).length cx1) (okv (rightC k1 h1) (certB k1 r1 h1)) ∧ SL .u8 w_ (.slice ay0 (okv (rightL q0 x0) (listB q0 x0)).length cy0) (okv (rightL q0 x0) (listB q0 x0)) ∧ SL .u8 w_ (.slice ay1 (okv (rightL q1 x1) (listB q1 x1)).length cy1) (okv (rightL q1 x1) (listB q1 x1)) ∧ wJ2.heap.size ≤ w_.heap.size)) ?_ ?_
      · skip
        refine wp_seq_k fun K11 hK11 => ?_
        refine cPlain ?_
        refine sv 119 (.int .i64 (ecF (rightC k0 h0))) .of ?_
        simp only [List.set_cons_zero, List.set_cons_succ]
        refine sv 120 (.bool (decide (rightC k0 h0 = true))) (Val.cmp .eql 48 _ (.tmp 119) _ rfl .i64 (ecF (rightC k0 h0)) 0 (by kernel_rfl) (by kernel_rfl) (by simp) _ (ec_eq _)) ?_
        simp only [List.set_cons_zero, List.set_cons_succ]
        refine wpList_nil ?_
        refine hK11 _ _ ?_
        refine cDec (rightC k0 h0 = true) (by kernel_rfl) (fun c120 => ?_) (fun c120 => ?_)
        · skip
          have hpx : 0 < (okv (rightC k0 h0) (certB k0 r0 h0)).length := by rw [okv_len c120]; have := certB_pos k0 h0 r0 C0.l; omega
          refine wp_seq_k fun K12 hK12 => ?_
          refine cPlain ?_
          refine sv 122 (.slice ax0 (okv (rightC k0 h0) (certB k0 r0 h0)).length cx0) .of ?_
          simp only [List.set_cons_zero, List.set_cons_succ]
          refine xCall 123 26 #[.slice ax0 (okv (rightC k0 h0) (certB k0 r0 h0)).length cx0] (by kernel_rfl) ?_
          refine (read_any _ (okv (rightC k0 h0) (certB k0 r0 h0)) (bytes_cert C0.b) wJ2 X0).mono ?_
          rintro en w14 ⟨he, hb1⟩
          rw [okv_true c120, readC_put k0 h0 r0 C0.l c120] at he
          replace he : en = .returned (.tuple #[.agg (certCells k0 r0 h0), .int .i64 0]) := he
          subst he
          have e12 := belE0 hb1
          have ze12 := e12.size
          replace U0 := U0.e0 e12
          replace U1 := U1.e0 e12
          replace B := B.e0 e12
          replace BL := BL.e0 e12
          replace b4 := b4.e0 e12
          replace b5 := b5.e0 e12
          replace X0 := X0.e0 e12
          replace X1 := X1.e0 e12
          replace Y0 := Y0.e0 e12
          replace Y1 := Y1.e0 e12
          clear e12
          refine ⟨.tuple #[.agg (certL k0 r0 h0).toArray, .int .i64 0], rfl, ?_⟩
          simp only [List.set_cons_zero, List.set_cons_succ]
          refine sv 121 (.tuple #[.agg (certL k0 r0 h0).toArray, .int .i64 0]) .of ?_
          simp only [List.set_cons_zero, List.set_cons_succ]
          refine sv 124 (.agg (certL k0 r0 h0).toArray) .of ?_
          simp only [List.set_cons_zero, List.set_cons_succ]
          refine sv 125 (.int .i64 0) .of ?_
          simp only [List.set_cons_zero, List.set_cons_succ]
          refine xAlloc 17 44 (certL 0 (List.replicate 32 0) 0) rfl (by kernel_rfl) ?_
          intro w15 n3
          have zn3 := n3.z
          have b17 := n3.c
          replace U0 := U0.e0 n3.e
          replace U1 := U1.e0 n3.e
          replace B := B.e0 n3.e
          replace BL := BL.e0 n3.e
          replace b4 := b4.e0 n3.e
          replace b5 := b5.e0 n3.e
          replace X0 := X0.e0 n3.e
          replace X1 := X1.e0 n3.e
          replace Y0 := Y0.e0 n3.e
          replace Y1 := Y1.e0 n3.e
          simp only [List.set_cons_zero, List.set_cons_succ]
          refine xStoreR 44 _ _ rfl w14.heap.size 44 (certL 0 (List.replicate 32 0) 0) 0 (certL k0 r0 h0) (by kernel_rfl) (by kernel_rfl) b17 (by rw [certL_len _ _ _ C0.l]; kernel_rfl) (by simp only [certL_len _ _ _ z32, certL_len _ _ _ C0.l]; omega) (certL_one _ _ _) (certL k0 r0 h0) (certL_whole _ _ _ _ _ _ z32 C0.l) ?_
          intro w16 t1
          have zt1 := t1.z
          have U0_ := U0.ev t1.e (fun i hi => show ¬ (i = w14.heap.size) by have := lU0 i hi; omega)
          have U1_ := U1.ev t1.e (fun i hi => show ¬ (i = w14.heap.size) by have := lU1 i hi; omega)
          have B_ := B.ev t1.e (fun i hi => show ¬ (i = w14.heap.size) by have := lB i hi; omega)
          have BL_ := BL.ev t1.e (fun i h => show w.heap.size ≤ i by have h : i = w14.heap.size := h; omega)
          have b4_ := b4.ev t1.e (show ¬ (w.heap.size = w14.heap.size) by omega)
          have b5_ := b5.ev t1.e (show ¬ (w1.heap.size = w14.heap.size) by omega)
          have X0_ := X0.ev t1.e (fun i hi => show ¬ (i = w14.heap.size) by have := lX0 i hi; omega)
          have X1_ := X1.ev t1.e (fun i hi => show ¬ (i = w14.heap.size) by have := lX1 i hi; omega)
          have Y0_ := Y0.ev t1.e (fun i hi => show ¬ (i = w14.heap.size) by have := lY0 i hi; omega)
          have Y1_ := Y1.ev t1.e (fun i hi => show ¬ (i = w14.heap.size) by have := lY1 i hi; omega)
          replace U0 := U0_; clear U0_
          replace U1 := U1_; clear U1_
          replace B := B_; clear B_
          replace BL := BL_; clear BL_
          replace b4 := b4_; clear b4_
          replace b5 := b5_; clear b5_
          replace X0 := X0_; clear X0_
          replace X1 := X1_; clear X1_
          replace Y0 := Y0_; clear Y0_
          replace Y1 := Y1_; clear Y1_
          replace b17 : Cel w16 w14.heap.size 44 (certL k0 r0 h0) := t1.c
          clear t1
          refine sv 18 (.int .i64 0) .of ?_
          simp only [List.set_cons_zero, List.set_cons_succ]
          refine wpList_nil ?_
          refine hK12 _ _ ?_
          refine wp_seq_k fun K13 hK13 => ?_
          refine cPlain ?_
          refine sv 127 (.slice ax0 (okv (rightC k0 h0) (certB k0 r0 h0)).length cx0) .of ?_
          simp only [List.set_cons_zero, List.set_cons_succ]
          refine xCall 128 27 #[.slice ax0 (okv (rightC k0 h0) (certB k0 r0 h0)).length cx0] (by kernel_rfl) ?_
          refine (readlist_any _ (okv (rightC k0 h0) (certB k0 r0 h0)) (bytes_cert C0.b) w16 X0).mono ?_
          rintro en w17 ⟨he, hb1⟩
          rw [okv_true c120, readL_cert _ (okF_cert _ _ _)] at he
          replace he : en = .returned (.tuple #[.agg #[.int .i64 0, .slice none 0 0], .int .i64 180]) := he
          subst he
          have e13 := belE0 hb1
          have ze13 := e13.size
          replace U0 := U0.e0 e13
          replace U1 := U1.e0 e13
          replace B := B.e0 e13
          replace BL := BL.e0 e13
          replace b4 := b4.e0 e13
          replace b5 := b5.e0 e13
          replace X0 := X0.e0 e13
          replace X1 := X1.e0 e13
          replace Y0 := Y0.e0 e13
          replace Y1 := Y1.e0 e13
          replace b17 := b17.e0 e13
          clear e13
          refine ⟨.tuple #[.agg #[.int .i64 0, .slice none 0 0], .int .i64 180], rfl, ?_⟩
          simp only [List.set_cons_zero, List.set_cons_succ]
          refine sv 126 (.tuple #[.agg #[.int .i64 0, .slice none 0 0], .int .i64 180]) .of ?_
          simp only [List.set_cons_zero, List.set_cons_succ]
          refine sv 129 (.agg #[.int .i64 0, .slice none 0 0]) .of ?_
          simp only [List.set_cons_zero, List.set_cons_succ]
          refine sv 130 (.int .i64 180) .of ?_
          simp only [List.set_cons_zero, List.set_cons_succ]
          refine xAlloc 19 38 [.int .i64 0, .slice none 0 0] rfl (by kernel_rfl) ?_
          intro w18 n4
          have zn4 := n4.z
          have b19 := n4.c
          replace U0 := U0.e0 n4.e
          replace U1 := U1.e0 n4.e
          replace B := B.e0 n4.e
          replace BL := BL.e0 n4.e
          replace b4 := b4.e0 n4.e
          replace b5 := b5.e0 n4.e
          replace X0 := X0.e0 n4.e
          replace X1 := X1.e0 n4.e
          replace Y0 := Y0.e0 n4.e
          replace Y1 := Y1.e0 n4.e
          replace b17 := b17.e0 n4.e
          simp only [List.set_cons_zero, List.set_cons_succ]
          refine xStoreR 38 (.tmp 19) (.tmp 129) rfl w17.heap.size 38 [.int .i64 0, .slice none 0 0] 0 [.int .i64 0, .slice none 0 0] (by kernel_rfl) (by kernel_rfl) b19 (by kernel_rfl) (by simp) rfl [.int .i64 0, .slice none 0 0] rfl ?_
          intro w19 t2
          have zt2 := t2.z
          have U0_ := U0.ev t2.e (fun i hi => show ¬ (i = w17.heap.size) by have := lU0 i hi; omega)
          have U1_ := U1.ev t2.e (fun i hi => show ¬ (i = w17.heap.size) by have := lU1 i hi; omega)
          have B_ := B.ev t2.e (fun i hi => show ¬ (i = w17.heap.size) by have := lB i hi; omega)
          have BL_ := BL.ev t2.e (fun i h => show w.heap.size ≤ i by have h : i = w17.heap.size := h; omega)
          have b4_ := b4.ev t2.e (show ¬ (w.heap.size = w17.heap.size) by omega)
          have b5_ := b5.ev t2.e (show ¬ (w1.heap.size = w17.heap.size) by omega)
          have X0_ := X0.ev t2.e (fun i hi => show ¬ (i = w17.heap.size) by have := lX0 i hi; omega)
          have X1_ := X1.ev t2.e (fun i hi => show ¬ (i = w17.heap.size) by have := lX1 i hi; omega)
          have Y0_ := Y0.ev t2.e (fun i hi => show ¬ (i = w17.heap.size) by have := lY0 i hi; omega)
          have Y1_ := Y1.ev t2.e (fun i hi => show ¬ (i = w17.heap.size) by have := lY1 i hi; omega)
          have b17_ := b17.ev t2.e (show ¬ (w14.heap.size = w17.heap.size) by omega)
          replace U0 := U0_; clear U0_
          replace U1 := U1_; clear U1_
          replace B := B_; clear B_
          replace BL := BL_; clear BL_
          replace b4 := b4_; clear b4_
          replace b5 := b5_; clear b5_
          replace X0 := X0_; clear X0_
          replace X1 := X1_; clear X1_
          replace Y0 := Y0_; clear Y0_
          replace Y1 := Y1_; clear Y1_
          replace b17 := b17_; clear b17_
          replace b19 : Cel w19 w17.heap.size 38 [.int .i64 0, .slice none 0 0] := t2.c
          clear t2
          refine sv 20 (.int .i64 180) .of ?_
          simp only [List.set_cons_zero, List.set_cons_succ]
          refine wpList_nil ?_
          refine hK13 _ _ ?_
          refine wp_seq_k fun K14 hK14 => ?_
          refine wp_seq_k fun K15 hK15 => ?_
          refine cPlain ?_
          refine sv 131 (.slice ax0 (okv (rightC k0 h0) (certB k0 r0 h0)).length cx0) .of ?_
          simp only [List.set_cons_zero, List.set_cons_succ]
          refine sv 132 (.int .i64 ((okv (rightC k0 h0) (certB k0 r0 h0)).length : Int)) .of ?_
          simp only [List.set_cons_zero, List.set_cons_succ]
          refine sv 133 (.bool false) (Val.cmp .eql 3 _ (.tmp 132) _ rfl .i64 ((okv (rightC k0 h0) (certB k0 r0 h0)).length : Int) 0 (by kernel_rfl) (by kernel_rfl) (by simp) _ (decide_eq_false (by omega))) ?_
          simp only [List.set_cons_zero, List.set_cons_succ]
          refine sv 134 (.bool false) .of ?_
          simp only [List.set_cons_zero, List.set_cons_succ]
          refine sv 135 (.int .i64 0) .of ?_
          simp only [List.set_cons_zero, List.set_cons_succ]
          refine sv 136 (.bool false) (Val.cmp .neq 48 _ (.tmp 135) _ rfl .i64 0 0 (by kernel_rfl) (by kernel_rfl) (by simp) _ rfl) ?_
          simp only [List.set_cons_zero, List.set_cons_succ]
          refine sv 137 (.bool false) .of ?_
          simp only [List.set_cons_zero, List.set_cons_succ]
          refine sv 138 (.bool false) .of ?_
          simp only [List.set_cons_zero, List.set_cons_succ]
          refine sv 139 (.agg (certL k0 r0 h0).toArray) (Val.cel 44 _ rfl 0 34 (by kernel_rfl) b17 _ Try.underlying44 rfl (by kernel_rfl) (by rw [certL_len _ _ _ C0.l]; omega) _ (certL_seg _ _ _ C0.l)) ?_
          simp only [List.set_cons_zero, List.set_cons_succ]
          refine sv 140 (.pointer (some ⟨w.heap.size, 0, none⟩)) .of ?_
          simp only [List.set_cons_zero, List.set_cons_succ]
          refine sv 141 (.agg (certL k0 r0 h0).toArray) (Val.cel 44 _ rfl 0 34 (by kernel_rfl) b4 _ Try.underlying44 rfl (by kernel_rfl) (by rw [List.length_append, certL_len _ _ _ C0.l, certL_len _ _ _ C1.l]; omega) _ (seg0 _ _ _ _ C0.l)) ?_
          simp only [List.set_cons_zero, List.set_cons_succ]
          refine sv 142 (.bool false) (Val.eqK .neq 44 _ (.tmp 139) (.tmp 141) rfl kt_cert 5 (by kernel_rfl) (by decide) Try.underlying44 rfl (by kernel_rfl) (by kernel_rfl) ([k0] ++ (r0 ++ ([h0] ++ []))) ([k0] ++ (r0 ++ ([h0] ++ []))) (by rw [← certL_zip _ _ _ C0.l]; kernel_rfl) (by rw [← certL_zip _ _ _ C0.l]; kernel_rfl) (certN_len _ _ _ C0.l) (certN_len _ _ _ C0.l) (certN_wf _ _ _ C0.l C0.wb C0.wk C0.wh) (certN_wf _ _ _ C0.l C0.wb C0.wk C0.wh) (.inr rfl) _ (by simp)) ?_
          simp only [List.set_cons_zero, List.set_cons_succ]
          refine sv 143 (.bool false) .of ?_
          simp only [List.set_cons_zero, List.set_cons_succ]
          refine sv 144 (.bool false) .of ?_
          simp only [List.set_cons_zero, List.set_cons_succ]
          refine sv 145 (.int .i64 180) .of ?_
          simp only [List.set_cons_zero, List.set_cons_succ]
          refine sv 146 (.bool false) (Val.cmp .neq 48 _ (.tmp 145) _ rfl .i64 180 180 (by kernel_rfl) (by kernel_rfl) (by simp) _ rfl) ?_
          simp only [List.set_cons_zero, List.set_cons_succ]
          refine sv 147 (.bool false) .of ?_
          simp only [List.set_cons_zero, List.set_cons_succ]
          refine wpList_nil ?_
          refine hK15 _ _ ?_
          refine cF ?_
          refine wp_skip ?_
          refine hK14 _ _ ?_
          refine wp_seq_k fun K16 hK16 => ?_
          refine cPlain ?_
          refine sv 149 (.slice ax0 (okv (rightC k0 h0) (certB k0 r0 h0)).length cx0) .of ?_
          simp only [List.set_cons_zero, List.set_cons_succ]
          refine sv 150 (.int .u16 at_) .of ?_
          simp only [List.set_cons_zero, List.set_cons_succ]
          refine sv 151 (.int .i64 at_) (Val.conv64 _ _ _ rfl Try.underlying47 Try.underlying3 at_ (by kernel_rfl) (by omega)) ?_
          simp only [List.set_cons_zero, List.set_cons_succ]
          refine sv 152 (.slice ax0 (okv (rightC k0 h0) (certB k0 r0 h0)).length cx0) .of ?_
          simp only [List.set_cons_zero, List.set_cons_succ]
          refine sv 153 (.int .i64 ((okv (rightC k0 h0) (certB k0 r0 h0)).length : Int)) .of ?_
          simp only [List.set_cons_zero, List.set_cons_succ]
          refine sv 154 (.int .i64 ((at_.toNat % (okv (rightC k0 h0) (certB k0 r0 h0)).length : Nat) : Int)) (rem_val _ _ _ _ rfl at_ (okv (rightC k0 h0) (certB k0 r0 h0)).length hat.1 (by kernel_rfl) (by kernel_rfl) hpx) ?_
          simp only [List.set_cons_zero, List.set_cons_succ]
          refine sv 155 (sliceV (.slice ax0 (okv (rightC k0 h0) (certB k0 r0 h0)).length cx0) 0 (at_.toNat % (okv (rightC k0 h0) (certB k0 r0 h0)).length)) (Val.slc 28 (.tmp 149) none (some (.tmp 154)) rfl (.slice ax0 (okv (rightC k0 h0) (certB k0 r0 h0)).length cx0) (by kernel_rfl) X0 0 (at_.toNat % (okv (rightC k0 h0) (certB k0 r0 h0)).length) (.inr ⟨rfl, rfl⟩) (.inl (by kernel_rfl)) (Nat.zero_le _) (Nat.le_of_lt (Nat.mod_lt _ hpx)) Try.underlying28 (by kernel_rfl)) ?_
          simp only [List.set_cons_zero, List.set_cons_succ]
          refine xCall 156 26 #[sliceV (.slice ax0 (okv (rightC k0 h0) (certB k0 r0 h0)).length cx0) 0 (at_.toNat % (okv (rightC k0 h0) (certB k0 r0 h0)).length)] (by kernel_rfl) ?_
          refine (read_any _ ((okv (rightC k0 h0) (certB k0 r0 h0)).take (at_.toNat % (okv (rightC k0 h0) (certB k0 r0 h0)).length)) (take_bytes (bytes_cert C0.b) _) w19 (by simpa using X0.slice 0 (at_.toNat % (okv (rightC k0 h0) (certB k0 r0 h0)).length) (Nat.zero_le _) (Nat.le_of_lt (Nat.mod_lt _ hpx)))).mono ?_
          rintro en w20 ⟨he, hb1⟩
          rw [cert_cut C0 c120] at he
          replace he : en = .returned (.tuple #[.agg (certCells 0 (List.replicate 32 0) 0), .int .i64 180]) := he
          subst he
          have e14 := belE0 hb1
          have ze14 := e14.size
          replace U0 := U0.e0 e14
          replace U1 := U1.e0 e14
          replace B := B.e0 e14
          replace BL := BL.e0 e14
          replace b4 := b4.e0 e14
          replace b5 := b5.e0 e14
          replace X0 := X0.e0 e14
          replace X1 := X1.e0 e14
          replace Y0 := Y0.e0 e14
          replace Y1 := Y1.e0 e14
          replace b17 := b17.e0 e14
          replace b19 := b19.e0 e14
          clear e14
          refine ⟨.tuple #[.agg (certL 0 (List.replicate 32 0) 0).toArray, .int .i64 180], rfl, ?_⟩
          simp only [List.set_cons_zero, List.set_cons_succ]
          refine sv 148 (.tuple #[.agg (certL 0 (List.replicate 32 0) 0).toArray, .int .i64 180]) .of ?_
          simp only [List.set_cons_zero, List.set_cons_succ]
          refine sv 157 (.agg (certL 0 (List.replicate 32 0) 0).toArray) .of ?_
          simp only [List.set_cons_zero, List.set_cons_succ]
          refine sv 158 (.int .i64 180) .of ?_
          simp only [List.set_cons_zero, List.set_cons_succ]
          refine xAlloc 21 44 (certL 0 (List.replicate 32 0) 0) rfl (by kernel_rfl) ?_
          intro w21 n5
          have zn5 := n5.z
          have b21 := n5.c
          replace U0 := U0.e0 n5.e
          replace U1 := U1.e0 n5.e
          replace B := B.e0 n5.e
          replace BL := BL.e0 n5.e
          replace b4 := b4.e0 n5.e
          replace b5 := b5.e0 n5.e
          replace X0 := X0.e0 n5.e
          replace X1 := X1.e0 n5.e
          replace Y0 := Y0.e0 n5.e
          replace Y1 := Y1.e0 n5.e
          replace b17 := b17.e0 n5.e
          replace b19 := b19.e0 n5.e
          simp only [List.set_cons_zero, List.set_cons_succ]
          refine xStoreR 44 _ _ rfl w20.heap.size 44 (certL 0 (List.replicate 32 0) 0) 0 (certL 0 (List.replicate 32 0) 0) (by kernel_rfl) (by kernel_rfl) b21 (by rw [certL_len _ _ _ z32]; kernel_rfl) (by simp only [certL_len _ _ _ z32, certL_len _ _ _ z32]; omega) (certL_one _ _ _) (certL 0 (List.replicate 32 0) 0) (certL_whole _ _ _ _ _ _ z32 z32) ?_
          intro w22 t3
          have zt3 := t3.z
          have U0_ := U0.ev t3.e (fun i hi => show ¬ (i = w20.heap.size) by have := lU0 i hi; omega)
          have U1_ := U1.ev t3.e (fun i hi => show ¬ (i = w20.heap.size) by have := lU1 i hi; omega)
          have B_ := B.ev t3.e (fun i hi => show ¬ (i = w20.heap.size) by have := lB i hi; omega)
          have BL_ := BL.ev t3.e (fun i h => show w.heap.size ≤ i by have h : i = w20.heap.size := h; omega)
          have b4_ := b4.ev t3.e (show ¬ (w.heap.size = w20.heap.size) by omega)
          have b5_ := b5.ev t3.e (show ¬ (w1.heap.size = w20.heap.size) by omega)
          have X0_ := X0.ev t3.e (fun i hi => show ¬ (i = w20.heap.size) by have := lX0 i hi; omega)
          have X1_ := X1.ev t3.e (fun i hi => show ¬ (i = w20.heap.size) by have := lX1 i hi; omega)
          have Y0_ := Y0.ev t3.e (fun i hi => show ¬ (i = w20.heap.size) by have := lY0 i hi; omega)
          have Y1_ := Y1.ev t3.e (fun i hi => show ¬ (i = w20.heap.size) by have := lY1 i hi; omega)
          have b17_ := b17.ev t3.e (show ¬ (w14.heap.size = w20.heap.size) by omega)
          have b19_ := b19.ev t3.e (show ¬ (w17.heap.size = w20.heap.size) by omega)
          replace U0 := U0_; clear U0_
          replace U1 := U1_; clear U1_
          replace B := B_; clear B_
          replace BL := BL_; clear BL_
          replace b4 := b4_; clear b4_
          replace b5 := b5_; clear b5_
          replace X0 := X0_; clear X0_
          replace X1 := X1_; clear X1_
          replace Y0 := Y0_; clear Y0_
          replace Y1 := Y1_; clear Y1_
          replace b17 := b17_; clear b17_
          replace b19 := b19_; clear b19_
          replace b21 : Cel w22 w20.heap.size 44 (certL 0 (List.replicate 32 0) 0) := t3.c
          clear t3
          refine sv 22 (.int .i64 180) .of ?_
          simp only [List.set_cons_zero, List.set_cons_succ]
          refine wpList_nil ?_
          refine hK16 _ _ ?_
          refine wp_seq_k fun K17 hK17 => ?_
          refine cPlain ?_
          refine sv 159 (.int .i64 180) .of ?_
          simp only [List.set_cons_zero, List.set_cons_succ]
          refine sv 160 (.bool false) (Val.cmp .neq 48 _ (.tmp 159) _ rfl .i64 180 180 (by kernel_rfl) (by kernel_rfl) (by simp) _ rfl) ?_
          simp only [List.set_cons_zero, List.set_cons_succ]
          refine wpList_nil ?_
          refine hK17 _ _ ?_
          refine cF ?_
          refine wp_skip ?_
          exact ⟨cutE, U0, U1, B, BL, b4, b5, X0, X1, Y0, Y1, by omega⟩
        · skip
          refine wp_skip ?_
          exact ⟨cutE, U0, U1, B, BL, b4, b5, X0, X1, Y0, Y1, by omega⟩
      · skip
        clear U0 U1 B BL b4 b5 X0 X1 Y0 Y1
        rintro a_ wJ3 ⟨⟨s3, rfl⟩, U0, U1, B, BL, b4, b5, X0, X1, Y0, Y1, zJ3⟩
        refine cCut (fun A_ w_ => ((∃ s4 : Nat → Value, A_ = ⟨[.agg (certL k0 r0 h0 ++ certL k1 r1 h1).toArray, .agg #[.int .i64 q0, .slice pa0 x0.length pc0, .int .i64 q1, .slice pa1 x1.length pc1], .slice ab bs.length cb, .int .u16 at_, .pointer (some ⟨w.heap.size, 0, none⟩), .pointer (some ⟨w1.heap.size, 0, none⟩), undef, undef, (s4 8), .slice ax0 (okv (rightC k0 h0) (certB k0 r0 h0)).length cx0, .int .i64 (ecF (rightC k0 h0)), .slice ax1 (okv (rightC k1 h1) (certB k1 r1 h1)).length cx1, .int .i64 (ecF (rightC k1 h1)), .slice ay0 (okv (rightL q0 x0) (listB q0 x0)).length cy0, .int .i64 (ecF (rightL q0 x0)), .slice ay1 (okv (rightL q1 x1) (listB q1 x1)).length cy1, .int .i64 (ecF (rightL q1 x1)), (s3 17), (s3 18), (s3 19), (s3 20), (s3 21), (s3 22), (s4 23), (s4 24), (s4 25), (s4 26), (s4 27), (s4 28), undef, undef, undef, undef, undef, undef, undef, undef, (s1 37), (s1 38), (s1 39), (s1 40), (s1 41), (s1 42), (s1 43), (s1 44), (s1 45), (s1 46), (s1 47), (s1 48), (s1 49), (s1 50), (s1 51), (s1 52), (s1 53), (s1 54), .tuple #[.slice ax0 (okv (rightC k0 h0) (certB k0 r0 h0)).length cx0, .int .i64 (ecF (rightC k0 h0))], .pointer (some ⟨w.heap.size, 0, none⟩), .agg (certL k0 r0 h0).toArray, .tuple #[.slice ax0 (okv (rightC k0 h0) (certB k0 r0 h0)).length cx0, .int .i64 (ecF (rightC k0 h0))], .slice ax0 (okv (rightC k0 h0) (certB k0 r0 h0)).length cx0, .int .i64 (ecF (rightC k0 h0)), .tuple #[.slice ax1 (okv (rightC k1 h1) (certB k1 r1 h1)).length cx1, .int .i64 (ecF (rightC k1 h1))], .pointer (some ⟨w.heap.size, 34, none⟩), .agg (certL k1 r1 h1).toArray, .tuple #[.slice ax1 (okv (rightC k1 h1) (certB k1 r1 h1)).length cx1, .int .i64 (ecF (rightC k1 h1))], .slice ax1 (okv (rightC k1 h1) (certB k1 r1 h1)).length cx1, .int .i64 (ecF (rightC k1 h1)), .tuple #[.slice ay0 (okv (rightL q0 x0) (listB q0 x0)).length cy0, .int .i64 (ecF (rightL q0 x0))], .pointer (some ⟨w1.heap.size, 0, none⟩), .agg #[.int .i64 q0, .slice pa0 x0.length pc0], .tuple #[.slice ay0 (okv (rightL q0 x0) (listB q0 x0)).length cy0, .int .i64 (ecF (rightL q0 x0))], .slice ay0 (okv (rightL q0 x0) (listB q0 x0)).length cy0, .int .i64 (ecF (rightL q0 x0)), .tuple #[.slice ay1 (okv (rightL q1 x1) (listB q1 x1)).length cy1, .int .i64 (ecF (rightL q1 x1))], .pointer (some ⟨w1.heap.size, 2, none⟩), .agg #[.int .i64 q1, .slice pa1 x1.length pc1], .tuple #[.slice ay1 (okv (rightL q1 x1) (listB q1 x1)).length cy1, .int .i64 (ecF (rightL q1 x1))], .slice ay1 (okv (rightL q1 x1) (listB q1 x1)).length cy1, .int .i64 (ecF (rightL q1 x1)), (s2 79), (s2 80), (s2 81), (s2 82), (s2 83), (s2 84), (s2 85), (s2 86), (s2 87), (s2 88), (s2 89), (s2 90), (s2 91), (s2 92), (s2 93), (s2 94), (s2 95), (s2 96), (s2 97), (s2 98), (s2 99), (s2 100), (s2 101), (s2 102), (s2 103), (s2 104), (s2 105), (s2 106), (s2 107), (s2 108), (s2 109), (s2 110), (s2 111), (s2 112), (s2 113), (s2 114), (s2 115), (s2 116), (s2 117), (s2 118), (s3 119), (s3 120), (s3 121), (s3 122), (s3 123), (s3 124), (s3 125), (s3 126), (s3 127), (s3 128), (s3 129), (s3 130), (s3 131), (s3 132), (s3 133), (s3 134), (s3 135), (s3 136), (s3 137), (s3 138), (s3 139), (s3 140), (s3 141), (s3 142), (s3 143), (s3 144), (s3 145), (s3 146), (s3 147), (s3 148), (s3 149), (s3 150), (s3 151), (s3 152), (s3 153), (s3 154), (s3 155), (s3 156), (s3 157), (s3 158), (s3 159), (s3 160), (s4 161), (s4 162), (s4 163), (s4 164), (s4 165), (s4 166), (s4 167), (s4 168), (s4 169), (s4 170), (s4 171), (s4 172), (s4 173), (s4 174), (s4 175), (s4 176), (s4 177), (s4 178), (s4 179), (s4 180), (s4 181), (s4 182), (s4 183), (s4 184), (s4 185), (s4 186), (s4 187), (s4 188), (s4 189), (s4 190), (s4 191), (s4 192), (s4 193), (s4 194), (s4 195), (s4 196), (s4 197), (s4 198), (s4 199), (s4 200), (s4 201), (s4 202), (s4 203), undef, undef, undef, undef, undef, undef, undef, undef, undef, undef, undef, undef, undef, undef, undef, undef, undef, undef, undef, undef, undef, undef, undef, undef, undef, undef, undef, undef, undef, undef, undef, undef, undef, undef, undef, undef, undef, undef, undef, undef, undef, undef, undef].toArray, []⟩) ∧ SL .i64 w_ (.slice pa0 x0.length pc0) x0 ∧ SL .i64 w_ (.slice pa1 x1.length pc1) x1 ∧ SL .u8 w_ (.slice ab bs.length cb) bs ∧ Bl w.heap.size w w_ ∧ Cel w_ w.heap.size 45 (certL k0 r0 h0 ++ certL k1 r1 h1) ∧ Cel w_ w1.heap.size 46 [.int .i64 q0, .slice pa0 x0.length pc0, .int .i64 q1, .slice pa1 x1.length pc1] ∧ SL .u8 w_ (.slice ax0 (okv (rightC k0 h0) (certB k0 r0 h0)).length cx0) (okv (rightC k0 h0) (certB k0 r0 h0)) ∧ SL .u8 w_ (.slice ax1 (okv (rightC k1 h1) (certB k1 r1 h1)).length cx1) (okv (rightC k1 h1) (certB k1 r1 h1)) ∧ SL .u8 w_ (.slice ay0 (okv (rightL q0 x0) (listB q0 x0)).length cy0) (okv (rightL q0 x0) (listB q0 x0)) ∧ SL .u8 w_ (.slice ay1 (okv (rightL q1 x1) (listB q1 x1)).length cy1) (okv (rightL q1 x1) (listB q1 x1)) ∧ wJ3.heap.size ≤ w_.heap.size)) ?_ ?_
        · skip
          refine wp_seq_k fun K18 hK18 => ?_
          refine cPlain ?_
          refine sv 161 (.int .i64 (ecF (rightL q0 x0))) .of ?_
          simp only [List.set_cons_zero, List.set_cons_succ]
          refine sv 162 (.bool (decide (rightL q0 x0 = true))) (Val.cmp .eql 48 _ (.tmp 161) _ rfl .i64 (ecF (rightL q0 x0)) 0 (by kernel_rfl) (by kernel_rfl) (by simp) _ (ec_eq _)) ?_
          simp only [List.set_cons_zero, List.set_cons_succ]
          refine wpList_nil ?_
          refine hK18 _ _ ?_
          refine cDec (rightL q0 x0 = true) (by kernel_rfl) (fun c162 => ?_) (fun c162 => ?_)
          · skip
            have hpy : 0 < (okv (rightL q0 x0) (listB q0 x0)).length := by rw [okv_len c162]; exact listB_pos _ _
            refine wp_seq_k fun K19 hK19 => ?_
            refine cPlain ?_
            refine sv 164 (.slice ay0 (okv (rightL q0 x0) (listB q0 x0)).length cy0) .of ?_
            simp only [List.set_cons_zero, List.set_cons_succ]
            refine xCall 165 27 #[.slice ay0 (okv (rightL q0 x0) (listB q0 x0)).length cy0] (by kernel_rfl) ?_
            refine (readlist_any _ (okv (rightL q0 x0) (listB q0 x0)) bytes_list wJ3 Y0).mono ?_
            rintro en w23 ⟨he, hb1⟩
            rw [okv_true c162, readL_put q0 x0 c162] at he
            replace he : ∃ v, en = .returned (.tuple #[.agg #[.int .i64 q0, v], .int .i64 0]) ∧ Own 3 .i64 wJ3.heap.size w23 v x0 := he
            obtain ⟨vd, he, D⟩ := he
            subst he
            obtain ⟨ad, cd, rfl⟩ := D.len
            have D := D.sl
            have lD := D.bd
            have e15 := belE0 hb1
            have ze15 := e15.size
            replace U0 := U0.e0 e15
            replace U1 := U1.e0 e15
            replace B := B.e0 e15
            replace BL := BL.e0 e15
            replace b4 := b4.e0 e15
            replace b5 := b5.e0 e15
            replace X0 := X0.e0 e15
            replace X1 := X1.e0 e15
            replace Y0 := Y0.e0 e15
            replace Y1 := Y1.e0 e15
            clear e15
            refine ⟨.tuple #[.agg #[.int .i64 q0, .slice ad x0.length cd], .int .i64 0], rfl, ?_⟩
            simp only [List.set_cons_zero, List.set_cons_succ]
            refine sv 163 (.tuple #[.agg #[.int .i64 q0, .slice ad x0.length cd], .int .i64 0]) .of ?_
            simp only [List.set_cons_zero, List.set_cons_succ]
            refine sv 166 (.agg #[.int .i64 q0, .slice ad x0.length cd]) .of ?_
            simp only [List.set_cons_zero, List.set_cons_succ]
            refine sv 167 (.int .i64 0) .of ?_
            simp only [List.set_cons_zero, List.set_cons_succ]
            refine xAlloc 23 38 [.int .i64 0, .slice none 0 0] rfl (by kernel_rfl) ?_
            intro w24 n6
            have zn6 := n6.z
            have b23 := n6.c
            replace U0 := U0.e0 n6.e
            replace U1 := U1.e0 n6.e
            replace B := B.e0 n6.e
            replace BL := BL.e0 n6.e
            replace b4 := b4.e0 n6.e
            replace b5 := b5.e0 n6.e
            replace X0 := X0.e0 n6.e
            replace X1 := X1.e0 n6.e
            replace Y0 := Y0.e0 n6.e
            replace Y1 := Y1.e0 n6.e
            replace D := D.e0 n6.e
            simp only [List.set_cons_zero, List.set_cons_succ]
            refine xStoreR 38 (.tmp 23) (.tmp 166) rfl w23.heap.size 38 [.int .i64 0, .slice none 0 0] 0 [.int .i64 q0, .slice ad x0.length cd] (by kernel_rfl) (by kernel_rfl) b23 (by kernel_rfl) (by simp) rfl [.int .i64 q0, .slice ad x0.length cd] rfl ?_
            intro w25 t4
            have zt4 := t4.z
            have U0_ := U0.ev t4.e (fun i hi => show ¬ (i = w23.heap.size) by have := lU0 i hi; omega)
            have U1_ := U1.ev t4.e (fun i hi => show ¬ (i = w23.heap.size) by have := lU1 i hi; omega)
            have B_ := B.ev t4.e (fun i hi => show ¬ (i = w23.heap.size) by have := lB i hi; omega)
            have BL_ := BL.ev t4.e (fun i h => show w.heap.size ≤ i by have h : i = w23.heap.size := h; omega)
            have b4_ := b4.ev t4.e (show ¬ (w.heap.size = w23.heap.size) by omega)
            have b5_ := b5.ev t4.e (show ¬ (w1.heap.size = w23.heap.size) by omega)
            have X0_ := X0.ev t4.e (fun i hi => show ¬ (i = w23.heap.size) by have := lX0 i hi; omega)
            have X1_ := X1.ev t4.e (fun i hi => show ¬ (i = w23.heap.size) by have := lX1 i hi; omega)
            have Y0_ := Y0.ev t4.e (fun i hi => show ¬ (i = w23.heap.size) by have := lY0 i hi; omega)
            have Y1_ := Y1.ev t4.e (fun i hi => show ¬ (i = w23.heap.size) by have := lY1 i hi; omega)
            have D_ := D.ev t4.e (fun i hi => show ¬ (i = w23.heap.size) by have := lD i hi; omega)
            replace U0 := U0_; clear U0_
            replace U1 := U1_; clear U1_
            replace B := B_; clear B_
            replace BL := BL_; clear BL_
            replace b4 := b4_; clear b4_
            replace b5 := b5_; clear b5_
            replace X0 := X0_; clear X0_
            replace X1 := X1_; clear X1_
            replace Y0 := Y0_; clear Y0_
            replace Y1 := Y1_; clear Y1_
            replace D := D_; clear D_
            replace b23 : Cel w25 w23.heap.size 38 [.int .i64 q0, .slice ad x0.length cd] := t4.c
            clear t4
            refine sv 24 (.int .i64 0) .of ?_
            simp only [List.set_cons_zero, List.set_cons_succ]
            refine wpList_nil ?_
            refine hK19 _ _ ?_
            refine wp_seq_k fun K20 hK20 => ?_
            refine cPlain ?_
            refine sv 169 (.slice ay0 (okv (rightL q0 x0) (listB q0 x0)).length cy0) .of ?_
            simp only [List.set_cons_zero, List.set_cons_succ]
            refine xCall 170 26 #[.slice ay0 (okv (rightL q0 x0) (listB q0 x0)).length cy0] (by kernel_rfl) ?_
            refine (read_any _ (okv (rightL q0 x0) (listB q0 x0)) bytes_list w25 Y0).mono ?_
            rintro en w26 ⟨he, hb1⟩
            rw [okv_true c162, readC_list _ (okF_list _ _)] at he
            replace he : en = .returned (.tuple #[.agg (certCells 0 (List.replicate 32 0) 0), .int .i64 180]) := he
            subst he
            have e16 := belE0 hb1
            have ze16 := e16.size
            replace U0 := U0.e0 e16
            replace U1 := U1.e0 e16
            replace B := B.e0 e16
            replace BL := BL.e0 e16
            replace b4 := b4.e0 e16
            replace b5 := b5.e0 e16
            replace X0 := X0.e0 e16
            replace X1 := X1.e0 e16
            replace Y0 := Y0.e0 e16
            replace Y1 := Y1.e0 e16
            replace D := D.e0 e16
            replace b23 := b23.e0 e16
            clear e16
            refine ⟨.tuple #[.agg (certL 0 (List.replicate 32 0) 0).toArray, .int .i64 180], rfl, ?_⟩
            simp only [List.set_cons_zero, List.set_cons_succ]
            refine sv 168 (.tuple #[.agg (certL 0 (List.replicate 32 0) 0).toArray, .int .i64 180]) .of ?_
            simp only [List.set_cons_zero, List.set_cons_succ]
            refine sv 171 (.agg (certL 0 (List.replicate 32 0) 0).toArray) .of ?_
            simp only [List.set_cons_zero, List.set_cons_succ]
            refine sv 172 (.int .i64 180) .of ?_
            simp only [List.set_cons_zero, List.set_cons_succ]
            refine xAlloc 25 44 (certL 0 (List.replicate 32 0) 0) rfl (by kernel_rfl) ?_
            intro w27 n7
            have zn7 := n7.z
            have b25 := n7.c
            replace U0 := U0.e0 n7.e
            replace U1 := U1.e0 n7.e
            replace B := B.e0 n7.e
            replace BL := BL.e0 n7.e
            replace b4 := b4.e0 n7.e
            replace b5 := b5.e0 n7.e
            replace X0 := X0.e0 n7.e
            replace X1 := X1.e0 n7.e
            replace Y0 := Y0.e0 n7.e
            replace Y1 := Y1.e0 n7.e
            replace D := D.e0 n7.e
            replace b23 := b23.e0 n7.e
            simp only [List.set_cons_zero, List.set_cons_succ]
            refine xStoreR 44 _ _ rfl w26.heap.size 44 (certL 0 (List.replicate 32 0) 0) 0 (certL 0 (List.replicate 32 0) 0) (by kernel_rfl) (by kernel_rfl) b25 (by rw [certL_len _ _ _ z32]; kernel_rfl) (by simp only [certL_len _ _ _ z32, certL_len _ _ _ z32]; omega) (certL_one _ _ _) (certL 0 (List.replicate 32 0) 0) (certL_whole _ _ _ _ _ _ z32 z32) ?_
            intro w28 t5
            have zt5 := t5.z
            have U0_ := U0.ev t5.e (fun i hi => show ¬ (i = w26.heap.size) by have := lU0 i hi; omega)
            have U1_ := U1.ev t5.e (fun i hi => show ¬ (i = w26.heap.size) by have := lU1 i hi; omega)
            have B_ := B.ev t5.e (fun i hi => show ¬ (i = w26.heap.size) by have := lB i hi; omega)
            have BL_ := BL.ev t5.e (fun i h => show w.heap.size ≤ i by have h : i = w26.heap.size := h; omega)
            have b4_ := b4.ev t5.e (show ¬ (w.heap.size = w26.heap.size) by omega)
            have b5_ := b5.ev t5.e (show ¬ (w1.heap.size = w26.heap.size) by omega)
            have X0_ := X0.ev t5.e (fun i hi => show ¬ (i = w26.heap.size) by have := lX0 i hi; omega)
            have X1_ := X1.ev t5.e (fun i hi => show ¬ (i = w26.heap.size) by have := lX1 i hi; omega)
            have Y0_ := Y0.ev t5.e (fun i hi => show ¬ (i = w26.heap.size) by have := lY0 i hi; omega)
            have Y1_ := Y1.ev t5.e (fun i hi => show ¬ (i = w26.heap.size) by have := lY1 i hi; omega)
            have D_ := D.ev t5.e (fun i hi => show ¬ (i = w26.heap.size) by have := lD i hi; omega)
            have b23_ := b23.ev t5.e (show ¬ (w23.heap.size = w26.heap.size) by omega)
            replace U0 := U0_; clear U0_
            replace U1 := U1_; clear U1_
            replace B := B_; clear B_
            replace BL := BL_; clear BL_
            replace b4 := b4_; clear b4_
            replace b5 := b5_; clear b5_
            replace X0 := X0_; clear X0_
            replace X1 := X1_; clear X1_
            replace Y0 := Y0_; clear Y0_
            replace Y1 := Y1_; clear Y1_
            replace D := D_; clear D_
            replace b23 := b23_; clear b23_
            replace b25 : Cel w28 w26.heap.size 44 (certL 0 (List.replicate 32 0) 0) := t5.c
            clear t5
            refine sv 26 (.int .i64 180) .of ?_
            simp only [List.set_cons_zero, List.set_cons_succ]
            refine wpList_nil ?_
            refine hK20 _ _ ?_
            refine wp_seq_k fun K21 hK21 => ?_
            refine wp_seq_k fun K22 hK22 => ?_
            refine cPlain ?_
            refine sv 173 (.slice ay0 (okv (rightL q0 x0) (listB q0 x0)).length cy0) .of ?_
            simp only [List.set_cons_zero, List.set_cons_succ]
            refine sv 174 (.int .i64 ((okv (rightL q0 x0) (listB q0 x0)).length : Int)) .of ?_
            simp only [List.set_cons_zero, List.set_cons_succ]
            refine sv 175 (.bool false) (Val.cmp .eql 3 _ (.tmp 174) _ rfl .i64 ((okv (rightL q0 x0) (listB q0 x0)).length : Int) 0 (by kernel_rfl) (by kernel_rfl) (by simp) _ (decide_eq_false (by omega))) ?_
            simp only [List.set_cons_zero, List.set_cons_succ]
            refine sv 176 (.bool false) .of ?_
            simp only [List.set_cons_zero, List.set_cons_succ]
            refine sv 177 (.int .i64 0) .of ?_
            simp only [List.set_cons_zero, List.set_cons_succ]
            refine sv 178 (.bool false) (Val.cmp .neq 48 _ (.tmp 177) _ rfl .i64 0 0 (by kernel_rfl) (by kernel_rfl) (by simp) _ rfl) ?_
            simp only [List.set_cons_zero, List.set_cons_succ]
            refine sv 179 (.bool false) .of ?_
            simp only [List.set_cons_zero, List.set_cons_succ]
            refine sv 180 (.bool false) .of ?_
            simp only [List.set_cons_zero, List.set_cons_succ]
            refine sv 181 (.agg #[.int .i64 q0, .slice ad x0.length cd]) (Val.cel 38 _ rfl 0 2 (by kernel_rfl) b23 _ Try.underlying38 rfl (by kernel_rfl) (by simp) [.int .i64 q0, .slice ad x0.length cd] rfl) ?_
            simp only [List.set_cons_zero, List.set_cons_succ]
            refine sv 182 (.pointer (some ⟨w1.heap.size, 0, none⟩)) .of ?_
            simp only [List.set_cons_zero, List.set_cons_succ]
            refine sv 183 (.agg #[.int .i64 q0, .slice pa0 x0.length pc0]) (Val.cel 38 _ rfl 0 2 (by kernel_rfl) b5 _ Try.underlying38 rfl (by kernel_rfl) (by simp) [.int .i64 q0, .slice pa0 x0.length pc0] rfl) ?_
            simp only [List.set_cons_zero, List.set_cons_succ]
            refine xCall 184 25 #[.agg #[.int .i64 q0, .slice ad x0.length cd], .agg #[.int .i64 q0, .slice pa0 x0.length pc0]] (by kernel_rfl) ?_
            refine (samelist_any q0 q0 _ _ x0 x0 w28 D U0).mono ?_
            rintro en w29 ⟨he, hb1⟩
            rw [decide_eq_true (show q0 = q0 ∧ x0 = x0 from ⟨rfl, rfl⟩)] at he
            subst he
            have e17 := belE0 hb1
            have ze17 := e17.size
            replace U0 := U0.e0 e17
            replace U1 := U1.e0 e17
            replace B := B.e0 e17
            replace BL := BL.e0 e17
            replace b4 := b4.e0 e17
            replace b5 := b5.e0 e17
            replace X0 := X0.e0 e17
            replace X1 := X1.e0 e17
            replace Y0 := Y0.e0 e17
            replace Y1 := Y1.e0 e17
            replace D := D.e0 e17
            replace b23 := b23.e0 e17
            replace b25 := b25.e0 e17
            clear e17
            refine ⟨.bool true, rfl, ?_⟩
            simp only [List.set_cons_zero, List.set_cons_succ]
            refine sv 185 (.bool false) .of ?_
            simp only [List.set_cons_zero, List.set_cons_succ]
            refine sv 186 (.bool false) .of ?_
            simp only [List.set_cons_zero, List.set_cons_succ]
            refine sv 187 (.bool false) .of ?_
            simp only [List.set_cons_zero, List.set_cons_succ]
            refine sv 188 (.int .i64 180) .of ?_
            simp only [List.set_cons_zero, List.set_cons_succ]
            refine sv 189 (.bool false) (Val.cmp .neq 48 _ (.tmp 188) _ rfl .i64 180 180 (by kernel_rfl) (by kernel_rfl) (by simp) _ rfl) ?_
            simp only [List.set_cons_zero, List.set_cons_succ]
            refine sv 190 (.bool false) .of ?_
            simp only [List.set_cons_zero, List.set_cons_succ]
            refine wpList_nil ?_
            refine hK22 _ _ ?_
            refine cF ?_
            refine wp_skip ?_
            refine hK21 _ _ ?_
            refine wp_seq_k fun K23 hK23 => ?_
            refine cPlain ?_
            refine sv 192 (.slice ay0 (okv (rightL q0 x0) (listB q0 x0)).length cy0) .of ?_
            simp only [List.set_cons_zero, List.set_cons_succ]
            refine sv 193 (.int .u16 at_) .of ?_
            simp only [List.set_cons_zero, List.set_cons_succ]
            refine sv 194 (.int .i64 at_) (Val.conv64 _ _ _ rfl Try.underlying47 Try.underlying3 at_ (by kernel_rfl) (by omega)) ?_
            simp only [List.set_cons_zero, List.set_cons_succ]
            refine sv 195 (.slice ay0 (okv (rightL q0 x0) (listB q0 x0)).length cy0) .of ?_
            simp only [List.set_cons_zero, List.set_cons_succ]
            refine sv 196 (.int .i64 ((okv (rightL q0 x0) (listB q0 x0)).length : Int)) .of ?_
            simp only [List.set_cons_zero, List.set_cons_succ]
            refine sv 197 (.int .i64 ((at_.toNat % (okv (rightL q0 x0) (listB q0 x0)).length : Nat) : Int)) (rem_val _ _ _ _ rfl at_ (okv (rightL q0 x0) (listB q0 x0)).length hat.1 (by kernel_rfl) (by kernel_rfl) hpy) ?_
            simp only [List.set_cons_zero, List.set_cons_succ]
            refine sv 198 (sliceV (.slice ay0 (okv (rightL q0 x0) (listB q0 x0)).length cy0) 0 (at_.toNat % (okv (rightL q0 x0) (listB q0 x0)).length)) (Val.slc 28 (.tmp 192) none (some (.tmp 197)) rfl (.slice ay0 (okv (rightL q0 x0) (listB q0 x0)).length cy0) (by kernel_rfl) Y0 0 (at_.toNat % (okv (rightL q0 x0) (listB q0 x0)).length) (.inr ⟨rfl, rfl⟩) (.inl (by kernel_rfl)) (Nat.zero_le _) (Nat.le_of_lt (Nat.mod_lt _ hpy)) Try.underlying28 (by kernel_rfl)) ?_
            simp only [List.set_cons_zero, List.set_cons_succ]
            refine xCall 199 27 #[sliceV (.slice ay0 (okv (rightL q0 x0) (listB q0 x0)).length cy0) 0 (at_.toNat % (okv (rightL q0 x0) (listB q0 x0)).length)] (by kernel_rfl) ?_
            refine (readlist_any _ ((okv (rightL q0 x0) (listB q0 x0)).take (at_.toNat % (okv (rightL q0 x0) (listB q0 x0)).length)) (take_bytes bytes_list _) w29 (by simpa using Y0.slice 0 (at_.toNat % (okv (rightL q0 x0) (listB q0 x0)).length) (Nat.zero_le _) (Nat.le_of_lt (Nat.mod_lt _ hpy)))).mono ?_
            rintro en w30 ⟨he, hb1⟩
            rw [list_cut c162] at he
            replace he : en = .returned (.tuple #[.agg #[.int .i64 0, .slice none 0 0], .int .i64 180]) := he
            subst he
            have e18 := belE0 hb1
            have ze18 := e18.size
            replace U0 := U0.e0 e18
            replace U1 := U1.e0 e18
            replace B := B.e0 e18
            replace BL := BL.e0 e18
            replace b4 := b4.e0 e18
            replace b5 := b5.e0 e18
            replace X0 := X0.e0 e18
            replace X1 := X1.e0 e18
            replace Y0 := Y0.e0 e18
            replace Y1 := Y1.e0 e18
            replace D := D.e0 e18
            replace b23 := b23.e0 e18
            replace b25 := b25.e0 e18
            clear e18
            refine ⟨.tuple #[.agg #[.int .i64 0, .slice none 0 0], .int .i64 180], rfl, ?_⟩
            simp only [List.set_cons_zero, List.set_cons_succ]
            refine sv 191 (.tuple #[.agg #[.int .i64 0, .slice none 0 0], .int .i64 180]) .of ?_
            simp only [List.set_cons_zero, List.set_cons_succ]
            refine sv 200 (.agg #[.int .i64 0, .slice none 0 0]) .of ?_
            simp only [List.set_cons_zero, List.set_cons_succ]
            refine sv 201 (.int .i64 180) .of ?_
            simp only [List.set_cons_zero, List.set_cons_succ]
            refine xAlloc 27 38 [.int .i64 0, .slice none 0 0] rfl (by kernel_rfl) ?_
            intro w31 n8
            have zn8 := n8.z
            have b27 := n8.c
            replace U0 := U0.e0 n8.e
            replace U1 := U1.e0 n8.e
            replace B := B.e0 n8.e
            replace BL := BL.e0 n8.e
            replace b4 := b4.e0 n8.e
            replace b5 := b5.e0 n8.e
            replace X0 := X0.e0 n8.e
            replace X1 := X1.e0 n8.e
            replace Y0 := Y0.e0 n8.e
            replace Y1 := Y1.e0 n8.e
            replace D := D.e0 n8.e
            replace b23 := b23.e0 n8.e
            replace b25 := b25.e0 n8.e
            simp only [List.set_cons_zero, List.set_cons_succ]
            refine xStoreR 38 (.tmp 27) (.tmp 200) rfl w30.heap.size 38 [.int .i64 0, .slice none 0 0] 0 [.int .i64 0, .slice none 0 0] (by kernel_rfl) (by kernel_rfl) b27 (by kernel_rfl) (by simp) rfl [.int .i64 0, .slice none 0 0] rfl ?_
            intro w32 t6
            have zt6 := t6.z
            have U0_ := U0.ev t6.e (fun i hi => show ¬ (i = w30.heap.size) by have := lU0 i hi; omega)
            have U1_ := U1.ev t6.e (fun i hi => show ¬ (i = w30.heap.size) by have := lU1 i hi; omega)
            have B_ := B.ev t6.e (fun i hi => show ¬ (i = w30.heap.size) by have := lB i hi; omega)
            have BL_ := BL.ev t6.e (fun i h => show w.heap.size ≤ i by have h : i = w30.heap.size := h; omega)
            have b4_ := b4.ev t6.e (show ¬ (w.heap.size = w30.heap.size) by omega)
            have b5_ := b5.ev t6.e (show ¬ (w1.heap.size = w30.heap.size) by omega)
            have X0_ := X0.ev t6.e (fun i hi => show ¬ (i = w30.heap.size) by have := lX0 i hi; omega)
            have X1_ := X1.ev t6.e (fun i hi => show ¬ (i = w30.heap.size) by have := lX1 i hi; omega)
            have Y0_ := Y0.ev t6.e (fun i hi => show ¬ (i = w30.heap.size) by have := lY0 i hi; omega)
            have Y1_ := Y1.ev t6.e (fun i hi => show ¬ (i = w30.heap.size) by have := lY1 i hi; omega)
            have D_ := D.ev t6.e (fun i hi => show ¬ (i = w30.heap.size) by have := lD i hi; omega)
            have b23_ := b23.ev t6.e (show ¬ (w23.heap.size = w30.heap.size) by omega)
            have b25_ := b25.ev t6.e (show ¬ (w26.heap.size = w30.heap.size) by omega)
            replace U0 := U0_; clear U0_
            replace U1 := U1_; clear U1_
            replace B := B_; clear B_
            replace BL := BL_; clear BL_
            replace b4 := b4_; clear b4_
            replace b5 := b5_; clear b5_
            replace X0 := X0_; clear X0_
            replace X1 := X1_; clear X1_
            replace Y0 := Y0_; clear Y0_
            replace Y1 := Y1_; clear Y1_
            replace D := D_; clear D_
            replace b23 := b23_; clear b23_
            replace b25 := b25_; clear b25_
            replace b27 : Cel w32 w30.heap.size 38 [.int .i64 0, .slice none 0 0] := t6.c
            clear t6
            refine sv 28 (.int .i64 180) .of ?_
            simp only [List.set_cons_zero, List.set_cons_succ]
            refine wpList_nil ?_
            refine hK23 _ _ ?_
            refine wp_seq_k fun K24 hK24 => ?_
            refine cPlain ?_
            refine sv 202 (.int .i64 180) .of ?_
            simp only [List.set_cons_zero, List.set_cons_succ]
            refine sv 203 (.bool false) (Val.cmp .neq 48 _ (.tmp 202) _ rfl .i64 180 180 (by kernel_rfl) (by kernel_rfl) (by simp) _ rfl) ?_
            simp only [List.set_cons_zero, List.set_cons_succ]
            refine wpList_nil ?_
            refine hK24 _ _ ?_
            refine cF ?_
            refine wp_skip ?_
            exact ⟨cutE, U0, U1, B, BL, b4, b5, X0, X1, Y0, Y1, by omega⟩
          · skip
            refine wp_skip ?_
            exact ⟨cutE, U0, U1, B, BL, b4, b5, X0, X1, Y0, Y1, by omega⟩
        · skip
          clear U0 U1 B BL b4 b5 X0 X1 Y0 Y1
          rintro a_ wJ4 ⟨⟨s4, rfl⟩, U0, U1, B, BL, b4, b5, X0, X1, Y0, Y1, zJ4⟩
          refine cCut (fun A_ w_ => ((∃ s5 : Nat → Value, A_ = ⟨[.agg (certL k0 r0 h0 ++ certL k1 r1 h1).toArray, .agg #[.int .i64 q0, .slice pa0 x0.length pc0, .int .i64 q1, .slice pa1 x1.length pc1], .slice ab bs.length cb, .int .u16 at_, .pointer (some ⟨w.heap.size, 0, none⟩), .pointer (some ⟨w1.heap.size, 0, none⟩), undef, undef, (s5 8), .slice ax0 (okv (rightC k0 h0) (certB k0 r0 h0)).length cx0, .int .i64 (ecF (rightC k0 h0)), .slice ax1 (okv (rightC k1 h1) (certB k1 r1 h1)).length cx1, .int .i64 (ecF (rightC k1 h1)), .slice ay0 (okv (rightL q0 x0) (listB q0 x0)).length cy0, .int .i64 (ecF (rightL q0 x0)), .slice ay1 (okv (rightL q1 x1) (listB q1 x1)).length cy1, .int .i64 (ecF (rightL q1 x1)), (s3 17), (s3 18), (s3 19), (s3 20), (s3 21), (s3 22), (s4 23), (s4 24), (s4 25), (s4 26), (s4 27), (s4 28), (s5 29), (s5 30), (s5 31), (s5 32), undef, undef, undef, undef, (s1 37), (s1 38), (s1 39), (s1 40), (s1 41), (s1 42), (s1 43), (s1 44), (s1 45), (s1 46), (s1 47), (s1 48), (s1 49), (s1 50), (s1 51), (s1 52), (s1 53), (s1 54), .tuple #[.slice ax0 (okv (rightC k0 h0) (certB k0 r0 h0)).length cx0, .int .i64 (ecF (rightC k0 h0))], .pointer (some ⟨w.heap.size, 0, none⟩), .agg (certL k0 r0 h0).toArray, .tuple #[.slice ax0 (okv (rightC k0 h0) (certB k0 r0 h0)).length cx0, .int .i64 (ecF (rightC k0 h0))], .slice ax0 (okv (rightC k0 h0) (certB k0 r0 h0)).length cx0, .int .i64 (ecF (rightC k0 h0)), .tuple #[.slice ax1 (okv (rightC k1 h1) (certB k1 r1 h1)).length cx1, .int .i64 (ecF (rightC k1 h1))], .pointer (some ⟨w.heap.size, 34, none⟩), .agg (certL k1 r1 h1).toArray, .tuple #[.slice ax1 (okv (rightC k1 h1) (certB k1 r1 h1)).length cx1, .int .i64 (ecF (rightC k1 h1))], .slice ax1 (okv (rightC k1 h1) (certB k1 r1 h1)).length cx1, .int .i64 (ecF (rightC k1 h1)), .tuple #[.slice ay0 (okv (rightL q0 x0) (listB q0 x0)).length cy0, .int .i64 (ecF (rightL q0 x0))], .pointer (some ⟨w1.heap.size, 0, none⟩), .agg #[.int .i64 q0, .slice pa0 x0.length pc0], .tuple #[.slice ay0 (okv (rightL q0 x0) (listB q0 x0)).length cy0, .int .i64 (ecF (rightL q0 x0))], .slice ay0 (okv (rightL q0 x0) (listB q0 x0)).length cy0, .int .i64 (ecF (rightL q0 x0)), .tuple #[.slice ay1 (okv (rightL q1 x1) (listB q1 x1)).length cy1, .int .i64 (ecF (rightL q1 x1))], .pointer (some ⟨w1.heap.size, 2, none⟩), .agg #[.int .i64 q1, .slice pa1 x1.length pc1], .tuple #[.slice ay1 (okv (rightL q1 x1) (listB q1 x1)).length cy1, .int .i64 (ecF (rightL q1 x1))], .slice ay1 (okv (rightL q1 x1) (listB q1 x1)).length cy1, .int .i64 (ecF (rightL q1 x1)), (s2 79), (s2 80), (s2 81), (s2 82), (s2 83), (s2 84), (s2 85), (s2 86), (s2 87), (s2 88), (s2 89), (s2 90), (s2 91), (s2 92), (s2 93), (s2 94), (s2 95), (s2 96), (s2 97), (s2 98), (s2 99), (s2 100), (s2 101), (s2 102), (s2 103), (s2 104), (s2 105), (s2 106), (s2 107), (s2 108), (s2 109), (s2 110), (s2 111), (s2 112), (s2 113), (s2 114), (s2 115), (s2 116), (s2 117), (s2 118), (s3 119), (s3 120), (s3 121), (s3 122), (s3 123), (s3 124), (s3 125), (s3 126), (s3 127), (s3 128), (s3 129), (s3 130), (s3 131), (s3 132), (s3 133), (s3 134), (s3 135), (s3 136), (s3 137), (s3 138), (s3 139), (s3 140), (s3 141), (s3 142), (s3 143), (s3 144), (s3 145), (s3 146), (s3 147), (s3 148), (s3 149), (s3 150), (s3 151), (s3 152), (s3 153), (s3 154), (s3 155), (s3 156), (s3 157), (s3 158), (s3 159), (s3 160), (s4 161), (s4 162), (s4 163), (s4 164), (s4 165), (s4 166), (s4 167), (s4 168), (s4 169), (s4 170), (s4 171), (s4 172), (s4 173), (s4 174), (s4 175), (s4 176), (s4 177), (s4 178), (s4 179), (s4 180), (s4 181), (s4 182), (s4 183), (s4 184), (s4 185), (s4 186), (s4 187), (s4 188), (s4 189), (s4 190), (s4 191), (s4 192), (s4 193), (s4 194), (s4 195), (s4 196), (s4 197), (s4 198), (s4 199), (s4 200), (s4 201), (s4 202), (s4 203), (s5 204), (s5 205), (s5 206), (s5 207), (s5 208), (s5 209), (s5 210), (s5 211), (s5 212), (s5 213), (s5 214), (s5 215), (s5 216), (s5 217), (s5 218), (s5 219), (s5 220), (s5 221), (s5 222), (s5 223), (s5 224), undef, undef, undef, undef, undef, undef, undef, undef, undef, undef, undef, undef, undef, undef, undef, undef, undef, undef, undef, undef, undef, undef].toArray, []⟩) ∧ SL .i64 w_ (.slice pa0 x0.length pc0) x0 ∧ SL .i64 w_ (.slice pa1 x1.length pc1) x1 ∧ SL .u8 w_ (.slice ab bs.length cb) bs ∧ Bl w.heap.size w w_ ∧ Cel w_ w.heap.size 45 (certL k0 r0 h0 ++ certL k1 r1 h1) ∧ Cel w_ w1.heap.size 46 [.int .i64 q0, .slice pa0 x0.length pc0, .int .i64 q1, .slice pa1 x1.length pc1] ∧ SL .u8 w_ (.slice ax0 (okv (rightC k0 h0) (certB k0 r0 h0)).length cx0) (okv (rightC k0 h0) (certB k0 r0 h0)) ∧ SL .u8 w_ (.slice ax1 (okv (rightC k1 h1) (certB k1 r1 h1)).length cx1) (okv (rightC k1 h1) (certB k1 r1 h1)) ∧ SL .u8 w_ (.slice ay0 (okv (rightL q0 x0) (listB q0 x0)).length cy0) (okv (rightL q0 x0) (listB q0 x0)) ∧ SL .u8 w_ (.slice ay1 (okv (rightL q1 x1) (listB q1 x1)).length cy1) (okv (rightL q1 x1) (listB q1 x1)) ∧ wJ4.heap.size ≤ w_.heap.size)) ?_ ?_
          · skip
            refine wp_seq_k fun K25 hK25 => ?_
            refine cPlain ?_
            refine sv 205 (.slice ab bs.length cb) .of ?_
            simp only [List.set_cons_zero, List.set_cons_succ]
            refine xCall 206 26 #[.slice ab bs.length cb] (by kernel_rfl) ?_
            refine (read_any _ bs hbs wJ4 B).mono ?_
            rintro en w33 ⟨he, hb1⟩
            rcases readC_cases bs with hq | ⟨kd, rd, hd, hq⟩
            · skip
              rw [hq] at he
              replace he : en = .returned (.tuple #[.agg (certCells 0 (List.replicate 32 0) 0), .int .i64 180]) := he
              subst he
              have e19 := belE0 hb1
              have ze19 := e19.size
              replace U0 := U0.e0 e19
              replace U1 := U1.e0 e19
              replace B := B.e0 e19
              replace BL := BL.e0 e19
              replace b4 := b4.e0 e19
              replace b5 := b5.e0 e19
              replace X0 := X0.e0 e19
              replace X1 := X1.e0 e19
              replace Y0 := Y0.e0 e19
              replace Y1 := Y1.e0 e19
              clear e19
              refine ⟨.tuple #[.agg (certL 0 (List.replicate 32 0) 0).toArray, .int .i64 180], rfl, ?_⟩
              simp only [List.set_cons_zero, List.set_cons_succ]
              refine sv 204 (.tuple #[.agg (certL 0 (List.replicate 32 0) 0).toArray, .int .i64 180]) .of ?_
              simp only [List.set_cons_zero, List.set_cons_succ]
              refine sv 207 (.agg (certL 0 (List.replicate 32 0) 0).toArray) .of ?_
              simp only [List.set_cons_zero, List.set_cons_succ]
              refine sv 208 (.int .i64 180) .of ?_
              simp only [List.set_cons_zero, List.set_cons_succ]
              refine xAlloc 29 44 (certL 0 (List.replicate 32 0) 0) rfl (by kernel_rfl) ?_
              intro w34 n9
              have zn9 := n9.z
              have b29 := n9.c
              replace U0 := U0.e0 n9.e
              replace U1 := U1.e0 n9.e
              replace B := B.e0 n9.e
              replace BL := BL.e0 n9.e
              replace b4 := b4.e0 n9.e
              replace b5 := b5.e0 n9.e
              replace X0 := X0.e0 n9.e
              replace X1 := X1.e0 n9.e
              replace Y0 := Y0.e0 n9.e
              replace Y1 := Y1.e0 n9.e
              simp only [List.set_cons_zero, List.set_cons_succ]
              refine xStoreR 44 _ _ rfl w33.heap.size 44 (certL 0 (List.replicate 32 0) 0) 0 (certL 0 (List.replicate 32 0) 0) (by kernel_rfl) (by kernel_rfl) b29 (by rw [certL_len _ _ _ z32]; kernel_rfl) (by simp only [certL_len _ _ _ z32, certL_len _ _ _ z32]; omega) (certL_one _ _ _) (certL 0 (List.replicate 32 0) 0) (certL_whole _ _ _ _ _ _ z32 z32) ?_
              intro w35 t7
              have zt7 := t7.z
              have U0_ := U0.ev t7.e (fun i hi => show ¬ (i = w33.heap.size) by have := lU0 i hi; omega)
              have U1_ := U1.ev t7.e (fun i hi => show ¬ (i = w33.heap.size) by have := lU1 i hi; omega)
              have B_ := B.ev t7.e (fun i hi => show ¬ (i = w33.heap.size) by have := lB i hi; omega)
              have BL_ := BL.ev t7.e (fun i h => show w.heap.size ≤ i by have h : i = w33.heap.size := h; omega)
              have b4_ := b4.ev t7.e (show ¬ (w.heap.size = w33.heap.size) by omega)
              have b5_ := b5.ev t7.e (show ¬ (w1.heap.size = w33.heap.size) by omega)
              have X0_ := X0.ev t7.e (fun i hi => show ¬ (i = w33.heap.size) by have := lX0 i hi; omega)
              have X1_ := X1.ev t7.e (fun i hi => show ¬ (i = w33.heap.size) by have := lX1 i hi; omega)
              have Y0_ := Y0.ev t7.e (fun i hi => show ¬ (i = w33.heap.size) by have := lY0 i hi; omega)
              have Y1_ := Y1.ev t7.e (fun i hi => show ¬ (i = w33.heap.size) by have := lY1 i hi; omega)
              replace U0 := U0_; clear U0_
              replace U1 := U1_; clear U1_
              replace B := B_; clear B_
              replace BL := BL_; clear BL_
              replace b4 := b4_; clear b4_
              replace b5 := b5_; clear b5_
              replace X0 := X0_; clear X0_
              replace X1 := X1_; clear X1_
              replace Y0 := Y0_; clear Y0_
              replace Y1 := Y1_; clear Y1_
              replace b29 : Cel w35 w33.heap.size 44 (certL 0 (List.replicate 32 0) 0) := t7.c
              clear t7
              refine sv 30 (.int .i64 180) .of ?_
              simp only [List.set_cons_zero, List.set_cons_succ]
              refine wpList_nil ?_
              refine hK25 _ _ ?_
              refine wp_seq_k fun K26 hK26 => ?_
              refine cPlain ?_
              refine sv 209 (.int .i64 180) .of ?_
              simp only [List.set_cons_zero, List.set_cons_succ]
              refine sv 210 (.bool false) (Val.cmp .eql 48 _ (.tmp 209) _ rfl .i64 180 0 (by kernel_rfl) (by kernel_rfl) (by simp) _ rfl) ?_
              simp only [List.set_cons_zero, List.set_cons_succ]
              refine wpList_nil ?_
              refine hK26 _ _ ?_
              refine cF ?_
              refine wp_skip ?_
              exact ⟨cutE, U0, U1, B, BL, b4, b5, X0, X1, Y0, Y1, by omega⟩
            · skip
              rw [hq] at he
              replace he : en = .returned (.tuple #[.agg (certCells kd rd hd), .int .i64 0]) := he
              subst he
              obtain ⟨gd, ld, ed⟩ := readC_get bs hbs _ _ _ hq
              have e20 := belE0 hb1
              have ze20 := e20.size
              replace U0 := U0.e0 e20
              replace U1 := U1.e0 e20
              replace B := B.e0 e20
              replace BL := BL.e0 e20
              replace b4 := b4.e0 e20
              replace b5 := b5.e0 e20
              replace X0 := X0.e0 e20
              replace X1 := X1.e0 e20
              replace Y0 := Y0.e0 e20
              replace Y1 := Y1.e0 e20
              clear e20
              refine ⟨.tuple #[.agg (certL kd rd hd).toArray, .int .i64 0], rfl, ?_⟩
              simp only [List.set_cons_zero, List.set_cons_succ]
              refine sv 204 (.tuple #[.agg (certL kd rd hd).toArray, .int .i64 0]) .of ?_
              simp only [List.set_cons_zero, List.set_cons_succ]
              refine sv 207 (.agg (certL kd rd hd).toArray) .of ?_
              simp only [List.set_cons_zero, List.set_cons_succ]
              refine sv 208 (.int .i64 0) .of ?_
              simp only [List.set_cons_zero, List.set_cons_succ]
              refine xAlloc 29 44 (certL 0 (List.replicate 32 0) 0) rfl (by kernel_rfl) ?_
              intro w36 n10
              have zn10 := n10.z
              have b29 := n10.c
              replace U0 := U0.e0 n10.e
              replace U1 := U1.e0 n10.e
              replace B := B.e0 n10.e
              replace BL := BL.e0 n10.e
              replace b4 := b4.e0 n10.e
              replace b5 := b5.e0 n10.e
              replace X0 := X0.e0 n10.e
              replace X1 := X1.e0 n10.e
              replace Y0 := Y0.e0 n10.e
              replace Y1 := Y1.e0 n10.e
              simp only [List.set_cons_zero, List.set_cons_succ]
              refine xStoreR 44 _ _ rfl w33.heap.size 44 (certL 0 (List.replicate 32 0) 0) 0 (certL kd rd hd) (by kernel_rfl) (by kernel_rfl) b29 (by rw [certL_len _ _ _ ld]; kernel_rfl) (by simp only [certL_len _ _ _ z32, certL_len _ _ _ ld]; omega) (certL_one _ _ _) (certL kd rd hd) (certL_whole _ _ _ _ _ _ z32 ld) ?_
              intro w37 t8
              have zt8 := t8.z
              have U0_ := U0.ev t8.e (fun i hi => show ¬ (i = w33.heap.size) by have := lU0 i hi; omega)
              have U1_ := U1.ev t8.e (fun i hi => show ¬ (i = w33.heap.size) by have := lU1 i hi; omega)
              have B_ := B.ev t8.e (fun i hi => show ¬ (i = w33.heap.size) by have := lB i hi; omega)
              have BL_ := BL.ev t8.e (fun i h => show w.heap.size ≤ i by have h : i = w33.heap.size := h; omega)
              have b4_ := b4.ev t8.e (show ¬ (w.heap.size = w33.heap.size) by omega)
              have b5_ := b5.ev t8.e (show ¬ (w1.heap.size = w33.heap.size) by omega)
              have X0_ := X0.ev t8.e (fun i hi => show ¬ (i = w33.heap.size) by have := lX0 i hi; omega)
              have X1_ := X1.ev t8.e (fun i hi => show ¬ (i = w33.heap.size) by have := lX1 i hi; omega)
              have Y0_ := Y0.ev t8.e (fun i hi => show ¬ (i = w33.heap.size) by have := lY0 i hi; omega)
              have Y1_ := Y1.ev t8.e (fun i hi => show ¬ (i = w33.heap.size) by have := lY1 i hi; omega)
              replace U0 := U0_; clear U0_
              replace U1 := U1_; clear U1_
              replace B := B_; clear B_
              replace BL := BL_; clear BL_
              replace b4 := b4_; clear b4_
              replace b5 := b5_; clear b5_
              replace X0 := X0_; clear X0_
              replace X1 := X1_; clear X1_
              replace Y0 := Y0_; clear Y0_
              replace Y1 := Y1_; clear Y1_
              replace b29 : Cel w37 w33.heap.size 44 (certL kd rd hd) := t8.c
              clear t8
              refine sv 30 (.int .i64 0) .of ?_
              simp only [List.set_cons_zero, List.set_cons_succ]
              refine wpList_nil ?_
              refine hK25 _ _ ?_
              refine wp_seq_k fun K27 hK27 => ?_
              refine cPlain ?_
              refine sv 209 (.int .i64 0) .of ?_
              simp only [List.set_cons_zero, List.set_cons_succ]
              refine sv 210 (.bool true) (Val.cmp .eql 48 _ (.tmp 209) _ rfl .i64 0 0 (by kernel_rfl) (by kernel_rfl) (by simp) _ rfl) ?_
              simp only [List.set_cons_zero, List.set_cons_succ]
              refine wpList_nil ?_
              refine hK27 _ _ ?_
              refine cT ?_
              refine wp_seq_k fun K28 hK28 => ?_
              refine cPlain ?_
              refine sv 212 (.agg (certL kd rd hd).toArray) (Val.cel 44 _ rfl 0 34 (by kernel_rfl) b29 _ Try.underlying44 rfl (by kernel_rfl) (by rw [certL_len _ _ _ ld]; omega) _ (certL_seg _ _ _ ld)) ?_
              simp only [List.set_cons_zero, List.set_cons_succ]
              refine xCall 213 23 #[.agg (certL kd rd hd).toArray] (by kernel_rfl) ?_
              refine (certbytes_any kd hd rd ld w37).mono ?_
              rintro en w38 hp
              obtain ⟨az, cz, he, hb1, ZZ, lZ⟩ := hp.uni
              clear hp
              replace ed : bs = ([1] ++ uintsB [kd, hd]) ++ rd := ed
              rw [okv_true gd, ← ed] at he ZZ lZ
              rw [ec_true gd] at he
              subst he
              have e21 := belE0 hb1
              have ze21 := e21.size
              replace U0 := U0.e0 e21
              replace U1 := U1.e0 e21
              replace B := B.e0 e21
              replace BL := BL.e0 e21
              replace b4 := b4.e0 e21
              replace b5 := b5.e0 e21
              replace X0 := X0.e0 e21
              replace X1 := X1.e0 e21
              replace Y0 := Y0.e0 e21
              replace Y1 := Y1.e0 e21
              replace b29 := b29.e0 e21
              clear e21
              refine ⟨.tuple #[.slice az bs.length cz, .int .i64 0], rfl, ?_⟩
              simp only [List.set_cons_zero, List.set_cons_succ]
              refine sv 211 (.tuple #[.slice az bs.length cz, .int .i64 0]) .of ?_
              simp only [List.set_cons_zero, List.set_cons_succ]
              refine sv 214 (.slice az bs.length cz) .of ?_
              simp only [List.set_cons_zero, List.set_cons_succ]
              refine sv 215 (.int .i64 0) .of ?_
              simp only [List.set_cons_zero, List.set_cons_succ]
              refine sv 31 (.slice az bs.length cz) .of ?_
              simp only [List.set_cons_zero, List.set_cons_succ]
              refine sv 32 (.int .i64 0) .of ?_
              simp only [List.set_cons_zero, List.set_cons_succ]
              refine wpList_nil ?_
              refine hK28 _ _ ?_
              refine wp_seq_k fun K29 hK29 => ?_
              refine cPlain ?_
              refine sv 216 (.int .i64 0) .of ?_
              simp only [List.set_cons_zero, List.set_cons_succ]
              refine sv 217 (.bool false) (Val.cmp .neq 48 _ (.tmp 216) _ rfl .i64 0 0 (by kernel_rfl) (by kernel_rfl) (by simp) _ rfl) ?_
              simp only [List.set_cons_zero, List.set_cons_succ]
              refine sv 218 (.bool false) .of ?_
              simp only [List.set_cons_zero, List.set_cons_succ]
              refine sv 219 (.slice az bs.length cz) .of ?_
              simp only [List.set_cons_zero, List.set_cons_succ]
              refine sv 220 (.string (strOf bs)) (Val.str 28 9 5 _ rfl Try.underlying28 Try.underlying5 Try.underlying9 (.slice az bs.length cz) bs (by kernel_rfl) ZZ) ?_
              simp only [List.set_cons_zero, List.set_cons_succ]
              refine sv 221 (.slice ab bs.length cb) .of ?_
              simp only [List.set_cons_zero, List.set_cons_succ]
              refine sv 222 (.string (strOf bs)) (Val.str 28 9 5 _ rfl Try.underlying28 Try.underlying5 Try.underlying9 (.slice ab bs.length cb) bs (by kernel_rfl) B) ?_
              simp only [List.set_cons_zero, List.set_cons_succ]
              refine sv 223 (.bool false) (Val.eqStr .neq 9 _ (.tmp 220) (.tmp 222) rfl bs bs (by kernel_rfl) (by kernel_rfl) hbs hbs (.inr rfl) _ (by simp)) ?_
              simp only [List.set_cons_zero, List.set_cons_succ]
              refine sv 224 (.bool false) .of ?_
              simp only [List.set_cons_zero, List.set_cons_succ]
              refine wpList_nil ?_
              refine hK29 _ _ ?_
              refine cF ?_
              refine wp_skip ?_
              exact ⟨cutE, U0, U1, B, BL, b4, b5, X0, X1, Y0, Y1, by omega⟩
          · skip
            clear U0 U1 B BL b4 b5 X0 X1 Y0 Y1
            rintro a_ wJ5 ⟨⟨s5, rfl⟩, U0, U1, B, BL, b4, b5, X0, X1, Y0, Y1, zJ5⟩
            refine cCut (fun A_ w_ => ((∃ s6 : Nat → Value, A_ = ⟨[.agg (certL k0 r0 h0 ++ certL k1 r1 h1).toArray, .agg #[.int .i64 q0, .slice pa0 x0.length pc0, .int .i64 q1, .slice pa1 x1.length pc1], .slice ab bs.length cb, .int .u16 at_, .pointer (some ⟨w.heap.size, 0, none⟩), .pointer (some ⟨w1.heap.size, 0, none⟩), undef, undef, (s6 8), .slice ax0 (okv (rightC k0 h0) (certB k0 r0 h0)).length cx0, .int .i64 (ecF (rightC k0 h0)), .slice ax1 (okv (rightC k1 h1) (certB k1 r1 h1)).length cx1, .int .i64 (ecF (rightC k1 h1)), .slice ay0 (okv (rightL q0 x0) (listB q0 x0)).length cy0, .int .i64 (ecF (rightL q0 x0)), .slice ay1 (okv (rightL q1 x1) (listB q1 x1)).length cy1, .int .i64 (ecF (rightL q1 x1)), (s3 17), (s3 18), (s3 19), (s3 20), (s3 21), (s3 22), (s4 23), (s4 24), (s4 25), (s4 26), (s4 27), (s4 28), (s5 29), (s5 30), (s5 31), (s5 32), (s6 33), (s6 34), (s6 35), (s6 36), (s1 37), (s1 38), (s1 39), (s1 40), (s1 41), (s1 42), (s1 43), (s1 44), (s1 45), (s1 46), (s1 47), (s1 48), (s1 49), (s1 50), (s1 51), (s1 52), (s1 53), (s1 54), .tuple #[.slice ax0 (okv (rightC k0 h0) (certB k0 r0 h0)).length cx0, .int .i64 (ecF (rightC k0 h0))], .pointer (some ⟨w.heap.size, 0, none⟩), .agg (certL k0 r0 h0).toArray, .tuple #[.slice ax0 (okv (rightC k0 h0) (certB k0 r0 h0)).length cx0, .int .i64 (ecF (rightC k0 h0))], .slice ax0 (okv (rightC k0 h0) (certB k0 r0 h0)).length cx0, .int .i64 (ecF (rightC k0 h0)), .tuple #[.slice ax1 (okv (rightC k1 h1) (certB k1 r1 h1)).length cx1, .int .i64 (ecF (rightC k1 h1))], .pointer (some ⟨w.heap.size, 34, none⟩), .agg (certL k1 r1 h1).toArray, .tuple #[.slice ax1 (okv (rightC k1 h1) (certB k1 r1 h1)).length cx1, .int .i64 (ecF (rightC k1 h1))], .slice ax1 (okv (rightC k1 h1) (certB k1 r1 h1)).length cx1, .int .i64 (ecF (rightC k1 h1)), .tuple #[.slice ay0 (okv (rightL q0 x0) (listB q0 x0)).length cy0, .int .i64 (ecF (rightL q0 x0))], .pointer (some ⟨w1.heap.size, 0, none⟩), .agg #[.int .i64 q0, .slice pa0 x0.length pc0], .tuple #[.slice ay0 (okv (rightL q0 x0) (listB q0 x0)).length cy0, .int .i64 (ecF (rightL q0 x0))], .slice ay0 (okv (rightL q0 x0) (listB q0 x0)).length cy0, .int .i64 (ecF (rightL q0 x0)), .tuple #[.slice ay1 (okv (rightL q1 x1) (listB q1 x1)).length cy1, .int .i64 (ecF (rightL q1 x1))], .pointer (some ⟨w1.heap.size, 2, none⟩), .agg #[.int .i64 q1, .slice pa1 x1.length pc1], .tuple #[.slice ay1 (okv (rightL q1 x1) (listB q1 x1)).length cy1, .int .i64 (ecF (rightL q1 x1))], .slice ay1 (okv (rightL q1 x1) (listB q1 x1)).length cy1, .int .i64 (ecF (rightL q1 x1)), (s2 79), (s2 80), (s2 81), (s2 82), (s2 83), (s2 84), (s2 85), (s2 86), (s2 87), (s2 88), (s2 89), (s2 90), (s2 91), (s2 92), (s2 93), (s2 94), (s2 95), (s2 96), (s2 97), (s2 98), (s2 99), (s2 100), (s2 101), (s2 102), (s2 103), (s2 104), (s2 105), (s2 106), (s2 107), (s2 108), (s2 109), (s2 110), (s2 111), (s2 112), (s2 113), (s2 114), (s2 115), (s2 116), (s2 117), (s2 118), (s3 119), (s3 120), (s3 121), (s3 122), (s3 123), (s3 124), (s3 125), (s3 126), (s3 127), (s3 128), (s3 129), (s3 130), (s3 131), (s3 132), (s3 133), (s3 134), (s3 135), (s3 136), (s3 137), (s3 138), (s3 139), (s3 140), (s3 141), (s3 142), (s3 143), (s3 144), (s3 145), (s3 146), (s3 147), (s3 148), (s3 149), (s3 150), (s3 151), (s3 152), (s3 153), (s3 154), (s3 155), (s3 156), (s3 157), (s3 158), (s3 159), (s3 160), (s4 161), (s4 162), (s4 163), (s4 164), (s4 165), (s4 166), (s4 167), (s4 168), (s4 169), (s4 170), (s4 171), (s4 172), (s4 173), (s4 174), (s4 175), (s4 176), (s4 177), (s4 178), (s4 179), (s4 180), (s4 181), (s4 182), (s4 183), (s4 184), (s4 185), (s4 186), (s4 187), (s4 188), (s4 189), (s4 190), (s4 191), (s4 192), (s4 193), (s4 194), (s4 195), (s4 196), (s4 197), (s4 198), (s4 199), (s4 200), (s4 201), (s4 202), (s4 203), (s5 204), (s5 205), (s5 206), (s5 207), (s5 208), (s5 209), (s5 210), (s5 211), (s5 212), (s5 213), (s5 214), (s5 215), (s5 216), (s5 217), (s5 218), (s5 219), (s5 220), (s5 221), (s5 222), (s5 223), (s5 224), (s6 225), (s6 226), (s6 227), (s6 228), (s6 229), (s6 230), (s6 231), (s6 232), (s6 233), (s6 234), (s6 235), (s6 236), (s6 237), (s6 238), (s6 239), (s6 240), (s6 241), (s6 242), (s6 243), (s6 244), (s6 245), undef].toArray, []⟩) ∧ SL .i64 w_ (.slice pa0 x0.length pc0) x0 ∧ SL .i64 w_ (.slice pa1 x1.length pc1) x1 ∧ SL .u8 w_ (.slice ab bs.length cb) bs ∧ Bl w.heap.size w w_ ∧ Cel w_ w.heap.size 45 (certL k0 r0 h0 ++ certL k1 r1 h1) ∧ Cel w_ w1.heap.size 46 [.int .i64 q0, .slice pa0 x0.length pc0, .int .i64 q1, .slice pa1 x1.length pc1] ∧ SL .u8 w_ (.slice ax0 (okv (rightC k0 h0) (certB k0 r0 h0)).length cx0) (okv (rightC k0 h0) (certB k0 r0 h0)) ∧ SL .u8 w_ (.slice ax1 (okv (rightC k1 h1) (certB k1 r1 h1)).length cx1) (okv (rightC k1 h1) (certB k1 r1 h1)) ∧ SL .u8 w_ (.slice ay0 (okv (rightL q0 x0) (listB q0 x0)).length cy0) (okv (rightL q0 x0) (listB q0 x0)) ∧ SL .u8 w_ (.slice ay1 (okv (rightL q1 x1) (listB q1 x1)).length cy1) (okv (rightL q1 x1) (listB q1 x1)) ∧ wJ5.heap.size ≤ w_.heap.size)) ?_ ?_
            · skip
              refine wp_seq_k fun K30 hK30 => ?_
              refine cPlain ?_
              refine sv 226 (.slice ab bs.length cb) .of ?_
              simp only [List.set_cons_zero, List.set_cons_succ]
              refine xCall 227 27 #[.slice ab bs.length cb] (by kernel_rfl) ?_
              refine (readlist_any _ bs hbs wJ5 B).mono ?_
              rintro en w39 ⟨he, hb1⟩
              rcases readL_cases bs with hq | ⟨qd, kd, hq⟩
              · skip
                rw [hq] at he
                replace he : en = .returned (.tuple #[.agg #[.int .i64 0, .slice none 0 0], .int .i64 180]) := he
                subst he
                have e22 := belE0 hb1
                have ze22 := e22.size
                replace U0 := U0.e0 e22
                replace U1 := U1.e0 e22
                replace B := B.e0 e22
                replace BL := BL.e0 e22
                replace b4 := b4.e0 e22
                replace b5 := b5.e0 e22
                replace X0 := X0.e0 e22
                replace X1 := X1.e0 e22
                replace Y0 := Y0.e0 e22
                replace Y1 := Y1.e0 e22
                clear e22
                refine ⟨.tuple #[.agg #[.int .i64 0, .slice none 0 0], .int .i64 180], rfl, ?_⟩
                simp only [List.set_cons_zero, List.set_cons_succ]
                refine sv 225 (.tuple #[.agg #[.int .i64 0, .slice none 0 0], .int .i64 180]) .of ?_
                simp only [List.set_cons_zero, List.set_cons_succ]
                refine sv 228 (.agg #[.int .i64 0, .slice none 0 0]) .of ?_
                simp only [List.set_cons_zero, List.set_cons_succ]
                refine sv 229 (.int .i64 180) .of ?_
                simp only [List.set_cons_zero, List.set_cons_succ]
                refine xAlloc 33 38 [.int .i64 0, .slice none 0 0] rfl (by kernel_rfl) ?_
                intro w40 n11
                have zn11 := n11.z
                have b33 := n11.c
                replace U0 := U0.e0 n11.e
                replace U1 := U1.e0 n11.e
                replace B := B.e0 n11.e
                replace BL := BL.e0 n11.e
                replace b4 := b4.e0 n11.e
                replace b5 := b5.e0 n11.e
                replace X0 := X0.e0 n11.e
                replace X1 := X1.e0 n11.e
                replace Y0 := Y0.e0 n11.e
                replace Y1 := Y1.e0 n11.e
                simp only [List.set_cons_zero, List.set_cons_succ]
                refine xStoreR 38 (.tmp 33) (.tmp 228) rfl w39.heap.size 38 [.int .i64 0, .slice none 0 0] 0 [.int .i64 0, .slice none 0 0] (by kernel_rfl) (by kernel_rfl) b33 (by kernel_rfl) (by simp) rfl [.int .i64 0, .slice none 0 0] rfl ?_
                intro w41 t9
                have zt9 := t9.z
                have U0_ := U0.ev t9.e (fun i hi => show ¬ (i = w39.heap.size) by have := lU0 i hi; omega)
                have U1_ := U1.ev t9.e (fun i hi => show ¬ (i = w39.heap.size) by have := lU1 i hi; omega)
                have B_ := B.ev t9.e (fun i hi => show ¬ (i = w39.heap.size) by have := lB i hi; omega)
                have BL_ := BL.ev t9.e (fun i h => show w.heap.size ≤ i by have h : i = w39.heap.size := h; omega)
                have b4_ := b4.ev t9.e (show ¬ (w.heap.size = w39.heap.size) by omega)
                have b5_ := b5.ev t9.e (show ¬ (w1.heap.size = w39.heap.size) by omega)
                have X0_ := X0.ev t9.e (fun i hi => show ¬ (i = w39.heap.size) by have := lX0 i hi; omega)
                have X1_ := X1.ev t9.e (fun i hi => show ¬ (i = w39.heap.size) by have := lX1 i hi; omega)
                have Y0_ := Y0.ev t9.e (fun i hi => show ¬ (i = w39.heap.size) by have := lY0 i hi; omega)
                have Y1_ := Y1.ev t9.e (fun i hi => show ¬ (i = w39.heap.size) by have := lY1 i hi; omega)
                replace U0 := U0_; clear U0_
                replace U1 := U1_; clear U1_
                replace B := B_; clear B_
                replace BL := BL_; clear BL_
                replace b4 := b4_; clear b4_
                replace b5 := b5_; clear b5_
                replace X0 := X0_; clear X0_
                replace X1 := X1_; clear X1_
                replace Y0 := Y0_; clear Y0_
                replace Y1 := Y1_; clear Y1_
                replace b33 : Cel w41 w39.heap.size 38 [.int .i64 0, .slice none 0 0] := t9.c
                clear t9
                refine sv 34 (.int .i64 180) .of ?_
                simp only [List.set_cons_zero, List.set_cons_succ]
                refine wpList_nil ?_
                refine hK30 _ _ ?_
                refine wp_seq_k fun K31 hK31 => ?_
                refine cPlain ?_
                refine sv 230 (.int .i64 180) .of ?_
                simp only [List.set_cons_zero, List.set_cons_succ]
                refine sv 231 (.bool false) (Val.cmp .eql 48 _ (.tmp 230) _ rfl .i64 180 0 (by kernel_rfl) (by kernel_rfl) (by simp) _ rfl) ?_
                simp only [List.set_cons_zero, List.set_cons_succ]
                refine wpList_nil ?_
                refine hK31 _ _ ?_
                refine cF ?_
                refine wp_skip ?_
                exact ⟨cutE, U0, U1, B, BL, b4, b5, X0, X1, Y0, Y1, by omega⟩
              · skip
                rw [hq] at he
                replace he : ∃ v, en = .returned (.tuple #[.agg #[.int .i64 qd, v], .int .i64 0]) ∧ Own 3 .i64 wJ5.heap.size w39 v kd := he
                obtain ⟨vd, he, D⟩ := he
                subst he
                obtain ⟨ad, cd, rfl⟩ := D.len
                have D := D.sl
                have lD := D.bd
                obtain ⟨gd, ed⟩ := readL_get bs hbs _ _ hq
                have e23 := belE0 hb1
                have ze23 := e23.size
                replace U0 := U0.e0 e23
                replace U1 := U1.e0 e23
                replace B := B.e0 e23
                replace BL := BL.e0 e23
                replace b4 := b4.e0 e23
                replace b5 := b5.e0 e23
                replace X0 := X0.e0 e23
                replace X1 := X1.e0 e23
                replace Y0 := Y0.e0 e23
                replace Y1 := Y1.e0 e23
                clear e23
                refine ⟨.tuple #[.agg #[.int .i64 qd, .slice ad kd.length cd], .int .i64 0], rfl, ?_⟩
                simp only [List.set_cons_zero, List.set_cons_succ]
                refine sv 225 (.tuple #[.agg #[.int .i64 qd, .slice ad kd.length cd], .int .i64 0]) .of ?_
                simp only [List.set_cons_zero, List.set_cons_succ]
                refine sv 228 (.agg #[.int .i64 qd, .slice ad kd.length cd]) .of ?_
                simp only [List.set_cons_zero, List.set_cons_succ]
                refine sv 229 (.int .i64 0) .of ?_
                simp only [List.set_cons_zero, List.set_cons_succ]
                refine xAlloc 33 38 [.int .i64 0, .slice none 0 0] rfl (by kernel_rfl) ?_
                intro w42 n12
                have zn12 := n12.z
                have b33 := n12.c
                replace U0 := U0.e0 n12.e
                replace U1 := U1.e0 n12.e
                replace B := B.e0 n12.e
                replace BL := BL.e0 n12.e
                replace b4 := b4.e0 n12.e
                replace b5 := b5.e0 n12.e
                replace X0 := X0.e0 n12.e
                replace X1 := X1.e0 n12.e
                replace Y0 := Y0.e0 n12.e
                replace Y1 := Y1.e0 n12.e
                replace D := D.e0 n12.e
                simp only [List.set_cons_zero, List.set_cons_succ]
                refine xStoreR 38 (.tmp 33) (.tmp 228) rfl w39.heap.size 38 [.int .i64 0, .slice none 0 0] 0 [.int .i64 qd, .slice ad kd.length cd] (by kernel_rfl) (by kernel_rfl) b33 (by kernel_rfl) (by simp) rfl [.int .i64 qd, .slice ad kd.length cd] rfl ?_
                intro w43 t10
                have zt10 := t10.z
                have U0_ := U0.ev t10.e (fun i hi => show ¬ (i = w39.heap.size) by have := lU0 i hi; omega)
                have U1_ := U1.ev t10.e (fun i hi => show ¬ (i = w39.heap.size) by have := lU1 i hi; omega)
                have B_ := B.ev t10.e (fun i hi => show ¬ (i = w39.heap.size) by have := lB i hi; omega)
                have BL_ := BL.ev t10.e (fun i h => show w.heap.size ≤ i by have h : i = w39.heap.size := h; omega)
                have b4_ := b4.ev t10.e (show ¬ (w.heap.size = w39.heap.size) by omega)
                have b5_ := b5.ev t10.e (show ¬ (w1.heap.size = w39.heap.size) by omega)
                have X0_ := X0.ev t10.e (fun i hi => show ¬ (i = w39.heap.size) by have := lX0 i hi; omega)
                have X1_ := X1.ev t10.e (fun i hi => show ¬ (i = w39.heap.size) by have := lX1 i hi; omega)
                have Y0_ := Y0.ev t10.e (fun i hi => show ¬ (i = w39.heap.size) by have := lY0 i hi; omega)
                have Y1_ := Y1.ev t10.e (fun i hi => show ¬ (i = w39.heap.size) by have := lY1 i hi; omega)
                have D_ := D.ev t10.e (fun i hi => show ¬ (i = w39.heap.size) by have := lD i hi; omega)
                replace U0 := U0_; clear U0_
                replace U1 := U1_; clear U1_
                replace B := B_; clear B_
                replace BL := BL_; clear BL_
                replace b4 := b4_; clear b4_
                replace b5 := b5_; clear b5_
                replace X0 := X0_; clear X0_
                replace X1 := X1_; clear X1_
                replace Y0 := Y0_; clear Y0_
                replace Y1 := Y1_; clear Y1_
                replace D := D_; clear D_
                replace b33 : Cel w43 w39.heap.size 38 [.int .i64 qd, .slice ad kd.length cd] := t10.c
                clear t10
                refine sv 34 (.int .i64 0) .of ?_
                simp only [List.set_cons_zero, List.set_cons_succ]
                refine wpList_nil ?_
                refine hK30 _ _ ?_
                refine wp_seq_k fun K32 hK32 => ?_
                refine cPlain ?_
                refine sv 230 (.int .i64 0) .of ?_
                simp only [List.set_cons_zero, List.set_cons_succ]
                refine sv 231 (.bool true) (Val.cmp .eql 48 _ (.tmp 230) _ rfl .i64 0 0 (by kernel_rfl) (by kernel_rfl) (by simp) _ rfl) ?_
                simp only [List.set_cons_zero, List.set_cons_succ]
                refine wpList_nil ?_
                refine hK32 _ _ ?_
                refine cT ?_
                refine wp_seq_k fun K33 hK33 => ?_
                refine cPlain ?_
                refine sv 233 (.agg #[.int .i64 qd, .slice ad kd.length cd]) (Val.cel 38 _ rfl 0 2 (by kernel_rfl) b33 _ Try.underlying38 rfl (by kernel_rfl) (by simp) [.int .i64 qd, .slice ad kd.length cd] rfl) ?_
                simp only [List.set_cons_zero, List.set_cons_succ]
                refine xCall 234 24 #[.agg #[.int .i64 qd, .slice ad kd.length cd]] (by kernel_rfl) ?_
                refine (listbytes_any qd _ kd w43 D).mono ?_
                rintro en w44 hp
                obtain ⟨az, cz, he, hb1, ZZ, lZ⟩ := hp.uni
                clear hp
                replace ed : bs = [2] ++ uintsB [qd, kd.length] ++ uintsB kd := ed
                rw [okv_true gd, ← ed] at he ZZ lZ
                rw [ec_true gd] at he
                subst he
                have e24 := belE0 hb1
                have ze24 := e24.size
                replace U0 := U0.e0 e24
                replace U1 := U1.e0 e24
                replace B := B.e0 e24
                replace BL := BL.e0 e24
                replace b4 := b4.e0 e24
                replace b5 := b5.e0 e24
                replace X0 := X0.e0 e24
                replace X1 := X1.e0 e24
                replace Y0 := Y0.e0 e24
                replace Y1 := Y1.e0 e24
                replace D := D.e0 e24
                replace b33 := b33.e0 e24
                clear e24
                refine ⟨.tuple #[.slice az bs.length cz, .int .i64 0], rfl, ?_⟩
                simp only [List.set_cons_zero, List.set_cons_succ]
                refine sv 232 (.tuple #[.slice az bs.length cz, .int .i64 0]) .of ?_
                simp only [List.set_cons_zero, List.set_cons_succ]
                refine sv 235 (.slice az bs.length cz) .of ?_
                simp only [List.set_cons_zero, List.set_cons_succ]
                refine sv 236 (.int .i64 0) .of ?_
                simp only [List.set_cons_zero, List.set_cons_succ]
                refine sv 35 (.slice az bs.length cz) .of ?_
                simp only [List.set_cons_zero, List.set_cons_succ]
                refine sv 36 (.int .i64 0) .of ?_
                simp only [List.set_cons_zero, List.set_cons_succ]
                refine wpList_nil ?_
                refine hK33 _ _ ?_
                refine wp_seq_k fun K34 hK34 => ?_
                refine cPlain ?_
                refine sv 237 (.int .i64 0) .of ?_
                simp only [List.set_cons_zero, List.set_cons_succ]
                refine sv 238 (.bool false) (Val.cmp .neq 48 _ (.tmp 237) _ rfl .i64 0 0 (by kernel_rfl) (by kernel_rfl) (by simp) _ rfl) ?_
                simp only [List.set_cons_zero, List.set_cons_succ]
                refine sv 239 (.bool false) .of ?_
                simp only [List.set_cons_zero, List.set_cons_succ]
                refine sv 240 (.slice az bs.length cz) .of ?_
                simp only [List.set_cons_zero, List.set_cons_succ]
                refine sv 241 (.string (strOf bs)) (Val.str 28 9 5 _ rfl Try.underlying28 Try.underlying5 Try.underlying9 (.slice az bs.length cz) bs (by kernel_rfl) ZZ) ?_
                simp only [List.set_cons_zero, List.set_cons_succ]
                refine sv 242 (.slice ab bs.length cb) .of ?_
                simp only [List.set_cons_zero, List.set_cons_succ]
                refine sv 243 (.string (strOf bs)) (Val.str 28 9 5 _ rfl Try.underlying28 Try.underlying5 Try.underlying9 (.slice ab bs.length cb) bs (by kernel_rfl) B) ?_
                simp only [List.set_cons_zero, List.set_cons_succ]
                refine sv 244 (.bool false) (Val.eqStr .neq 9 _ (.tmp 241) (.tmp 243) rfl bs bs (by kernel_rfl) (by kernel_rfl) hbs hbs (.inr rfl) _ (by simp)) ?_
                simp only [List.set_cons_zero, List.set_cons_succ]
                refine sv 245 (.bool false) .of ?_
                simp only [List.set_cons_zero, List.set_cons_succ]
                refine wpList_nil ?_
                refine hK34 _ _ ?_
                refine cF ?_
                refine wp_skip ?_
                exact ⟨cutE, U0, U1, B, BL, b4, b5, X0, X1, Y0, Y1, by omega⟩
            · skip
              clear U0 U1 B BL b4 b5 X0 X1 Y0 Y1
              rintro a_ wJ6 ⟨⟨s6, rfl⟩, U0, U1, B, BL, b4, b5, X0, X1, Y0, Y1, zJ6⟩
              refine wp_seq_k fun K35 hK35 => ?_
              refine cPlain ?_
              refine xCall 246 22 #[] (by kernel_rfl) ?_
              refine (awake18 wJ6).mono ?_
              rintro en w45 ⟨rfl, hb1⟩
              have e25 := belE0 hb1
              have ze25 := e25.size
              replace U0 := U0.e0 e25
              replace U1 := U1.e0 e25
              replace B := B.e0 e25
              replace BL := BL.e0 e25
              replace b4 := b4.e0 e25
              replace b5 := b5.e0 e25
              replace X0 := X0.e0 e25
              replace X1 := X1.e0 e25
              replace Y0 := Y0.e0 e25
              replace Y1 := Y1.e0 e25
              clear e25
              refine ⟨.bool true, rfl, ?_⟩
              simp only [List.set_cons_zero, List.set_cons_succ]
              refine sv 8 (.bool true) .of ?_
              simp only [List.set_cons_zero, List.set_cons_succ]
              refine wpList_nil ?_
              refine hK35 _ _ ?_
              refine wp_ret ?_
              (try simp only [Exit.then, Exit.inBlock])
              refine bodyPost_ret (v := .bool true) rT rfl ?_
              exact ⟨rfl, BL.b⟩

theorem rcert {w : World} {cs : List Value} (h : RFields [(1, RInt .i64), (32, RInts .u8 32), (1, RInt .i64)] w cs) : ∃ k r hh, cs = certL k r hh ∧ COk k r hh := by
  obtain ⟨a, b, rfl, _, ⟨k, rfl, wk⟩, a2, b2, rfl, _, ⟨r, rfl, hl, wr⟩, a3, b3, rfl, _, ⟨m, rfl, wm⟩, rfl⟩ := h
  exact ⟨k, r, m, rfl, hl, fun x hx => by have := bounds_u8 (wr x hx); omega, wr, wk, wm⟩
theorem rrev {w : World} {cs : List Value} (h : RFields [(1, RInt .i64), (1, RRow .i64)] w cs) : ∃ q v xs, cs = [.int .i64 q, v] ∧ SL .i64 w v xs := by
  obtain ⟨a, b, rfl, _, ⟨k, rfl, wk⟩, a2, b2, rfl, _, ⟨v, xs, rfl, hs, _⟩, rfl⟩ := h
  exact ⟨k, v, xs, rfl, hs⟩
theorem rtwo {m : Nat} {R : World → List Value → Prop} {w : World} {cs : List Value} (h : RArr m R 2 w cs) : ∃ a b, cs = a ++ b ∧ R w a ∧ R w b := by
  obtain ⟨a, b, rfl, _, ha, a2, b2, rfl, _, hb, hn⟩ := h
  obtain rfl : b2 = [] := hn
  exact ⟨a, a2, by rw [List.append_nil], ha, hb⟩
theorem certBack_walk2 (w : World) (c0 : List Value) (R0 : RArr 34 (RFields [(1, RInt .i64), (32, RInts .u8 32), (1, RInt .i64)]) 2 w c0) (c1 : List Value) (R1 : RArr 2 (RFields [(1, RInt .i64), (1, RRow .i64)]) 2 w c1)
    (v : Value) (bs : List Int) (B : SL .u8 w v bs) (hb : ∀ x ∈ bs, 0 ≤ x ∧ x < 256) (at_ : Int) (hat : 0 ≤ at_ ∧ at_ ≤ 65535) :
    Calls Try.prog 6 #[.agg c0.toArray, .agg c1.toArray, v, .int .u16 at_] w fun e w' => e = .returned (.bool true) ∧ Below w.heap.size w w' := by
  obtain ⟨a, b, rfl, ha, hb2⟩ := rtwo R0
  obtain ⟨k0, r0, h0, rfl, C0⟩ := rcert ha
  obtain ⟨k1, r1, h1, rfl, C1⟩ := rcert hb2
  obtain ⟨a, b, rfl, ha, hb2⟩ := rtwo R1
  obtain ⟨q0, v0, x0, rfl, U0⟩ := rrev ha
  obtain ⟨q1, v1, x1, rfl, U1⟩ := rrev hb2
  exact certBack_walk w k0 h0 k1 h1 r0 r1 C0 C1 q0 q1 v0 v1 x0 x1 U0 U1 v bs B hb at_ (by omega)
end Go.Proofs.Ytoeaekamoejhcaa
