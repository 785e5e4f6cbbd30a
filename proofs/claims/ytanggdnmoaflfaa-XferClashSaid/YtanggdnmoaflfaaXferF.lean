/-
  law24.Same, law24.cut.
-/
import Derived.Test.YtanggdnmoaflfaaXferE
import Derived.Test.YtanggdnmoaflfaaXferP
import Derived.Test.YtanggdnmoaflfaaPk1
namespace Go.Proofs.Ytanggdnmoaflfaa
open Go.RowKit
set_option linter.unusedVariables false
set_option linter.unusedSimpArgs false
set_option maxRecDepth 100000
attribute [local irreducible] wpList Code.wp wpAnyZ
theorem Val.remX {P : Program} {w : World} {a : Act} {o : Oper} (t ty : TypeId) (x y : Operand) (ho : o.op = .binOp .rem t x y ty) (p : Int) (q : Nat) (hx : a.eval x = .int .i64 p) (hy : a.eval y = .int .i64 (q : Int)) (hq : 0 < q) : Val P a o (.int .i64 (p.tmod q)) w := by
  refine Val.bin' .rem t ty x y ho hx hy ?_
  have h0 : ¬ (q : Int) = 0 := by omega
  simp only [binOp, ne_eq, not_true_eq_false, if_false, Op.intDiv, h0, Sem.run_pure]
theorem kt_span' : KT Try.prog 70 ([.i64] ++ ([.i64] ++ [])) 2 :=
  KT.struct Try.underlying70 (by kernel_rfl) (by kernel_rfl) (KFields.cons rfl (by kernel_rfl) rfl (KT.int Try.underlying3) (KFields.cons rfl (by kernel_rfl) rfl (KT.int Try.underlying3) (KFields.nil _)))
theorem kt_span : KT Try.prog 70 [.i64, .i64] 2 := kt_span'
def wfS (s : Int × Int) : Prop := (Lit.int .i64 s.1).wf = true ∧ (Lit.int .i64 s.2).wf = true
theorem wfS_of {s : Int × Int} (h1 : -9223372036854775808 ≤ s.1 ∧ s.1 ≤ 9223372036854775807) (h2 : -9223372036854775808 ≤ s.2 ∧ s.2 ≤ 9223372036854775807) : wfS s := by
  constructor
  · simp [Lit.wf, IntKind.min, IntKind.max, IntKind.bits, IntKind.signed]; omega
  · simp [Lit.wf, IntKind.min, IntKind.max, IntKind.bits, IntKind.signed]; omega
theorem wfS_K {s : Int × Int} (h : wfS s) : wfK [.i64, .i64] [s.1, s.2] := wfK_cons h.1 (wfK_cons h.2 wfK_nil)
theorem wfS_at {h : List (Int × Int)} (hw : ∀ s ∈ h, wfS s) {j : Nat} (hj : j < h.length) : wfS (h.getD j (0, 0)) := by
  rw [List.getD_eq_getElem?_getD, List.getElem?_eq_getElem hj]; exact hw _ (List.getElem_mem hj)
theorem wfS_can {n : Int} (hn : n ≤ 1000000) : ∀ {h : List (Int × Int)} {lo : Int}, -1 ≤ lo → canonS n lo h → ∀ s ∈ h, wfS s := fun hl hc s hs => by
  have := canonS_all hc s hs
  exact wfS_of (by omega) (by omega)
/-- two spans compared -/
theorem Val.eqS {a : Act} {o : Oper} {w : World} (b : BinOp) (ty : TypeId) (x y : Operand) (ho : o.op = .binOp b 70 x y ty) (p q : Int × Int) (hx : a.eval x = .agg #[.int .i64 p.1, .int .i64 p.2]) (hy : a.eval y = .agg #[.int .i64 q.1, .int .i64 q.2]) (hp : wfS p) (hq : wfS q)
    (hb : b = .eql ∨ b = .neq) (r : Bool) (hr : (if b = .eql then decide (p = q) else !decide (p = q)) = r) : Val Try.prog a o (.bool r) w := by
  refine Val.eqK b 70 ty x y ho kt_span 5 (by kernel_rfl) (by decide) Try.underlying70 rfl (by kernel_rfl) (by kernel_rfl) [p.1, p.2] [q.1, q.2] hx hy rfl rfl (wfS_K hp) (wfS_K hq) hb r ?_
  have e : decide ([p.1, p.2] = [q.1, q.2]) = decide (p = q) := by
    refine decide_eq_decide.2 ⟨fun h => ?_, fun h => by rw [h]⟩
    simp only [List.cons.injEq, and_true] at h
    exact Prod.ext h.1 h.2
  rw [e]; exact hr
theorem neq_nnX (a b : List Nat) : (if BinOp.neq = BinOp.eql then decide (nn a = nn b) else !decide (nn a = nn b)) = decide (¬ a = b) := by
  rw [if_neg (by decide)]
  by_cases h : a = b
  · subst h; simp
  · have : ¬ nn a = nn b := fun e => h (nn_inj e)
    simp [h, this]
theorem neq_decS (p q : Int × Int) : (if BinOp.neq = BinOp.eql then decide (p = q) else !decide (p = q)) = decide (¬ p = q) := by
  rw [if_neg (by decide), ← decide_not]
theorem takeS_next {xs ys : List (Int × Int)} {k : Nat} (h : xs.length = ys.length) (hk : k < xs.length) (h1 : xs.take k = ys.take k) (h2 : xs.getD k (0, 0) = ys.getD k (0, 0)) : xs.take (k + 1) = ys.take (k + 1) := by
  have hy : k < ys.length := by omega
  rw [List.take_add_one, List.take_add_one, h1, List.getElem?_eq_getElem hk, List.getElem?_eq_getElem hy]
  rw [List.getD_eq_getElem?_getD, List.getD_eq_getElem?_getD, List.getElem?_eq_getElem hk, List.getElem?_eq_getElem hy] at h2
  simp only [Option.getD_some] at h2
  rw [h2]

set_option maxHeartbeats 2000000 in
theorem same_walk (A1 B1 A2 B2 : Option Addr) (C1 E1 C2 E2 : Nat) (d1 d2 : List Nat) (h1 h2 : List (Int × Int)) (w : World) (D1 : SL .u8 w (.slice A1 d1.length C1) (nn d1)) (H1 : SE .i64 2 w (.slice B1 h1.length E1) (spS h1)) (D2 : SL .u8 w (.slice A2 d2.length C2) (nn d2)) (H2 : SE .i64 2 w (.slice B2 h2.length E2) (spS h2)) (b1 : ∀ x ∈ d1, x < 256) (b2 : ∀ x ∈ d2, x < 256) (w1 : ∀ s ∈ h1, wfS s) (w2 : ∀ s ∈ h2, wfS s) :
    Calls Try.prog 36 #[.agg #[.slice A1 d1.length C1, .slice B1 h1.length E1], .agg #[.slice A2 d2.length C2, .slice B2 h2.length E2]] w fun e w' => e = .returned (.bool (decide (d1 = d2 ∧ h1 = h2))) ∧ Below w.heap.size w w' := by
  have by1 := b1
  have by2 := b2
  have wh1 := w1
  have wh2 := w2
  clear b1 b2 w1 w2
  have BL := Bl.refl w
  have ld1 := D1.lt
  have lh1 := H1.lt
  have ld2 := D2.lt
  have lh2 := H2.lt
  have hm1 := H1.cap.2.2
  unfold maxLen at hm1
  go_enter Try.func36, Try.ntmps36
  refine wp_seq_k fun K1 hK1 => ?_
  refine cPlain ?_
  refine xBox 2 56 _ [.slice A1 d1.length C1, .slice B1 h1.length E1] rfl (by kernel_rfl) ?_
  intro w1 n1
  have zn1 := n1.z
  have b2 := n1.c
  replace BL := BL.e0 n1.e
  replace D1 := D1.e0 n1.e
  replace H1 := H1.e0 n1.e
  replace D2 := D2.e0 n1.e
  replace H2 := H2.e0 n1.e
  simp only [List.set_cons_zero, List.set_cons_succ]
  refine xBox 3 56 _ [.slice A2 d2.length C2, .slice B2 h2.length E2] rfl (by kernel_rfl) ?_
  intro w2 n2
  have zn2 := n2.z
  have b3 := n2.c
  replace BL := BL.e0 n2.e
  replace D1 := D1.e0 n2.e
  replace H1 := H1.e0 n2.e
  replace D2 := D2.e0 n2.e
  replace H2 := H2.e0 n2.e
  replace b2 := b2.e0 n2.e
  simp only [List.set_cons_zero, List.set_cons_succ]
  refine sv 4 (.bool false) .of ?_
  simp only [List.set_cons_zero, List.set_cons_succ]
  refine wpList_nil ?_
  refine hK1 _ _ ?_
  refine wp_seq_k fun K2 hK2 => ?_
  refine wp_seq_k fun K3 hK3 => ?_
  refine cPlain ?_
  refine sv 6 (.pointer (some ⟨w.heap.size, 0, none⟩)) .of ?_
  simp only [List.set_cons_zero, List.set_cons_succ]
  refine sv 7 (.slice A1 d1.length C1) (Val.cel1 29 _ rfl w.heap.size 0 _ (by kernel_rfl) (fun _ => (by kernel_rfl)) b2 rfl) ?_
  simp only [List.set_cons_zero, List.set_cons_succ]
  refine sv 8 (.string (strOf (nn d1))) (Val.str 29 9 5 (.tmp 7) rfl Try.underlying29 Try.underlying5 Try.underlying9 (.slice A1 d1.length C1) _ (by kernel_rfl) D1) ?_
  simp only [List.set_cons_zero, List.set_cons_succ]
  refine sv 9 (.pointer (some ⟨w1.heap.size, 0, none⟩)) .of ?_
  simp only [List.set_cons_zero, List.set_cons_succ]
  refine sv 10 (.slice A2 d2.length C2) (Val.cel1 29 _ rfl w1.heap.size 0 _ (by kernel_rfl) (fun _ => (by kernel_rfl)) b3 rfl) ?_
  simp only [List.set_cons_zero, List.set_cons_succ]
  refine sv 11 (.string (strOf (nn d2))) (Val.str 29 9 5 (.tmp 10) rfl Try.underlying29 Try.underlying5 Try.underlying9 (.slice A2 d2.length C2) _ (by kernel_rfl) D2) ?_
  simp only [List.set_cons_zero, List.set_cons_succ]
  refine sv 12 (.bool (decide (¬ d1 = d2))) (Val.eqStr .neq 9 _ (.tmp 8) (.tmp 11) rfl (nn d1) (nn d2) (by kernel_rfl) (by kernel_rfl) (bytes_nn by1) (bytes_nn by2) (.inr rfl) _ (neq_nnX _ _)) ?_
  simp only [List.set_cons_zero, List.set_cons_succ]
  refine sv 13 (.bool (decide (¬ d1 = d2))) .of ?_
  simp only [List.set_cons_zero, List.set_cons_succ]
  by_cases g14 : ¬ d1 = d2
  · skip
    have dg14 : decide (¬ d1 = d2) = true := decide_eq_true g14
    simp only [dg14]
    clear dg14
    refine xSkip 14 ?_
    simp only [List.set_cons_zero, List.set_cons_succ]
    refine xSkip 15 ?_
    simp only [List.set_cons_zero, List.set_cons_succ]
    refine xSkip 16 ?_
    simp only [List.set_cons_zero, List.set_cons_succ]
    refine xSkip 17 ?_
    simp only [List.set_cons_zero, List.set_cons_succ]
    refine xSkip 18 ?_
    simp only [List.set_cons_zero, List.set_cons_succ]
    refine xSkip 19 ?_
    simp only [List.set_cons_zero, List.set_cons_succ]
    refine xSkip 20 ?_
    simp only [List.set_cons_zero, List.set_cons_succ]
    refine sv 21 (.bool true) .of ?_
    simp only [List.set_cons_zero, List.set_cons_succ]
    refine wpList_nil ?_
    refine hK3 _ _ ?_
    refine cT ?_
    refine wp_seq_k fun K4 hK4 => ?_
    refine cPlain ?_
    refine sv 4 (.bool false) .of ?_
    simp only [List.set_cons_zero, List.set_cons_succ]
    refine wpList_nil ?_
    refine hK4 _ _ ?_
    refine wp_ret ?_
    (try simp only [Exit.then, Exit.inBlock])
    refine bodyPost_ret (v := .bool false) rT rfl ?_
    rw [decide_eq_false (fun h => by obtain ⟨q1, q2⟩ := h; subst q1 q2; first | exact g14 rfl | exact c38 rfl | exact c21 rfl)]
    exact ⟨rfl, BL.b⟩
  · skip
    have dg14 : decide (¬ d1 = d2) = false := decide_eq_false g14
    simp only [dg14]
    clear dg14
    refine sv 14 (.pointer (some ⟨w.heap.size, 1, none⟩)) .of ?_
    simp only [List.set_cons_zero, List.set_cons_succ]
    refine sv 15 (.slice B1 h1.length E1) (Val.cel1 54 _ rfl w.heap.size 1 _ (by kernel_rfl) (fun _ => (by kernel_rfl)) b2 rfl) ?_
    simp only [List.set_cons_zero, List.set_cons_succ]
    refine sv 16 (.int .i64 (h1.length : Int)) .of ?_
    simp only [List.set_cons_zero, List.set_cons_succ]
    refine sv 17 (.pointer (some ⟨w1.heap.size, 1, none⟩)) .of ?_
    simp only [List.set_cons_zero, List.set_cons_succ]
    refine sv 18 (.slice B2 h2.length E2) (Val.cel1 54 _ rfl w1.heap.size 1 _ (by kernel_rfl) (fun _ => (by kernel_rfl)) b3 rfl) ?_
    simp only [List.set_cons_zero, List.set_cons_succ]
    refine sv 19 (.int .i64 (h2.length : Int)) .of ?_
    simp only [List.set_cons_zero, List.set_cons_succ]
    refine sv 20 (.bool (decide (¬ ((h1.length : Int) = (h2.length : Int))))) (Val.cmp .neq 3 _ (.tmp 16) (.tmp 19) rfl .i64 (h1.length : Int) (h2.length : Int) (by kernel_rfl) (by kernel_rfl) (by simp) _ (by simp [cmpB])) ?_
    simp only [List.set_cons_zero, List.set_cons_succ]
    refine sv 21 (.bool (decide (¬ ((h1.length : Int) = (h2.length : Int))))) .of ?_
    simp only [List.set_cons_zero, List.set_cons_succ]
    refine wpList_nil ?_
    refine hK3 _ _ ?_
    refine cDec (¬ ((h1.length : Int) = (h2.length : Int))) (by kernel_rfl) (fun c21 => ?_) (fun c21 => ?_)
    · skip
      refine wp_seq_k fun K5 hK5 => ?_
      refine cPlain ?_
      refine sv 4 (.bool false) .of ?_
      simp only [List.set_cons_zero, List.set_cons_succ]
      refine wpList_nil ?_
      refine hK5 _ _ ?_
      refine wp_ret ?_
      (try simp only [Exit.then, Exit.inBlock])
      refine bodyPost_ret (v := .bool false) rT rfl ?_
      rw [decide_eq_false (fun h => by obtain ⟨q1, q2⟩ := h; subst q1 q2; first | exact g14 rfl | exact c38 rfl | exact c21 rfl)]
      exact ⟨rfl, BL.b⟩
    · skip
      refine wp_skip ?_
      refine hK2 _ _ ?_
      refine wp_seq_k fun K6 hK6 => ?_
      refine wp_seq_k fun K7 hK7 => ?_
      refine cPlain ?_
      refine sv 22 (.pointer (some ⟨w.heap.size, 1, none⟩)) .of ?_
      simp only [List.set_cons_zero, List.set_cons_succ]
      refine sv 23 (.slice B1 h1.length E1) (Val.cel1 54 _ rfl w.heap.size 1 _ (by kernel_rfl) (fun _ => (by kernel_rfl)) b2 rfl) ?_
      simp only [List.set_cons_zero, List.set_cons_succ]
      refine sv 24 (.int .i64 (h1.length : Int)) .of ?_
      simp only [List.set_cons_zero, List.set_cons_succ]
      refine sv 25 (.int .i64 0) .of ?_
      simp only [List.set_cons_zero, List.set_cons_succ]
      refine wpList_nil ?_
      refine hK7 _ _ ?_
      refine wp_block ?_
      refine cLoop (fun N_ A_ w_ => ∃ (k : Nat), (N_ = h1.length - k ∧ (k ≤ h1.length) ∧ (h1.take k = h2.take k) ∧ (∃ s1 : Nat → Value, A_ = ⟨[.agg #[.slice A1 d1.length C1, .slice B1 h1.length E1], .agg #[.slice A2 d2.length C2, .slice B2 h2.length E2], .pointer (some ⟨w.heap.size, 0, none⟩), .pointer (some ⟨w1.heap.size, 0, none⟩), (s1 4), (s1 5), .pointer (some ⟨w.heap.size, 0, none⟩), .slice A1 d1.length C1, .string (strOf (nn d1)), .pointer (some ⟨w1.heap.size, 0, none⟩), .slice A2 d2.length C2, .string (strOf (nn d2)), .bool false, .bool false, .pointer (some ⟨w.heap.size, 1, none⟩), .slice B1 h1.length E1, .int .i64 (h1.length : Int), .pointer (some ⟨w1.heap.size, 1, none⟩), .slice B2 h2.length E2, .int .i64 (h2.length : Int), .bool (decide (¬ ((h1.length : Int) = (h2.length : Int)))), .bool (decide (¬ ((h1.length : Int) = (h2.length : Int)))), .pointer (some ⟨w.heap.size, 1, none⟩), .slice B1 h1.length E1, .int .i64 (h1.length : Int), .int .i64 ((k : Nat) : Int), (s1 26), (s1 27), (s1 28), (s1 29), (s1 30), (s1 31), (s1 32), (s1 33), (s1 34), (s1 35), (s1 36), (s1 37), (s1 38), (s1 39)].toArray, []⟩) ∧ Bl w.heap.size w w_ ∧ SL .u8 w_ (.slice A1 d1.length C1) (nn d1) ∧ SE .i64 2 w_ (.slice B1 h1.length E1) (spS h1) ∧ SL .u8 w_ (.slice A2 d2.length C2) (nn d2) ∧ SE .i64 2 w_ (.slice B2 h2.length E2) (spS h2) ∧ Cel w_ w.heap.size 56 [.slice A1 d1.length C1, .slice B1 h1.length E1] ∧ Cel w_ w1.heap.size 56 [.slice A2 d2.length C2, .slice B2 h2.length E2] ∧ w2.heap.size ≤ w_.heap.size)) _ ⟨0, rfl, (Nat.zero_le _), (by simp), cutE, BL, D1, H1, D2, H2, b2, b3, Nat.le_refl _⟩ ?_
      clear BL D1 H1 D2 H2 b2 b3
      rintro n_ a_ wl0 ⟨k, rfl, hc0_0, hc0_1, ⟨s1, rfl⟩, BL, D1, H1, D2, H2, b2, b3, zl0⟩
      refine wp_seq_k fun K8 hK8 => ?_
      refine cPlain ?_
      refine sv 26 (.bool (decide (((k : Nat) : Int) < (h1.length : Int)))) (Val.cmp .lss 3 _ (.tmp 25) (.tmp 24) rfl .i64 ((k : Nat) : Int) (h1.length : Int) (by kernel_rfl) (by kernel_rfl) (by simp) _ rfl) ?_
      simp only [List.set_cons_zero, List.set_cons_succ]
      refine wpList_nil ?_
      refine hK8 _ _ ?_
      refine wp_seq_k fun K9 hK9 => ?_
      refine cDec (((k : Nat) : Int) < (h1.length : Int)) (by kernel_rfl) (fun c26 => ?_) (fun c26 => ?_)
      · skip
        refine wp_skip ?_
        refine hK9 _ _ ?_
        refine wp_seq_k fun K10 hK10 => ?_
        refine wp_block ?_
        refine wp_seq_k fun K11 hK11 => ?_
        refine cPlain ?_
        refine sv 27 (.int .i64 ((k : Nat) : Int)) .of ?_
        simp only [List.set_cons_zero, List.set_cons_succ]
        refine sv 5 (.int .i64 ((k : Nat) : Int)) .of ?_
        simp only [List.set_cons_zero, List.set_cons_succ]
        refine wpList_nil ?_
        refine hK11 _ _ ?_
        refine wp_seq_k fun K12 hK12 => ?_
        have e1 := drew_e0 wl0
        refine zg (fun w_ => Bl w.heap.size w w_ ∧ SL .u8 w_ (.slice A1 d1.length C1) (nn d1) ∧ SE .i64 2 w_ (.slice B1 h1.length E1) (spS h1) ∧ SL .u8 w_ (.slice A2 d2.length C2) (nn d2) ∧ SE .i64 2 w_ (.slice B2 h2.length E2) (spS h2) ∧ Cel w_ w.heap.size 56 [.slice A1 d1.length C1, .slice B1 h1.length E1] ∧ Cel w_ w1.heap.size 56 [.slice A2 d2.length C2, .slice B2 h2.length E2] ∧ wl0.heap.size ≤ w_.heap.size) (fun w_ => Bl w.heap.size w w_ ∧ SL .u8 w_ (.slice A1 d1.length C1) (nn d1) ∧ SE .i64 2 w_ (.slice B1 h1.length E1) (spS h1) ∧ SL .u8 w_ (.slice A2 d2.length C2) (nn d2) ∧ SE .i64 2 w_ (.slice B2 h2.length E2) (spS h2) ∧ Cel w_ w.heap.size 56 [.slice A1 d1.length C1, .slice B1 h1.length E1] ∧ Cel w_ w1.heap.size 56 [.slice A2 d2.length C2, .slice B2 h2.length E2] ∧ wl0.heap.size ≤ w_.heap.size) 100000 11 ⟨BL.e0 e1, D1.e0 e1, H1.e0 e1, D2.e0 e1, H2.e0 e1, b2.e0 e1, b3.e0 e1, Nat.le_refl _⟩ ?_
        clear BL D1 H1 D2 H2 b2 b3
        clear e1
        intro w3
        rintro ⟨BL, D1, H1, D2, H2, b2, b3, z1⟩
        refine zv 0 28 (.pointer (some ⟨w.heap.size, 1, none⟩)) (fun _ _ => .of) ⟨BL, D1, H1, D2, H2, b2, b3, by omega⟩ ?_
        simp only [List.set_cons_zero, List.set_cons_succ]
        refine zv 1 29 (.slice B1 h1.length E1) (fun _ ⟨BL, D1, H1, D2, H2, b2, b3, z1⟩ => Val.cel1 54 _ rfl w.heap.size 1 _ (by kernel_rfl) (fun _ => (by kernel_rfl)) b2 rfl) ⟨BL, D1, H1, D2, H2, b2, b3, by omega⟩ ?_
        simp only [List.set_cons_zero, List.set_cons_succ]
        refine zv 2 30 (.int .i64 ((k : Nat) : Int)) (fun _ _ => .of) ⟨BL, D1, H1, D2, H2, b2, b3, by omega⟩ ?_
        simp only [List.set_cons_zero, List.set_cons_succ]
        refine zv 3 31 (elemE 2 (.slice B1 h1.length E1) k) (fun _ ⟨BL, D1, H1, D2, H2, b2, b3, z1⟩ => Val.ixE 54 (.tmp 29) (.tmp 30) rfl (.slice B1 h1.length E1) k (by kernel_rfl) (by kernel_rfl) H1 Try.underlying54 (by kernel_rfl) (by simp only [spS_len]; omega)) ⟨BL, D1, H1, D2, H2, b2, b3, by omega⟩ ?_
        simp only [List.set_cons_zero, List.set_cons_succ]
        refine zv 4 32 (.agg #[.int .i64 (h1.getD k (0, 0)).1, .int .i64 (h1.getD k (0, 0)).2]) (fun _ ⟨BL, D1, H1, D2, H2, b2, b3, z1⟩ => Val.ldS 70 _ rfl (.slice B1 h1.length E1) k (by kernel_rfl) H1 _ Try.underlying70 rfl (by kernel_rfl) (by omega)) ⟨BL, D1, H1, D2, H2, b2, b3, by omega⟩ ?_
        simp only [List.set_cons_zero, List.set_cons_succ]
        refine zv 5 33 (.pointer (some ⟨w1.heap.size, 1, none⟩)) (fun _ _ => .of) ⟨BL, D1, H1, D2, H2, b2, b3, by omega⟩ ?_
        simp only [List.set_cons_zero, List.set_cons_succ]
        refine zv 6 34 (.slice B2 h2.length E2) (fun _ ⟨BL, D1, H1, D2, H2, b2, b3, z1⟩ => Val.cel1 54 _ rfl w1.heap.size 1 _ (by kernel_rfl) (fun _ => (by kernel_rfl)) b3 rfl) ⟨BL, D1, H1, D2, H2, b2, b3, by omega⟩ ?_
        simp only [List.set_cons_zero, List.set_cons_succ]
        refine zv 7 35 (.int .i64 ((k : Nat) : Int)) (fun _ _ => .of) ⟨BL, D1, H1, D2, H2, b2, b3, by omega⟩ ?_
        simp only [List.set_cons_zero, List.set_cons_succ]
        refine zv 8 36 (elemE 2 (.slice B2 h2.length E2) k) (fun _ ⟨BL, D1, H1, D2, H2, b2, b3, z1⟩ => Val.ixE 54 (.tmp 34) (.tmp 35) rfl (.slice B2 h2.length E2) k (by kernel_rfl) (by kernel_rfl) H2 Try.underlying54 (by kernel_rfl) (by simp only [spS_len]; omega)) ⟨BL, D1, H1, D2, H2, b2, b3, by omega⟩ ?_
        simp only [List.set_cons_zero, List.set_cons_succ]
        refine zv 9 37 (.agg #[.int .i64 (h2.getD k (0, 0)).1, .int .i64 (h2.getD k (0, 0)).2]) (fun _ ⟨BL, D1, H1, D2, H2, b2, b3, z1⟩ => Val.ldS 70 _ rfl (.slice B2 h2.length E2) k (by kernel_rfl) H2 _ Try.underlying70 rfl (by kernel_rfl) (by omega)) ⟨BL, D1, H1, D2, H2, b2, b3, by omega⟩ ?_
        simp only [List.set_cons_zero, List.set_cons_succ]
        refine zv 10 38 (.bool (decide (¬ h1.getD k (0, 0) = h2.getD k (0, 0)))) (fun _ ⟨BL, D1, H1, D2, H2, b2, b3, z1⟩ => Val.eqS .neq _ (.tmp 32) (.tmp 37) rfl (h1.getD k (0, 0)) (h2.getD k (0, 0)) (by kernel_rfl) (by kernel_rfl) (wfS_at wh1 (by omega)) (wfS_at wh2 (by omega)) (.inr rfl) _ (neq_decS _ _)) ⟨BL, D1, H1, D2, H2, b2, b3, by omega⟩ ?_
        simp only [List.set_cons_zero, List.set_cons_succ]
        refine zd (by kernel_rfl) ?_ _
        refine hK12 _ _ ?_
        refine cDec (¬ h1.getD k (0, 0) = h2.getD k (0, 0)) (by kernel_rfl) (fun c38 => ?_) (fun c38 => ?_)
        · skip
          refine wp_seq_k fun K13 hK13 => ?_
          refine cPlain ?_
          refine sv 4 (.bool false) .of ?_
          simp only [List.set_cons_zero, List.set_cons_succ]
          refine wpList_nil ?_
          refine hK13 _ _ ?_
          refine wp_ret ?_
          (try simp only [Exit.then, Exit.inBlock])
          refine bodyPost_ret (v := .bool false) rT rfl ?_
          rw [decide_eq_false (fun h => by obtain ⟨q1, q2⟩ := h; subst q1 q2; first | exact g14 rfl | exact c38 rfl | exact c21 rfl)]
          exact ⟨rfl, BL.b⟩
        · skip
          refine wp_skip ?_
          refine hK10 _ _ ?_
          refine cPlain ?_
          refine sv 39 (.int .i64 (((k : Nat) : Int) + 1)) (Val.add 3 _ (.tmp 25) _ rfl ((k : Nat) : Int) 1 (by kernel_rfl) (by kernel_rfl) (by omega)) ?_
          simp only [List.set_cons_zero, List.set_cons_succ]
          refine sv 25 (.int .i64 (((k : Nat) : Int) + 1)) .of ?_
          simp only [List.set_cons_zero, List.set_cons_succ]
          refine wpList_nil ?_
          refine ⟨_, ?_, k + 1, rfl, (by omega), (takeS_next (by omega) (by omega) hc0_1 (Classical.not_not.1 c38)), cutE, BL, D1, H1, D2, H2, b2, b3, by omega⟩
          omega
      · skip
        rw [show k = h1.length by omega, List.take_length, List.take_of_length_le (by omega)] at hc0_1
        refine wp_exit ?_
        simp only [Exit.then, Exit.inBlock, ↓reduceIte, Nat.reduceEqDiff]
        refine hK6 _ _ ?_
        refine wp_seq_k fun K14 hK14 => ?_
        refine cPlain ?_
        refine sv 4 (.bool true) .of ?_
        simp only [List.set_cons_zero, List.set_cons_succ]
        refine wpList_nil ?_
        refine hK14 _ _ ?_
        refine wp_ret ?_
        (try simp only [Exit.then, Exit.inBlock])
        refine bodyPost_ret (v := .bool true) rT rfl ?_
        rw [decide_eq_true (show d1 = d2 ∧ h1 = h2 from ⟨Classical.not_not.1 g14, hc0_1⟩)]
        exact ⟨rfl, BL.b⟩

/-- Same -/
theorem same_any (v1 u1 v2 u2 : Value) (d1 d2 : List Nat) (h1 h2 : List (Int × Int)) (w : World) (D1 : SL .u8 w v1 (nn d1)) (H1 : SE .i64 2 w u1 (spS h1)) (D2 : SL .u8 w v2 (nn d2)) (H2 : SE .i64 2 w u2 (spS h2)) (b1 : ∀ x ∈ d1, x < 256) (b2 : ∀ x ∈ d2, x < 256) (w1 : ∀ s ∈ h1, wfS s) (w2 : ∀ s ∈ h2, wfS s) :
    Calls Try.prog 36 #[.agg #[v1, u1], .agg #[v2, u2]] w fun e w' => e = .returned (.bool (decide (d1 = d2 ∧ h1 = h2))) ∧ Below w.heap.size w w' := by
  obtain ⟨A1, C1, q1, _⟩ := D1.len
  obtain ⟨B1, E1, q2, _⟩ := H1.len
  obtain ⟨A2, C2, q3, _⟩ := D2.len
  obtain ⟨B2, E2, q4, _⟩ := H2.len
  rw [nn_len] at q1 q3
  rw [spS_len] at q2 q4
  subst q1 q2 q3 q4
  exact same_walk A1 B1 A2 B2 C1 E1 C2 E2 d1 d2 h1 h2 w D1 H1 D2 H2 b1 b2 w1 w2
attribute [local irreducible] cutF cutT
theorem cut_any (A : Option Addr) (C : Nat) (all : List Nat) (a m : Int) (w : World) (D : SL .u8 w (.slice A all.length C) (nn all)) (h0 : 1 ≤ all.length) (h1 : all.length ≤ 1000000) (ha : -9223372036854775808 ≤ a ∧ a ≤ 9223372036854775807) (hm : -9223372036854775808 ≤ m ∧ m ≤ 9223372036854775807) :
    Calls Try.prog 35 #[.slice A all.length C, .int .i64 a, .int .i64 m] w fun e w' => e = .returned (.tuple #[.int .i64 (((cutF all.length a) : Nat) : Int), sliceV (.slice A all.length C) (cutF all.length a) (cutT all.length a m)]) ∧ Below w.heap.size w w' := by
  have BL := Bl.refl w
  have hdl := D.lt
  have e8 := tmod_emod a all.length h0
  have e9 := tmod_emod m 512 (by omega)
  have b8 := Int.tmod_lt_of_pos a (show (0 : Int) < all.length by omega)
  have b9 := Int.tmod_lt_of_pos m (show (0 : Int) < 512 by omega)
  have hcf : cutF all.length a = (a % all.length).toNat := by unfold cutF; rfl
  have hct : cutT all.length a m = min (cutF all.length a + 1 + (m % 512).toNat) all.length := by unfold cutT; rfl
  have hok := cutP_ok h0 a m
  have q8 : -(all.length : Int) < a.tmod all.length := by
    have := Int.tmod_lt_of_pos (-a) (show (0 : Int) < all.length by omega); rw [Int.neg_tmod] at this; omega
  have q9 : -(512 : Int) < m.tmod 512 := by
    have := Int.tmod_lt_of_pos (-m) (show (0 : Int) < 512 by omega); rw [Int.neg_tmod] at this; omega
  obtain ⟨x, hx⟩ : ∃ x, a.tmod all.length = x := ⟨_, rfl⟩
  obtain ⟨y, hy⟩ : ∃ y, m.tmod 512 = y := ⟨_, rfl⟩
  rw [hx] at e8 b8 q8
  rw [show m.tmod ((512 : Nat) : Int) = y from hy] at e9
  rw [hy] at b9 q9
  unfold PcOk at hok
  simp only [] at hok
  go_enter Try.func35, Try.ntmps35
  refine wp_seq_k fun K1 hK1 => ?_
  refine cPlain ?_
  refine sv 6 (.int .i64 0) .of ?_
  simp only [List.set_cons_zero, List.set_cons_succ]
  refine sv 7 (.slice none 0 0) .of ?_
  simp only [List.set_cons_zero, List.set_cons_succ]
  refine wpList_nil ?_
  refine hK1 _ _ ?_
  refine wp_seq_k fun K2 hK2 => ?_
  refine cPlain ?_
  refine sv 11 (.int .i64 a) .of ?_
  simp only [List.set_cons_zero, List.set_cons_succ]
  refine sv 12 (.slice A all.length C) .of ?_
  simp only [List.set_cons_zero, List.set_cons_succ]
  refine sv 13 (.int .i64 (all.length : Int)) .of ?_
  simp only [List.set_cons_zero, List.set_cons_succ]
  refine sv 14 (.int .i64 x) (Val.as (Val.remX 3 _ (.tmp 11) (.tmp 13) rfl a all.length (by kernel_rfl) (by kernel_rfl) (by omega)) (congrArg (Value.int .i64) hx)) ?_
  simp only [List.set_cons_zero, List.set_cons_succ]
  refine sv 8 (.int .i64 x) .of ?_
  simp only [List.set_cons_zero, List.set_cons_succ]
  refine wpList_nil ?_
  refine hK2 _ _ ?_
  refine wp_seq_k fun K3 hK3 => ?_
  refine wp_seq_k fun K4 hK4 => ?_
  refine cPlain ?_
  refine sv 15 (.int .i64 x) .of ?_
  simp only [List.set_cons_zero, List.set_cons_succ]
  refine sv 16 (.bool (decide (x < 0))) (Val.cmp .lss 3 _ (.tmp 15) _ rfl .i64 x 0 (by kernel_rfl) (by kernel_rfl) (by simp) _ rfl) ?_
  simp only [List.set_cons_zero, List.set_cons_succ]
  refine wpList_nil ?_
  refine hK4 _ _ ?_
  refine cDec (x < 0) (by kernel_rfl) (fun c16 => ?_) (fun c16 => ?_)
  · skip
    refine cPlain ?_
    refine sv 17 (.int .i64 x) .of ?_
    simp only [List.set_cons_zero, List.set_cons_succ]
    refine sv 18 (.slice A all.length C) .of ?_
    simp only [List.set_cons_zero, List.set_cons_succ]
    refine sv 19 (.int .i64 (all.length : Int)) .of ?_
    simp only [List.set_cons_zero, List.set_cons_succ]
    refine sv 20 (.int .i64 (x + (all.length : Int))) (Val.add 3 _ (.tmp 17) (.tmp 19) rfl x (all.length : Int) (by kernel_rfl) (by kernel_rfl) (by omega)) ?_
    simp only [List.set_cons_zero, List.set_cons_succ]
    refine sv 8 (.int .i64 (x + (all.length : Int))) .of ?_
    simp only [List.set_cons_zero, List.set_cons_succ]
    refine wpList_nil ?_
    refine hK3 _ _ ?_
    refine wp_seq_k fun K5 hK5 => ?_
    refine cPlain ?_
    refine sv 21 (.int .i64 m) .of ?_
    simp only [List.set_cons_zero, List.set_cons_succ]
    refine sv 22 (.int .i64 y) (Val.as (Val.remX 3 _ (.tmp 21) (.const (.int .i64 512)) rfl m 512 (by kernel_rfl) (by kernel_rfl) (by omega)) (congrArg (Value.int .i64) hy)) ?_
    simp only [List.set_cons_zero, List.set_cons_succ]
    refine sv 9 (.int .i64 y) .of ?_
    simp only [List.set_cons_zero, List.set_cons_succ]
    refine wpList_nil ?_
    refine hK5 _ _ ?_
    refine wp_seq_k fun K6 hK6 => ?_
    refine wp_seq_k fun K7 hK7 => ?_
    refine cPlain ?_
    refine sv 23 (.int .i64 y) .of ?_
    simp only [List.set_cons_zero, List.set_cons_succ]
    refine sv 24 (.bool (decide (y < 0))) (Val.cmp .lss 3 _ (.tmp 23) _ rfl .i64 y 0 (by kernel_rfl) (by kernel_rfl) (by simp) _ rfl) ?_
    simp only [List.set_cons_zero, List.set_cons_succ]
    refine wpList_nil ?_
    refine hK7 _ _ ?_
    refine cDec (y < 0) (by kernel_rfl) (fun c24 => ?_) (fun c24 => ?_)
    · skip
      refine cPlain ?_
      refine sv 25 (.int .i64 y) .of ?_
      simp only [List.set_cons_zero, List.set_cons_succ]
      refine sv 26 (.int .i64 (y + 512)) (Val.add 3 _ (.tmp 25) _ rfl y 512 (by kernel_rfl) (by kernel_rfl) (by omega)) ?_
      simp only [List.set_cons_zero, List.set_cons_succ]
      refine sv 9 (.int .i64 (y + 512)) .of ?_
      simp only [List.set_cons_zero, List.set_cons_succ]
      refine wpList_nil ?_
      refine hK6 _ _ ?_
      refine wp_seq_k fun K8 hK8 => ?_
      refine cPlain ?_
      refine sv 27 (.int .i64 (((cutF all.length a) : Nat) : Int)) (Val.as (Val.of) (congrArg (Value.int .i64) (show ((x + (all.length : Int)) : Int) = (((cutF all.length a) : Nat) : Int) by omega))) ?_
      simp only [List.set_cons_zero, List.set_cons_succ]
      refine sv 28 (.int .i64 (((cutF all.length a) + 1 : Nat) : Int)) (Val.as (Val.add 3 _ (.tmp 27) _ rfl (((cutF all.length a) : Nat) : Int) 1 (by kernel_rfl) (by kernel_rfl) (by omega)) (congrArg (Value.int .i64) (show (((((cutF all.length a) : Nat) : Int) + 1) : Int) = (((cutF all.length a) + 1 : Nat) : Int) by omega))) ?_
      simp only [List.set_cons_zero, List.set_cons_succ]
      refine sv 29 (.int .i64 ((((m % 512).toNat) : Nat) : Int)) (Val.as (Val.of) (congrArg (Value.int .i64) (show ((y + 512) : Int) = ((((m % 512).toNat) : Nat) : Int) by omega))) ?_
      simp only [List.set_cons_zero, List.set_cons_succ]
      refine sv 30 (.int .i64 (((cutF all.length a) + 1 + ((m % 512).toNat) : Nat) : Int)) (Val.as (Val.add 3 _ (.tmp 28) (.tmp 29) rfl (((cutF all.length a) + 1 : Nat) : Int) ((((m % 512).toNat) : Nat) : Int) (by kernel_rfl) (by kernel_rfl) (by omega)) (congrArg (Value.int .i64) (show (((((cutF all.length a) + 1 : Nat) : Int) + ((((m % 512).toNat) : Nat) : Int)) : Int) = (((cutF all.length a) + 1 + ((m % 512).toNat) : Nat) : Int) by omega))) ?_
      simp only [List.set_cons_zero, List.set_cons_succ]
      refine sv 31 (.slice A all.length C) .of ?_
      simp only [List.set_cons_zero, List.set_cons_succ]
      refine sv 32 (.int .i64 (all.length : Int)) .of ?_
      simp only [List.set_cons_zero, List.set_cons_succ]
      refine sv 33 (.int .i64 (((cutT all.length a m) : Nat) : Int)) (Val.as (Val.minI (.tmp 30) (.tmp 32) _ rfl (((cutF all.length a) + 1 + ((m % 512).toNat) : Nat) : Int) (all.length : Int) (by kernel_rfl) (by kernel_rfl)) (congrArg (Value.int .i64) (show ((min (((cutF all.length a) + 1 + ((m % 512).toNat) : Nat) : Int) (all.length : Int)) : Int) = (((cutT all.length a m) : Nat) : Int) by omega))) ?_
      simp only [List.set_cons_zero, List.set_cons_succ]
      refine sv 10 (.int .i64 (((cutT all.length a m) : Nat) : Int)) .of ?_
      simp only [List.set_cons_zero, List.set_cons_succ]
      refine wpList_nil ?_
      refine hK8 _ _ ?_
      refine wp_seq_k fun K9 hK9 => ?_
      have e1 := drew_e0 w
      refine zg (fun w_ => Bl w.heap.size w w_ ∧ SL .u8 w_ (.slice A all.length C) (nn all) ∧ w.heap.size ≤ w_.heap.size) (fun w_ => Bl w.heap.size w w_ ∧ SL .u8 w_ (.slice A all.length C) (nn all) ∧ w.heap.size ≤ w_.heap.size) 100000 7 ⟨BL.e0 e1, D.e0 e1, Nat.le_refl _⟩ ?_
      clear BL D
      clear e1
      intro w1
      rintro ⟨BL, D, z1⟩
      refine zv 0 34 (.int .i64 (((cutF all.length a) : Nat) : Int)) (fun _ ⟨BL, D, z1⟩ => Val.as (Val.of) (congrArg (Value.int .i64) (show ((x + (all.length : Int)) : Int) = (((cutF all.length a) : Nat) : Int) by omega))) ⟨BL, D, by omega⟩ ?_
      simp only [List.set_cons_zero, List.set_cons_succ]
      refine zv 1 35 (.slice A all.length C) (fun _ _ => .of) ⟨BL, D, by omega⟩ ?_
      simp only [List.set_cons_zero, List.set_cons_succ]
      refine zv 2 36 (.int .i64 (((cutF all.length a) : Nat) : Int)) (fun _ ⟨BL, D, z1⟩ => Val.as (Val.of) (congrArg (Value.int .i64) (show ((x + (all.length : Int)) : Int) = (((cutF all.length a) : Nat) : Int) by omega))) ⟨BL, D, by omega⟩ ?_
      simp only [List.set_cons_zero, List.set_cons_succ]
      refine zv 3 37 (.int .i64 (((cutT all.length a m) : Nat) : Int)) (fun _ _ => .of) ⟨BL, D, by omega⟩ ?_
      simp only [List.set_cons_zero, List.set_cons_succ]
      refine zv 4 38 (sliceV (.slice A all.length C) (cutF all.length a) (cutT all.length a m)) (fun _ ⟨BL, D, z1⟩ => Val.slc 29 (.tmp 35) (some (.tmp 36)) (some (.tmp 37)) rfl (.slice A all.length C) (by kernel_rfl) D (cutF all.length a) (cutT all.length a m) (.inl (by kernel_rfl)) (.inl (by kernel_rfl)) (by omega) (by rw [nn_len]; omega) Try.underlying29 (by kernel_rfl)) ⟨BL, D, by omega⟩ ?_
      simp only [List.set_cons_zero, List.set_cons_succ]
      refine zv 5 6 (.int .i64 (((cutF all.length a) : Nat) : Int)) (fun _ _ => .of) ⟨BL, D, by omega⟩ ?_
      simp only [List.set_cons_zero, List.set_cons_succ]
      refine zv 6 7 (sliceV (.slice A all.length C) (cutF all.length a) (cutT all.length a m)) (fun _ _ => .of) ⟨BL, D, by omega⟩ ?_
      simp only [List.set_cons_zero, List.set_cons_succ]
      refine zd (by kernel_rfl) ?_ _
      refine hK9 _ _ ?_
      refine wp_ret ?_
      (try simp only [Exit.then, Exit.inBlock])
      refine bodyPost_ret (v := .tuple #[.int .i64 (((cutF all.length a) : Nat) : Int), sliceV (.slice A all.length C) (cutF all.length a) (cutT all.length a m)]) rT rfl ?_
      exact ⟨rfl, BL.b⟩
    · skip
      refine wp_skip ?_
      refine hK6 _ _ ?_
      refine wp_seq_k fun K10 hK10 => ?_
      refine cPlain ?_
      refine sv 27 (.int .i64 (((cutF all.length a) : Nat) : Int)) (Val.as (Val.of) (congrArg (Value.int .i64) (show ((x + (all.length : Int)) : Int) = (((cutF all.length a) : Nat) : Int) by omega))) ?_
      simp only [List.set_cons_zero, List.set_cons_succ]
      refine sv 28 (.int .i64 (((cutF all.length a) + 1 : Nat) : Int)) (Val.as (Val.add 3 _ (.tmp 27) _ rfl (((cutF all.length a) : Nat) : Int) 1 (by kernel_rfl) (by kernel_rfl) (by omega)) (congrArg (Value.int .i64) (show (((((cutF all.length a) : Nat) : Int) + 1) : Int) = (((cutF all.length a) + 1 : Nat) : Int) by omega))) ?_
      simp only [List.set_cons_zero, List.set_cons_succ]
      refine sv 29 (.int .i64 ((((m % 512).toNat) : Nat) : Int)) (Val.as (Val.of) (congrArg (Value.int .i64) (show (y : Int) = ((((m % 512).toNat) : Nat) : Int) by omega))) ?_
      simp only [List.set_cons_zero, List.set_cons_succ]
      refine sv 30 (.int .i64 (((cutF all.length a) + 1 + ((m % 512).toNat) : Nat) : Int)) (Val.as (Val.add 3 _ (.tmp 28) (.tmp 29) rfl (((cutF all.length a) + 1 : Nat) : Int) ((((m % 512).toNat) : Nat) : Int) (by kernel_rfl) (by kernel_rfl) (by omega)) (congrArg (Value.int .i64) (show (((((cutF all.length a) + 1 : Nat) : Int) + ((((m % 512).toNat) : Nat) : Int)) : Int) = (((cutF all.length a) + 1 + ((m % 512).toNat) : Nat) : Int) by omega))) ?_
      simp only [List.set_cons_zero, List.set_cons_succ]
      refine sv 31 (.slice A all.length C) .of ?_
      simp only [List.set_cons_zero, List.set_cons_succ]
      refine sv 32 (.int .i64 (all.length : Int)) .of ?_
      simp only [List.set_cons_zero, List.set_cons_succ]
      refine sv 33 (.int .i64 (((cutT all.length a m) : Nat) : Int)) (Val.as (Val.minI (.tmp 30) (.tmp 32) _ rfl (((cutF all.length a) + 1 + ((m % 512).toNat) : Nat) : Int) (all.length : Int) (by kernel_rfl) (by kernel_rfl)) (congrArg (Value.int .i64) (show ((min (((cutF all.length a) + 1 + ((m % 512).toNat) : Nat) : Int) (all.length : Int)) : Int) = (((cutT all.length a m) : Nat) : Int) by omega))) ?_
      simp only [List.set_cons_zero, List.set_cons_succ]
      refine sv 10 (.int .i64 (((cutT all.length a m) : Nat) : Int)) .of ?_
      simp only [List.set_cons_zero, List.set_cons_succ]
      refine wpList_nil ?_
      refine hK10 _ _ ?_
      refine wp_seq_k fun K11 hK11 => ?_
      have e2 := drew_e0 w
      refine zg (fun w_ => Bl w.heap.size w w_ ∧ SL .u8 w_ (.slice A all.length C) (nn all) ∧ w.heap.size ≤ w_.heap.size) (fun w_ => Bl w.heap.size w w_ ∧ SL .u8 w_ (.slice A all.length C) (nn all) ∧ w.heap.size ≤ w_.heap.size) 100000 7 ⟨BL.e0 e2, D.e0 e2, Nat.le_refl _⟩ ?_
      clear BL D
      clear e2
      intro w2
      rintro ⟨BL, D, z2⟩
      refine zv 0 34 (.int .i64 (((cutF all.length a) : Nat) : Int)) (fun _ ⟨BL, D, z2⟩ => Val.as (Val.of) (congrArg (Value.int .i64) (show ((x + (all.length : Int)) : Int) = (((cutF all.length a) : Nat) : Int) by omega))) ⟨BL, D, by omega⟩ ?_
      simp only [List.set_cons_zero, List.set_cons_succ]
      refine zv 1 35 (.slice A all.length C) (fun _ _ => .of) ⟨BL, D, by omega⟩ ?_
      simp only [List.set_cons_zero, List.set_cons_succ]
      refine zv 2 36 (.int .i64 (((cutF all.length a) : Nat) : Int)) (fun _ ⟨BL, D, z2⟩ => Val.as (Val.of) (congrArg (Value.int .i64) (show ((x + (all.length : Int)) : Int) = (((cutF all.length a) : Nat) : Int) by omega))) ⟨BL, D, by omega⟩ ?_
      simp only [List.set_cons_zero, List.set_cons_succ]
      refine zv 3 37 (.int .i64 (((cutT all.length a m) : Nat) : Int)) (fun _ _ => .of) ⟨BL, D, by omega⟩ ?_
      simp only [List.set_cons_zero, List.set_cons_succ]
      refine zv 4 38 (sliceV (.slice A all.length C) (cutF all.length a) (cutT all.length a m)) (fun _ ⟨BL, D, z2⟩ => Val.slc 29 (.tmp 35) (some (.tmp 36)) (some (.tmp 37)) rfl (.slice A all.length C) (by kernel_rfl) D (cutF all.length a) (cutT all.length a m) (.inl (by kernel_rfl)) (.inl (by kernel_rfl)) (by omega) (by rw [nn_len]; omega) Try.underlying29 (by kernel_rfl)) ⟨BL, D, by omega⟩ ?_
      simp only [List.set_cons_zero, List.set_cons_succ]
      refine zv 5 6 (.int .i64 (((cutF all.length a) : Nat) : Int)) (fun _ _ => .of) ⟨BL, D, by omega⟩ ?_
      simp only [List.set_cons_zero, List.set_cons_succ]
      refine zv 6 7 (sliceV (.slice A all.length C) (cutF all.length a) (cutT all.length a m)) (fun _ _ => .of) ⟨BL, D, by omega⟩ ?_
      simp only [List.set_cons_zero, List.set_cons_succ]
      refine zd (by kernel_rfl) ?_ _
      refine hK11 _ _ ?_
      refine wp_ret ?_
      (try simp only [Exit.then, Exit.inBlock])
      refine bodyPost_ret (v := .tuple #[.int .i64 (((cutF all.length a) : Nat) : Int), sliceV (.slice A all.length C) (cutF all.length a) (cutT all.length a m)]) rT rfl ?_
      exact ⟨rfl, BL.b⟩
  · skip
    refine wp_skip ?_
    refine hK3 _ _ ?_
    refine wp_seq_k fun K12 hK12 => ?_
    refine cPlain ?_
    refine sv 21 (.int .i64 m) .of ?_
    simp only [List.set_cons_zero, List.set_cons_succ]
    refine sv 22 (.int .i64 y) (Val.as (Val.remX 3 _ (.tmp 21) (.const (.int .i64 512)) rfl m 512 (by kernel_rfl) (by kernel_rfl) (by omega)) (congrArg (Value.int .i64) hy)) ?_
    simp only [List.set_cons_zero, List.set_cons_succ]
    refine sv 9 (.int .i64 y) .of ?_
    simp only [List.set_cons_zero, List.set_cons_succ]
    refine wpList_nil ?_
    refine hK12 _ _ ?_
    refine wp_seq_k fun K13 hK13 => ?_
    refine wp_seq_k fun K14 hK14 => ?_
    refine cPlain ?_
    refine sv 23 (.int .i64 y) .of ?_
    simp only [List.set_cons_zero, List.set_cons_succ]
    refine sv 24 (.bool (decide (y < 0))) (Val.cmp .lss 3 _ (.tmp 23) _ rfl .i64 y 0 (by kernel_rfl) (by kernel_rfl) (by simp) _ rfl) ?_
    simp only [List.set_cons_zero, List.set_cons_succ]
    refine wpList_nil ?_
    refine hK14 _ _ ?_
    refine cDec (y < 0) (by kernel_rfl) (fun c24 => ?_) (fun c24 => ?_)
    · skip
      refine cPlain ?_
      refine sv 25 (.int .i64 y) .of ?_
      simp only [List.set_cons_zero, List.set_cons_succ]
      refine sv 26 (.int .i64 (y + 512)) (Val.add 3 _ (.tmp 25) _ rfl y 512 (by kernel_rfl) (by kernel_rfl) (by omega)) ?_
      simp only [List.set_cons_zero, List.set_cons_succ]
      refine sv 9 (.int .i64 (y + 512)) .of ?_
      simp only [List.set_cons_zero, List.set_cons_succ]
      refine wpList_nil ?_
      refine hK13 _ _ ?_
      refine wp_seq_k fun K15 hK15 => ?_
      refine cPlain ?_
      refine sv 27 (.int .i64 (((cutF all.length a) : Nat) : Int)) (Val.as (Val.of) (congrArg (Value.int .i64) (show (x : Int) = (((cutF all.length a) : Nat) : Int) by omega))) ?_
      simp only [List.set_cons_zero, List.set_cons_succ]
      refine sv 28 (.int .i64 (((cutF all.length a) + 1 : Nat) : Int)) (Val.as (Val.add 3 _ (.tmp 27) _ rfl (((cutF all.length a) : Nat) : Int) 1 (by kernel_rfl) (by kernel_rfl) (by omega)) (congrArg (Value.int .i64) (show (((((cutF all.length a) : Nat) : Int) + 1) : Int) = (((cutF all.length a) + 1 : Nat) : Int) by omega))) ?_
      simp only [List.set_cons_zero, List.set_cons_succ]
      refine sv 29 (.int .i64 ((((m % 512).toNat) : Nat) : Int)) (Val.as (Val.of) (congrArg (Value.int .i64) (show ((y + 512) : Int) = ((((m % 512).toNat) : Nat) : Int) by omega))) ?_
      simp only [List.set_cons_zero, List.set_cons_succ]
      refine sv 30 (.int .i64 (((cutF all.length a) + 1 + ((m % 512).toNat) : Nat) : Int)) (Val.as (Val.add 3 _ (.tmp 28) (.tmp 29) rfl (((cutF all.length a) + 1 : Nat) : Int) ((((m % 512).toNat) : Nat) : Int) (by kernel_rfl) (by kernel_rfl) (by omega)) (congrArg (Value.int .i64) (show (((((cutF all.length a) + 1 : Nat) : Int) + ((((m % 512).toNat) : Nat) : Int)) : Int) = (((cutF all.length a) + 1 + ((m % 512).toNat) : Nat) : Int) by omega))) ?_
      simp only [List.set_cons_zero, List.set_cons_succ]
      refine sv 31 (.slice A all.length C) .of ?_
      simp only [List.set_cons_zero, List.set_cons_succ]
      refine sv 32 (.int .i64 (all.length : Int)) .of ?_
      simp only [List.set_cons_zero, List.set_cons_succ]
      refine sv 33 (.int .i64 (((cutT all.length a m) : Nat) : Int)) (Val.as (Val.minI (.tmp 30) (.tmp 32) _ rfl (((cutF all.length a) + 1 + ((m % 512).toNat) : Nat) : Int) (all.length : Int) (by kernel_rfl) (by kernel_rfl)) (congrArg (Value.int .i64) (show ((min (((cutF all.length a) + 1 + ((m % 512).toNat) : Nat) : Int) (all.length : Int)) : Int) = (((cutT all.length a m) : Nat) : Int) by omega))) ?_
      simp only [List.set_cons_zero, List.set_cons_succ]
      refine sv 10 (.int .i64 (((cutT all.length a m) : Nat) : Int)) .of ?_
      simp only [List.set_cons_zero, List.set_cons_succ]
      refine wpList_nil ?_
      refine hK15 _ _ ?_
      refine wp_seq_k fun K16 hK16 => ?_
      have e3 := drew_e0 w
      refine zg (fun w_ => Bl w.heap.size w w_ ∧ SL .u8 w_ (.slice A all.length C) (nn all) ∧ w.heap.size ≤ w_.heap.size) (fun w_ => Bl w.heap.size w w_ ∧ SL .u8 w_ (.slice A all.length C) (nn all) ∧ w.heap.size ≤ w_.heap.size) 100000 7 ⟨BL.e0 e3, D.e0 e3, Nat.le_refl _⟩ ?_
      clear BL D
      clear e3
      intro w3
      rintro ⟨BL, D, z3⟩
      refine zv 0 34 (.int .i64 (((cutF all.length a) : Nat) : Int)) (fun _ ⟨BL, D, z3⟩ => Val.as (Val.of) (congrArg (Value.int .i64) (show (x : Int) = (((cutF all.length a) : Nat) : Int) by omega))) ⟨BL, D, by omega⟩ ?_
      simp only [List.set_cons_zero, List.set_cons_succ]
      refine zv 1 35 (.slice A all.length C) (fun _ _ => .of) ⟨BL, D, by omega⟩ ?_
      simp only [List.set_cons_zero, List.set_cons_succ]
      refine zv 2 36 (.int .i64 (((cutF all.length a) : Nat) : Int)) (fun _ ⟨BL, D, z3⟩ => Val.as (Val.of) (congrArg (Value.int .i64) (show (x : Int) = (((cutF all.length a) : Nat) : Int) by omega))) ⟨BL, D, by omega⟩ ?_
      simp only [List.set_cons_zero, List.set_cons_succ]
      refine zv 3 37 (.int .i64 (((cutT all.length a m) : Nat) : Int)) (fun _ _ => .of) ⟨BL, D, by omega⟩ ?_
      simp only [List.set_cons_zero, List.set_cons_succ]
      refine zv 4 38 (sliceV (.slice A all.length C) (cutF all.length a) (cutT all.length a m)) (fun _ ⟨BL, D, z3⟩ => Val.slc 29 (.tmp 35) (some (.tmp 36)) (some (.tmp 37)) rfl (.slice A all.length C) (by kernel_rfl) D (cutF all.length a) (cutT all.length a m) (.inl (by kernel_rfl)) (.inl (by kernel_rfl)) (by omega) (by rw [nn_len]; omega) Try.underlying29 (by kernel_rfl)) ⟨BL, D, by omega⟩ ?_
      simp only [List.set_cons_zero, List.set_cons_succ]
      refine zv 5 6 (.int .i64 (((cutF all.length a) : Nat) : Int)) (fun _ _ => .of) ⟨BL, D, by omega⟩ ?_
      simp only [List.set_cons_zero, List.set_cons_succ]
      refine zv 6 7 (sliceV (.slice A all.length C) (cutF all.length a) (cutT all.length a m)) (fun _ _ => .of) ⟨BL, D, by omega⟩ ?_
      simp only [List.set_cons_zero, List.set_cons_succ]
      refine zd (by kernel_rfl) ?_ _
      refine hK16 _ _ ?_
      refine wp_ret ?_
      (try simp only [Exit.then, Exit.inBlock])
      refine bodyPost_ret (v := .tuple #[.int .i64 (((cutF all.length a) : Nat) : Int), sliceV (.slice A all.length C) (cutF all.length a) (cutT all.length a m)]) rT rfl ?_
      exact ⟨rfl, BL.b⟩
    · skip
      refine wp_skip ?_
      refine hK13 _ _ ?_
      refine wp_seq_k fun K17 hK17 => ?_
      refine cPlain ?_
      refine sv 27 (.int .i64 (((cutF all.length a) : Nat) : Int)) (Val.as (Val.of) (congrArg (Value.int .i64) (show (x : Int) = (((cutF all.length a) : Nat) : Int) by omega))) ?_
      simp only [List.set_cons_zero, List.set_cons_succ]
      refine sv 28 (.int .i64 (((cutF all.length a) + 1 : Nat) : Int)) (Val.as (Val.add 3 _ (.tmp 27) _ rfl (((cutF all.length a) : Nat) : Int) 1 (by kernel_rfl) (by kernel_rfl) (by omega)) (congrArg (Value.int .i64) (show (((((cutF all.length a) : Nat) : Int) + 1) : Int) = (((cutF all.length a) + 1 : Nat) : Int) by omega))) ?_
      simp only [List.set_cons_zero, List.set_cons_succ]
      refine sv 29 (.int .i64 ((((m % 512).toNat) : Nat) : Int)) (Val.as (Val.of) (congrArg (Value.int .i64) (show (y : Int) = ((((m % 512).toNat) : Nat) : Int) by omega))) ?_
      simp only [List.set_cons_zero, List.set_cons_succ]
      refine sv 30 (.int .i64 (((cutF all.length a) + 1 + ((m % 512).toNat) : Nat) : Int)) (Val.as (Val.add 3 _ (.tmp 28) (.tmp 29) rfl (((cutF all.length a) + 1 : Nat) : Int) ((((m % 512).toNat) : Nat) : Int) (by kernel_rfl) (by kernel_rfl) (by omega)) (congrArg (Value.int .i64) (show (((((cutF all.length a) + 1 : Nat) : Int) + ((((m % 512).toNat) : Nat) : Int)) : Int) = (((cutF all.length a) + 1 + ((m % 512).toNat) : Nat) : Int) by omega))) ?_
      simp only [List.set_cons_zero, List.set_cons_succ]
      refine sv 31 (.slice A all.length C) .of ?_
      simp only [List.set_cons_zero, List.set_cons_succ]
      refine sv 32 (.int .i64 (all.length : Int)) .of ?_
      simp only [List.set_cons_zero, List.set_cons_succ]
      refine sv 33 (.int .i64 (((cutT all.length a m) : Nat) : Int)) (Val.as (Val.minI (.tmp 30) (.tmp 32) _ rfl (((cutF all.length a) + 1 + ((m % 512).toNat) : Nat) : Int) (all.length : Int) (by kernel_rfl) (by kernel_rfl)) (congrArg (Value.int .i64) (show ((min (((cutF all.length a) + 1 + ((m % 512).toNat) : Nat) : Int) (all.length : Int)) : Int) = (((cutT all.length a m) : Nat) : Int) by omega))) ?_
      simp only [List.set_cons_zero, List.set_cons_succ]
      refine sv 10 (.int .i64 (((cutT all.length a m) : Nat) : Int)) .of ?_
      simp only [List.set_cons_zero, List.set_cons_succ]
      refine wpList_nil ?_
      refine hK17 _ _ ?_
      refine wp_seq_k fun K18 hK18 => ?_
      have e4 := drew_e0 w
      refine zg (fun w_ => Bl w.heap.size w w_ ∧ SL .u8 w_ (.slice A all.length C) (nn all) ∧ w.heap.size ≤ w_.heap.size) (fun w_ => Bl w.heap.size w w_ ∧ SL .u8 w_ (.slice A all.length C) (nn all) ∧ w.heap.size ≤ w_.heap.size) 100000 7 ⟨BL.e0 e4, D.e0 e4, Nat.le_refl _⟩ ?_
      clear BL D
      clear e4
      intro w4
      rintro ⟨BL, D, z4⟩
      refine zv 0 34 (.int .i64 (((cutF all.length a) : Nat) : Int)) (fun _ ⟨BL, D, z4⟩ => Val.as (Val.of) (congrArg (Value.int .i64) (show (x : Int) = (((cutF all.length a) : Nat) : Int) by omega))) ⟨BL, D, by omega⟩ ?_
      simp only [List.set_cons_zero, List.set_cons_succ]
      refine zv 1 35 (.slice A all.length C) (fun _ _ => .of) ⟨BL, D, by omega⟩ ?_
      simp only [List.set_cons_zero, List.set_cons_succ]
      refine zv 2 36 (.int .i64 (((cutF all.length a) : Nat) : Int)) (fun _ ⟨BL, D, z4⟩ => Val.as (Val.of) (congrArg (Value.int .i64) (show (x : Int) = (((cutF all.length a) : Nat) : Int) by omega))) ⟨BL, D, by omega⟩ ?_
      simp only [List.set_cons_zero, List.set_cons_succ]
      refine zv 3 37 (.int .i64 (((cutT all.length a m) : Nat) : Int)) (fun _ _ => .of) ⟨BL, D, by omega⟩ ?_
      simp only [List.set_cons_zero, List.set_cons_succ]
      refine zv 4 38 (sliceV (.slice A all.length C) (cutF all.length a) (cutT all.length a m)) (fun _ ⟨BL, D, z4⟩ => Val.slc 29 (.tmp 35) (some (.tmp 36)) (some (.tmp 37)) rfl (.slice A all.length C) (by kernel_rfl) D (cutF all.length a) (cutT all.length a m) (.inl (by kernel_rfl)) (.inl (by kernel_rfl)) (by omega) (by rw [nn_len]; omega) Try.underlying29 (by kernel_rfl)) ⟨BL, D, by omega⟩ ?_
      simp only [List.set_cons_zero, List.set_cons_succ]
      refine zv 5 6 (.int .i64 (((cutF all.length a) : Nat) : Int)) (fun _ _ => .of) ⟨BL, D, by omega⟩ ?_
      simp only [List.set_cons_zero, List.set_cons_succ]
      refine zv 6 7 (sliceV (.slice A all.length C) (cutF all.length a) (cutT all.length a m)) (fun _ _ => .of) ⟨BL, D, by omega⟩ ?_
      simp only [List.set_cons_zero, List.set_cons_succ]
      refine zd (by kernel_rfl) ?_ _
      refine hK18 _ _ ?_
      refine wp_ret ?_
      (try simp only [Exit.then, Exit.inBlock])
      refine bodyPost_ret (v := .tuple #[.int .i64 (((cutF all.length a) : Nat) : Int), sliceV (.slice A all.length C) (cutF all.length a) (cutT all.length a m)]) rT rfl ?_
      exact ⟨rfl, BL.b⟩

end Go.Proofs.Ytanggdnmoaflfaa
