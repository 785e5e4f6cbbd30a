/-
  ShaTells: the walk.
-/
import Derived.Test.YtoeaekamoejhcaaRef2S
import Derived.Test.YtoeaekamoejhcaaShaLow
import Derived.Test.YtoeaekamoejhcaaShaAw
import Derived.Test.YtoeaekamoejhcaaEqk
namespace Go.Proofs.Ytoeaekamoejhcaa
open Go.RowKit
set_option linter.unusedVariables false
set_option linter.unusedSimpArgs false
set_option maxRecDepth 100000
attribute [local irreducible] wpList Code.wp wpAnyZ

/-- Where what is held lies, behind a writing. -/
theorem write_any2 (T : Nat) (tab : List Nat) (h : Hash) (bs : List Nat) (hs : h.1.length = 8) (v bv : Value) (ht : tab.length = 72) (w : World) (TB : Blk .u32 w T 61 (nn tab)) (R : SL .u8 w v (nn h.2.1)) (D : SL .u8 w bv (nn bs))
    (hl : h.2.1.length + bs.length ≤ 140737488355328) (B : Nat) (hB : ∀ i, v.ownBlock = some i → i < B) :
    Calls Try.prog 31 #[.pointer (some ⟨T, 0, none⟩), hashV h.1 v h.2.2, bv] w fun e w' => ∃ u, e = .returned (hashV (writeN tab h bs).1 u (writeN tab h bs).2.2) ∧ SL .u8 w' u (nn (writeN tab h bs).2.1) ∧ Below w.heap.size w w' ∧ ∀ i, u.ownBlock = some i → (i < B ∨ w.heap.size ≤ i) ∧ i < w'.heap.size := by
  cases hR : rightN h.2.1.length h.2.2
  · rw [writeN_wrong tab h bs hR]
    refine (write_wrong T tab h.2.1 h.1 hs v bv h.2.2 w TB R hR).mono ?_
    rintro e w' ⟨rfl, hb⟩
    exact ⟨v, rfl, R.below hb, hb, fun i hi => ⟨.inl (hB i hi), (R.below hb).lt i hi⟩⟩
  · rw [writeN_right tab h bs hR]
    refine (write_right T tab h.2.1 bs h.1 hs v bv h.2.2 ht w TB R D hR hl).mono ?_
    rintro e w' ⟨u, rfl, hO, hb⟩
    exact ⟨u, rfl, hO.sl, hb, fun i hi => ⟨.inr (hO.ge i hi).1, (hO.ge i hi).2⟩⟩
theorem rwrite_any2 (tab : List Nat) (h : Hash) (bs : List Nat) (hs : h.1.length = 8) (v bv : Value) (ht : tab.length = 72) (h32 : ∀ x ∈ h.1, x < 4294967296) (hr8 : ∀ x ∈ h.2.1, x < 256) (hb8 : ∀ x ∈ bs, x < 256) (w : World) (R : SL .u8 w v (nn h.2.1)) (D : SL .u8 w bv (nn bs)) (hl : bs.length ≤ 1000000000000) (B : Nat) (hB : ∀ i, v.ownBlock = some i → i < B) :
    Calls Try.prog 41 #[.agg (cellsOf .u32 (nn tab)), hashV h.1 v h.2.2, bv] w fun e w' => ∃ u, e = .returned (hashV (writeN tab h bs).1 u (writeN tab h bs).2.2) ∧ SL .u8 w' u (nn (writeN tab h bs).2.1) ∧ Below w.heap.size w w' ∧ ∀ i, u.ownBlock = some i → (i < B ∨ w.heap.size ≤ i) ∧ i < w'.heap.size := by
  obtain ⟨s, r, L⟩ := h
  obtain ⟨a, b, c, d, e, f, g, i, rfl⟩ := list8 s hs
  obtain ⟨A, C, rfl, _⟩ := R.len
  simp only [nn_len] at R hB ⊢
  cases hR : rightN r.length L
  · rw [writeN_wrong tab _ bs hR]
    refine (rwrite_wrong' tab r a b c d e f g i A C L bv w hR R).mono ?_
    rintro en w' ⟨rfl, hb⟩
    exact ⟨_, rfl, R.below hb, hb, fun i hi => ⟨.inl (hB i hi), (R.below hb).lt i hi⟩⟩
  · rw [writeN_right tab _ bs hR]
    refine (rwrite_right' tab r bs a b c d e f g i A C L bv ht w hR h32 hr8 hb8 R D hl).mono ?_
    rintro en w' ⟨u, rfl, hO, hb⟩
    exact ⟨u, rfl, hO.sl, hb, fun i hi => ⟨.inr (hO.ge i hi).1, (hO.ge i hi).2⟩⟩
def padI (n : Int) : List Nat := if n < 0 then [] else padN n.toNat
theorem padI_b (n : Int) : ∀ x ∈ padI n, x < 256 := by
  unfold padI; split
  · intro x hx; cases hx
  · exact padN_b2 _
theorem pad_int (n : Int) (w : World) :
    Calls Try.prog 37 #[.int .i64 n] w fun e w' => ∃ r, e = .returned r ∧ SL .u8 w' r (nn (padI n)) ∧ Below w.heap.size w w' := by
  unfold padI
  by_cases hn : n < 0
  · rw [if_pos hn]
    refine (pad_neg n hn w).mono ?_
    rintro e w' ⟨rfl, hb⟩
    exact ⟨_, rfl, SL.nil _ _, hb⟩
  · rw [if_neg hn]
    obtain ⟨m, rfl⟩ := Int.eq_ofNat_of_zero_le (show 0 ≤ n by omega)
    refine (pad_nat m w).mono ?_
    rintro e w' ⟨r, rfl, hO, hb⟩
    exact ⟨r, rfl, hO.sl, hb⟩
theorem rpad_int (n : Int) (w : World) :
    Calls Try.prog 45 #[.int .i64 n] w fun e w' => ∃ r, e = .returned r ∧ SL .u8 w' r (nn (padI n)) ∧ Below w.heap.size w w' := by
  unfold padI
  by_cases hn : n < 0
  · rw [if_pos hn]
    refine (rpad_neg n hn w).mono ?_
    rintro e w' ⟨rfl, hb⟩
    exact ⟨_, rfl, SL.nil _ _, hb⟩
  · rw [if_neg hn]
    obtain ⟨m, rfl⟩ := Int.eq_ofNat_of_zero_le (show 0 ≤ n by omega)
    refine (rpad_nat m w).mono ?_
    rintro e w' ⟨r, rfl, hO, hb⟩
    exact ⟨r, rfl, hO.sl, hb⟩
def roundsK : List IntKind := (List.replicate 8 [IntKind.u32]).flatten ++ ((List.replicate 64 [IntKind.u32]).flatten ++ [])
theorem kt_rounds : KT Try.prog 61 roundsK 3 :=
  KT.struct Try.underlying61 (by kernel_rfl) (by kernel_rfl) (KFields.cons rfl (by kernel_rfl) rfl (KT.array (P := Try.prog) Try.underlying58 (KT.int Try.underlying39) (by kernel_rfl) rfl (by kernel_rfl)) (KFields.cons rfl (by kernel_rfl) rfl (KT.array (P := Try.prog) Try.underlying59 (KT.int Try.underlying39) (by kernel_rfl) rfl (by kernel_rfl)) (KFields.nil _)))
theorem roundsK_eq : roundsK = List.replicate 72 IntKind.u32 := by kernel_rfl
theorem rounds_zip {tab : List Nat} (h : tab.length = 72) : (nn tab).map (Value.int .u32) = zipK roundsK (nn tab) := by rw [roundsK_eq, zipK_rep _ 72 _ (by rw [nn_len]; exact h)]
theorem rounds_wf {tab : List Nat} (h : ∀ x ∈ tab, x < 4294967296) : wfK roundsK (nn tab) := by
  rw [roundsK_eq]
  intro i k n h1 h2
  obtain ⟨x, hx, rfl⟩ := List.mem_map.1 (List.mem_of_getElem? h2)
  have := h x hx
  have hk : k = .u32 := List.eq_of_mem_replicate (List.mem_of_getElem? h1)
  subst hk
  simp [Lit.wf, IntKind.min, IntKind.max, IntKind.bits, IntKind.signed]
  omega

set_option maxHeartbeats 4000000 in
theorem shaTells_walk (tab r ns bl : List Nat) (y0 y1 y2 y3 y4 y5 y6 y7 : Nat) (A : Option Addr) (C : Nat) (L n : Int) (v : Value) (w : World) (ht : tab.length = 72) (h32 : ∀ x ∈ tab, x < 4294967296) (hy32 : ∀ x ∈ [y0, y1, y2, y3, y4, y5, y6, y7], x < 4294967296) (hr8 : ∀ x ∈ r, x < 256) (R : SL .u8 w (.slice A r.length C) (nn r)) (hb8 : ∀ x ∈ ns, x < 256) (D : SL .u8 w v (nn ns)) (hbl : bl.length = 64) (hbl8 : ∀ x ∈ bl, x < 256) :
    Calls Try.prog 8 #[.agg (cellsOf .u32 (nn tab)), hashV [y0, y1, y2, y3, y4, y5, y6, y7] (.slice A r.length C) L, v, .agg (cellsOf .u8 (nn bl)), .int .i64 n] w fun e w' => e = .returned (.bool true) ∧ Below w.heap.size w w' := by
  have BL := Bl.refl w
  have hrl := R.lt
  have hdl := D.lt
  obtain ⟨X, hX⟩ : ∃ X, writeN tab ([y0, y1, y2, y3, y4, y5, y6, y7], r, L) ns = X := ⟨_, rfl⟩
  have hX8 : X.1.length = 8 := by rw [← hX]; exact writeN_len _ _ _ rfl
  have hX32 : ∀ x ∈ X.1, x < 4294967296 := by rw [← hX]; exact writeN_lt ns rfl hy32
  have hXb : ∀ x ∈ X.2.1, x < 256 := by rw [← hX]; exact writeN_b hr8 hb8
  obtain ⟨p0, p1, p2, p3, p4, p5, p6, p7, hp⟩ := list8 X.1 hX8
  have hsl := sumN_len tab X
  have hXX : X = ([p0, p1, p2, p3, p4, p5, p6, p7], X.2.1, X.2.2) := by rw [← hp]
  go_enter Try.func8, Try.ntmps8
  refine wp_seq_k fun K1 hK1 => ?_
  refine cPlain ?_
  refine xBox 5 61 _ ((nn tab).map (Value.int .u32)) rfl (cells_toList _ _) ?_
  intro w1 n1
  have zn1 := n1.z
  have b5 := n1.c
  replace b5 : Blk .u32 w1 w.heap.size 61 (nn tab) := b5
  replace BL := BL.e0 n1.e
  replace R := R.e0 n1.e
  replace D := D.e0 n1.e
  simp only [List.set_cons_zero, List.set_cons_succ]
  refine xBox 6 66 _ [.int .u32 ((y0 : Nat) : Int), .int .u32 ((y1 : Nat) : Int), .int .u32 ((y2 : Nat) : Int), .int .u32 ((y3 : Nat) : Int), .int .u32 ((y4 : Nat) : Int), .int .u32 ((y5 : Nat) : Int), .int .u32 ((y6 : Nat) : Int), .int .u32 ((y7 : Nat) : Int), .slice A r.length C, .int .i64 L] rfl (by kernel_rfl) ?_
  intro w2 n2
  have zn2 := n2.z
  have b6 := n2.c
  replace BL := BL.e0 n2.e
  replace R := R.e0 n2.e
  replace D := D.e0 n2.e
  replace b5 := b5.e0 n2.e
  simp only [List.set_cons_zero, List.set_cons_succ]
  refine xBox 8 74 _ ((nn (bl)).map (Value.int .u8)) rfl (cells_toList _ _) ?_
  intro w3 n3
  have zn3 := n3.z
  have b8 := n3.c
  replace b8 : Blk .u8 w3 w2.heap.size 74 (nn (bl)) := b8
  replace BL := BL.e0 n3.e
  replace R := R.e0 n3.e
  replace D := D.e0 n3.e
  replace b5 := b5.e0 n3.e
  replace b6 := b6.e0 n3.e
  simp only [List.set_cons_zero, List.set_cons_succ]
  refine sv 10 (.bool false) .of ?_
  simp only [List.set_cons_zero, List.set_cons_succ]
  refine wpList_nil ?_
  refine hK1 _ _ ?_
  refine wp_seq_k fun K2 hK2 => ?_
  refine wp_seq_k fun K3 hK3 => ?_
  refine cPlain ?_
  refine sv 16 (v) .of ?_
  simp only [List.set_cons_zero, List.set_cons_succ]
  refine sv 17 (.int .i64 ((ns.length : Nat) : Int)) (Val.lenS (.tmp 16) 28 rfl (by kernel_rfl) D ns.length (nn_len ns) Try.underlying28) ?_
  simp only [List.set_cons_zero, List.set_cons_succ]
  refine sv 18 (.bool (decide (500 < ((ns.length : Nat) : Int)))) (Val.cmp .gtr 3 _ (.tmp 17) _ rfl .i64 ((ns.length : Nat) : Int) 500 (by kernel_rfl) (by kernel_rfl) (by simp) _ rfl) ?_
  simp only [List.set_cons_zero, List.set_cons_succ]
  refine sv 19 (.bool (decide (500 < ((ns.length : Nat) : Int)))) .of ?_
  simp only [List.set_cons_zero, List.set_cons_succ]
  by_cases g20 : 500 < ((ns.length : Nat) : Int)
  · skip
    have dg20 : decide (500 < ((ns.length : Nat) : Int)) = true := decide_eq_true g20
    simp only [dg20]
    clear dg20
    refine xSkip 20 ?_
    simp only [List.set_cons_zero, List.set_cons_succ]
    refine xSkip 21 ?_
    simp only [List.set_cons_zero, List.set_cons_succ]
    refine xSkip 22 ?_
    simp only [List.set_cons_zero, List.set_cons_succ]
    refine xSkip 23 ?_
    simp only [List.set_cons_zero, List.set_cons_succ]
    refine sv 24 (.bool true) .of ?_
    simp only [List.set_cons_zero, List.set_cons_succ]
    refine wpList_nil ?_
    refine hK3 _ _ ?_
    refine cT ?_
    refine wp_seq_k fun K4 hK4 => ?_
    refine cPlain ?_
    refine xCall 25 38 #[] (by kernel_rfl) ?_
    refine (awake02_any w3).mono ?_
    rintro en w4 ⟨rfl, hb1⟩
    have e1 := belE0 hb1
    have ze1 := e1.size
    replace BL := BL.e0 e1
    replace R := R.e0 e1
    replace D := D.e0 e1
    replace b5 := b5.e0 e1
    replace b6 := b6.e0 e1
    replace b8 := b8.e0 e1
    clear e1
    refine ⟨.bool true, rfl, ?_⟩
    simp only [List.set_cons_zero, List.set_cons_succ]
    refine sv 10 (.bool true) .of ?_
    simp only [List.set_cons_zero, List.set_cons_succ]
    refine wpList_nil ?_
    refine hK4 _ _ ?_
    refine wp_ret ?_
    (try simp only [Exit.then, Exit.inBlock])
    refine bodyPost_ret (v := .bool true) rT rfl ?_
    exact ⟨rfl, BL.b⟩
  · skip
    have dg20 : decide (500 < ((ns.length : Nat) : Int)) = false := decide_eq_false g20
    simp only [dg20]
    clear dg20
    refine sv 20 (.pointer (some ⟨w1.heap.size, 8, none⟩)) .of ?_
    simp only [List.set_cons_zero, List.set_cons_succ]
    refine sv 21 (.slice A r.length C) (Val.cel1 28 _ rfl w1.heap.size 8 _ (by kernel_rfl) (fun _ => (by kernel_rfl)) b6 rfl) ?_
    simp only [List.set_cons_zero, List.set_cons_succ]
    refine sv 22 (.int .i64 (r.length : Int)) .of ?_
    simp only [List.set_cons_zero, List.set_cons_succ]
    refine sv 23 (.bool (decide (100 < (r.length : Int)))) (Val.cmp .gtr 3 _ (.tmp 22) _ rfl .i64 (r.length : Int) 100 (by kernel_rfl) (by kernel_rfl) (by simp) _ rfl) ?_
    simp only [List.set_cons_zero, List.set_cons_succ]
    refine sv 24 (.bool (decide (100 < (r.length : Int)))) .of ?_
    simp only [List.set_cons_zero, List.set_cons_succ]
    refine wpList_nil ?_
    refine hK3 _ _ ?_
    refine cDec (100 < (r.length : Int)) (by kernel_rfl) (fun c24 => ?_) (fun c24 => ?_)
    · skip
      refine wp_seq_k fun K5 hK5 => ?_
      refine cPlain ?_
      refine xCall 25 38 #[] (by kernel_rfl) ?_
      refine (awake02_any w3).mono ?_
      rintro en w5 ⟨rfl, hb1⟩
      have e2 := belE0 hb1
      have ze2 := e2.size
      replace BL := BL.e0 e2
      replace R := R.e0 e2
      replace D := D.e0 e2
      replace b5 := b5.e0 e2
      replace b6 := b6.e0 e2
      replace b8 := b8.e0 e2
      clear e2
      refine ⟨.bool true, rfl, ?_⟩
      simp only [List.set_cons_zero, List.set_cons_succ]
      refine sv 10 (.bool true) .of ?_
      simp only [List.set_cons_zero, List.set_cons_succ]
      refine wpList_nil ?_
      refine hK5 _ _ ?_
      refine wp_ret ?_
      (try simp only [Exit.then, Exit.inBlock])
      refine bodyPost_ret (v := .bool true) rT rfl ?_
      exact ⟨rfl, BL.b⟩
    · skip
      refine wp_skip ?_
      refine hK2 _ _ ?_
      refine cCut (fun A_ w_ => ∃ (g11 g13 : Nat) (ui uw : Value), ((∃ s1 : Nat → Value, A_ = ⟨[.agg (cellsOf .u32 (nn tab)), .agg #[.int .u32 ((y0 : Nat) : Int), .int .u32 ((y1 : Nat) : Int), .int .u32 ((y2 : Nat) : Int), .int .u32 ((y3 : Nat) : Int), .int .u32 ((y4 : Nat) : Int), .int .u32 ((y5 : Nat) : Int), .int .u32 ((y6 : Nat) : Int), .int .u32 ((y7 : Nat) : Int), .slice A r.length C, .int .i64 L], v, .agg (cellsOf .u8 (nn (bl))), .int .i64 n, .pointer (some ⟨w.heap.size, 0, none⟩), .pointer (some ⟨w1.heap.size, 0, none⟩), undef, .pointer (some ⟨w2.heap.size, 0, none⟩), undef, .bool false, .pointer (some ⟨g11, 0, none⟩), ui, .pointer (some ⟨g13, 0, none⟩), undef, undef, v, .int .i64 ((ns.length : Nat) : Int), .bool false, .bool false, .pointer (some ⟨w1.heap.size, 8, none⟩), .slice A r.length C, .int .i64 (r.length : Int), .bool (decide (100 < (r.length : Int))), .bool (decide (100 < (r.length : Int))), undef, (s1 26), (s1 27), (s1 28), (s1 29), (s1 30), undef, undef, undef, undef, undef, undef, undef, undef, undef, undef, undef, undef, undef, undef, undef, undef, undef, undef, undef, undef, undef, undef, undef, undef, undef, undef, undef, undef, undef, undef, undef, undef, undef, undef, undef, undef, undef, undef, undef, undef, undef, undef, undef, undef, undef, undef, undef, undef, undef, undef, undef, undef, undef, undef, undef, undef, undef, undef, undef, undef, undef, undef, undef, undef].toArray, []⟩) ∧ Bl w.heap.size w w_ ∧ SL .u8 w_ (.slice A r.length C) (nn r) ∧ SL .u8 w_ v (nn ns) ∧ Blk .u32 w_ w.heap.size 61 (nn tab) ∧ Cel w_ w1.heap.size 66 [.int .u32 ((y0 : Nat) : Int), .int .u32 ((y1 : Nat) : Int), .int .u32 ((y2 : Nat) : Int), .int .u32 ((y3 : Nat) : Int), .int .u32 ((y4 : Nat) : Int), .int .u32 ((y5 : Nat) : Int), .int .u32 ((y6 : Nat) : Int), .int .u32 ((y7 : Nat) : Int), .slice A r.length C, .int .i64 L] ∧ Blk .u8 w_ w2.heap.size 74 (nn (bl)) ∧ Blk .u32 w_ g11 61 (nn tab) ∧ Cel w_ g13 66 [.int .u32 ((y0 : Nat) : Int), .int .u32 ((y1 : Nat) : Int), .int .u32 ((y2 : Nat) : Int), .int .u32 ((y3 : Nat) : Int), .int .u32 ((y4 : Nat) : Int), .int .u32 ((y5 : Nat) : Int), .int .u32 ((y6 : Nat) : Int), .int .u32 ((y7 : Nat) : Int), uw, .int .i64 L] ∧ SL .u8 w_ ui (nn ns) ∧ SL .u8 w_ uw (nn r) ∧ w3.heap.size ≤ w_.heap.size)) ?_ ?_
      · skip
        have e3 := drew_e0 w3
        refine zg (fun w_ => Bl w.heap.size w w_ ∧ SL .u8 w_ (.slice A r.length C) (nn r) ∧ SL .u8 w_ v (nn ns) ∧ Blk .u32 w_ w.heap.size 61 (nn tab) ∧ Cel w_ w1.heap.size 66 [.int .u32 ((y0 : Nat) : Int), .int .u32 ((y1 : Nat) : Int), .int .u32 ((y2 : Nat) : Int), .int .u32 ((y3 : Nat) : Int), .int .u32 ((y4 : Nat) : Int), .int .u32 ((y5 : Nat) : Int), .int .u32 ((y6 : Nat) : Int), .int .u32 ((y7 : Nat) : Int), .slice A r.length C, .int .i64 L] ∧ Blk .u8 w_ w2.heap.size 74 (nn (bl)) ∧ w3.heap.size ≤ w_.heap.size) (fun w_ => Bl w.heap.size w w_ ∧ SL .u8 w_ (.slice A r.length C) (nn r) ∧ SL .u8 w_ v (nn ns) ∧ Blk .u32 w_ w.heap.size 61 (nn tab) ∧ Cel w_ w1.heap.size 66 [.int .u32 ((y0 : Nat) : Int), .int .u32 ((y1 : Nat) : Int), .int .u32 ((y2 : Nat) : Int), .int .u32 ((y3 : Nat) : Int), .int .u32 ((y4 : Nat) : Int), .int .u32 ((y5 : Nat) : Int), .int .u32 ((y6 : Nat) : Int), .int .u32 ((y7 : Nat) : Int), .slice A r.length C, .int .i64 L] ∧ Blk .u8 w_ w2.heap.size 74 (nn (bl)) ∧ w3.heap.size ≤ w_.heap.size) 9 10 ⟨BL.e0 e3, R.e0 e3, D.e0 e3, b5.e0 e3, b6.e0 e3, b8.e0 e3, Nat.le_refl _⟩ ?_
        clear BL R D b5 b6 b8
        clear e3
        intro w6
        rintro ⟨BL, R, D, b5, b6, b8, z1⟩
        refine zv 0 26 (.agg (cellsOf .u32 (nn tab))) (fun _ ⟨BL, R, D, b5, b6, b8, z1⟩ => Val.blk 61 _ rfl 0 72 (by kernel_rfl) b5 _ Try.underlying61 rfl (by kernel_rfl) (by (try simp only [nn_len, List.length_cons, List.length_nil, List.length_set, List.length_replicate]); try omega) _ (seg_all' _ (by (try simp only [nn_len, List.length_cons, List.length_nil, List.length_set, List.length_replicate]); try omega))) ⟨BL, R, D, b5, b6, b8, by omega⟩ ?_
        simp only [List.set_cons_zero, List.set_cons_succ]
        refine zv 1 27 (v) (fun _ _ => .of) ⟨BL, R, D, b5, b6, b8, by omega⟩ ?_
        simp only [List.set_cons_zero, List.set_cons_succ]
        refine zv 3 29 (.agg #[.int .u32 ((y0 : Nat) : Int), .int .u32 ((y1 : Nat) : Int), .int .u32 ((y2 : Nat) : Int), .int .u32 ((y3 : Nat) : Int), .int .u32 ((y4 : Nat) : Int), .int .u32 ((y5 : Nat) : Int), .int .u32 ((y6 : Nat) : Int), .int .u32 ((y7 : Nat) : Int), .slice A r.length C, .int .i64 L]) (fun _ ⟨BL, R, D, b5, b6, b8, z1⟩ => Val.cel 66 _ rfl 0 10 (by kernel_rfl) b6 _ Try.underlying66 rfl (by kernel_rfl) (by simp) [.int .u32 ((y0 : Nat) : Int), .int .u32 ((y1 : Nat) : Int), .int .u32 ((y2 : Nat) : Int), .int .u32 ((y3 : Nat) : Int), .int .u32 ((y4 : Nat) : Int), .int .u32 ((y5 : Nat) : Int), .int .u32 ((y6 : Nat) : Int), .int .u32 ((y7 : Nat) : Int), .slice A r.length C, .int .i64 L] rfl) ⟨BL, R, D, b5, b6, b8, by omega⟩ ?_
        simp only [List.set_cons_zero, List.set_cons_succ]
        refine zo3 2 5 6 rfl rfl rfl ?_ ?_ ?_
        · skip
          refine xCall 28 39 #[v] (by kernel_rfl) ?_
          refine (copyB_any _ (nn ns) w6 D (by rw [nn_len]; omega)).mono ?_
          rintro en w7 ⟨ui, rfl, hOi, hb1⟩
          have e4 := belE0 hb1
          have ze4 := e4.size
          replace BL := BL.e0 e4
          replace R := R.e0 e4
          replace D := D.e0 e4
          replace b5 := b5.e0 e4
          replace b6 := b6.e0 e4
          replace b8 := b8.e0 e4
          clear e4
          have IN : Own 5 .u8 w6.heap.size w7 ui (nn ns) := hOi
          have lIN_1 := IN.ge
          refine ⟨ui, rfl, ?_⟩
          refine ze 2 ⟨BL, R, D, b5, b6, b8, by omega⟩ ?_
          simp only [List.set_cons_zero, List.set_cons_succ]
          refine zo3 4 5 6 rfl rfl rfl ?_ ?_ ?_
          · skip
            refine xCall 30 40 #[.agg #[.int .u32 ((y0 : Nat) : Int), .int .u32 ((y1 : Nat) : Int), .int .u32 ((y2 : Nat) : Int), .int .u32 ((y3 : Nat) : Int), .int .u32 ((y4 : Nat) : Int), .int .u32 ((y5 : Nat) : Int), .int .u32 ((y6 : Nat) : Int), .int .u32 ((y7 : Nat) : Int), .slice A r.length C, .int .i64 L]] (by kernel_rfl) ?_
            refine (copyH_any ([y0, y1, y2, y3, y4, y5, y6, y7], r, L) rfl (.slice A r.length C) w7 R (by show r.length ≤ _; omega)).mono ?_
            rintro en w8 ⟨uw, rfl, hOw, hb1⟩
            have e5 := belE0 hb1
            have ze5 := e5.size
            replace BL := BL.e0 e5
            replace R := R.e0 e5
            replace D := D.e0 e5
            replace b5 := b5.e0 e5
            replace b6 := b6.e0 e5
            replace b8 := b8.e0 e5
            replace IN := IN.e0 e5
            clear e5
            have W : Own 5 .u8 w7.heap.size w8 uw (nn r) := hOw
            have lW_1 := W.ge
            refine ⟨.agg #[.int .u32 ((y0 : Nat) : Int), .int .u32 ((y1 : Nat) : Int), .int .u32 ((y2 : Nat) : Int), .int .u32 ((y3 : Nat) : Int), .int .u32 ((y4 : Nat) : Int), .int .u32 ((y5 : Nat) : Int), .int .u32 ((y6 : Nat) : Int), .int .u32 ((y7 : Nat) : Int), uw, .int .i64 L], rfl, ?_⟩
            refine ze 4 ⟨BL, R, D, b5, b6, b8, by omega⟩ ?_
            simp only [List.set_cons_zero, List.set_cons_succ]
            refine zo2 5 6 rfl rfl ?_ ?_
            · skip
              refine xAlloc 11 61 ((nn (List.replicate 72 0)).map (Value.int .u32)) rfl (by kernel_rfl) ?_
              intro w9 n4
              have zn4 := n4.z
              have b11 := n4.c
              replace b11 : Blk .u32 w9 w8.heap.size 61 (nn (List.replicate 72 0)) := b11
              replace BL := BL.e0 n4.e
              replace R := R.e0 n4.e
              replace D := D.e0 n4.e
              replace b5 := b5.e0 n4.e
              replace b6 := b6.e0 n4.e
              replace b8 := b8.e0 n4.e
              replace IN := IN.e0 n4.e
              replace W := W.e0 n4.e
              refine ze 5 ⟨BL, R, D, b5, b6, b8, by omega⟩ ?_
              simp only [List.set_cons_zero, List.set_cons_succ]
              refine zo1 6 rfl ?_
              refine xAlloc 13 66 [.int .u32 0, .int .u32 0, .int .u32 0, .int .u32 0, .int .u32 0, .int .u32 0, .int .u32 0, .int .u32 0, .slice none 0 0, .int .i64 0] rfl (by kernel_rfl) ?_
              intro w10 n5
              have zn5 := n5.z
              have b13 := n5.c
              replace BL := BL.e0 n5.e
              replace R := R.e0 n5.e
              replace D := D.e0 n5.e
              replace b5 := b5.e0 n5.e
              replace b6 := b6.e0 n5.e
              replace b8 := b8.e0 n5.e
              replace IN := IN.e0 n5.e
              replace W := W.e0 n5.e
              replace b11 := b11.e0 n5.e
              refine ze 6 ⟨BL, R, D, b5, b6, b8, by omega⟩ ?_
              simp only [List.set_cons_zero, List.set_cons_succ]
              refine zo1 7 rfl ?_
              refine xStoreA 61 (.tmp 11) (.tmp 26) rfl .u32 w8.heap.size 61 (nn (List.replicate 72 0)) 0 (nn tab) (by kernel_rfl) (by kernel_rfl) b11 (by rw [show (nn tab).length = 72 by ((try simp only [nn_len, List.length_cons, List.length_nil, List.length_set, List.length_replicate]); try omega)]; kernel_rfl) (by (try simp only [nn_len, List.length_cons, List.length_nil, List.length_set, List.length_replicate]); try omega) (nn tab) (over_whole _ _ (by (try simp only [nn_len, List.length_cons, List.length_nil, List.length_set, List.length_replicate]); try omega)) ?_
              intro w11 t1
              have zt1 := t1.z
              have BL_ := BL.ev t1.e (fun i h => show w.heap.size ≤ i by have h : i = w8.heap.size := h; omega)
              have R_ := R.ev t1.e (fun i hi => show ¬ (i = w8.heap.size) by have := hrl i hi; omega)
              have D_ := D.ev t1.e (fun i hi => show ¬ (i = w8.heap.size) by have := hdl i hi; omega)
              have b5_ := b5.ev t1.e (show ¬ (w.heap.size = w8.heap.size) by omega)
              have b6_ := b6.ev t1.e (show ¬ (w1.heap.size = w8.heap.size) by omega)
              have b8_ := b8.ev t1.e (show ¬ (w2.heap.size = w8.heap.size) by omega)
              have IN_ := IN.ev t1.e (fun i hi => show ¬ (i = w8.heap.size) by have := lIN_1 i hi; omega)
              have W_ := W.ev t1.e (fun i hi => show ¬ (i = w8.heap.size) by have := lW_1 i hi; omega)
              have b13_ := b13.ev t1.e (show ¬ (w9.heap.size = w8.heap.size) by omega)
              replace BL := BL_; clear BL_
              replace R := R_; clear R_
              replace D := D_; clear D_
              replace b5 := b5_; clear b5_
              replace b6 := b6_; clear b6_
              replace b8 := b8_; clear b8_
              replace IN := IN_; clear IN_
              replace W := W_; clear W_
              replace b13 := b13_; clear b13_
              replace b11 : Blk .u32 w11 w8.heap.size 61 (nn tab) := t1.c
              clear t1
              refine ze 7 ⟨BL, R, D, b5, b6, b8, by omega⟩ ?_
              refine zv 8 12 (ui) (fun _ _ => .of) ⟨BL, R, D, b5, b6, b8, by omega⟩ ?_
              simp only [List.set_cons_zero, List.set_cons_succ]
              refine zo1 9 rfl ?_
              refine xStoreR 66 (.tmp 13) (.tmp 30) rfl w9.heap.size 66 [.int .u32 0, .int .u32 0, .int .u32 0, .int .u32 0, .int .u32 0, .int .u32 0, .int .u32 0, .int .u32 0, .slice none 0 0, .int .i64 0] 0 [.int .u32 ((y0 : Nat) : Int), .int .u32 ((y1 : Nat) : Int), .int .u32 ((y2 : Nat) : Int), .int .u32 ((y3 : Nat) : Int), .int .u32 ((y4 : Nat) : Int), .int .u32 ((y5 : Nat) : Int), .int .u32 ((y6 : Nat) : Int), .int .u32 ((y7 : Nat) : Int), uw, .int .i64 L] (by kernel_rfl) (by kernel_rfl) b13 (by kernel_rfl) (by simp) (allC rfl (allC rfl (allC rfl (allC rfl (allC rfl (allC rfl (allC rfl (allC rfl (allC W.sl.oneCell (allC rfl allN)))))))))) [.int .u32 ((y0 : Nat) : Int), .int .u32 ((y1 : Nat) : Int), .int .u32 ((y2 : Nat) : Int), .int .u32 ((y3 : Nat) : Int), .int .u32 ((y4 : Nat) : Int), .int .u32 ((y5 : Nat) : Int), .int .u32 ((y6 : Nat) : Int), .int .u32 ((y7 : Nat) : Int), uw, .int .i64 L] rfl ?_
              intro w12 t2
              have zt2 := t2.z
              have BL_ := BL.ev t2.e (fun i h => show w.heap.size ≤ i by have h : i = w9.heap.size := h; omega)
              have R_ := R.ev t2.e (fun i hi => show ¬ (i = w9.heap.size) by have := hrl i hi; omega)
              have D_ := D.ev t2.e (fun i hi => show ¬ (i = w9.heap.size) by have := hdl i hi; omega)
              have b5_ := b5.ev t2.e (show ¬ (w.heap.size = w9.heap.size) by omega)
              have b6_ := b6.ev t2.e (show ¬ (w1.heap.size = w9.heap.size) by omega)
              have b8_ := b8.ev t2.e (show ¬ (w2.heap.size = w9.heap.size) by omega)
              have IN_ := IN.ev t2.e (fun i hi => show ¬ (i = w9.heap.size) by have := lIN_1 i hi; omega)
              have W_ := W.ev t2.e (fun i hi => show ¬ (i = w9.heap.size) by have := lW_1 i hi; omega)
              have b11_ := b11.ev t2.e (show ¬ (w8.heap.size = w9.heap.size) by omega)
              replace BL := BL_; clear BL_
              replace R := R_; clear R_
              replace D := D_; clear D_
              replace b5 := b5_; clear b5_
              replace b6 := b6_; clear b6_
              replace b8 := b8_; clear b8_
              replace IN := IN_; clear IN_
              replace W := W_; clear W_
              replace b11 := b11_; clear b11_
              replace b13 : Cel w12 w9.heap.size 66 [.int .u32 ((y0 : Nat) : Int), .int .u32 ((y1 : Nat) : Int), .int .u32 ((y2 : Nat) : Int), .int .u32 ((y3 : Nat) : Int), .int .u32 ((y4 : Nat) : Int), .int .u32 ((y5 : Nat) : Int), .int .u32 ((y6 : Nat) : Int), .int .u32 ((y7 : Nat) : Int), uw, .int .i64 L] := t2.c
              clear t2
              refine zz 9 ?_
              refine zd (by kernel_rfl) ?_ _
              exact ⟨w8.heap.size, w9.heap.size, ui, uw, cutE, BL, R, D, b5, b6, b8, b11, b13, IN.sl, W.sl, by omega⟩
            · skip
              refine xAlloc 13 66 [.int .u32 0, .int .u32 0, .int .u32 0, .int .u32 0, .int .u32 0, .int .u32 0, .int .u32 0, .int .u32 0, .slice none 0 0, .int .i64 0] rfl (by kernel_rfl) ?_
              intro w13 n6
              have zn6 := n6.z
              have b13 := n6.c
              replace BL := BL.e0 n6.e
              replace R := R.e0 n6.e
              replace D := D.e0 n6.e
              replace b5 := b5.e0 n6.e
              replace b6 := b6.e0 n6.e
              replace b8 := b8.e0 n6.e
              replace IN := IN.e0 n6.e
              replace W := W.e0 n6.e
              refine ze 6 ⟨BL, R, D, b5, b6, b8, by omega⟩ ?_
              simp only [List.set_cons_zero, List.set_cons_succ]
              refine zo1 5 rfl ?_
              refine xAlloc 11 61 ((nn (List.replicate 72 0)).map (Value.int .u32)) rfl (by kernel_rfl) ?_
              intro w14 n7
              have zn7 := n7.z
              have b11 := n7.c
              replace b11 : Blk .u32 w14 w13.heap.size 61 (nn (List.replicate 72 0)) := b11
              replace BL := BL.e0 n7.e
              replace R := R.e0 n7.e
              replace D := D.e0 n7.e
              replace b5 := b5.e0 n7.e
              replace b6 := b6.e0 n7.e
              replace b8 := b8.e0 n7.e
              replace IN := IN.e0 n7.e
              replace W := W.e0 n7.e
              replace b13 := b13.e0 n7.e
              refine ze 5 ⟨BL, R, D, b5, b6, b8, by omega⟩ ?_
              simp only [List.set_cons_zero, List.set_cons_succ]
              refine zo1 7 rfl ?_
              refine xStoreA 61 (.tmp 11) (.tmp 26) rfl .u32 w13.heap.size 61 (nn (List.replicate 72 0)) 0 (nn tab) (by kernel_rfl) (by kernel_rfl) b11 (by rw [show (nn tab).length = 72 by ((try simp only [nn_len, List.length_cons, List.length_nil, List.length_set, List.length_replicate]); try omega)]; kernel_rfl) (by (try simp only [nn_len, List.length_cons, List.length_nil, List.length_set, List.length_replicate]); try omega) (nn tab) (over_whole _ _ (by (try simp only [nn_len, List.length_cons, List.length_nil, List.length_set, List.length_replicate]); try omega)) ?_
              intro w15 t3
              have zt3 := t3.z
              have BL_ := BL.ev t3.e (fun i h => show w.heap.size ≤ i by have h : i = w13.heap.size := h; omega)
              have R_ := R.ev t3.e (fun i hi => show ¬ (i = w13.heap.size) by have := hrl i hi; omega)
              have D_ := D.ev t3.e (fun i hi => show ¬ (i = w13.heap.size) by have := hdl i hi; omega)
              have b5_ := b5.ev t3.e (show ¬ (w.heap.size = w13.heap.size) by omega)
              have b6_ := b6.ev t3.e (show ¬ (w1.heap.size = w13.heap.size) by omega)
              have b8_ := b8.ev t3.e (show ¬ (w2.heap.size = w13.heap.size) by omega)
              have IN_ := IN.ev t3.e (fun i hi => show ¬ (i = w13.heap.size) by have := lIN_1 i hi; omega)
              have W_ := W.ev t3.e (fun i hi => show ¬ (i = w13.heap.size) by have := lW_1 i hi; omega)
              have b13_ := b13.ev t3.e (show ¬ (w8.heap.size = w13.heap.size) by omega)
              replace BL := BL_; clear BL_
              replace R := R_; clear R_
              replace D := D_; clear D_
              replace b5 := b5_; clear b5_
              replace b6 := b6_; clear b6_
              replace b8 := b8_; clear b8_
              replace IN := IN_; clear IN_
              replace W := W_; clear W_
              replace b13 := b13_; clear b13_
              replace b11 : Blk .u32 w15 w13.heap.size 61 (nn tab) := t3.c
              clear t3
              refine ze 7 ⟨BL, R, D, b5, b6, b8, by omega⟩ ?_
              refine zv 8 12 (ui) (fun _ _ => .of) ⟨BL, R, D, b5, b6, b8, by omega⟩ ?_
              simp only [List.set_cons_zero, List.set_cons_succ]
              refine zo1 9 rfl ?_
              refine xStoreR 66 (.tmp 13) (.tmp 30) rfl w8.heap.size 66 [.int .u32 0, .int .u32 0, .int .u32 0, .int .u32 0, .int .u32 0, .int .u32 0, .int .u32 0, .int .u32 0, .slice none 0 0, .int .i64 0] 0 [.int .u32 ((y0 : Nat) : Int), .int .u32 ((y1 : Nat) : Int), .int .u32 ((y2 : Nat) : Int), .int .u32 ((y3 : Nat) : Int), .int .u32 ((y4 : Nat) : Int), .int .u32 ((y5 : Nat) : Int), .int .u32 ((y6 : Nat) : Int), .int .u32 ((y7 : Nat) : Int), uw, .int .i64 L] (by kernel_rfl) (by kernel_rfl) b13 (by kernel_rfl) (by simp) (allC rfl (allC rfl (allC rfl (allC rfl (allC rfl (allC rfl (allC rfl (allC rfl (allC W.sl.oneCell (allC rfl allN)))))))))) [.int .u32 ((y0 : Nat) : Int), .int .u32 ((y1 : Nat) : Int), .int .u32 ((y2 : Nat) : Int), .int .u32 ((y3 : Nat) : Int), .int .u32 ((y4 : Nat) : Int), .int .u32 ((y5 : Nat) : Int), .int .u32 ((y6 : Nat) : Int), .int .u32 ((y7 : Nat) : Int), uw, .int .i64 L] rfl ?_
              intro w16 t4
              have zt4 := t4.z
              have BL_ := BL.ev t4.e (fun i h => show w.heap.size ≤ i by have h : i = w8.heap.size := h; omega)
              have R_ := R.ev t4.e (fun i hi => show ¬ (i = w8.heap.size) by have := hrl i hi; omega)
              have D_ := D.ev t4.e (fun i hi => show ¬ (i = w8.heap.size) by have := hdl i hi; omega)
              have b5_ := b5.ev t4.e (show ¬ (w.heap.size = w8.heap.size) by omega)
              have b6_ := b6.ev t4.e (show ¬ (w1.heap.size = w8.heap.size) by omega)
              have b8_ := b8.ev t4.e (show ¬ (w2.heap.size = w8.heap.size) by omega)
              have IN_ := IN.ev t4.e (fun i hi => show ¬ (i = w8.heap.size) by have := lIN_1 i hi; omega)
              have W_ := W.ev t4.e (fun i hi => show ¬ (i = w8.heap.size) by have := lW_1 i hi; omega)
              have b11_ := b11.ev t4.e (show ¬ (w13.heap.size = w8.heap.size) by omega)
              replace BL := BL_; clear BL_
              replace R := R_; clear R_
              replace D := D_; clear D_
              replace b5 := b5_; clear b5_
              replace b6 := b6_; clear b6_
              replace b8 := b8_; clear b8_
              replace IN := IN_; clear IN_
              replace W := W_; clear W_
              replace b11 := b11_; clear b11_
              replace b13 : Cel w16 w8.heap.size 66 [.int .u32 ((y0 : Nat) : Int), .int .u32 ((y1 : Nat) : Int), .int .u32 ((y2 : Nat) : Int), .int .u32 ((y3 : Nat) : Int), .int .u32 ((y4 : Nat) : Int), .int .u32 ((y5 : Nat) : Int), .int .u32 ((y6 : Nat) : Int), .int .u32 ((y7 : Nat) : Int), uw, .int .i64 L] := t4.c
              clear t4
              refine zz 9 ?_
              refine zd (by kernel_rfl) ?_ _
              exact ⟨w13.heap.size, w8.heap.size, ui, uw, cutE, BL, R, D, b5, b6, b8, b11, b13, IN.sl, W.sl, by omega⟩
          · skip
            refine xAlloc 11 61 ((nn (List.replicate 72 0)).map (Value.int .u32)) rfl (by kernel_rfl) ?_
            intro w17 n8
            have zn8 := n8.z
            have b11 := n8.c
            replace b11 : Blk .u32 w17 w7.heap.size 61 (nn (List.replicate 72 0)) := b11
            replace BL := BL.e0 n8.e
            replace R := R.e0 n8.e
            replace D := D.e0 n8.e
            replace b5 := b5.e0 n8.e
            replace b6 := b6.e0 n8.e
            replace b8 := b8.e0 n8.e
            replace IN := IN.e0 n8.e
            refine ze 5 ⟨BL, R, D, b5, b6, b8, by omega⟩ ?_
            simp only [List.set_cons_zero, List.set_cons_succ]
            refine zo2 4 6 rfl rfl ?_ ?_
            · skip
              refine xCall 30 40 #[.agg #[.int .u32 ((y0 : Nat) : Int), .int .u32 ((y1 : Nat) : Int), .int .u32 ((y2 : Nat) : Int), .int .u32 ((y3 : Nat) : Int), .int .u32 ((y4 : Nat) : Int), .int .u32 ((y5 : Nat) : Int), .int .u32 ((y6 : Nat) : Int), .int .u32 ((y7 : Nat) : Int), .slice A r.length C, .int .i64 L]] (by kernel_rfl) ?_
              refine (copyH_any ([y0, y1, y2, y3, y4, y5, y6, y7], r, L) rfl (.slice A r.length C) w17 R (by show r.length ≤ _; omega)).mono ?_
              rintro en w18 ⟨uw, rfl, hOw, hb1⟩
              have e6 := belE0 hb1
              have ze6 := e6.size
              replace BL := BL.e0 e6
              replace R := R.e0 e6
              replace D := D.e0 e6
              replace b5 := b5.e0 e6
              replace b6 := b6.e0 e6
              replace b8 := b8.e0 e6
              replace IN := IN.e0 e6
              replace b11 := b11.e0 e6
              clear e6
              have W : Own 5 .u8 w17.heap.size w18 uw (nn r) := hOw
              have lW_2 := W.ge
              refine ⟨.agg #[.int .u32 ((y0 : Nat) : Int), .int .u32 ((y1 : Nat) : Int), .int .u32 ((y2 : Nat) : Int), .int .u32 ((y3 : Nat) : Int), .int .u32 ((y4 : Nat) : Int), .int .u32 ((y5 : Nat) : Int), .int .u32 ((y6 : Nat) : Int), .int .u32 ((y7 : Nat) : Int), uw, .int .i64 L], rfl, ?_⟩
              refine ze 4 ⟨BL, R, D, b5, b6, b8, by omega⟩ ?_
              simp only [List.set_cons_zero, List.set_cons_succ]
              refine zo1 6 rfl ?_
              refine xAlloc 13 66 [.int .u32 0, .int .u32 0, .int .u32 0, .int .u32 0, .int .u32 0, .int .u32 0, .int .u32 0, .int .u32 0, .slice none 0 0, .int .i64 0] rfl (by kernel_rfl) ?_
              intro w19 n9
              have zn9 := n9.z
              have b13 := n9.c
              replace BL := BL.e0 n9.e
              replace R := R.e0 n9.e
              replace D := D.e0 n9.e
              replace b5 := b5.e0 n9.e
              replace b6 := b6.e0 n9.e
              replace b8 := b8.e0 n9.e
              replace IN := IN.e0 n9.e
              replace b11 := b11.e0 n9.e
              replace W := W.e0 n9.e
              refine ze 6 ⟨BL, R, D, b5, b6, b8, by omega⟩ ?_
              simp only [List.set_cons_zero, List.set_cons_succ]
              refine zo1 7 rfl ?_
              refine xStoreA 61 (.tmp 11) (.tmp 26) rfl .u32 w7.heap.size 61 (nn (List.replicate 72 0)) 0 (nn tab) (by kernel_rfl) (by kernel_rfl) b11 (by rw [show (nn tab).length = 72 by ((try simp only [nn_len, List.length_cons, List.length_nil, List.length_set, List.length_replicate]); try omega)]; kernel_rfl) (by (try simp only [nn_len, List.length_cons, List.length_nil, List.length_set, List.length_replicate]); try omega) (nn tab) (over_whole _ _ (by (try simp only [nn_len, List.length_cons, List.length_nil, List.length_set, List.length_replicate]); try omega)) ?_
              intro w20 t5
              have zt5 := t5.z
              have BL_ := BL.ev t5.e (fun i h => show w.heap.size ≤ i by have h : i = w7.heap.size := h; omega)
              have R_ := R.ev t5.e (fun i hi => show ¬ (i = w7.heap.size) by have := hrl i hi; omega)
              have D_ := D.ev t5.e (fun i hi => show ¬ (i = w7.heap.size) by have := hdl i hi; omega)
              have b5_ := b5.ev t5.e (show ¬ (w.heap.size = w7.heap.size) by omega)
              have b6_ := b6.ev t5.e (show ¬ (w1.heap.size = w7.heap.size) by omega)
              have b8_ := b8.ev t5.e (show ¬ (w2.heap.size = w7.heap.size) by omega)
              have IN_ := IN.ev t5.e (fun i hi => show ¬ (i = w7.heap.size) by have := lIN_1 i hi; omega)
              have W_ := W.ev t5.e (fun i hi => show ¬ (i = w7.heap.size) by have := lW_2 i hi; omega)
              have b13_ := b13.ev t5.e (show ¬ (w18.heap.size = w7.heap.size) by omega)
              replace BL := BL_; clear BL_
              replace R := R_; clear R_
              replace D := D_; clear D_
              replace b5 := b5_; clear b5_
              replace b6 := b6_; clear b6_
              replace b8 := b8_; clear b8_
              replace IN := IN_; clear IN_
              replace W := W_; clear W_
              replace b13 := b13_; clear b13_
              replace b11 : Blk .u32 w20 w7.heap.size 61 (nn tab) := t5.c
              clear t5
              refine ze 7 ⟨BL, R, D, b5, b6, b8, by omega⟩ ?_
              refine zv 8 12 (ui) (fun _ _ => .of) ⟨BL, R, D, b5, b6, b8, by omega⟩ ?_
              simp only [List.set_cons_zero, List.set_cons_succ]
              refine zo1 9 rfl ?_
              refine xStoreR 66 (.tmp 13) (.tmp 30) rfl w18.heap.size 66 [.int .u32 0, .int .u32 0, .int .u32 0, .int .u32 0, .int .u32 0, .int .u32 0, .int .u32 0, .int .u32 0, .slice none 0 0, .int .i64 0] 0 [.int .u32 ((y0 : Nat) : Int), .int .u32 ((y1 : Nat) : Int), .int .u32 ((y2 : Nat) : Int), .int .u32 ((y3 : Nat) : Int), .int .u32 ((y4 : Nat) : Int), .int .u32 ((y5 : Nat) : Int), .int .u32 ((y6 : Nat) : Int), .int .u32 ((y7 : Nat) : Int), uw, .int .i64 L] (by kernel_rfl) (by kernel_rfl) b13 (by kernel_rfl) (by simp) (allC rfl (allC rfl (allC rfl (allC rfl (allC rfl (allC rfl (allC rfl (allC rfl (allC W.sl.oneCell (allC rfl allN)))))))))) [.int .u32 ((y0 : Nat) : Int), .int .u32 ((y1 : Nat) : Int), .int .u32 ((y2 : Nat) : Int), .int .u32 ((y3 : Nat) : Int), .int .u32 ((y4 : Nat) : Int), .int .u32 ((y5 : Nat) : Int), .int .u32 ((y6 : Nat) : Int), .int .u32 ((y7 : Nat) : Int), uw, .int .i64 L] rfl ?_
              intro w21 t6
              have zt6 := t6.z
              have BL_ := BL.ev t6.e (fun i h => show w.heap.size ≤ i by have h : i = w18.heap.size := h; omega)
              have R_ := R.ev t6.e (fun i hi => show ¬ (i = w18.heap.size) by have := hrl i hi; omega)
              have D_ := D.ev t6.e (fun i hi => show ¬ (i = w18.heap.size) by have := hdl i hi; omega)
              have b5_ := b5.ev t6.e (show ¬ (w.heap.size = w18.heap.size) by omega)
              have b6_ := b6.ev t6.e (show ¬ (w1.heap.size = w18.heap.size) by omega)
              have b8_ := b8.ev t6.e (show ¬ (w2.heap.size = w18.heap.size) by omega)
              have IN_ := IN.ev t6.e (fun i hi => show ¬ (i = w18.heap.size) by have := lIN_1 i hi; omega)
              have b11_ := b11.ev t6.e (show ¬ (w7.heap.size = w18.heap.size) by omega)
              have W_ := W.ev t6.e (fun i hi => show ¬ (i = w18.heap.size) by have := lW_2 i hi; omega)
              replace BL := BL_; clear BL_
              replace R := R_; clear R_
              replace D := D_; clear D_
              replace b5 := b5_; clear b5_
              replace b6 := b6_; clear b6_
              replace b8 := b8_; clear b8_
              replace IN := IN_; clear IN_
              replace b11 := b11_; clear b11_
              replace W := W_; clear W_
              replace b13 : Cel w21 w18.heap.size 66 [.int .u32 ((y0 : Nat) : Int), .int .u32 ((y1 : Nat) : Int), .int .u32 ((y2 : Nat) : Int), .int .u32 ((y3 : Nat) : Int), .int .u32 ((y4 : Nat) : Int), .int .u32 ((y5 : Nat) : Int), .int .u32 ((y6 : Nat) : Int), .int .u32 ((y7 : Nat) : Int), uw, .int .i64 L] := t6.c
              clear t6
              refine zz 9 ?_
              refine zd (by kernel_rfl) ?_ _
              exact ⟨w7.heap.size, w18.heap.size, ui, uw, cutE, BL, R, D, b5, b6, b8, b11, b13, IN.sl, W.sl, by omega⟩
            · skip
              refine xAlloc 13 66 [.int .u32 0, .int .u32 0, .int .u32 0, .int .u32 0, .int .u32 0, .int .u32 0, .int .u32 0, .int .u32 0, .slice none 0 0, .int .i64 0] rfl (by kernel_rfl) ?_
              intro w22 n10
              have zn10 := n10.z
              have b13 := n10.c
              replace BL := BL.e0 n10.e
              replace R := R.e0 n10.e
              replace D := D.e0 n10.e
              replace b5 := b5.e0 n10.e
              replace b6 := b6.e0 n10.e
              replace b8 := b8.e0 n10.e
              replace IN := IN.e0 n10.e
              replace b11 := b11.e0 n10.e
              refine ze 6 ⟨BL, R, D, b5, b6, b8, by omega⟩ ?_
              simp only [List.set_cons_zero, List.set_cons_succ]
              refine zo1 4 rfl ?_
              refine xCall 30 40 #[.agg #[.int .u32 ((y0 : Nat) : Int), .int .u32 ((y1 : Nat) : Int), .int .u32 ((y2 : Nat) : Int), .int .u32 ((y3 : Nat) : Int), .int .u32 ((y4 : Nat) : Int), .int .u32 ((y5 : Nat) : Int), .int .u32 ((y6 : Nat) : Int), .int .u32 ((y7 : Nat) : Int), .slice A r.length C, .int .i64 L]] (by kernel_rfl) ?_
              refine (copyH_any ([y0, y1, y2, y3, y4, y5, y6, y7], r, L) rfl (.slice A r.length C) w22 R (by show r.length ≤ _; omega)).mono ?_
              rintro en w23 ⟨uw, rfl, hOw, hb1⟩
              have e7 := belE0 hb1
              have ze7 := e7.size
              replace BL := BL.e0 e7
              replace R := R.e0 e7
              replace D := D.e0 e7
              replace b5 := b5.e0 e7
              replace b6 := b6.e0 e7
              replace b8 := b8.e0 e7
              replace IN := IN.e0 e7
              replace b11 := b11.e0 e7
              replace b13 := b13.e0 e7
              clear e7
              have W : Own 5 .u8 w22.heap.size w23 uw (nn r) := hOw
              have lW_3 := W.ge
              refine ⟨.agg #[.int .u32 ((y0 : Nat) : Int), .int .u32 ((y1 : Nat) : Int), .int .u32 ((y2 : Nat) : Int), .int .u32 ((y3 : Nat) : Int), .int .u32 ((y4 : Nat) : Int), .int .u32 ((y5 : Nat) : Int), .int .u32 ((y6 : Nat) : Int), .int .u32 ((y7 : Nat) : Int), uw, .int .i64 L], rfl, ?_⟩
              refine ze 4 ⟨BL, R, D, b5, b6, b8, by omega⟩ ?_
              simp only [List.set_cons_zero, List.set_cons_succ]
              refine zo1 7 rfl ?_
              refine xStoreA 61 (.tmp 11) (.tmp 26) rfl .u32 w7.heap.size 61 (nn (List.replicate 72 0)) 0 (nn tab) (by kernel_rfl) (by kernel_rfl) b11 (by rw [show (nn tab).length = 72 by ((try simp only [nn_len, List.length_cons, List.length_nil, List.length_set, List.length_replicate]); try omega)]; kernel_rfl) (by (try simp only [nn_len, List.length_cons, List.length_nil, List.length_set, List.length_replicate]); try omega) (nn tab) (over_whole _ _ (by (try simp only [nn_len, List.length_cons, List.length_nil, List.length_set, List.length_replicate]); try omega)) ?_
              intro w24 t7
              have zt7 := t7.z
              have BL_ := BL.ev t7.e (fun i h => show w.heap.size ≤ i by have h : i = w7.heap.size := h; omega)
              have R_ := R.ev t7.e (fun i hi => show ¬ (i = w7.heap.size) by have := hrl i hi; omega)
              have D_ := D.ev t7.e (fun i hi => show ¬ (i = w7.heap.size) by have := hdl i hi; omega)
              have b5_ := b5.ev t7.e (show ¬ (w.heap.size = w7.heap.size) by omega)
              have b6_ := b6.ev t7.e (show ¬ (w1.heap.size = w7.heap.size) by omega)
              have b8_ := b8.ev t7.e (show ¬ (w2.heap.size = w7.heap.size) by omega)
              have IN_ := IN.ev t7.e (fun i hi => show ¬ (i = w7.heap.size) by have := lIN_1 i hi; omega)
              have b13_ := b13.ev t7.e (show ¬ (w17.heap.size = w7.heap.size) by omega)
              have W_ := W.ev t7.e (fun i hi => show ¬ (i = w7.heap.size) by have := lW_3 i hi; omega)
              replace BL := BL_; clear BL_
              replace R := R_; clear R_
              replace D := D_; clear D_
              replace b5 := b5_; clear b5_
              replace b6 := b6_; clear b6_
              replace b8 := b8_; clear b8_
              replace IN := IN_; clear IN_
              replace b13 := b13_; clear b13_
              replace W := W_; clear W_
              replace b11 : Blk .u32 w24 w7.heap.size 61 (nn tab) := t7.c
              clear t7
              refine ze 7 ⟨BL, R, D, b5, b6, b8, by omega⟩ ?_
              refine zv 8 12 (ui) (fun _ _ => .of) ⟨BL, R, D, b5, b6, b8, by omega⟩ ?_
              simp only [List.set_cons_zero, List.set_cons_succ]
              refine zo1 9 rfl ?_
              refine xStoreR 66 (.tmp 13) (.tmp 30) rfl w17.heap.size 66 [.int .u32 0, .int .u32 0, .int .u32 0, .int .u32 0, .int .u32 0, .int .u32 0, .int .u32 0, .int .u32 0, .slice none 0 0, .int .i64 0] 0 [.int .u32 ((y0 : Nat) : Int), .int .u32 ((y1 : Nat) : Int), .int .u32 ((y2 : Nat) : Int), .int .u32 ((y3 : Nat) : Int), .int .u32 ((y4 : Nat) : Int), .int .u32 ((y5 : Nat) : Int), .int .u32 ((y6 : Nat) : Int), .int .u32 ((y7 : Nat) : Int), uw, .int .i64 L] (by kernel_rfl) (by kernel_rfl) b13 (by kernel_rfl) (by simp) (allC rfl (allC rfl (allC rfl (allC rfl (allC rfl (allC rfl (allC rfl (allC rfl (allC W.sl.oneCell (allC rfl allN)))))))))) [.int .u32 ((y0 : Nat) : Int), .int .u32 ((y1 : Nat) : Int), .int .u32 ((y2 : Nat) : Int), .int .u32 ((y3 : Nat) : Int), .int .u32 ((y4 : Nat) : Int), .int .u32 ((y5 : Nat) : Int), .int .u32 ((y6 : Nat) : Int), .int .u32 ((y7 : Nat) : Int), uw, .int .i64 L] rfl ?_
              intro w25 t8
              have zt8 := t8.z
              have BL_ := BL.ev t8.e (fun i h => show w.heap.size ≤ i by have h : i = w17.heap.size := h; omega)
              have R_ := R.ev t8.e (fun i hi => show ¬ (i = w17.heap.size) by have := hrl i hi; omega)
              have D_ := D.ev t8.e (fun i hi => show ¬ (i = w17.heap.size) by have := hdl i hi; omega)
              have b5_ := b5.ev t8.e (show ¬ (w.heap.size = w17.heap.size) by omega)
              have b6_ := b6.ev t8.e (show ¬ (w1.heap.size = w17.heap.size) by omega)
              have b8_ := b8.ev t8.e (show ¬ (w2.heap.size = w17.heap.size) by omega)
              have IN_ := IN.ev t8.e (fun i hi => show ¬ (i = w17.heap.size) by have := lIN_1 i hi; omega)
              have b11_ := b11.ev t8.e (show ¬ (w7.heap.size = w17.heap.size) by omega)
              have W_ := W.ev t8.e (fun i hi => show ¬ (i = w17.heap.size) by have := lW_3 i hi; omega)
              replace BL := BL_; clear BL_
              replace R := R_; clear R_
              replace D := D_; clear D_
              replace b5 := b5_; clear b5_
              replace b6 := b6_; clear b6_
              replace b8 := b8_; clear b8_
              replace IN := IN_; clear IN_
              replace b11 := b11_; clear b11_
              replace W := W_; clear W_
              replace b13 : Cel w25 w17.heap.size 66 [.int .u32 ((y0 : Nat) : Int), .int .u32 ((y1 : Nat) : Int), .int .u32 ((y2 : Nat) : Int), .int .u32 ((y3 : Nat) : Int), .int .u32 ((y4 : Nat) : Int), .int .u32 ((y5 : Nat) : Int), .int .u32 ((y6 : Nat) : Int), .int .u32 ((y7 : Nat) : Int), uw, .int .i64 L] := t8.c
              clear t8
              refine zz 9 ?_
              refine zd (by kernel_rfl) ?_ _
              exact ⟨w7.heap.size, w17.heap.size, ui, uw, cutE, BL, R, D, b5, b6, b8, b11, b13, IN.sl, W.sl, by omega⟩
          · skip
            refine xAlloc 13 66 [.int .u32 0, .int .u32 0, .int .u32 0, .int .u32 0, .int .u32 0, .int .u32 0, .int .u32 0, .int .u32 0, .slice none 0 0, .int .i64 0] rfl (by kernel_rfl) ?_
            intro w26 n11
            have zn11 := n11.z
            have b13 := n11.c
            replace BL := BL.e0 n11.e
            replace R := R.e0 n11.e
            replace D := D.e0 n11.e
            replace b5 := b5.e0 n11.e
            replace b6 := b6.e0 n11.e
            replace b8 := b8.e0 n11.e
            replace IN := IN.e0 n11.e
            refine ze 6 ⟨BL, R, D, b5, b6, b8, by omega⟩ ?_
            simp only [List.set_cons_zero, List.set_cons_succ]
            refine zo2 4 5 rfl rfl ?_ ?_
            · skip
              refine xCall 30 40 #[.agg #[.int .u32 ((y0 : Nat) : Int), .int .u32 ((y1 : Nat) : Int), .int .u32 ((y2 : Nat) : Int), .int .u32 ((y3 : Nat) : Int), .int .u32 ((y4 : Nat) : Int), .int .u32 ((y5 : Nat) : Int), .int .u32 ((y6 : Nat) : Int), .int .u32 ((y7 : Nat) : Int), .slice A r.length C, .int .i64 L]] (by kernel_rfl) ?_
              refine (copyH_any ([y0, y1, y2, y3, y4, y5, y6, y7], r, L) rfl (.slice A r.length C) w26 R (by show r.length ≤ _; omega)).mono ?_
              rintro en w27 ⟨uw, rfl, hOw, hb1⟩
              have e8 := belE0 hb1
              have ze8 := e8.size
              replace BL := BL.e0 e8
              replace R := R.e0 e8
              replace D := D.e0 e8
              replace b5 := b5.e0 e8
              replace b6 := b6.e0 e8
              replace b8 := b8.e0 e8
              replace IN := IN.e0 e8
              replace b13 := b13.e0 e8
              clear e8
              have W : Own 5 .u8 w26.heap.size w27 uw (nn r) := hOw
              have lW_4 := W.ge
              refine ⟨.agg #[.int .u32 ((y0 : Nat) : Int), .int .u32 ((y1 : Nat) : Int), .int .u32 ((y2 : Nat) : Int), .int .u32 ((y3 : Nat) : Int), .int .u32 ((y4 : Nat) : Int), .int .u32 ((y5 : Nat) : Int), .int .u32 ((y6 : Nat) : Int), .int .u32 ((y7 : Nat) : Int), uw, .int .i64 L], rfl, ?_⟩
              refine ze 4 ⟨BL, R, D, b5, b6, b8, by omega⟩ ?_
              simp only [List.set_cons_zero, List.set_cons_succ]
              refine zo1 5 rfl ?_
              refine xAlloc 11 61 ((nn (List.replicate 72 0)).map (Value.int .u32)) rfl (by kernel_rfl) ?_
              intro w28 n12
              have zn12 := n12.z
              have b11 := n12.c
              replace b11 : Blk .u32 w28 w27.heap.size 61 (nn (List.replicate 72 0)) := b11
              replace BL := BL.e0 n12.e
              replace R := R.e0 n12.e
              replace D := D.e0 n12.e
              replace b5 := b5.e0 n12.e
              replace b6 := b6.e0 n12.e
              replace b8 := b8.e0 n12.e
              replace IN := IN.e0 n12.e
              replace b13 := b13.e0 n12.e
              replace W := W.e0 n12.e
              refine ze 5 ⟨BL, R, D, b5, b6, b8, by omega⟩ ?_
              simp only [List.set_cons_zero, List.set_cons_succ]
              refine zo1 7 rfl ?_
              refine xStoreA 61 (.tmp 11) (.tmp 26) rfl .u32 w27.heap.size 61 (nn (List.replicate 72 0)) 0 (nn tab) (by kernel_rfl) (by kernel_rfl) b11 (by rw [show (nn tab).length = 72 by ((try simp only [nn_len, List.length_cons, List.length_nil, List.length_set, List.length_replicate]); try omega)]; kernel_rfl) (by (try simp only [nn_len, List.length_cons, List.length_nil, List.length_set, List.length_replicate]); try omega) (nn tab) (over_whole _ _ (by (try simp only [nn_len, List.length_cons, List.length_nil, List.length_set, List.length_replicate]); try omega)) ?_
              intro w29 t9
              have zt9 := t9.z
              have BL_ := BL.ev t9.e (fun i h => show w.heap.size ≤ i by have h : i = w27.heap.size := h; omega)
              have R_ := R.ev t9.e (fun i hi => show ¬ (i = w27.heap.size) by have := hrl i hi; omega)
              have D_ := D.ev t9.e (fun i hi => show ¬ (i = w27.heap.size) by have := hdl i hi; omega)
              have b5_ := b5.ev t9.e (show ¬ (w.heap.size = w27.heap.size) by omega)
              have b6_ := b6.ev t9.e (show ¬ (w1.heap.size = w27.heap.size) by omega)
              have b8_ := b8.ev t9.e (show ¬ (w2.heap.size = w27.heap.size) by omega)
              have IN_ := IN.ev t9.e (fun i hi => show ¬ (i = w27.heap.size) by have := lIN_1 i hi; omega)
              have b13_ := b13.ev t9.e (show ¬ (w7.heap.size = w27.heap.size) by omega)
              have W_ := W.ev t9.e (fun i hi => show ¬ (i = w27.heap.size) by have := lW_4 i hi; omega)
              replace BL := BL_; clear BL_
              replace R := R_; clear R_
              replace D := D_; clear D_
              replace b5 := b5_; clear b5_
              replace b6 := b6_; clear b6_
              replace b8 := b8_; clear b8_
              replace IN := IN_; clear IN_
              replace b13 := b13_; clear b13_
              replace W := W_; clear W_
              replace b11 : Blk .u32 w29 w27.heap.size 61 (nn tab) := t9.c
              clear t9
              refine ze 7 ⟨BL, R, D, b5, b6, b8, by omega⟩ ?_
              refine zv 8 12 (ui) (fun _ _ => .of) ⟨BL, R, D, b5, b6, b8, by omega⟩ ?_
              simp only [List.set_cons_zero, List.set_cons_succ]
              refine zo1 9 rfl ?_
              refine xStoreR 66 (.tmp 13) (.tmp 30) rfl w7.heap.size 66 [.int .u32 0, .int .u32 0, .int .u32 0, .int .u32 0, .int .u32 0, .int .u32 0, .int .u32 0, .int .u32 0, .slice none 0 0, .int .i64 0] 0 [.int .u32 ((y0 : Nat) : Int), .int .u32 ((y1 : Nat) : Int), .int .u32 ((y2 : Nat) : Int), .int .u32 ((y3 : Nat) : Int), .int .u32 ((y4 : Nat) : Int), .int .u32 ((y5 : Nat) : Int), .int .u32 ((y6 : Nat) : Int), .int .u32 ((y7 : Nat) : Int), uw, .int .i64 L] (by kernel_rfl) (by kernel_rfl) b13 (by kernel_rfl) (by simp) (allC rfl (allC rfl (allC rfl (allC rfl (allC rfl (allC rfl (allC rfl (allC rfl (allC W.sl.oneCell (allC rfl allN)))))))))) [.int .u32 ((y0 : Nat) : Int), .int .u32 ((y1 : Nat) : Int), .int .u32 ((y2 : Nat) : Int), .int .u32 ((y3 : Nat) : Int), .int .u32 ((y4 : Nat) : Int), .int .u32 ((y5 : Nat) : Int), .int .u32 ((y6 : Nat) : Int), .int .u32 ((y7 : Nat) : Int), uw, .int .i64 L] rfl ?_
              intro w30 t10
              have zt10 := t10.z
              have BL_ := BL.ev t10.e (fun i h => show w.heap.size ≤ i by have h : i = w7.heap.size := h; omega)
              have R_ := R.ev t10.e (fun i hi => show ¬ (i = w7.heap.size) by have := hrl i hi; omega)
              have D_ := D.ev t10.e (fun i hi => show ¬ (i = w7.heap.size) by have := hdl i hi; omega)
              have b5_ := b5.ev t10.e (show ¬ (w.heap.size = w7.heap.size) by omega)
              have b6_ := b6.ev t10.e (show ¬ (w1.heap.size = w7.heap.size) by omega)
              have b8_ := b8.ev t10.e (show ¬ (w2.heap.size = w7.heap.size) by omega)
              have IN_ := IN.ev t10.e (fun i hi => show ¬ (i = w7.heap.size) by have := lIN_1 i hi; omega)
              have W_ := W.ev t10.e (fun i hi => show ¬ (i = w7.heap.size) by have := lW_4 i hi; omega)
              have b11_ := b11.ev t10.e (show ¬ (w27.heap.size = w7.heap.size) by omega)
              replace BL := BL_; clear BL_
              replace R := R_; clear R_
              replace D := D_; clear D_
              replace b5 := b5_; clear b5_
              replace b6 := b6_; clear b6_
              replace b8 := b8_; clear b8_
              replace IN := IN_; clear IN_
              replace W := W_; clear W_
              replace b11 := b11_; clear b11_
              replace b13 : Cel w30 w7.heap.size 66 [.int .u32 ((y0 : Nat) : Int), .int .u32 ((y1 : Nat) : Int), .int .u32 ((y2 : Nat) : Int), .int .u32 ((y3 : Nat) : Int), .int .u32 ((y4 : Nat) : Int), .int .u32 ((y5 : Nat) : Int), .int .u32 ((y6 : Nat) : Int), .int .u32 ((y7 : Nat) : Int), uw, .int .i64 L] := t10.c
              clear t10
              refine zz 9 ?_
              refine zd (by kernel_rfl) ?_ _
              exact ⟨w27.heap.size, w7.heap.size, ui, uw, cutE, BL, R, D, b5, b6, b8, b11, b13, IN.sl, W.sl, by omega⟩
            · skip
              refine xAlloc 11 61 ((nn (List.replicate 72 0)).map (Value.int .u32)) rfl (by kernel_rfl) ?_
              intro w31 n13
              have zn13 := n13.z
              have b11 := n13.c
              replace b11 : Blk .u32 w31 w26.heap.size 61 (nn (List.replicate 72 0)) := b11
              replace BL := BL.e0 n13.e
              replace R := R.e0 n13.e
              replace D := D.e0 n13.e
              replace b5 := b5.e0 n13.e
              replace b6 := b6.e0 n13.e
              replace b8 := b8.e0 n13.e
              replace IN := IN.e0 n13.e
              replace b13 := b13.e0 n13.e
              refine ze 5 ⟨BL, R, D, b5, b6, b8, by omega⟩ ?_
              simp only [List.set_cons_zero, List.set_cons_succ]
              refine zo1 4 rfl ?_
              refine xCall 30 40 #[.agg #[.int .u32 ((y0 : Nat) : Int), .int .u32 ((y1 : Nat) : Int), .int .u32 ((y2 : Nat) : Int), .int .u32 ((y3 : Nat) : Int), .int .u32 ((y4 : Nat) : Int), .int .u32 ((y5 : Nat) : Int), .int .u32 ((y6 : Nat) : Int), .int .u32 ((y7 : Nat) : Int), .slice A r.length C, .int .i64 L]] (by kernel_rfl) ?_
              refine (copyH_any ([y0, y1, y2, y3, y4, y5, y6, y7], r, L) rfl (.slice A r.length C) w31 R (by show r.length ≤ _; omega)).mono ?_
              rintro en w32 ⟨uw, rfl, hOw, hb1⟩
              have e9 := belE0 hb1
              have ze9 := e9.size
              replace BL := BL.e0 e9
              replace R := R.e0 e9
              replace D := D.e0 e9
              replace b5 := b5.e0 e9
              replace b6 := b6.e0 e9
              replace b8 := b8.e0 e9
              replace IN := IN.e0 e9
              replace b13 := b13.e0 e9
              replace b11 := b11.e0 e9
              clear e9
              have W : Own 5 .u8 w31.heap.size w32 uw (nn r) := hOw
              have lW_5 := W.ge
              refine ⟨.agg #[.int .u32 ((y0 : Nat) : Int), .int .u32 ((y1 : Nat) : Int), .int .u32 ((y2 : Nat) : Int), .int .u32 ((y3 : Nat) : Int), .int .u32 ((y4 : Nat) : Int), .int .u32 ((y5 : Nat) : Int), .int .u32 ((y6 : Nat) : Int), .int .u32 ((y7 : Nat) : Int), uw, .int .i64 L], rfl, ?_⟩
              refine ze 4 ⟨BL, R, D, b5, b6, b8, by omega⟩ ?_
              simp only [List.set_cons_zero, List.set_cons_succ]
              refine zo1 7 rfl ?_
              refine xStoreA 61 (.tmp 11) (.tmp 26) rfl .u32 w26.heap.size 61 (nn (List.replicate 72 0)) 0 (nn tab) (by kernel_rfl) (by kernel_rfl) b11 (by rw [show (nn tab).length = 72 by ((try simp only [nn_len, List.length_cons, List.length_nil, List.length_set, List.length_replicate]); try omega)]; kernel_rfl) (by (try simp only [nn_len, List.length_cons, List.length_nil, List.length_set, List.length_replicate]); try omega) (nn tab) (over_whole _ _ (by (try simp only [nn_len, List.length_cons, List.length_nil, List.length_set, List.length_replicate]); try omega)) ?_
              intro w33 t11
              have zt11 := t11.z
              have BL_ := BL.ev t11.e (fun i h => show w.heap.size ≤ i by have h : i = w26.heap.size := h; omega)
              have R_ := R.ev t11.e (fun i hi => show ¬ (i = w26.heap.size) by have := hrl i hi; omega)
              have D_ := D.ev t11.e (fun i hi => show ¬ (i = w26.heap.size) by have := hdl i hi; omega)
              have b5_ := b5.ev t11.e (show ¬ (w.heap.size = w26.heap.size) by omega)
              have b6_ := b6.ev t11.e (show ¬ (w1.heap.size = w26.heap.size) by omega)
              have b8_ := b8.ev t11.e (show ¬ (w2.heap.size = w26.heap.size) by omega)
              have IN_ := IN.ev t11.e (fun i hi => show ¬ (i = w26.heap.size) by have := lIN_1 i hi; omega)
              have b13_ := b13.ev t11.e (show ¬ (w7.heap.size = w26.heap.size) by omega)
              have W_ := W.ev t11.e (fun i hi => show ¬ (i = w26.heap.size) by have := lW_5 i hi; omega)
              replace BL := BL_; clear BL_
              replace R := R_; clear R_
              replace D := D_; clear D_
              replace b5 := b5_; clear b5_
              replace b6 := b6_; clear b6_
              replace b8 := b8_; clear b8_
              replace IN := IN_; clear IN_
              replace b13 := b13_; clear b13_
              replace W := W_; clear W_
              replace b11 : Blk .u32 w33 w26.heap.size 61 (nn tab) := t11.c
              clear t11
              refine ze 7 ⟨BL, R, D, b5, b6, b8, by omega⟩ ?_
              refine zv 8 12 (ui) (fun _ _ => .of) ⟨BL, R, D, b5, b6, b8, by omega⟩ ?_
              simp only [List.set_cons_zero, List.set_cons_succ]
              refine zo1 9 rfl ?_
              refine xStoreR 66 (.tmp 13) (.tmp 30) rfl w7.heap.size 66 [.int .u32 0, .int .u32 0, .int .u32 0, .int .u32 0, .int .u32 0, .int .u32 0, .int .u32 0, .int .u32 0, .slice none 0 0, .int .i64 0] 0 [.int .u32 ((y0 : Nat) : Int), .int .u32 ((y1 : Nat) : Int), .int .u32 ((y2 : Nat) : Int), .int .u32 ((y3 : Nat) : Int), .int .u32 ((y4 : Nat) : Int), .int .u32 ((y5 : Nat) : Int), .int .u32 ((y6 : Nat) : Int), .int .u32 ((y7 : Nat) : Int), uw, .int .i64 L] (by kernel_rfl) (by kernel_rfl) b13 (by kernel_rfl) (by simp) (allC rfl (allC rfl (allC rfl (allC rfl (allC rfl (allC rfl (allC rfl (allC rfl (allC W.sl.oneCell (allC rfl allN)))))))))) [.int .u32 ((y0 : Nat) : Int), .int .u32 ((y1 : Nat) : Int), .int .u32 ((y2 : Nat) : Int), .int .u32 ((y3 : Nat) : Int), .int .u32 ((y4 : Nat) : Int), .int .u32 ((y5 : Nat) : Int), .int .u32 ((y6 : Nat) : Int), .int .u32 ((y7 : Nat) : Int), uw, .int .i64 L] rfl ?_
              intro w34 t12
              have zt12 := t12.z
              have BL_ := BL.ev t12.e (fun i h => show w.heap.size ≤ i by have h : i = w7.heap.size := h; omega)
              have R_ := R.ev t12.e (fun i hi => show ¬ (i = w7.heap.size) by have := hrl i hi; omega)
              have D_ := D.ev t12.e (fun i hi => show ¬ (i = w7.heap.size) by have := hdl i hi; omega)
              have b5_ := b5.ev t12.e (show ¬ (w.heap.size = w7.heap.size) by omega)
              have b6_ := b6.ev t12.e (show ¬ (w1.heap.size = w7.heap.size) by omega)
              have b8_ := b8.ev t12.e (show ¬ (w2.heap.size = w7.heap.size) by omega)
              have IN_ := IN.ev t12.e (fun i hi => show ¬ (i = w7.heap.size) by have := lIN_1 i hi; omega)
              have b11_ := b11.ev t12.e (show ¬ (w26.heap.size = w7.heap.size) by omega)
              have W_ := W.ev t12.e (fun i hi => show ¬ (i = w7.heap.size) by have := lW_5 i hi; omega)
              replace BL := BL_; clear BL_
              replace R := R_; clear R_
              replace D := D_; clear D_
              replace b5 := b5_; clear b5_
              replace b6 := b6_; clear b6_
              replace b8 := b8_; clear b8_
              replace IN := IN_; clear IN_
              replace b11 := b11_; clear b11_
              replace W := W_; clear W_
              replace b13 : Cel w34 w7.heap.size 66 [.int .u32 ((y0 : Nat) : Int), .int .u32 ((y1 : Nat) : Int), .int .u32 ((y2 : Nat) : Int), .int .u32 ((y3 : Nat) : Int), .int .u32 ((y4 : Nat) : Int), .int .u32 ((y5 : Nat) : Int), .int .u32 ((y6 : Nat) : Int), .int .u32 ((y7 : Nat) : Int), uw, .int .i64 L] := t12.c
              clear t12
              refine zz 9 ?_
              refine zd (by kernel_rfl) ?_ _
              exact ⟨w26.heap.size, w7.heap.size, ui, uw, cutE, BL, R, D, b5, b6, b8, b11, b13, IN.sl, W.sl, by omega⟩
        · skip
          refine xAlloc 11 61 ((nn (List.replicate 72 0)).map (Value.int .u32)) rfl (by kernel_rfl) ?_
          intro w35 n14
          have zn14 := n14.z
          have b11 := n14.c
          replace b11 : Blk .u32 w35 w6.heap.size 61 (nn (List.replicate 72 0)) := b11
          replace BL := BL.e0 n14.e
          replace R := R.e0 n14.e
          replace D := D.e0 n14.e
          replace b5 := b5.e0 n14.e
          replace b6 := b6.e0 n14.e
          replace b8 := b8.e0 n14.e
          refine ze 5 ⟨BL, R, D, b5, b6, b8, by omega⟩ ?_
          simp only [List.set_cons_zero, List.set_cons_succ]
          refine zo2 2 6 rfl rfl ?_ ?_
          · skip
            refine xCall 28 39 #[v] (by kernel_rfl) ?_
            refine (copyB_any _ (nn ns) w35 D (by rw [nn_len]; omega)).mono ?_
            rintro en w36 ⟨ui, rfl, hOi, hb1⟩
            have e10 := belE0 hb1
            have ze10 := e10.size
            replace BL := BL.e0 e10
            replace R := R.e0 e10
            replace D := D.e0 e10
            replace b5 := b5.e0 e10
            replace b6 := b6.e0 e10
            replace b8 := b8.e0 e10
            replace b11 := b11.e0 e10
            clear e10
            have IN : Own 5 .u8 w35.heap.size w36 ui (nn ns) := hOi
            have lIN_2 := IN.ge
            refine ⟨ui, rfl, ?_⟩
            refine ze 2 ⟨BL, R, D, b5, b6, b8, by omega⟩ ?_
            simp only [List.set_cons_zero, List.set_cons_succ]
            refine zo2 4 6 rfl rfl ?_ ?_
            · skip
              refine xCall 30 40 #[.agg #[.int .u32 ((y0 : Nat) : Int), .int .u32 ((y1 : Nat) : Int), .int .u32 ((y2 : Nat) : Int), .int .u32 ((y3 : Nat) : Int), .int .u32 ((y4 : Nat) : Int), .int .u32 ((y5 : Nat) : Int), .int .u32 ((y6 : Nat) : Int), .int .u32 ((y7 : Nat) : Int), .slice A r.length C, .int .i64 L]] (by kernel_rfl) ?_
              refine (copyH_any ([y0, y1, y2, y3, y4, y5, y6, y7], r, L) rfl (.slice A r.length C) w36 R (by show r.length ≤ _; omega)).mono ?_
              rintro en w37 ⟨uw, rfl, hOw, hb1⟩
              have e11 := belE0 hb1
              have ze11 := e11.size
              replace BL := BL.e0 e11
              replace R := R.e0 e11
              replace D := D.e0 e11
              replace b5 := b5.e0 e11
              replace b6 := b6.e0 e11
              replace b8 := b8.e0 e11
              replace b11 := b11.e0 e11
              replace IN := IN.e0 e11
              clear e11
              have W : Own 5 .u8 w36.heap.size w37 uw (nn r) := hOw
              have lW_6 := W.ge
              refine ⟨.agg #[.int .u32 ((y0 : Nat) : Int), .int .u32 ((y1 : Nat) : Int), .int .u32 ((y2 : Nat) : Int), .int .u32 ((y3 : Nat) : Int), .int .u32 ((y4 : Nat) : Int), .int .u32 ((y5 : Nat) : Int), .int .u32 ((y6 : Nat) : Int), .int .u32 ((y7 : Nat) : Int), uw, .int .i64 L], rfl, ?_⟩
              refine ze 4 ⟨BL, R, D, b5, b6, b8, by omega⟩ ?_
              simp only [List.set_cons_zero, List.set_cons_succ]
              refine zo1 6 rfl ?_
              refine xAlloc 13 66 [.int .u32 0, .int .u32 0, .int .u32 0, .int .u32 0, .int .u32 0, .int .u32 0, .int .u32 0, .int .u32 0, .slice none 0 0, .int .i64 0] rfl (by kernel_rfl) ?_
              intro w38 n15
              have zn15 := n15.z
              have b13 := n15.c
              replace BL := BL.e0 n15.e
              replace R := R.e0 n15.e
              replace D := D.e0 n15.e
              replace b5 := b5.e0 n15.e
              replace b6 := b6.e0 n15.e
              replace b8 := b8.e0 n15.e
              replace b11 := b11.e0 n15.e
              replace IN := IN.e0 n15.e
              replace W := W.e0 n15.e
              refine ze 6 ⟨BL, R, D, b5, b6, b8, by omega⟩ ?_
              simp only [List.set_cons_zero, List.set_cons_succ]
              refine zo1 7 rfl ?_
              refine xStoreA 61 (.tmp 11) (.tmp 26) rfl .u32 w6.heap.size 61 (nn (List.replicate 72 0)) 0 (nn tab) (by kernel_rfl) (by kernel_rfl) b11 (by rw [show (nn tab).length = 72 by ((try simp only [nn_len, List.length_cons, List.length_nil, List.length_set, List.length_replicate]); try omega)]; kernel_rfl) (by (try simp only [nn_len, List.length_cons, List.length_nil, List.length_set, List.length_replicate]); try omega) (nn tab) (over_whole _ _ (by (try simp only [nn_len, List.length_cons, List.length_nil, List.length_set, List.length_replicate]); try omega)) ?_
              intro w39 t13
              have zt13 := t13.z
              have BL_ := BL.ev t13.e (fun i h => show w.heap.size ≤ i by have h : i = w6.heap.size := h; omega)
              have R_ := R.ev t13.e (fun i hi => show ¬ (i = w6.heap.size) by have := hrl i hi; omega)
              have D_ := D.ev t13.e (fun i hi => show ¬ (i = w6.heap.size) by have := hdl i hi; omega)
              have b5_ := b5.ev t13.e (show ¬ (w.heap.size = w6.heap.size) by omega)
              have b6_ := b6.ev t13.e (show ¬ (w1.heap.size = w6.heap.size) by omega)
              have b8_ := b8.ev t13.e (show ¬ (w2.heap.size = w6.heap.size) by omega)
              have IN_ := IN.ev t13.e (fun i hi => show ¬ (i = w6.heap.size) by have := lIN_2 i hi; omega)
              have W_ := W.ev t13.e (fun i hi => show ¬ (i = w6.heap.size) by have := lW_6 i hi; omega)
              have b13_ := b13.ev t13.e (show ¬ (w37.heap.size = w6.heap.size) by omega)
              replace BL := BL_; clear BL_
              replace R := R_; clear R_
              replace D := D_; clear D_
              replace b5 := b5_; clear b5_
              replace b6 := b6_; clear b6_
              replace b8 := b8_; clear b8_
              replace IN := IN_; clear IN_
              replace W := W_; clear W_
              replace b13 := b13_; clear b13_
              replace b11 : Blk .u32 w39 w6.heap.size 61 (nn tab) := t13.c
              clear t13
              refine ze 7 ⟨BL, R, D, b5, b6, b8, by omega⟩ ?_
              refine zv 8 12 (ui) (fun _ _ => .of) ⟨BL, R, D, b5, b6, b8, by omega⟩ ?_
              simp only [List.set_cons_zero, List.set_cons_succ]
              refine zo1 9 rfl ?_
              refine xStoreR 66 (.tmp 13) (.tmp 30) rfl w37.heap.size 66 [.int .u32 0, .int .u32 0, .int .u32 0, .int .u32 0, .int .u32 0, .int .u32 0, .int .u32 0, .int .u32 0, .slice none 0 0, .int .i64 0] 0 [.int .u32 ((y0 : Nat) : Int), .int .u32 ((y1 : Nat) : Int), .int .u32 ((y2 : Nat) : Int), .int .u32 ((y3 : Nat) : Int), .int .u32 ((y4 : Nat) : Int), .int .u32 ((y5 : Nat) : Int), .int .u32 ((y6 : Nat) : Int), .int .u32 ((y7 : Nat) : Int), uw, .int .i64 L] (by kernel_rfl) (by kernel_rfl) b13 (by kernel_rfl) (by simp) (allC rfl (allC rfl (allC rfl (allC rfl (allC rfl (allC rfl (allC rfl (allC rfl (allC W.sl.oneCell (allC rfl allN)))))))))) [.int .u32 ((y0 : Nat) : Int), .int .u32 ((y1 : Nat) : Int), .int .u32 ((y2 : Nat) : Int), .int .u32 ((y3 : Nat) : Int), .int .u32 ((y4 : Nat) : Int), .int .u32 ((y5 : Nat) : Int), .int .u32 ((y6 : Nat) : Int), .int .u32 ((y7 : Nat) : Int), uw, .int .i64 L] rfl ?_
              intro w40 t14
              have zt14 := t14.z
              have BL_ := BL.ev t14.e (fun i h => show w.heap.size ≤ i by have h : i = w37.heap.size := h; omega)
              have R_ := R.ev t14.e (fun i hi => show ¬ (i = w37.heap.size) by have := hrl i hi; omega)
              have D_ := D.ev t14.e (fun i hi => show ¬ (i = w37.heap.size) by have := hdl i hi; omega)
              have b5_ := b5.ev t14.e (show ¬ (w.heap.size = w37.heap.size) by omega)
              have b6_ := b6.ev t14.e (show ¬ (w1.heap.size = w37.heap.size) by omega)
              have b8_ := b8.ev t14.e (show ¬ (w2.heap.size = w37.heap.size) by omega)
              have b11_ := b11.ev t14.e (show ¬ (w6.heap.size = w37.heap.size) by omega)
              have IN_ := IN.ev t14.e (fun i hi => show ¬ (i = w37.heap.size) by have := lIN_2 i hi; omega)
              have W_ := W.ev t14.e (fun i hi => show ¬ (i = w37.heap.size) by have := lW_6 i hi; omega)
              replace BL := BL_; clear BL_
              replace R := R_; clear R_
              replace D := D_; clear D_
              replace b5 := b5_; clear b5_
              replace b6 := b6_; clear b6_
              replace b8 := b8_; clear b8_
              replace b11 := b11_; clear b11_
              replace IN := IN_; clear IN_
              replace W := W_; clear W_
              replace b13 : Cel w40 w37.heap.size 66 [.int .u32 ((y0 : Nat) : Int), .int .u32 ((y1 : Nat) : Int), .int .u32 ((y2 : Nat) : Int), .int .u32 ((y3 : Nat) : Int), .int .u32 ((y4 : Nat) : Int), .int .u32 ((y5 : Nat) : Int), .int .u32 ((y6 : Nat) : Int), .int .u32 ((y7 : Nat) : Int), uw, .int .i64 L] := t14.c
              clear t14
              refine zz 9 ?_
              refine zd (by kernel_rfl) ?_ _
              exact ⟨w6.heap.size, w37.heap.size, ui, uw, cutE, BL, R, D, b5, b6, b8, b11, b13, IN.sl, W.sl, by omega⟩
            · skip
              refine xAlloc 13 66 [.int .u32 0, .int .u32 0, .int .u32 0, .int .u32 0, .int .u32 0, .int .u32 0, .int .u32 0, .int .u32 0, .slice none 0 0, .int .i64 0] rfl (by kernel_rfl) ?_
              intro w41 n16
              have zn16 := n16.z
              have b13 := n16.c
              replace BL := BL.e0 n16.e
              replace R := R.e0 n16.e
              replace D := D.e0 n16.e
              replace b5 := b5.e0 n16.e
              replace b6 := b6.e0 n16.e
              replace b8 := b8.e0 n16.e
              replace b11 := b11.e0 n16.e
              replace IN := IN.e0 n16.e
              refine ze 6 ⟨BL, R, D, b5, b6, b8, by omega⟩ ?_
              simp only [List.set_cons_zero, List.set_cons_succ]
              refine zo1 4 rfl ?_
              refine xCall 30 40 #[.agg #[.int .u32 ((y0 : Nat) : Int), .int .u32 ((y1 : Nat) : Int), .int .u32 ((y2 : Nat) : Int), .int .u32 ((y3 : Nat) : Int), .int .u32 ((y4 : Nat) : Int), .int .u32 ((y5 : Nat) : Int), .int .u32 ((y6 : Nat) : Int), .int .u32 ((y7 : Nat) : Int), .slice A r.length C, .int .i64 L]] (by kernel_rfl) ?_
              refine (copyH_any ([y0, y1, y2, y3, y4, y5, y6, y7], r, L) rfl (.slice A r.length C) w41 R (by show r.length ≤ _; omega)).mono ?_
              rintro en w42 ⟨uw, rfl, hOw, hb1⟩
              have e12 := belE0 hb1
              have ze12 := e12.size
              replace BL := BL.e0 e12
              replace R := R.e0 e12
              replace D := D.e0 e12
              replace b5 := b5.e0 e12
              replace b6 := b6.e0 e12
              replace b8 := b8.e0 e12
              replace b11 := b11.e0 e12
              replace IN := IN.e0 e12
              replace b13 := b13.e0 e12
              clear e12
              have W : Own 5 .u8 w41.heap.size w42 uw (nn r) := hOw
              have lW_7 := W.ge
              refine ⟨.agg #[.int .u32 ((y0 : Nat) : Int), .int .u32 ((y1 : Nat) : Int), .int .u32 ((y2 : Nat) : Int), .int .u32 ((y3 : Nat) : Int), .int .u32 ((y4 : Nat) : Int), .int .u32 ((y5 : Nat) : Int), .int .u32 ((y6 : Nat) : Int), .int .u32 ((y7 : Nat) : Int), uw, .int .i64 L], rfl, ?_⟩
              refine ze 4 ⟨BL, R, D, b5, b6, b8, by omega⟩ ?_
              simp only [List.set_cons_zero, List.set_cons_succ]
              refine zo1 7 rfl ?_
              refine xStoreA 61 (.tmp 11) (.tmp 26) rfl .u32 w6.heap.size 61 (nn (List.replicate 72 0)) 0 (nn tab) (by kernel_rfl) (by kernel_rfl) b11 (by rw [show (nn tab).length = 72 by ((try simp only [nn_len, List.length_cons, List.length_nil, List.length_set, List.length_replicate]); try omega)]; kernel_rfl) (by (try simp only [nn_len, List.length_cons, List.length_nil, List.length_set, List.length_replicate]); try omega) (nn tab) (over_whole _ _ (by (try simp only [nn_len, List.length_cons, List.length_nil, List.length_set, List.length_replicate]); try omega)) ?_
              intro w43 t15
              have zt15 := t15.z
              have BL_ := BL.ev t15.e (fun i h => show w.heap.size ≤ i by have h : i = w6.heap.size := h; omega)
              have R_ := R.ev t15.e (fun i hi => show ¬ (i = w6.heap.size) by have := hrl i hi; omega)
              have D_ := D.ev t15.e (fun i hi => show ¬ (i = w6.heap.size) by have := hdl i hi; omega)
              have b5_ := b5.ev t15.e (show ¬ (w.heap.size = w6.heap.size) by omega)
              have b6_ := b6.ev t15.e (show ¬ (w1.heap.size = w6.heap.size) by omega)
              have b8_ := b8.ev t15.e (show ¬ (w2.heap.size = w6.heap.size) by omega)
              have IN_ := IN.ev t15.e (fun i hi => show ¬ (i = w6.heap.size) by have := lIN_2 i hi; omega)
              have b13_ := b13.ev t15.e (show ¬ (w36.heap.size = w6.heap.size) by omega)
              have W_ := W.ev t15.e (fun i hi => show ¬ (i = w6.heap.size) by have := lW_7 i hi; omega)
              replace BL := BL_; clear BL_
              replace R := R_; clear R_
              replace D := D_; clear D_
              replace b5 := b5_; clear b5_
              replace b6 := b6_; clear b6_
              replace b8 := b8_; clear b8_
              replace IN := IN_; clear IN_
              replace b13 := b13_; clear b13_
              replace W := W_; clear W_
              replace b11 : Blk .u32 w43 w6.heap.size 61 (nn tab) := t15.c
              clear t15
              refine ze 7 ⟨BL, R, D, b5, b6, b8, by omega⟩ ?_
              refine zv 8 12 (ui) (fun _ _ => .of) ⟨BL, R, D, b5, b6, b8, by omega⟩ ?_
              simp only [List.set_cons_zero, List.set_cons_succ]
              refine zo1 9 rfl ?_
              refine xStoreR 66 (.tmp 13) (.tmp 30) rfl w36.heap.size 66 [.int .u32 0, .int .u32 0, .int .u32 0, .int .u32 0, .int .u32 0, .int .u32 0, .int .u32 0, .int .u32 0, .slice none 0 0, .int .i64 0] 0 [.int .u32 ((y0 : Nat) : Int), .int .u32 ((y1 : Nat) : Int), .int .u32 ((y2 : Nat) : Int), .int .u32 ((y3 : Nat) : Int), .int .u32 ((y4 : Nat) : Int), .int .u32 ((y5 : Nat) : Int), .int .u32 ((y6 : Nat) : Int), .int .u32 ((y7 : Nat) : Int), uw, .int .i64 L] (by kernel_rfl) (by kernel_rfl) b13 (by kernel_rfl) (by simp) (allC rfl (allC rfl (allC rfl (allC rfl (allC rfl (allC rfl (allC rfl (allC rfl (allC W.sl.oneCell (allC rfl allN)))))))))) [.int .u32 ((y0 : Nat) : Int), .int .u32 ((y1 : Nat) : Int), .int .u32 ((y2 : Nat) : Int), .int .u32 ((y3 : Nat) : Int), .int .u32 ((y4 : Nat) : Int), .int .u32 ((y5 : Nat) : Int), .int .u32 ((y6 : Nat) : Int), .int .u32 ((y7 : Nat) : Int), uw, .int .i64 L] rfl ?_
              intro w44 t16
              have zt16 := t16.z
              have BL_ := BL.ev t16.e (fun i h => show w.heap.size ≤ i by have h : i = w36.heap.size := h; omega)
              have R_ := R.ev t16.e (fun i hi => show ¬ (i = w36.heap.size) by have := hrl i hi; omega)
              have D_ := D.ev t16.e (fun i hi => show ¬ (i = w36.heap.size) by have := hdl i hi; omega)
              have b5_ := b5.ev t16.e (show ¬ (w.heap.size = w36.heap.size) by omega)
              have b6_ := b6.ev t16.e (show ¬ (w1.heap.size = w36.heap.size) by omega)
              have b8_ := b8.ev t16.e (show ¬ (w2.heap.size = w36.heap.size) by omega)
              have b11_ := b11.ev t16.e (show ¬ (w6.heap.size = w36.heap.size) by omega)
              have IN_ := IN.ev t16.e (fun i hi => show ¬ (i = w36.heap.size) by have := lIN_2 i hi; omega)
              have W_ := W.ev t16.e (fun i hi => show ¬ (i = w36.heap.size) by have := lW_7 i hi; omega)
              replace BL := BL_; clear BL_
              replace R := R_; clear R_
              replace D := D_; clear D_
              replace b5 := b5_; clear b5_
              replace b6 := b6_; clear b6_
              replace b8 := b8_; clear b8_
              replace b11 := b11_; clear b11_
              replace IN := IN_; clear IN_
              replace W := W_; clear W_
              replace b13 : Cel w44 w36.heap.size 66 [.int .u32 ((y0 : Nat) : Int), .int .u32 ((y1 : Nat) : Int), .int .u32 ((y2 : Nat) : Int), .int .u32 ((y3 : Nat) : Int), .int .u32 ((y4 : Nat) : Int), .int .u32 ((y5 : Nat) : Int), .int .u32 ((y6 : Nat) : Int), .int .u32 ((y7 : Nat) : Int), uw, .int .i64 L] := t16.c
              clear t16
              refine zz 9 ?_
              refine zd (by kernel_rfl) ?_ _
              exact ⟨w6.heap.size, w36.heap.size, ui, uw, cutE, BL, R, D, b5, b6, b8, b11, b13, IN.sl, W.sl, by omega⟩
          · skip
            refine xAlloc 13 66 [.int .u32 0, .int .u32 0, .int .u32 0, .int .u32 0, .int .u32 0, .int .u32 0, .int .u32 0, .int .u32 0, .slice none 0 0, .int .i64 0] rfl (by kernel_rfl) ?_
            intro w45 n17
            have zn17 := n17.z
            have b13 := n17.c
            replace BL := BL.e0 n17.e
            replace R := R.e0 n17.e
            replace D := D.e0 n17.e
            replace b5 := b5.e0 n17.e
            replace b6 := b6.e0 n17.e
            replace b8 := b8.e0 n17.e
            replace b11 := b11.e0 n17.e
            refine ze 6 ⟨BL, R, D, b5, b6, b8, by omega⟩ ?_
            simp only [List.set_cons_zero, List.set_cons_succ]
            refine zo1 2 rfl ?_
            refine xCall 28 39 #[v] (by kernel_rfl) ?_
            refine (copyB_any _ (nn ns) w45 D (by rw [nn_len]; omega)).mono ?_
            rintro en w46 ⟨ui, rfl, hOi, hb1⟩
            have e13 := belE0 hb1
            have ze13 := e13.size
            replace BL := BL.e0 e13
            replace R := R.e0 e13
            replace D := D.e0 e13
            replace b5 := b5.e0 e13
            replace b6 := b6.e0 e13
            replace b8 := b8.e0 e13
            replace b11 := b11.e0 e13
            replace b13 := b13.e0 e13
            clear e13
            have IN : Own 5 .u8 w45.heap.size w46 ui (nn ns) := hOi
            have lIN_3 := IN.ge
            refine ⟨ui, rfl, ?_⟩
            refine ze 2 ⟨BL, R, D, b5, b6, b8, by omega⟩ ?_
            simp only [List.set_cons_zero, List.set_cons_succ]
            refine zo1 4 rfl ?_
            refine xCall 30 40 #[.agg #[.int .u32 ((y0 : Nat) : Int), .int .u32 ((y1 : Nat) : Int), .int .u32 ((y2 : Nat) : Int), .int .u32 ((y3 : Nat) : Int), .int .u32 ((y4 : Nat) : Int), .int .u32 ((y5 : Nat) : Int), .int .u32 ((y6 : Nat) : Int), .int .u32 ((y7 : Nat) : Int), .slice A r.length C, .int .i64 L]] (by kernel_rfl) ?_
            refine (copyH_any ([y0, y1, y2, y3, y4, y5, y6, y7], r, L) rfl (.slice A r.length C) w46 R (by show r.length ≤ _; omega)).mono ?_
            rintro en w47 ⟨uw, rfl, hOw, hb1⟩
            have e14 := belE0 hb1
            have ze14 := e14.size
            replace BL := BL.e0 e14
            replace R := R.e0 e14
            replace D := D.e0 e14
            replace b5 := b5.e0 e14
            replace b6 := b6.e0 e14
            replace b8 := b8.e0 e14
            replace b11 := b11.e0 e14
            replace b13 := b13.e0 e14
            replace IN := IN.e0 e14
            clear e14
            have W : Own 5 .u8 w46.heap.size w47 uw (nn r) := hOw
            have lW_8 := W.ge
            refine ⟨.agg #[.int .u32 ((y0 : Nat) : Int), .int .u32 ((y1 : Nat) : Int), .int .u32 ((y2 : Nat) : Int), .int .u32 ((y3 : Nat) : Int), .int .u32 ((y4 : Nat) : Int), .int .u32 ((y5 : Nat) : Int), .int .u32 ((y6 : Nat) : Int), .int .u32 ((y7 : Nat) : Int), uw, .int .i64 L], rfl, ?_⟩
            refine ze 4 ⟨BL, R, D, b5, b6, b8, by omega⟩ ?_
            simp only [List.set_cons_zero, List.set_cons_succ]
            refine zo1 7 rfl ?_
            refine xStoreA 61 (.tmp 11) (.tmp 26) rfl .u32 w6.heap.size 61 (nn (List.replicate 72 0)) 0 (nn tab) (by kernel_rfl) (by kernel_rfl) b11 (by rw [show (nn tab).length = 72 by ((try simp only [nn_len, List.length_cons, List.length_nil, List.length_set, List.length_replicate]); try omega)]; kernel_rfl) (by (try simp only [nn_len, List.length_cons, List.length_nil, List.length_set, List.length_replicate]); try omega) (nn tab) (over_whole _ _ (by (try simp only [nn_len, List.length_cons, List.length_nil, List.length_set, List.length_replicate]); try omega)) ?_
            intro w48 t17
            have zt17 := t17.z
            have BL_ := BL.ev t17.e (fun i h => show w.heap.size ≤ i by have h : i = w6.heap.size := h; omega)
            have R_ := R.ev t17.e (fun i hi => show ¬ (i = w6.heap.size) by have := hrl i hi; omega)
            have D_ := D.ev t17.e (fun i hi => show ¬ (i = w6.heap.size) by have := hdl i hi; omega)
            have b5_ := b5.ev t17.e (show ¬ (w.heap.size = w6.heap.size) by omega)
            have b6_ := b6.ev t17.e (show ¬ (w1.heap.size = w6.heap.size) by omega)
            have b8_ := b8.ev t17.e (show ¬ (w2.heap.size = w6.heap.size) by omega)
            have b13_ := b13.ev t17.e (show ¬ (w35.heap.size = w6.heap.size) by omega)
            have IN_ := IN.ev t17.e (fun i hi => show ¬ (i = w6.heap.size) by have := lIN_3 i hi; omega)
            have W_ := W.ev t17.e (fun i hi => show ¬ (i = w6.heap.size) by have := lW_8 i hi; omega)
            replace BL := BL_; clear BL_
            replace R := R_; clear R_
            replace D := D_; clear D_
            replace b5 := b5_; clear b5_
            replace b6 := b6_; clear b6_
            replace b8 := b8_; clear b8_
            replace b13 := b13_; clear b13_
            replace IN := IN_; clear IN_
            replace W := W_; clear W_
            replace b11 : Blk .u32 w48 w6.heap.size 61 (nn tab) := t17.c
            clear t17
            refine ze 7 ⟨BL, R, D, b5, b6, b8, by omega⟩ ?_
            refine zv 8 12 (ui) (fun _ _ => .of) ⟨BL, R, D, b5, b6, b8, by omega⟩ ?_
            simp only [List.set_cons_zero, List.set_cons_succ]
            refine zo1 9 rfl ?_
            refine xStoreR 66 (.tmp 13) (.tmp 30) rfl w35.heap.size 66 [.int .u32 0, .int .u32 0, .int .u32 0, .int .u32 0, .int .u32 0, .int .u32 0, .int .u32 0, .int .u32 0, .slice none 0 0, .int .i64 0] 0 [.int .u32 ((y0 : Nat) : Int), .int .u32 ((y1 : Nat) : Int), .int .u32 ((y2 : Nat) : Int), .int .u32 ((y3 : Nat) : Int), .int .u32 ((y4 : Nat) : Int), .int .u32 ((y5 : Nat) : Int), .int .u32 ((y6 : Nat) : Int), .int .u32 ((y7 : Nat) : Int), uw, .int .i64 L] (by kernel_rfl) (by kernel_rfl) b13 (by kernel_rfl) (by simp) (allC rfl (allC rfl (allC rfl (allC rfl (allC rfl (allC rfl (allC rfl (allC rfl (allC W.sl.oneCell (allC rfl allN)))))))))) [.int .u32 ((y0 : Nat) : Int), .int .u32 ((y1 : Nat) : Int), .int .u32 ((y2 : Nat) : Int), .int .u32 ((y3 : Nat) : Int), .int .u32 ((y4 : Nat) : Int), .int .u32 ((y5 : Nat) : Int), .int .u32 ((y6 : Nat) : Int), .int .u32 ((y7 : Nat) : Int), uw, .int .i64 L] rfl ?_
            intro w49 t18
            have zt18 := t18.z
            have BL_ := BL.ev t18.e (fun i h => show w.heap.size ≤ i by have h : i = w35.heap.size := h; omega)
            have R_ := R.ev t18.e (fun i hi => show ¬ (i = w35.heap.size) by have := hrl i hi; omega)
            have D_ := D.ev t18.e (fun i hi => show ¬ (i = w35.heap.size) by have := hdl i hi; omega)
            have b5_ := b5.ev t18.e (show ¬ (w.heap.size = w35.heap.size) by omega)
            have b6_ := b6.ev t18.e (show ¬ (w1.heap.size = w35.heap.size) by omega)
            have b8_ := b8.ev t18.e (show ¬ (w2.heap.size = w35.heap.size) by omega)
            have b11_ := b11.ev t18.e (show ¬ (w6.heap.size = w35.heap.size) by omega)
            have IN_ := IN.ev t18.e (fun i hi => show ¬ (i = w35.heap.size) by have := lIN_3 i hi; omega)
            have W_ := W.ev t18.e (fun i hi => show ¬ (i = w35.heap.size) by have := lW_8 i hi; omega)
            replace BL := BL_; clear BL_
            replace R := R_; clear R_
            replace D := D_; clear D_
            replace b5 := b5_; clear b5_
            replace b6 := b6_; clear b6_
            replace b8 := b8_; clear b8_
            replace b11 := b11_; clear b11_
            replace IN := IN_; clear IN_
            replace W := W_; clear W_
            replace b13 : Cel w49 w35.heap.size 66 [.int .u32 ((y0 : Nat) : Int), .int .u32 ((y1 : Nat) : Int), .int .u32 ((y2 : Nat) : Int), .int .u32 ((y3 : Nat) : Int), .int .u32 ((y4 : Nat) : Int), .int .u32 ((y5 : Nat) : Int), .int .u32 ((y6 : Nat) : Int), .int .u32 ((y7 : Nat) : Int), uw, .int .i64 L] := t18.c
            clear t18
            refine zz 9 ?_
            refine zd (by kernel_rfl) ?_ _
            exact ⟨w6.heap.size, w35.heap.size, ui, uw, cutE, BL, R, D, b5, b6, b8, b11, b13, IN.sl, W.sl, by omega⟩
        · skip
          refine xAlloc 13 66 [.int .u32 0, .int .u32 0, .int .u32 0, .int .u32 0, .int .u32 0, .int .u32 0, .int .u32 0, .int .u32 0, .slice none 0 0, .int .i64 0] rfl (by kernel_rfl) ?_
          intro w50 n18
          have zn18 := n18.z
          have b13 := n18.c
          replace BL := BL.e0 n18.e
          replace R := R.e0 n18.e
          replace D := D.e0 n18.e
          replace b5 := b5.e0 n18.e
          replace b6 := b6.e0 n18.e
          replace b8 := b8.e0 n18.e
          refine ze 6 ⟨BL, R, D, b5, b6, b8, by omega⟩ ?_
          simp only [List.set_cons_zero, List.set_cons_succ]
          refine zo2 2 5 rfl rfl ?_ ?_
          · skip
            refine xCall 28 39 #[v] (by kernel_rfl) ?_
            refine (copyB_any _ (nn ns) w50 D (by rw [nn_len]; omega)).mono ?_
            rintro en w51 ⟨ui, rfl, hOi, hb1⟩
            have e15 := belE0 hb1
            have ze15 := e15.size
            replace BL := BL.e0 e15
            replace R := R.e0 e15
            replace D := D.e0 e15
            replace b5 := b5.e0 e15
            replace b6 := b6.e0 e15
            replace b8 := b8.e0 e15
            replace b13 := b13.e0 e15
            clear e15
            have IN : Own 5 .u8 w50.heap.size w51 ui (nn ns) := hOi
            have lIN_4 := IN.ge
            refine ⟨ui, rfl, ?_⟩
            refine ze 2 ⟨BL, R, D, b5, b6, b8, by omega⟩ ?_
            simp only [List.set_cons_zero, List.set_cons_succ]
            refine zo2 4 5 rfl rfl ?_ ?_
            · skip
              refine xCall 30 40 #[.agg #[.int .u32 ((y0 : Nat) : Int), .int .u32 ((y1 : Nat) : Int), .int .u32 ((y2 : Nat) : Int), .int .u32 ((y3 : Nat) : Int), .int .u32 ((y4 : Nat) : Int), .int .u32 ((y5 : Nat) : Int), .int .u32 ((y6 : Nat) : Int), .int .u32 ((y7 : Nat) : Int), .slice A r.length C, .int .i64 L]] (by kernel_rfl) ?_
              refine (copyH_any ([y0, y1, y2, y3, y4, y5, y6, y7], r, L) rfl (.slice A r.length C) w51 R (by show r.length ≤ _; omega)).mono ?_
              rintro en w52 ⟨uw, rfl, hOw, hb1⟩
              have e16 := belE0 hb1
              have ze16 := e16.size
              replace BL := BL.e0 e16
              replace R := R.e0 e16
              replace D := D.e0 e16
              replace b5 := b5.e0 e16
              replace b6 := b6.e0 e16
              replace b8 := b8.e0 e16
              replace b13 := b13.e0 e16
              replace IN := IN.e0 e16
              clear e16
              have W : Own 5 .u8 w51.heap.size w52 uw (nn r) := hOw
              have lW_9 := W.ge
              refine ⟨.agg #[.int .u32 ((y0 : Nat) : Int), .int .u32 ((y1 : Nat) : Int), .int .u32 ((y2 : Nat) : Int), .int .u32 ((y3 : Nat) : Int), .int .u32 ((y4 : Nat) : Int), .int .u32 ((y5 : Nat) : Int), .int .u32 ((y6 : Nat) : Int), .int .u32 ((y7 : Nat) : Int), uw, .int .i64 L], rfl, ?_⟩
              refine ze 4 ⟨BL, R, D, b5, b6, b8, by omega⟩ ?_
              simp only [List.set_cons_zero, List.set_cons_succ]
              refine zo1 5 rfl ?_
              refine xAlloc 11 61 ((nn (List.replicate 72 0)).map (Value.int .u32)) rfl (by kernel_rfl) ?_
              intro w53 n19
              have zn19 := n19.z
              have b11 := n19.c
              replace b11 : Blk .u32 w53 w52.heap.size 61 (nn (List.replicate 72 0)) := b11
              replace BL := BL.e0 n19.e
              replace R := R.e0 n19.e
              replace D := D.e0 n19.e
              replace b5 := b5.e0 n19.e
              replace b6 := b6.e0 n19.e
              replace b8 := b8.e0 n19.e
              replace b13 := b13.e0 n19.e
              replace IN := IN.e0 n19.e
              replace W := W.e0 n19.e
              refine ze 5 ⟨BL, R, D, b5, b6, b8, by omega⟩ ?_
              simp only [List.set_cons_zero, List.set_cons_succ]
              refine zo1 7 rfl ?_
              refine xStoreA 61 (.tmp 11) (.tmp 26) rfl .u32 w52.heap.size 61 (nn (List.replicate 72 0)) 0 (nn tab) (by kernel_rfl) (by kernel_rfl) b11 (by rw [show (nn tab).length = 72 by ((try simp only [nn_len, List.length_cons, List.length_nil, List.length_set, List.length_replicate]); try omega)]; kernel_rfl) (by (try simp only [nn_len, List.length_cons, List.length_nil, List.length_set, List.length_replicate]); try omega) (nn tab) (over_whole _ _ (by (try simp only [nn_len, List.length_cons, List.length_nil, List.length_set, List.length_replicate]); try omega)) ?_
              intro w54 t19
              have zt19 := t19.z
              have BL_ := BL.ev t19.e (fun i h => show w.heap.size ≤ i by have h : i = w52.heap.size := h; omega)
              have R_ := R.ev t19.e (fun i hi => show ¬ (i = w52.heap.size) by have := hrl i hi; omega)
              have D_ := D.ev t19.e (fun i hi => show ¬ (i = w52.heap.size) by have := hdl i hi; omega)
              have b5_ := b5.ev t19.e (show ¬ (w.heap.size = w52.heap.size) by omega)
              have b6_ := b6.ev t19.e (show ¬ (w1.heap.size = w52.heap.size) by omega)
              have b8_ := b8.ev t19.e (show ¬ (w2.heap.size = w52.heap.size) by omega)
              have b13_ := b13.ev t19.e (show ¬ (w6.heap.size = w52.heap.size) by omega)
              have IN_ := IN.ev t19.e (fun i hi => show ¬ (i = w52.heap.size) by have := lIN_4 i hi; omega)
              have W_ := W.ev t19.e (fun i hi => show ¬ (i = w52.heap.size) by have := lW_9 i hi; omega)
              replace BL := BL_; clear BL_
              replace R := R_; clear R_
              replace D := D_; clear D_
              replace b5 := b5_; clear b5_
              replace b6 := b6_; clear b6_
              replace b8 := b8_; clear b8_
              replace b13 := b13_; clear b13_
              replace IN := IN_; clear IN_
              replace W := W_; clear W_
              replace b11 : Blk .u32 w54 w52.heap.size 61 (nn tab) := t19.c
              clear t19
              refine ze 7 ⟨BL, R, D, b5, b6, b8, by omega⟩ ?_
              refine zv 8 12 (ui) (fun _ _ => .of) ⟨BL, R, D, b5, b6, b8, by omega⟩ ?_
              simp only [List.set_cons_zero, List.set_cons_succ]
              refine zo1 9 rfl ?_
              refine xStoreR 66 (.tmp 13) (.tmp 30) rfl w6.heap.size 66 [.int .u32 0, .int .u32 0, .int .u32 0, .int .u32 0, .int .u32 0, .int .u32 0, .int .u32 0, .int .u32 0, .slice none 0 0, .int .i64 0] 0 [.int .u32 ((y0 : Nat) : Int), .int .u32 ((y1 : Nat) : Int), .int .u32 ((y2 : Nat) : Int), .int .u32 ((y3 : Nat) : Int), .int .u32 ((y4 : Nat) : Int), .int .u32 ((y5 : Nat) : Int), .int .u32 ((y6 : Nat) : Int), .int .u32 ((y7 : Nat) : Int), uw, .int .i64 L] (by kernel_rfl) (by kernel_rfl) b13 (by kernel_rfl) (by simp) (allC rfl (allC rfl (allC rfl (allC rfl (allC rfl (allC rfl (allC rfl (allC rfl (allC W.sl.oneCell (allC rfl allN)))))))))) [.int .u32 ((y0 : Nat) : Int), .int .u32 ((y1 : Nat) : Int), .int .u32 ((y2 : Nat) : Int), .int .u32 ((y3 : Nat) : Int), .int .u32 ((y4 : Nat) : Int), .int .u32 ((y5 : Nat) : Int), .int .u32 ((y6 : Nat) : Int), .int .u32 ((y7 : Nat) : Int), uw, .int .i64 L] rfl ?_
              intro w55 t20
              have zt20 := t20.z
              have BL_ := BL.ev t20.e (fun i h => show w.heap.size ≤ i by have h : i = w6.heap.size := h; omega)
              have R_ := R.ev t20.e (fun i hi => show ¬ (i = w6.heap.size) by have := hrl i hi; omega)
              have D_ := D.ev t20.e (fun i hi => show ¬ (i = w6.heap.size) by have := hdl i hi; omega)
              have b5_ := b5.ev t20.e (show ¬ (w.heap.size = w6.heap.size) by omega)
              have b6_ := b6.ev t20.e (show ¬ (w1.heap.size = w6.heap.size) by omega)
              have b8_ := b8.ev t20.e (show ¬ (w2.heap.size = w6.heap.size) by omega)
              have IN_ := IN.ev t20.e (fun i hi => show ¬ (i = w6.heap.size) by have := lIN_4 i hi; omega)
              have W_ := W.ev t20.e (fun i hi => show ¬ (i = w6.heap.size) by have := lW_9 i hi; omega)
              have b11_ := b11.ev t20.e (show ¬ (w52.heap.size = w6.heap.size) by omega)
              replace BL := BL_; clear BL_
              replace R := R_; clear R_
              replace D := D_; clear D_
              replace b5 := b5_; clear b5_
              replace b6 := b6_; clear b6_
              replace b8 := b8_; clear b8_
              replace IN := IN_; clear IN_
              replace W := W_; clear W_
              replace b11 := b11_; clear b11_
              replace b13 : Cel w55 w6.heap.size 66 [.int .u32 ((y0 : Nat) : Int), .int .u32 ((y1 : Nat) : Int), .int .u32 ((y2 : Nat) : Int), .int .u32 ((y3 : Nat) : Int), .int .u32 ((y4 : Nat) : Int), .int .u32 ((y5 : Nat) : Int), .int .u32 ((y6 : Nat) : Int), .int .u32 ((y7 : Nat) : Int), uw, .int .i64 L] := t20.c
              clear t20
              refine zz 9 ?_
              refine zd (by kernel_rfl) ?_ _
              exact ⟨w52.heap.size, w6.heap.size, ui, uw, cutE, BL, R, D, b5, b6, b8, b11, b13, IN.sl, W.sl, by omega⟩
            · skip
              refine xAlloc 11 61 ((nn (List.replicate 72 0)).map (Value.int .u32)) rfl (by kernel_rfl) ?_
              intro w56 n20
              have zn20 := n20.z
              have b11 := n20.c
              replace b11 : Blk .u32 w56 w51.heap.size 61 (nn (List.replicate 72 0)) := b11
              replace BL := BL.e0 n20.e
              replace R := R.e0 n20.e
              replace D := D.e0 n20.e
              replace b5 := b5.e0 n20.e
              replace b6 := b6.e0 n20.e
              replace b8 := b8.e0 n20.e
              replace b13 := b13.e0 n20.e
              replace IN := IN.e0 n20.e
              refine ze 5 ⟨BL, R, D, b5, b6, b8, by omega⟩ ?_
              simp only [List.set_cons_zero, List.set_cons_succ]
              refine zo1 4 rfl ?_
              refine xCall 30 40 #[.agg #[.int .u32 ((y0 : Nat) : Int), .int .u32 ((y1 : Nat) : Int), .int .u32 ((y2 : Nat) : Int), .int .u32 ((y3 : Nat) : Int), .int .u32 ((y4 : Nat) : Int), .int .u32 ((y5 : Nat) : Int), .int .u32 ((y6 : Nat) : Int), .int .u32 ((y7 : Nat) : Int), .slice A r.length C, .int .i64 L]] (by kernel_rfl) ?_
              refine (copyH_any ([y0, y1, y2, y3, y4, y5, y6, y7], r, L) rfl (.slice A r.length C) w56 R (by show r.length ≤ _; omega)).mono ?_
              rintro en w57 ⟨uw, rfl, hOw, hb1⟩
              have e17 := belE0 hb1
              have ze17 := e17.size
              replace BL := BL.e0 e17
              replace R := R.e0 e17
              replace D := D.e0 e17
              replace b5 := b5.e0 e17
              replace b6 := b6.e0 e17
              replace b8 := b8.e0 e17
              replace b13 := b13.e0 e17
              replace IN := IN.e0 e17
              replace b11 := b11.e0 e17
              clear e17
              have W : Own 5 .u8 w56.heap.size w57 uw (nn r) := hOw
              have lW_10 := W.ge
              refine ⟨.agg #[.int .u32 ((y0 : Nat) : Int), .int .u32 ((y1 : Nat) : Int), .int .u32 ((y2 : Nat) : Int), .int .u32 ((y3 : Nat) : Int), .int .u32 ((y4 : Nat) : Int), .int .u32 ((y5 : Nat) : Int), .int .u32 ((y6 : Nat) : Int), .int .u32 ((y7 : Nat) : Int), uw, .int .i64 L], rfl, ?_⟩
              refine ze 4 ⟨BL, R, D, b5, b6, b8, by omega⟩ ?_
              simp only [List.set_cons_zero, List.set_cons_succ]
              refine zo1 7 rfl ?_
              refine xStoreA 61 (.tmp 11) (.tmp 26) rfl .u32 w51.heap.size 61 (nn (List.replicate 72 0)) 0 (nn tab) (by kernel_rfl) (by kernel_rfl) b11 (by rw [show (nn tab).length = 72 by ((try simp only [nn_len, List.length_cons, List.length_nil, List.length_set, List.length_replicate]); try omega)]; kernel_rfl) (by (try simp only [nn_len, List.length_cons, List.length_nil, List.length_set, List.length_replicate]); try omega) (nn tab) (over_whole _ _ (by (try simp only [nn_len, List.length_cons, List.length_nil, List.length_set, List.length_replicate]); try omega)) ?_
              intro w58 t21
              have zt21 := t21.z
              have BL_ := BL.ev t21.e (fun i h => show w.heap.size ≤ i by have h : i = w51.heap.size := h; omega)
              have R_ := R.ev t21.e (fun i hi => show ¬ (i = w51.heap.size) by have := hrl i hi; omega)
              have D_ := D.ev t21.e (fun i hi => show ¬ (i = w51.heap.size) by have := hdl i hi; omega)
              have b5_ := b5.ev t21.e (show ¬ (w.heap.size = w51.heap.size) by omega)
              have b6_ := b6.ev t21.e (show ¬ (w1.heap.size = w51.heap.size) by omega)
              have b8_ := b8.ev t21.e (show ¬ (w2.heap.size = w51.heap.size) by omega)
              have b13_ := b13.ev t21.e (show ¬ (w6.heap.size = w51.heap.size) by omega)
              have IN_ := IN.ev t21.e (fun i hi => show ¬ (i = w51.heap.size) by have := lIN_4 i hi; omega)
              have W_ := W.ev t21.e (fun i hi => show ¬ (i = w51.heap.size) by have := lW_10 i hi; omega)
              replace BL := BL_; clear BL_
              replace R := R_; clear R_
              replace D := D_; clear D_
              replace b5 := b5_; clear b5_
              replace b6 := b6_; clear b6_
              replace b8 := b8_; clear b8_
              replace b13 := b13_; clear b13_
              replace IN := IN_; clear IN_
              replace W := W_; clear W_
              replace b11 : Blk .u32 w58 w51.heap.size 61 (nn tab) := t21.c
              clear t21
              refine ze 7 ⟨BL, R, D, b5, b6, b8, by omega⟩ ?_
              refine zv 8 12 (ui) (fun _ _ => .of) ⟨BL, R, D, b5, b6, b8, by omega⟩ ?_
              simp only [List.set_cons_zero, List.set_cons_succ]
              refine zo1 9 rfl ?_
              refine xStoreR 66 (.tmp 13) (.tmp 30) rfl w6.heap.size 66 [.int .u32 0, .int .u32 0, .int .u32 0, .int .u32 0, .int .u32 0, .int .u32 0, .int .u32 0, .int .u32 0, .slice none 0 0, .int .i64 0] 0 [.int .u32 ((y0 : Nat) : Int), .int .u32 ((y1 : Nat) : Int), .int .u32 ((y2 : Nat) : Int), .int .u32 ((y3 : Nat) : Int), .int .u32 ((y4 : Nat) : Int), .int .u32 ((y5 : Nat) : Int), .int .u32 ((y6 : Nat) : Int), .int .u32 ((y7 : Nat) : Int), uw, .int .i64 L] (by kernel_rfl) (by kernel_rfl) b13 (by kernel_rfl) (by simp) (allC rfl (allC rfl (allC rfl (allC rfl (allC rfl (allC rfl (allC rfl (allC rfl (allC W.sl.oneCell (allC rfl allN)))))))))) [.int .u32 ((y0 : Nat) : Int), .int .u32 ((y1 : Nat) : Int), .int .u32 ((y2 : Nat) : Int), .int .u32 ((y3 : Nat) : Int), .int .u32 ((y4 : Nat) : Int), .int .u32 ((y5 : Nat) : Int), .int .u32 ((y6 : Nat) : Int), .int .u32 ((y7 : Nat) : Int), uw, .int .i64 L] rfl ?_
              intro w59 t22
              have zt22 := t22.z
              have BL_ := BL.ev t22.e (fun i h => show w.heap.size ≤ i by have h : i = w6.heap.size := h; omega)
              have R_ := R.ev t22.e (fun i hi => show ¬ (i = w6.heap.size) by have := hrl i hi; omega)
              have D_ := D.ev t22.e (fun i hi => show ¬ (i = w6.heap.size) by have := hdl i hi; omega)
              have b5_ := b5.ev t22.e (show ¬ (w.heap.size = w6.heap.size) by omega)
              have b6_ := b6.ev t22.e (show ¬ (w1.heap.size = w6.heap.size) by omega)
              have b8_ := b8.ev t22.e (show ¬ (w2.heap.size = w6.heap.size) by omega)
              have IN_ := IN.ev t22.e (fun i hi => show ¬ (i = w6.heap.size) by have := lIN_4 i hi; omega)
              have b11_ := b11.ev t22.e (show ¬ (w51.heap.size = w6.heap.size) by omega)
              have W_ := W.ev t22.e (fun i hi => show ¬ (i = w6.heap.size) by have := lW_10 i hi; omega)
              replace BL := BL_; clear BL_
              replace R := R_; clear R_
              replace D := D_; clear D_
              replace b5 := b5_; clear b5_
              replace b6 := b6_; clear b6_
              replace b8 := b8_; clear b8_
              replace IN := IN_; clear IN_
              replace b11 := b11_; clear b11_
              replace W := W_; clear W_
              replace b13 : Cel w59 w6.heap.size 66 [.int .u32 ((y0 : Nat) : Int), .int .u32 ((y1 : Nat) : Int), .int .u32 ((y2 : Nat) : Int), .int .u32 ((y3 : Nat) : Int), .int .u32 ((y4 : Nat) : Int), .int .u32 ((y5 : Nat) : Int), .int .u32 ((y6 : Nat) : Int), .int .u32 ((y7 : Nat) : Int), uw, .int .i64 L] := t22.c
              clear t22
              refine zz 9 ?_
              refine zd (by kernel_rfl) ?_ _
              exact ⟨w51.heap.size, w6.heap.size, ui, uw, cutE, BL, R, D, b5, b6, b8, b11, b13, IN.sl, W.sl, by omega⟩
          · skip
            refine xAlloc 11 61 ((nn (List.replicate 72 0)).map (Value.int .u32)) rfl (by kernel_rfl) ?_
            intro w60 n21
            have zn21 := n21.z
            have b11 := n21.c
            replace b11 : Blk .u32 w60 w50.heap.size 61 (nn (List.replicate 72 0)) := b11
            replace BL := BL.e0 n21.e
            replace R := R.e0 n21.e
            replace D := D.e0 n21.e
            replace b5 := b5.e0 n21.e
            replace b6 := b6.e0 n21.e
            replace b8 := b8.e0 n21.e
            replace b13 := b13.e0 n21.e
            refine ze 5 ⟨BL, R, D, b5, b6, b8, by omega⟩ ?_
            simp only [List.set_cons_zero, List.set_cons_succ]
            refine zo1 2 rfl ?_
            refine xCall 28 39 #[v] (by kernel_rfl) ?_
            refine (copyB_any _ (nn ns) w60 D (by rw [nn_len]; omega)).mono ?_
            rintro en w61 ⟨ui, rfl, hOi, hb1⟩
            have e18 := belE0 hb1
            have ze18 := e18.size
            replace BL := BL.e0 e18
            replace R := R.e0 e18
            replace D := D.e0 e18
            replace b5 := b5.e0 e18
            replace b6 := b6.e0 e18
            replace b8 := b8.e0 e18
            replace b13 := b13.e0 e18
            replace b11 := b11.e0 e18
            clear e18
            have IN : Own 5 .u8 w60.heap.size w61 ui (nn ns) := hOi
            have lIN_5 := IN.ge
            refine ⟨ui, rfl, ?_⟩
            refine ze 2 ⟨BL, R, D, b5, b6, b8, by omega⟩ ?_
            simp only [List.set_cons_zero, List.set_cons_succ]
            refine zo1 4 rfl ?_
            refine xCall 30 40 #[.agg #[.int .u32 ((y0 : Nat) : Int), .int .u32 ((y1 : Nat) : Int), .int .u32 ((y2 : Nat) : Int), .int .u32 ((y3 : Nat) : Int), .int .u32 ((y4 : Nat) : Int), .int .u32 ((y5 : Nat) : Int), .int .u32 ((y6 : Nat) : Int), .int .u32 ((y7 : Nat) : Int), .slice A r.length C, .int .i64 L]] (by kernel_rfl) ?_
            refine (copyH_any ([y0, y1, y2, y3, y4, y5, y6, y7], r, L) rfl (.slice A r.length C) w61 R (by show r.length ≤ _; omega)).mono ?_
            rintro en w62 ⟨uw, rfl, hOw, hb1⟩
            have e19 := belE0 hb1
            have ze19 := e19.size
            replace BL := BL.e0 e19
            replace R := R.e0 e19
            replace D := D.e0 e19
            replace b5 := b5.e0 e19
            replace b6 := b6.e0 e19
            replace b8 := b8.e0 e19
            replace b13 := b13.e0 e19
            replace b11 := b11.e0 e19
            replace IN := IN.e0 e19
            clear e19
            have W : Own 5 .u8 w61.heap.size w62 uw (nn r) := hOw
            have lW_11 := W.ge
            refine ⟨.agg #[.int .u32 ((y0 : Nat) : Int), .int .u32 ((y1 : Nat) : Int), .int .u32 ((y2 : Nat) : Int), .int .u32 ((y3 : Nat) : Int), .int .u32 ((y4 : Nat) : Int), .int .u32 ((y5 : Nat) : Int), .int .u32 ((y6 : Nat) : Int), .int .u32 ((y7 : Nat) : Int), uw, .int .i64 L], rfl, ?_⟩
            refine ze 4 ⟨BL, R, D, b5, b6, b8, by omega⟩ ?_
            simp only [List.set_cons_zero, List.set_cons_succ]
            refine zo1 7 rfl ?_
            refine xStoreA 61 (.tmp 11) (.tmp 26) rfl .u32 w50.heap.size 61 (nn (List.replicate 72 0)) 0 (nn tab) (by kernel_rfl) (by kernel_rfl) b11 (by rw [show (nn tab).length = 72 by ((try simp only [nn_len, List.length_cons, List.length_nil, List.length_set, List.length_replicate]); try omega)]; kernel_rfl) (by (try simp only [nn_len, List.length_cons, List.length_nil, List.length_set, List.length_replicate]); try omega) (nn tab) (over_whole _ _ (by (try simp only [nn_len, List.length_cons, List.length_nil, List.length_set, List.length_replicate]); try omega)) ?_
            intro w63 t23
            have zt23 := t23.z
            have BL_ := BL.ev t23.e (fun i h => show w.heap.size ≤ i by have h : i = w50.heap.size := h; omega)
            have R_ := R.ev t23.e (fun i hi => show ¬ (i = w50.heap.size) by have := hrl i hi; omega)
            have D_ := D.ev t23.e (fun i hi => show ¬ (i = w50.heap.size) by have := hdl i hi; omega)
            have b5_ := b5.ev t23.e (show ¬ (w.heap.size = w50.heap.size) by omega)
            have b6_ := b6.ev t23.e (show ¬ (w1.heap.size = w50.heap.size) by omega)
            have b8_ := b8.ev t23.e (show ¬ (w2.heap.size = w50.heap.size) by omega)
            have b13_ := b13.ev t23.e (show ¬ (w6.heap.size = w50.heap.size) by omega)
            have IN_ := IN.ev t23.e (fun i hi => show ¬ (i = w50.heap.size) by have := lIN_5 i hi; omega)
            have W_ := W.ev t23.e (fun i hi => show ¬ (i = w50.heap.size) by have := lW_11 i hi; omega)
            replace BL := BL_; clear BL_
            replace R := R_; clear R_
            replace D := D_; clear D_
            replace b5 := b5_; clear b5_
            replace b6 := b6_; clear b6_
            replace b8 := b8_; clear b8_
            replace b13 := b13_; clear b13_
            replace IN := IN_; clear IN_
            replace W := W_; clear W_
            replace b11 : Blk .u32 w63 w50.heap.size 61 (nn tab) := t23.c
            clear t23
            refine ze 7 ⟨BL, R, D, b5, b6, b8, by omega⟩ ?_
            refine zv 8 12 (ui) (fun _ _ => .of) ⟨BL, R, D, b5, b6, b8, by omega⟩ ?_
            simp only [List.set_cons_zero, List.set_cons_succ]
            refine zo1 9 rfl ?_
            refine xStoreR 66 (.tmp 13) (.tmp 30) rfl w6.heap.size 66 [.int .u32 0, .int .u32 0, .int .u32 0, .int .u32 0, .int .u32 0, .int .u32 0, .int .u32 0, .int .u32 0, .slice none 0 0, .int .i64 0] 0 [.int .u32 ((y0 : Nat) : Int), .int .u32 ((y1 : Nat) : Int), .int .u32 ((y2 : Nat) : Int), .int .u32 ((y3 : Nat) : Int), .int .u32 ((y4 : Nat) : Int), .int .u32 ((y5 : Nat) : Int), .int .u32 ((y6 : Nat) : Int), .int .u32 ((y7 : Nat) : Int), uw, .int .i64 L] (by kernel_rfl) (by kernel_rfl) b13 (by kernel_rfl) (by simp) (allC rfl (allC rfl (allC rfl (allC rfl (allC rfl (allC rfl (allC rfl (allC rfl (allC W.sl.oneCell (allC rfl allN)))))))))) [.int .u32 ((y0 : Nat) : Int), .int .u32 ((y1 : Nat) : Int), .int .u32 ((y2 : Nat) : Int), .int .u32 ((y3 : Nat) : Int), .int .u32 ((y4 : Nat) : Int), .int .u32 ((y5 : Nat) : Int), .int .u32 ((y6 : Nat) : Int), .int .u32 ((y7 : Nat) : Int), uw, .int .i64 L] rfl ?_
            intro w64 t24
            have zt24 := t24.z
            have BL_ := BL.ev t24.e (fun i h => show w.heap.size ≤ i by have h : i = w6.heap.size := h; omega)
            have R_ := R.ev t24.e (fun i hi => show ¬ (i = w6.heap.size) by have := hrl i hi; omega)
            have D_ := D.ev t24.e (fun i hi => show ¬ (i = w6.heap.size) by have := hdl i hi; omega)
            have b5_ := b5.ev t24.e (show ¬ (w.heap.size = w6.heap.size) by omega)
            have b6_ := b6.ev t24.e (show ¬ (w1.heap.size = w6.heap.size) by omega)
            have b8_ := b8.ev t24.e (show ¬ (w2.heap.size = w6.heap.size) by omega)
            have b11_ := b11.ev t24.e (show ¬ (w50.heap.size = w6.heap.size) by omega)
            have IN_ := IN.ev t24.e (fun i hi => show ¬ (i = w6.heap.size) by have := lIN_5 i hi; omega)
            have W_ := W.ev t24.e (fun i hi => show ¬ (i = w6.heap.size) by have := lW_11 i hi; omega)
            replace BL := BL_; clear BL_
            replace R := R_; clear R_
            replace D := D_; clear D_
            replace b5 := b5_; clear b5_
            replace b6 := b6_; clear b6_
            replace b8 := b8_; clear b8_
            replace b11 := b11_; clear b11_
            replace IN := IN_; clear IN_
            replace W := W_; clear W_
            replace b13 : Cel w64 w6.heap.size 66 [.int .u32 ((y0 : Nat) : Int), .int .u32 ((y1 : Nat) : Int), .int .u32 ((y2 : Nat) : Int), .int .u32 ((y3 : Nat) : Int), .int .u32 ((y4 : Nat) : Int), .int .u32 ((y5 : Nat) : Int), .int .u32 ((y6 : Nat) : Int), .int .u32 ((y7 : Nat) : Int), uw, .int .i64 L] := t24.c
            clear t24
            refine zz 9 ?_
            refine zd (by kernel_rfl) ?_ _
            exact ⟨w50.heap.size, w6.heap.size, ui, uw, cutE, BL, R, D, b5, b6, b8, b11, b13, IN.sl, W.sl, by omega⟩
      · skip
        clear BL R D b5 b6 b8
        rintro a_ wJ1 ⟨g11, g13, ui, uw, ⟨s1, rfl⟩, BL, R, D, b5, b6, b8, b11, b13, IN, W, zJ1⟩
        have hil := IN.lt
        have hwl := W.lt
        have hg11 := b11.lt
        have hg13 := b13.lt
        refine cCut (fun A_ w_ => ∃ (g14 g15 : Nat) (u1 u2 : Value), ((∃ s2 : Nat → Value, A_ = ⟨[.agg (cellsOf .u32 (nn tab)), .agg #[.int .u32 ((y0 : Nat) : Int), .int .u32 ((y1 : Nat) : Int), .int .u32 ((y2 : Nat) : Int), .int .u32 ((y3 : Nat) : Int), .int .u32 ((y4 : Nat) : Int), .int .u32 ((y5 : Nat) : Int), .int .u32 ((y6 : Nat) : Int), .int .u32 ((y7 : Nat) : Int), .slice A r.length C, .int .i64 L], v, .agg (cellsOf .u8 (nn (bl))), .int .i64 n, .pointer (some ⟨w.heap.size, 0, none⟩), .pointer (some ⟨w1.heap.size, 0, none⟩), undef, .pointer (some ⟨w2.heap.size, 0, none⟩), undef, .bool false, .pointer (some ⟨g11, 0, none⟩), ui, .pointer (some ⟨g13, 0, none⟩), .pointer (some ⟨g14, 0, none⟩), .pointer (some ⟨g15, 0, none⟩), v, .int .i64 ((ns.length : Nat) : Int), .bool false, .bool false, .pointer (some ⟨w1.heap.size, 8, none⟩), .slice A r.length C, .int .i64 (r.length : Int), .bool (decide (100 < (r.length : Int))), .bool (decide (100 < (r.length : Int))), undef, (s1 26), (s1 27), (s1 28), (s1 29), (s1 30), (s2 31), (s2 32), (s2 33), (s2 34), (s2 35), (s2 36), (s2 37), undef, undef, undef, undef, undef, undef, undef, undef, undef, undef, undef, undef, undef, undef, undef, undef, undef, undef, undef, undef, undef, undef, undef, undef, undef, undef, undef, undef, undef, undef, undef, undef, undef, undef, undef, undef, undef, undef, undef, undef, undef, undef, undef, undef, undef, undef, undef, undef, undef, undef, undef, undef, undef, undef, undef, undef, undef].toArray, []⟩) ∧ Bl w.heap.size w w_ ∧ SL .u8 w_ (.slice A r.length C) (nn r) ∧ SL .u8 w_ v (nn ns) ∧ Blk .u32 w_ w.heap.size 61 (nn tab) ∧ Cel w_ w1.heap.size 66 [.int .u32 ((y0 : Nat) : Int), .int .u32 ((y1 : Nat) : Int), .int .u32 ((y2 : Nat) : Int), .int .u32 ((y3 : Nat) : Int), .int .u32 ((y4 : Nat) : Int), .int .u32 ((y5 : Nat) : Int), .int .u32 ((y6 : Nat) : Int), .int .u32 ((y7 : Nat) : Int), .slice A r.length C, .int .i64 L] ∧ Blk .u8 w_ w2.heap.size 74 (nn (bl)) ∧ Blk .u32 w_ g11 61 (nn tab) ∧ Cel w_ g13 66 [.int .u32 ((y0 : Nat) : Int), .int .u32 ((y1 : Nat) : Int), .int .u32 ((y2 : Nat) : Int), .int .u32 ((y3 : Nat) : Int), .int .u32 ((y4 : Nat) : Int), .int .u32 ((y5 : Nat) : Int), .int .u32 ((y6 : Nat) : Int), .int .u32 ((y7 : Nat) : Int), uw, .int .i64 L] ∧ SL .u8 w_ ui (nn ns) ∧ SL .u8 w_ uw (nn r) ∧ Cel w_ g14 66 [.int .u32 ((p0 : Nat) : Int), .int .u32 ((p1 : Nat) : Int), .int .u32 ((p2 : Nat) : Int), .int .u32 ((p3 : Nat) : Int), .int .u32 ((p4 : Nat) : Int), .int .u32 ((p5 : Nat) : Int), .int .u32 ((p6 : Nat) : Int), .int .u32 ((p7 : Nat) : Int), u1, .int .i64 X.2.2] ∧ Cel w_ g15 66 [.int .u32 ((p0 : Nat) : Int), .int .u32 ((p1 : Nat) : Int), .int .u32 ((p2 : Nat) : Int), .int .u32 ((p3 : Nat) : Int), .int .u32 ((p4 : Nat) : Int), .int .u32 ((p5 : Nat) : Int), .int .u32 ((p6 : Nat) : Int), .int .u32 ((p7 : Nat) : Int), u2, .int .i64 X.2.2] ∧ SL .u8 w_ u1 (nn X.2.1) ∧ SL .u8 w_ u2 (nn X.2.1) ∧ wJ1.heap.size ≤ w_.heap.size)) ?_ ?_
        · skip
          have e20 := drew_e0 wJ1
          refine zg (fun w_ => Bl w.heap.size w w_ ∧ SL .u8 w_ (.slice A r.length C) (nn r) ∧ SL .u8 w_ v (nn ns) ∧ Blk .u32 w_ w.heap.size 61 (nn tab) ∧ Cel w_ w1.heap.size 66 [.int .u32 ((y0 : Nat) : Int), .int .u32 ((y1 : Nat) : Int), .int .u32 ((y2 : Nat) : Int), .int .u32 ((y3 : Nat) : Int), .int .u32 ((y4 : Nat) : Int), .int .u32 ((y5 : Nat) : Int), .int .u32 ((y6 : Nat) : Int), .int .u32 ((y7 : Nat) : Int), .slice A r.length C, .int .i64 L] ∧ Blk .u8 w_ w2.heap.size 74 (nn (bl)) ∧ Blk .u32 w_ g11 61 (nn tab) ∧ Cel w_ g13 66 [.int .u32 ((y0 : Nat) : Int), .int .u32 ((y1 : Nat) : Int), .int .u32 ((y2 : Nat) : Int), .int .u32 ((y3 : Nat) : Int), .int .u32 ((y4 : Nat) : Int), .int .u32 ((y5 : Nat) : Int), .int .u32 ((y6 : Nat) : Int), .int .u32 ((y7 : Nat) : Int), uw, .int .i64 L] ∧ SL .u8 w_ ui (nn ns) ∧ SL .u8 w_ uw (nn r) ∧ wJ1.heap.size ≤ w_.heap.size) (fun w_ => Bl w.heap.size w w_ ∧ SL .u8 w_ (.slice A r.length C) (nn r) ∧ SL .u8 w_ v (nn ns) ∧ Blk .u32 w_ w.heap.size 61 (nn tab) ∧ Cel w_ w1.heap.size 66 [.int .u32 ((y0 : Nat) : Int), .int .u32 ((y1 : Nat) : Int), .int .u32 ((y2 : Nat) : Int), .int .u32 ((y3 : Nat) : Int), .int .u32 ((y4 : Nat) : Int), .int .u32 ((y5 : Nat) : Int), .int .u32 ((y6 : Nat) : Int), .int .u32 ((y7 : Nat) : Int), .slice A r.length C, .int .i64 L] ∧ Blk .u8 w_ w2.heap.size 74 (nn (bl)) ∧ Blk .u32 w_ g11 61 (nn tab) ∧ Cel w_ g13 66 [.int .u32 ((y0 : Nat) : Int), .int .u32 ((y1 : Nat) : Int), .int .u32 ((y2 : Nat) : Int), .int .u32 ((y3 : Nat) : Int), .int .u32 ((y4 : Nat) : Int), .int .u32 ((y5 : Nat) : Int), .int .u32 ((y6 : Nat) : Int), .int .u32 ((y7 : Nat) : Int), uw, .int .i64 L] ∧ SL .u8 w_ ui (nn ns) ∧ SL .u8 w_ uw (nn r) ∧ wJ1.heap.size ≤ w_.heap.size) 10 11 ⟨BL.e0 e20, R.e0 e20, D.e0 e20, b5.e0 e20, b6.e0 e20, b8.e0 e20, b11.e0 e20, b13.e0 e20, IN.e0 e20, W.e0 e20, Nat.le_refl _⟩ ?_
          clear BL R D b5 b6 b8 b11 b13 IN W
          clear e20
          intro w65
          rintro ⟨BL, R, D, b5, b6, b8, b11, b13, IN, W, z2⟩
          refine zv 0 31 (.agg #[.int .u32 ((y0 : Nat) : Int), .int .u32 ((y1 : Nat) : Int), .int .u32 ((y2 : Nat) : Int), .int .u32 ((y3 : Nat) : Int), .int .u32 ((y4 : Nat) : Int), .int .u32 ((y5 : Nat) : Int), .int .u32 ((y6 : Nat) : Int), .int .u32 ((y7 : Nat) : Int), uw, .int .i64 L]) (fun _ ⟨BL, R, D, b5, b6, b8, b11, b13, IN, W, z2⟩ => Val.cel 66 _ rfl 0 10 (by kernel_rfl) b13 _ Try.underlying66 rfl (by kernel_rfl) (by simp) [.int .u32 ((y0 : Nat) : Int), .int .u32 ((y1 : Nat) : Int), .int .u32 ((y2 : Nat) : Int), .int .u32 ((y3 : Nat) : Int), .int .u32 ((y4 : Nat) : Int), .int .u32 ((y5 : Nat) : Int), .int .u32 ((y6 : Nat) : Int), .int .u32 ((y7 : Nat) : Int), uw, .int .i64 L] rfl) ⟨BL, R, D, b5, b6, b8, b11, b13, IN, W, by omega⟩ ?_
          simp only [List.set_cons_zero, List.set_cons_succ]
          refine zv 1 32 (ui) (fun _ _ => .of) ⟨BL, R, D, b5, b6, b8, b11, b13, IN, W, by omega⟩ ?_
          simp only [List.set_cons_zero, List.set_cons_succ]
          refine zv 3 34 (.agg (cellsOf .u32 (nn tab))) (fun _ ⟨BL, R, D, b5, b6, b8, b11, b13, IN, W, z2⟩ => Val.blk 61 _ rfl 0 72 (by kernel_rfl) b5 _ Try.underlying61 rfl (by kernel_rfl) (by (try simp only [nn_len, List.length_cons, List.length_nil, List.length_set, List.length_replicate]); try omega) _ (seg_all' _ (by (try simp only [nn_len, List.length_cons, List.length_nil, List.length_set, List.length_replicate]); try omega))) ⟨BL, R, D, b5, b6, b8, b11, b13, IN, W, by omega⟩ ?_
          simp only [List.set_cons_zero, List.set_cons_succ]
          refine zv 4 35 (.agg #[.int .u32 ((y0 : Nat) : Int), .int .u32 ((y1 : Nat) : Int), .int .u32 ((y2 : Nat) : Int), .int .u32 ((y3 : Nat) : Int), .int .u32 ((y4 : Nat) : Int), .int .u32 ((y5 : Nat) : Int), .int .u32 ((y6 : Nat) : Int), .int .u32 ((y7 : Nat) : Int), .slice A r.length C, .int .i64 L]) (fun _ ⟨BL, R, D, b5, b6, b8, b11, b13, IN, W, z2⟩ => Val.cel 66 _ rfl 0 10 (by kernel_rfl) b6 _ Try.underlying66 rfl (by kernel_rfl) (by simp) [.int .u32 ((y0 : Nat) : Int), .int .u32 ((y1 : Nat) : Int), .int .u32 ((y2 : Nat) : Int), .int .u32 ((y3 : Nat) : Int), .int .u32 ((y4 : Nat) : Int), .int .u32 ((y5 : Nat) : Int), .int .u32 ((y6 : Nat) : Int), .int .u32 ((y7 : Nat) : Int), .slice A r.length C, .int .i64 L] rfl) ⟨BL, R, D, b5, b6, b8, b11, b13, IN, W, by omega⟩ ?_
          simp only [List.set_cons_zero, List.set_cons_succ]
          refine zv 5 36 (v) (fun _ _ => .of) ⟨BL, R, D, b5, b6, b8, b11, b13, IN, W, by omega⟩ ?_
          simp only [List.set_cons_zero, List.set_cons_succ]
          refine zo3 2 7 8 rfl rfl rfl ?_ ?_ ?_
          · skip
            refine xCall 33 31 #[.pointer (some ⟨g11, 0, none⟩), .agg #[.int .u32 ((y0 : Nat) : Int), .int .u32 ((y1 : Nat) : Int), .int .u32 ((y2 : Nat) : Int), .int .u32 ((y3 : Nat) : Int), .int .u32 ((y4 : Nat) : Int), .int .u32 ((y5 : Nat) : Int), .int .u32 ((y6 : Nat) : Int), .int .u32 ((y7 : Nat) : Int), uw, .int .i64 L], ui] (by kernel_rfl) ?_
            refine (write_any2 g11 tab ([y0, y1, y2, y3, y4, y5, y6, y7], r, L) ns rfl uw ui ht w65 b11 W IN (by show r.length + _ ≤ _; omega) wJ1.heap.size hwl).mono ?_
            rintro en w66 ⟨u1, he1, hU1, hb1, hub1⟩
            rw [hX] at he1 hU1
            rw [hp] at he1
            subst he1
            have e21 := belE0 hb1
            have ze21 := e21.size
            replace BL := BL.e0 e21
            replace R := R.e0 e21
            replace D := D.e0 e21
            replace b5 := b5.e0 e21
            replace b6 := b6.e0 e21
            replace b8 := b8.e0 e21
            replace b11 := b11.e0 e21
            replace b13 := b13.e0 e21
            replace IN := IN.e0 e21
            replace W := W.e0 e21
            clear e21
            have U1 : SL .u8 w66 u1 (nn X.2.1) := hU1
            refine ⟨.agg #[.int .u32 ((p0 : Nat) : Int), .int .u32 ((p1 : Nat) : Int), .int .u32 ((p2 : Nat) : Int), .int .u32 ((p3 : Nat) : Int), .int .u32 ((p4 : Nat) : Int), .int .u32 ((p5 : Nat) : Int), .int .u32 ((p6 : Nat) : Int), .int .u32 ((p7 : Nat) : Int), u1, .int .i64 X.2.2], rfl, ?_⟩
            refine ze 2 ⟨BL, R, D, b5, b6, b8, b11, b13, IN, W, by omega⟩ ?_
            simp only [List.set_cons_zero, List.set_cons_succ]
            refine zo3 6 7 8 rfl rfl rfl ?_ ?_ ?_
            · skip
              refine xCall 37 41 #[.agg (cellsOf .u32 (nn tab)), .agg #[.int .u32 ((y0 : Nat) : Int), .int .u32 ((y1 : Nat) : Int), .int .u32 ((y2 : Nat) : Int), .int .u32 ((y3 : Nat) : Int), .int .u32 ((y4 : Nat) : Int), .int .u32 ((y5 : Nat) : Int), .int .u32 ((y6 : Nat) : Int), .int .u32 ((y7 : Nat) : Int), .slice A r.length C, .int .i64 L], v] (by kernel_rfl) ?_
              refine (rwrite_any2 tab ([y0, y1, y2, y3, y4, y5, y6, y7], r, L) ns rfl (.slice A r.length C) v ht hy32 hr8 hb8 w66 R D (by omega) w.heap.size hrl).mono ?_
              rintro en w67 ⟨u2, he2, hU2, hb1, hub2⟩
              rw [hX] at he2 hU2
              rw [hp] at he2
              subst he2
              have e22 := belE0 hb1
              have ze22 := e22.size
              replace BL := BL.e0 e22
              replace R := R.e0 e22
              replace D := D.e0 e22
              replace b5 := b5.e0 e22
              replace b6 := b6.e0 e22
              replace b8 := b8.e0 e22
              replace b11 := b11.e0 e22
              replace b13 := b13.e0 e22
              replace IN := IN.e0 e22
              replace W := W.e0 e22
              replace U1 := U1.e0 e22
              clear e22
              have U2 : SL .u8 w67 u2 (nn X.2.1) := hU2
              refine ⟨.agg #[.int .u32 ((p0 : Nat) : Int), .int .u32 ((p1 : Nat) : Int), .int .u32 ((p2 : Nat) : Int), .int .u32 ((p3 : Nat) : Int), .int .u32 ((p4 : Nat) : Int), .int .u32 ((p5 : Nat) : Int), .int .u32 ((p6 : Nat) : Int), .int .u32 ((p7 : Nat) : Int), u2, .int .i64 X.2.2], rfl, ?_⟩
              refine ze 6 ⟨BL, R, D, b5, b6, b8, b11, b13, IN, W, by omega⟩ ?_
              simp only [List.set_cons_zero, List.set_cons_succ]
              refine zo2 7 8 rfl rfl ?_ ?_
              · skip
                refine xAlloc 14 66 [.int .u32 0, .int .u32 0, .int .u32 0, .int .u32 0, .int .u32 0, .int .u32 0, .int .u32 0, .int .u32 0, .slice none 0 0, .int .i64 0] rfl (by kernel_rfl) ?_
                intro w68 n22
                have zn22 := n22.z
                have b14 := n22.c
                replace BL := BL.e0 n22.e
                replace R := R.e0 n22.e
                replace D := D.e0 n22.e
                replace b5 := b5.e0 n22.e
                replace b6 := b6.e0 n22.e
                replace b8 := b8.e0 n22.e
                replace b11 := b11.e0 n22.e
                replace b13 := b13.e0 n22.e
                replace IN := IN.e0 n22.e
                replace W := W.e0 n22.e
                replace U1 := U1.e0 n22.e
                replace U2 := U2.e0 n22.e
                refine ze 7 ⟨BL, R, D, b5, b6, b8, b11, b13, IN, W, by omega⟩ ?_
                simp only [List.set_cons_zero, List.set_cons_succ]
                refine zo1 8 rfl ?_
                refine xAlloc 15 66 [.int .u32 0, .int .u32 0, .int .u32 0, .int .u32 0, .int .u32 0, .int .u32 0, .int .u32 0, .int .u32 0, .slice none 0 0, .int .i64 0] rfl (by kernel_rfl) ?_
                intro w69 n23
                have zn23 := n23.z
                have b15 := n23.c
                replace BL := BL.e0 n23.e
                replace R := R.e0 n23.e
                replace D := D.e0 n23.e
                replace b5 := b5.e0 n23.e
                replace b6 := b6.e0 n23.e
                replace b8 := b8.e0 n23.e
                replace b11 := b11.e0 n23.e
                replace b13 := b13.e0 n23.e
                replace IN := IN.e0 n23.e
                replace W := W.e0 n23.e
                replace U1 := U1.e0 n23.e
                replace U2 := U2.e0 n23.e
                replace b14 := b14.e0 n23.e
                refine ze 8 ⟨BL, R, D, b5, b6, b8, b11, b13, IN, W, by omega⟩ ?_
                simp only [List.set_cons_zero, List.set_cons_succ]
                refine zo1 9 rfl ?_
                refine xStoreR 66 (.tmp 14) (.tmp 33) rfl w67.heap.size 66 [.int .u32 0, .int .u32 0, .int .u32 0, .int .u32 0, .int .u32 0, .int .u32 0, .int .u32 0, .int .u32 0, .slice none 0 0, .int .i64 0] 0 [.int .u32 ((p0 : Nat) : Int), .int .u32 ((p1 : Nat) : Int), .int .u32 ((p2 : Nat) : Int), .int .u32 ((p3 : Nat) : Int), .int .u32 ((p4 : Nat) : Int), .int .u32 ((p5 : Nat) : Int), .int .u32 ((p6 : Nat) : Int), .int .u32 ((p7 : Nat) : Int), u1, .int .i64 X.2.2] (by kernel_rfl) (by kernel_rfl) b14 (by kernel_rfl) (by simp) (allC rfl (allC rfl (allC rfl (allC rfl (allC rfl (allC rfl (allC rfl (allC rfl (allC U1.oneCell (allC rfl allN)))))))))) [.int .u32 ((p0 : Nat) : Int), .int .u32 ((p1 : Nat) : Int), .int .u32 ((p2 : Nat) : Int), .int .u32 ((p3 : Nat) : Int), .int .u32 ((p4 : Nat) : Int), .int .u32 ((p5 : Nat) : Int), .int .u32 ((p6 : Nat) : Int), .int .u32 ((p7 : Nat) : Int), u1, .int .i64 X.2.2] rfl ?_
                intro w70 t25
                have zt25 := t25.z
                have BL_ := BL.ev t25.e (fun i h => show w.heap.size ≤ i by have h : i = w67.heap.size := h; omega)
                have R_ := R.ev t25.e (fun i hi => show ¬ (i = w67.heap.size) by have := hrl i hi; omega)
                have D_ := D.ev t25.e (fun i hi => show ¬ (i = w67.heap.size) by have := hdl i hi; omega)
                have b5_ := b5.ev t25.e (show ¬ (w.heap.size = w67.heap.size) by omega)
                have b6_ := b6.ev t25.e (show ¬ (w1.heap.size = w67.heap.size) by omega)
                have b8_ := b8.ev t25.e (show ¬ (w2.heap.size = w67.heap.size) by omega)
                have b11_ := b11.ev t25.e (show ¬ (g11 = w67.heap.size) by omega)
                have b13_ := b13.ev t25.e (show ¬ (g13 = w67.heap.size) by omega)
                have IN_ := IN.ev t25.e (fun i hi => show ¬ (i = w67.heap.size) by have := hil i hi; omega)
                have W_ := W.ev t25.e (fun i hi => show ¬ (i = w67.heap.size) by have := hwl i hi; omega)
                have U1_ := U1.ev t25.e (fun i hi => show ¬ (i = w67.heap.size) by have := hub1 i hi; omega)
                have U2_ := U2.ev t25.e (fun i hi => show ¬ (i = w67.heap.size) by have := hub2 i hi; omega)
                have b15_ := b15.ev t25.e (show ¬ (w68.heap.size = w67.heap.size) by omega)
                replace BL := BL_; clear BL_
                replace R := R_; clear R_
                replace D := D_; clear D_
                replace b5 := b5_; clear b5_
                replace b6 := b6_; clear b6_
                replace b8 := b8_; clear b8_
                replace b11 := b11_; clear b11_
                replace b13 := b13_; clear b13_
                replace IN := IN_; clear IN_
                replace W := W_; clear W_
                replace U1 := U1_; clear U1_
                replace U2 := U2_; clear U2_
                replace b15 := b15_; clear b15_
                replace b14 : Cel w70 w67.heap.size 66 [.int .u32 ((p0 : Nat) : Int), .int .u32 ((p1 : Nat) : Int), .int .u32 ((p2 : Nat) : Int), .int .u32 ((p3 : Nat) : Int), .int .u32 ((p4 : Nat) : Int), .int .u32 ((p5 : Nat) : Int), .int .u32 ((p6 : Nat) : Int), .int .u32 ((p7 : Nat) : Int), u1, .int .i64 X.2.2] := t25.c
                clear t25
                refine ze 9 ⟨BL, R, D, b5, b6, b8, b11, b13, IN, W, by omega⟩ ?_
                refine zo1 10 rfl ?_
                refine xStoreR 66 (.tmp 15) (.tmp 37) rfl w68.heap.size 66 [.int .u32 0, .int .u32 0, .int .u32 0, .int .u32 0, .int .u32 0, .int .u32 0, .int .u32 0, .int .u32 0, .slice none 0 0, .int .i64 0] 0 [.int .u32 ((p0 : Nat) : Int), .int .u32 ((p1 : Nat) : Int), .int .u32 ((p2 : Nat) : Int), .int .u32 ((p3 : Nat) : Int), .int .u32 ((p4 : Nat) : Int), .int .u32 ((p5 : Nat) : Int), .int .u32 ((p6 : Nat) : Int), .int .u32 ((p7 : Nat) : Int), u2, .int .i64 X.2.2] (by kernel_rfl) (by kernel_rfl) b15 (by kernel_rfl) (by simp) (allC rfl (allC rfl (allC rfl (allC rfl (allC rfl (allC rfl (allC rfl (allC rfl (allC U2.oneCell (allC rfl allN)))))))))) [.int .u32 ((p0 : Nat) : Int), .int .u32 ((p1 : Nat) : Int), .int .u32 ((p2 : Nat) : Int), .int .u32 ((p3 : Nat) : Int), .int .u32 ((p4 : Nat) : Int), .int .u32 ((p5 : Nat) : Int), .int .u32 ((p6 : Nat) : Int), .int .u32 ((p7 : Nat) : Int), u2, .int .i64 X.2.2] rfl ?_
                intro w71 t26
                have zt26 := t26.z
                have BL_ := BL.ev t26.e (fun i h => show w.heap.size ≤ i by have h : i = w68.heap.size := h; omega)
                have R_ := R.ev t26.e (fun i hi => show ¬ (i = w68.heap.size) by have := hrl i hi; omega)
                have D_ := D.ev t26.e (fun i hi => show ¬ (i = w68.heap.size) by have := hdl i hi; omega)
                have b5_ := b5.ev t26.e (show ¬ (w.heap.size = w68.heap.size) by omega)
                have b6_ := b6.ev t26.e (show ¬ (w1.heap.size = w68.heap.size) by omega)
                have b8_ := b8.ev t26.e (show ¬ (w2.heap.size = w68.heap.size) by omega)
                have b11_ := b11.ev t26.e (show ¬ (g11 = w68.heap.size) by omega)
                have b13_ := b13.ev t26.e (show ¬ (g13 = w68.heap.size) by omega)
                have IN_ := IN.ev t26.e (fun i hi => show ¬ (i = w68.heap.size) by have := hil i hi; omega)
                have W_ := W.ev t26.e (fun i hi => show ¬ (i = w68.heap.size) by have := hwl i hi; omega)
                have U1_ := U1.ev t26.e (fun i hi => show ¬ (i = w68.heap.size) by have := hub1 i hi; omega)
                have U2_ := U2.ev t26.e (fun i hi => show ¬ (i = w68.heap.size) by have := hub2 i hi; omega)
                have b14_ := b14.ev t26.e (show ¬ (w67.heap.size = w68.heap.size) by omega)
                replace BL := BL_; clear BL_
                replace R := R_; clear R_
                replace D := D_; clear D_
                replace b5 := b5_; clear b5_
                replace b6 := b6_; clear b6_
                replace b8 := b8_; clear b8_
                replace b11 := b11_; clear b11_
                replace b13 := b13_; clear b13_
                replace IN := IN_; clear IN_
                replace W := W_; clear W_
                replace U1 := U1_; clear U1_
                replace U2 := U2_; clear U2_
                replace b14 := b14_; clear b14_
                replace b15 : Cel w71 w68.heap.size 66 [.int .u32 ((p0 : Nat) : Int), .int .u32 ((p1 : Nat) : Int), .int .u32 ((p2 : Nat) : Int), .int .u32 ((p3 : Nat) : Int), .int .u32 ((p4 : Nat) : Int), .int .u32 ((p5 : Nat) : Int), .int .u32 ((p6 : Nat) : Int), .int .u32 ((p7 : Nat) : Int), u2, .int .i64 X.2.2] := t26.c
                clear t26
                refine zz 10 ?_
                refine zd (by kernel_rfl) ?_ _
                exact ⟨w67.heap.size, w68.heap.size, u1, u2, cutE, BL, R, D, b5, b6, b8, b11, b13, IN, W, b14, b15, U1, U2, by omega⟩
              · skip
                refine xAlloc 15 66 [.int .u32 0, .int .u32 0, .int .u32 0, .int .u32 0, .int .u32 0, .int .u32 0, .int .u32 0, .int .u32 0, .slice none 0 0, .int .i64 0] rfl (by kernel_rfl) ?_
                intro w72 n24
                have zn24 := n24.z
                have b15 := n24.c
                replace BL := BL.e0 n24.e
                replace R := R.e0 n24.e
                replace D := D.e0 n24.e
                replace b5 := b5.e0 n24.e
                replace b6 := b6.e0 n24.e
                replace b8 := b8.e0 n24.e
                replace b11 := b11.e0 n24.e
                replace b13 := b13.e0 n24.e
                replace IN := IN.e0 n24.e
                replace W := W.e0 n24.e
                replace U1 := U1.e0 n24.e
                replace U2 := U2.e0 n24.e
                refine ze 8 ⟨BL, R, D, b5, b6, b8, b11, b13, IN, W, by omega⟩ ?_
                simp only [List.set_cons_zero, List.set_cons_succ]
                refine zo1 7 rfl ?_
                refine xAlloc 14 66 [.int .u32 0, .int .u32 0, .int .u32 0, .int .u32 0, .int .u32 0, .int .u32 0, .int .u32 0, .int .u32 0, .slice none 0 0, .int .i64 0] rfl (by kernel_rfl) ?_
                intro w73 n25
                have zn25 := n25.z
                have b14 := n25.c
                replace BL := BL.e0 n25.e
                replace R := R.e0 n25.e
                replace D := D.e0 n25.e
                replace b5 := b5.e0 n25.e
                replace b6 := b6.e0 n25.e
                replace b8 := b8.e0 n25.e
                replace b11 := b11.e0 n25.e
                replace b13 := b13.e0 n25.e
                replace IN := IN.e0 n25.e
                replace W := W.e0 n25.e
                replace U1 := U1.e0 n25.e
                replace U2 := U2.e0 n25.e
                replace b15 := b15.e0 n25.e
                refine ze 7 ⟨BL, R, D, b5, b6, b8, b11, b13, IN, W, by omega⟩ ?_
                simp only [List.set_cons_zero, List.set_cons_succ]
                refine zo1 9 rfl ?_
                refine xStoreR 66 (.tmp 14) (.tmp 33) rfl w72.heap.size 66 [.int .u32 0, .int .u32 0, .int .u32 0, .int .u32 0, .int .u32 0, .int .u32 0, .int .u32 0, .int .u32 0, .slice none 0 0, .int .i64 0] 0 [.int .u32 ((p0 : Nat) : Int), .int .u32 ((p1 : Nat) : Int), .int .u32 ((p2 : Nat) : Int), .int .u32 ((p3 : Nat) : Int), .int .u32 ((p4 : Nat) : Int), .int .u32 ((p5 : Nat) : Int), .int .u32 ((p6 : Nat) : Int), .int .u32 ((p7 : Nat) : Int), u1, .int .i64 X.2.2] (by kernel_rfl) (by kernel_rfl) b14 (by kernel_rfl) (by simp) (allC rfl (allC rfl (allC rfl (allC rfl (allC rfl (allC rfl (allC rfl (allC rfl (allC U1.oneCell (allC rfl allN)))))))))) [.int .u32 ((p0 : Nat) : Int), .int .u32 ((p1 : Nat) : Int), .int .u32 ((p2 : Nat) : Int), .int .u32 ((p3 : Nat) : Int), .int .u32 ((p4 : Nat) : Int), .int .u32 ((p5 : Nat) : Int), .int .u32 ((p6 : Nat) : Int), .int .u32 ((p7 : Nat) : Int), u1, .int .i64 X.2.2] rfl ?_
                intro w74 t27
                have zt27 := t27.z
                have BL_ := BL.ev t27.e (fun i h => show w.heap.size ≤ i by have h : i = w72.heap.size := h; omega)
                have R_ := R.ev t27.e (fun i hi => show ¬ (i = w72.heap.size) by have := hrl i hi; omega)
                have D_ := D.ev t27.e (fun i hi => show ¬ (i = w72.heap.size) by have := hdl i hi; omega)
                have b5_ := b5.ev t27.e (show ¬ (w.heap.size = w72.heap.size) by omega)
                have b6_ := b6.ev t27.e (show ¬ (w1.heap.size = w72.heap.size) by omega)
                have b8_ := b8.ev t27.e (show ¬ (w2.heap.size = w72.heap.size) by omega)
                have b11_ := b11.ev t27.e (show ¬ (g11 = w72.heap.size) by omega)
                have b13_ := b13.ev t27.e (show ¬ (g13 = w72.heap.size) by omega)
                have IN_ := IN.ev t27.e (fun i hi => show ¬ (i = w72.heap.size) by have := hil i hi; omega)
                have W_ := W.ev t27.e (fun i hi => show ¬ (i = w72.heap.size) by have := hwl i hi; omega)
                have U1_ := U1.ev t27.e (fun i hi => show ¬ (i = w72.heap.size) by have := hub1 i hi; omega)
                have U2_ := U2.ev t27.e (fun i hi => show ¬ (i = w72.heap.size) by have := hub2 i hi; omega)
                have b15_ := b15.ev t27.e (show ¬ (w67.heap.size = w72.heap.size) by omega)
                replace BL := BL_; clear BL_
                replace R := R_; clear R_
                replace D := D_; clear D_
                replace b5 := b5_; clear b5_
                replace b6 := b6_; clear b6_
                replace b8 := b8_; clear b8_
                replace b11 := b11_; clear b11_
                replace b13 := b13_; clear b13_
                replace IN := IN_; clear IN_
                replace W := W_; clear W_
                replace U1 := U1_; clear U1_
                replace U2 := U2_; clear U2_
                replace b15 := b15_; clear b15_
                replace b14 : Cel w74 w72.heap.size 66 [.int .u32 ((p0 : Nat) : Int), .int .u32 ((p1 : Nat) : Int), .int .u32 ((p2 : Nat) : Int), .int .u32 ((p3 : Nat) : Int), .int .u32 ((p4 : Nat) : Int), .int .u32 ((p5 : Nat) : Int), .int .u32 ((p6 : Nat) : Int), .int .u32 ((p7 : Nat) : Int), u1, .int .i64 X.2.2] := t27.c
                clear t27
                refine ze 9 ⟨BL, R, D, b5, b6, b8, b11, b13, IN, W, by omega⟩ ?_
                refine zo1 10 rfl ?_
                refine xStoreR 66 (.tmp 15) (.tmp 37) rfl w67.heap.size 66 [.int .u32 0, .int .u32 0, .int .u32 0, .int .u32 0, .int .u32 0, .int .u32 0, .int .u32 0, .int .u32 0, .slice none 0 0, .int .i64 0] 0 [.int .u32 ((p0 : Nat) : Int), .int .u32 ((p1 : Nat) : Int), .int .u32 ((p2 : Nat) : Int), .int .u32 ((p3 : Nat) : Int), .int .u32 ((p4 : Nat) : Int), .int .u32 ((p5 : Nat) : Int), .int .u32 ((p6 : Nat) : Int), .int .u32 ((p7 : Nat) : Int), u2, .int .i64 X.2.2] (by kernel_rfl) (by kernel_rfl) b15 (by kernel_rfl) (by simp) (allC rfl (allC rfl (allC rfl (allC rfl (allC rfl (allC rfl (allC rfl (allC rfl (allC U2.oneCell (allC rfl allN)))))))))) [.int .u32 ((p0 : Nat) : Int), .int .u32 ((p1 : Nat) : Int), .int .u32 ((p2 : Nat) : Int), .int .u32 ((p3 : Nat) : Int), .int .u32 ((p4 : Nat) : Int), .int .u32 ((p5 : Nat) : Int), .int .u32 ((p6 : Nat) : Int), .int .u32 ((p7 : Nat) : Int), u2, .int .i64 X.2.2] rfl ?_
                intro w75 t28
                have zt28 := t28.z
                have BL_ := BL.ev t28.e (fun i h => show w.heap.size ≤ i by have h : i = w67.heap.size := h; omega)
                have R_ := R.ev t28.e (fun i hi => show ¬ (i = w67.heap.size) by have := hrl i hi; omega)
                have D_ := D.ev t28.e (fun i hi => show ¬ (i = w67.heap.size) by have := hdl i hi; omega)
                have b5_ := b5.ev t28.e (show ¬ (w.heap.size = w67.heap.size) by omega)
                have b6_ := b6.ev t28.e (show ¬ (w1.heap.size = w67.heap.size) by omega)
                have b8_ := b8.ev t28.e (show ¬ (w2.heap.size = w67.heap.size) by omega)
                have b11_ := b11.ev t28.e (show ¬ (g11 = w67.heap.size) by omega)
                have b13_ := b13.ev t28.e (show ¬ (g13 = w67.heap.size) by omega)
                have IN_ := IN.ev t28.e (fun i hi => show ¬ (i = w67.heap.size) by have := hil i hi; omega)
                have W_ := W.ev t28.e (fun i hi => show ¬ (i = w67.heap.size) by have := hwl i hi; omega)
                have U1_ := U1.ev t28.e (fun i hi => show ¬ (i = w67.heap.size) by have := hub1 i hi; omega)
                have U2_ := U2.ev t28.e (fun i hi => show ¬ (i = w67.heap.size) by have := hub2 i hi; omega)
                have b14_ := b14.ev t28.e (show ¬ (w72.heap.size = w67.heap.size) by omega)
                replace BL := BL_; clear BL_
                replace R := R_; clear R_
                replace D := D_; clear D_
                replace b5 := b5_; clear b5_
                replace b6 := b6_; clear b6_
                replace b8 := b8_; clear b8_
                replace b11 := b11_; clear b11_
                replace b13 := b13_; clear b13_
                replace IN := IN_; clear IN_
                replace W := W_; clear W_
                replace U1 := U1_; clear U1_
                replace U2 := U2_; clear U2_
                replace b14 := b14_; clear b14_
                replace b15 : Cel w75 w67.heap.size 66 [.int .u32 ((p0 : Nat) : Int), .int .u32 ((p1 : Nat) : Int), .int .u32 ((p2 : Nat) : Int), .int .u32 ((p3 : Nat) : Int), .int .u32 ((p4 : Nat) : Int), .int .u32 ((p5 : Nat) : Int), .int .u32 ((p6 : Nat) : Int), .int .u32 ((p7 : Nat) : Int), u2, .int .i64 X.2.2] := t28.c
                clear t28
                refine zz 10 ?_
                refine zd (by kernel_rfl) ?_ _
                exact ⟨w72.heap.size, w67.heap.size, u1, u2, cutE, BL, R, D, b5, b6, b8, b11, b13, IN, W, b14, b15, U1, U2, by omega⟩
            · skip
              refine xAlloc 14 66 [.int .u32 0, .int .u32 0, .int .u32 0, .int .u32 0, .int .u32 0, .int .u32 0, .int .u32 0, .int .u32 0, .slice none 0 0, .int .i64 0] rfl (by kernel_rfl) ?_
              intro w76 n26
              have zn26 := n26.z
              have b14 := n26.c
              replace BL := BL.e0 n26.e
              replace R := R.e0 n26.e
              replace D := D.e0 n26.e
              replace b5 := b5.e0 n26.e
              replace b6 := b6.e0 n26.e
              replace b8 := b8.e0 n26.e
              replace b11 := b11.e0 n26.e
              replace b13 := b13.e0 n26.e
              replace IN := IN.e0 n26.e
              replace W := W.e0 n26.e
              replace U1 := U1.e0 n26.e
              refine ze 7 ⟨BL, R, D, b5, b6, b8, b11, b13, IN, W, by omega⟩ ?_
              simp only [List.set_cons_zero, List.set_cons_succ]
              refine zo2 6 8 rfl rfl ?_ ?_
              · skip
                refine xCall 37 41 #[.agg (cellsOf .u32 (nn tab)), .agg #[.int .u32 ((y0 : Nat) : Int), .int .u32 ((y1 : Nat) : Int), .int .u32 ((y2 : Nat) : Int), .int .u32 ((y3 : Nat) : Int), .int .u32 ((y4 : Nat) : Int), .int .u32 ((y5 : Nat) : Int), .int .u32 ((y6 : Nat) : Int), .int .u32 ((y7 : Nat) : Int), .slice A r.length C, .int .i64 L], v] (by kernel_rfl) ?_
                refine (rwrite_any2 tab ([y0, y1, y2, y3, y4, y5, y6, y7], r, L) ns rfl (.slice A r.length C) v ht hy32 hr8 hb8 w76 R D (by omega) w.heap.size hrl).mono ?_
                rintro en w77 ⟨u2, he2, hU2, hb1, hub2⟩
                rw [hX] at he2 hU2
                rw [hp] at he2
                subst he2
                have e23 := belE0 hb1
                have ze23 := e23.size
                replace BL := BL.e0 e23
                replace R := R.e0 e23
                replace D := D.e0 e23
                replace b5 := b5.e0 e23
                replace b6 := b6.e0 e23
                replace b8 := b8.e0 e23
                replace b11 := b11.e0 e23
                replace b13 := b13.e0 e23
                replace IN := IN.e0 e23
                replace W := W.e0 e23
                replace U1 := U1.e0 e23
                replace b14 := b14.e0 e23
                clear e23
                have U2 : SL .u8 w77 u2 (nn X.2.1) := hU2
                refine ⟨.agg #[.int .u32 ((p0 : Nat) : Int), .int .u32 ((p1 : Nat) : Int), .int .u32 ((p2 : Nat) : Int), .int .u32 ((p3 : Nat) : Int), .int .u32 ((p4 : Nat) : Int), .int .u32 ((p5 : Nat) : Int), .int .u32 ((p6 : Nat) : Int), .int .u32 ((p7 : Nat) : Int), u2, .int .i64 X.2.2], rfl, ?_⟩
                refine ze 6 ⟨BL, R, D, b5, b6, b8, b11, b13, IN, W, by omega⟩ ?_
                simp only [List.set_cons_zero, List.set_cons_succ]
                refine zo1 8 rfl ?_
                refine xAlloc 15 66 [.int .u32 0, .int .u32 0, .int .u32 0, .int .u32 0, .int .u32 0, .int .u32 0, .int .u32 0, .int .u32 0, .slice none 0 0, .int .i64 0] rfl (by kernel_rfl) ?_
                intro w78 n27
                have zn27 := n27.z
                have b15 := n27.c
                replace BL := BL.e0 n27.e
                replace R := R.e0 n27.e
                replace D := D.e0 n27.e
                replace b5 := b5.e0 n27.e
                replace b6 := b6.e0 n27.e
                replace b8 := b8.e0 n27.e
                replace b11 := b11.e0 n27.e
                replace b13 := b13.e0 n27.e
                replace IN := IN.e0 n27.e
                replace W := W.e0 n27.e
                replace U1 := U1.e0 n27.e
                replace b14 := b14.e0 n27.e
                replace U2 := U2.e0 n27.e
                refine ze 8 ⟨BL, R, D, b5, b6, b8, b11, b13, IN, W, by omega⟩ ?_
                simp only [List.set_cons_zero, List.set_cons_succ]
                refine zo1 9 rfl ?_
                refine xStoreR 66 (.tmp 14) (.tmp 33) rfl w66.heap.size 66 [.int .u32 0, .int .u32 0, .int .u32 0, .int .u32 0, .int .u32 0, .int .u32 0, .int .u32 0, .int .u32 0, .slice none 0 0, .int .i64 0] 0 [.int .u32 ((p0 : Nat) : Int), .int .u32 ((p1 : Nat) : Int), .int .u32 ((p2 : Nat) : Int), .int .u32 ((p3 : Nat) : Int), .int .u32 ((p4 : Nat) : Int), .int .u32 ((p5 : Nat) : Int), .int .u32 ((p6 : Nat) : Int), .int .u32 ((p7 : Nat) : Int), u1, .int .i64 X.2.2] (by kernel_rfl) (by kernel_rfl) b14 (by kernel_rfl) (by simp) (allC rfl (allC rfl (allC rfl (allC rfl (allC rfl (allC rfl (allC rfl (allC rfl (allC U1.oneCell (allC rfl allN)))))))))) [.int .u32 ((p0 : Nat) : Int), .int .u32 ((p1 : Nat) : Int), .int .u32 ((p2 : Nat) : Int), .int .u32 ((p3 : Nat) : Int), .int .u32 ((p4 : Nat) : Int), .int .u32 ((p5 : Nat) : Int), .int .u32 ((p6 : Nat) : Int), .int .u32 ((p7 : Nat) : Int), u1, .int .i64 X.2.2] rfl ?_
                intro w79 t29
                have zt29 := t29.z
                have BL_ := BL.ev t29.e (fun i h => show w.heap.size ≤ i by have h : i = w66.heap.size := h; omega)
                have R_ := R.ev t29.e (fun i hi => show ¬ (i = w66.heap.size) by have := hrl i hi; omega)
                have D_ := D.ev t29.e (fun i hi => show ¬ (i = w66.heap.size) by have := hdl i hi; omega)
                have b5_ := b5.ev t29.e (show ¬ (w.heap.size = w66.heap.size) by omega)
                have b6_ := b6.ev t29.e (show ¬ (w1.heap.size = w66.heap.size) by omega)
                have b8_ := b8.ev t29.e (show ¬ (w2.heap.size = w66.heap.size) by omega)
                have b11_ := b11.ev t29.e (show ¬ (g11 = w66.heap.size) by omega)
                have b13_ := b13.ev t29.e (show ¬ (g13 = w66.heap.size) by omega)
                have IN_ := IN.ev t29.e (fun i hi => show ¬ (i = w66.heap.size) by have := hil i hi; omega)
                have W_ := W.ev t29.e (fun i hi => show ¬ (i = w66.heap.size) by have := hwl i hi; omega)
                have U1_ := U1.ev t29.e (fun i hi => show ¬ (i = w66.heap.size) by have := hub1 i hi; omega)
                have U2_ := U2.ev t29.e (fun i hi => show ¬ (i = w66.heap.size) by have := hub2 i hi; omega)
                have b15_ := b15.ev t29.e (show ¬ (w77.heap.size = w66.heap.size) by omega)
                replace BL := BL_; clear BL_
                replace R := R_; clear R_
                replace D := D_; clear D_
                replace b5 := b5_; clear b5_
                replace b6 := b6_; clear b6_
                replace b8 := b8_; clear b8_
                replace b11 := b11_; clear b11_
                replace b13 := b13_; clear b13_
                replace IN := IN_; clear IN_
                replace W := W_; clear W_
                replace U1 := U1_; clear U1_
                replace U2 := U2_; clear U2_
                replace b15 := b15_; clear b15_
                replace b14 : Cel w79 w66.heap.size 66 [.int .u32 ((p0 : Nat) : Int), .int .u32 ((p1 : Nat) : Int), .int .u32 ((p2 : Nat) : Int), .int .u32 ((p3 : Nat) : Int), .int .u32 ((p4 : Nat) : Int), .int .u32 ((p5 : Nat) : Int), .int .u32 ((p6 : Nat) : Int), .int .u32 ((p7 : Nat) : Int), u1, .int .i64 X.2.2] := t29.c
                clear t29
                refine ze 9 ⟨BL, R, D, b5, b6, b8, b11, b13, IN, W, by omega⟩ ?_
                refine zo1 10 rfl ?_
                refine xStoreR 66 (.tmp 15) (.tmp 37) rfl w77.heap.size 66 [.int .u32 0, .int .u32 0, .int .u32 0, .int .u32 0, .int .u32 0, .int .u32 0, .int .u32 0, .int .u32 0, .slice none 0 0, .int .i64 0] 0 [.int .u32 ((p0 : Nat) : Int), .int .u32 ((p1 : Nat) : Int), .int .u32 ((p2 : Nat) : Int), .int .u32 ((p3 : Nat) : Int), .int .u32 ((p4 : Nat) : Int), .int .u32 ((p5 : Nat) : Int), .int .u32 ((p6 : Nat) : Int), .int .u32 ((p7 : Nat) : Int), u2, .int .i64 X.2.2] (by kernel_rfl) (by kernel_rfl) b15 (by kernel_rfl) (by simp) (allC rfl (allC rfl (allC rfl (allC rfl (allC rfl (allC rfl (allC rfl (allC rfl (allC U2.oneCell (allC rfl allN)))))))))) [.int .u32 ((p0 : Nat) : Int), .int .u32 ((p1 : Nat) : Int), .int .u32 ((p2 : Nat) : Int), .int .u32 ((p3 : Nat) : Int), .int .u32 ((p4 : Nat) : Int), .int .u32 ((p5 : Nat) : Int), .int .u32 ((p6 : Nat) : Int), .int .u32 ((p7 : Nat) : Int), u2, .int .i64 X.2.2] rfl ?_
                intro w80 t30
                have zt30 := t30.z
                have BL_ := BL.ev t30.e (fun i h => show w.heap.size ≤ i by have h : i = w77.heap.size := h; omega)
                have R_ := R.ev t30.e (fun i hi => show ¬ (i = w77.heap.size) by have := hrl i hi; omega)
                have D_ := D.ev t30.e (fun i hi => show ¬ (i = w77.heap.size) by have := hdl i hi; omega)
                have b5_ := b5.ev t30.e (show ¬ (w.heap.size = w77.heap.size) by omega)
                have b6_ := b6.ev t30.e (show ¬ (w1.heap.size = w77.heap.size) by omega)
                have b8_ := b8.ev t30.e (show ¬ (w2.heap.size = w77.heap.size) by omega)
                have b11_ := b11.ev t30.e (show ¬ (g11 = w77.heap.size) by omega)
                have b13_ := b13.ev t30.e (show ¬ (g13 = w77.heap.size) by omega)
                have IN_ := IN.ev t30.e (fun i hi => show ¬ (i = w77.heap.size) by have := hil i hi; omega)
                have W_ := W.ev t30.e (fun i hi => show ¬ (i = w77.heap.size) by have := hwl i hi; omega)
                have U1_ := U1.ev t30.e (fun i hi => show ¬ (i = w77.heap.size) by have := hub1 i hi; omega)
                have b14_ := b14.ev t30.e (show ¬ (w66.heap.size = w77.heap.size) by omega)
                have U2_ := U2.ev t30.e (fun i hi => show ¬ (i = w77.heap.size) by have := hub2 i hi; omega)
                replace BL := BL_; clear BL_
                replace R := R_; clear R_
                replace D := D_; clear D_
                replace b5 := b5_; clear b5_
                replace b6 := b6_; clear b6_
                replace b8 := b8_; clear b8_
                replace b11 := b11_; clear b11_
                replace b13 := b13_; clear b13_
                replace IN := IN_; clear IN_
                replace W := W_; clear W_
                replace U1 := U1_; clear U1_
                replace b14 := b14_; clear b14_
                replace U2 := U2_; clear U2_
                replace b15 : Cel w80 w77.heap.size 66 [.int .u32 ((p0 : Nat) : Int), .int .u32 ((p1 : Nat) : Int), .int .u32 ((p2 : Nat) : Int), .int .u32 ((p3 : Nat) : Int), .int .u32 ((p4 : Nat) : Int), .int .u32 ((p5 : Nat) : Int), .int .u32 ((p6 : Nat) : Int), .int .u32 ((p7 : Nat) : Int), u2, .int .i64 X.2.2] := t30.c
                clear t30
                refine zz 10 ?_
                refine zd (by kernel_rfl) ?_ _
                exact ⟨w66.heap.size, w77.heap.size, u1, u2, cutE, BL, R, D, b5, b6, b8, b11, b13, IN, W, b14, b15, U1, U2, by omega⟩
              · skip
                refine xAlloc 15 66 [.int .u32 0, .int .u32 0, .int .u32 0, .int .u32 0, .int .u32 0, .int .u32 0, .int .u32 0, .int .u32 0, .slice none 0 0, .int .i64 0] rfl (by kernel_rfl) ?_
                intro w81 n28
                have zn28 := n28.z
                have b15 := n28.c
                replace BL := BL.e0 n28.e
                replace R := R.e0 n28.e
                replace D := D.e0 n28.e
                replace b5 := b5.e0 n28.e
                replace b6 := b6.e0 n28.e
                replace b8 := b8.e0 n28.e
                replace b11 := b11.e0 n28.e
                replace b13 := b13.e0 n28.e
                replace IN := IN.e0 n28.e
                replace W := W.e0 n28.e
                replace U1 := U1.e0 n28.e
                replace b14 := b14.e0 n28.e
                refine ze 8 ⟨BL, R, D, b5, b6, b8, b11, b13, IN, W, by omega⟩ ?_
                simp only [List.set_cons_zero, List.set_cons_succ]
                refine zo1 6 rfl ?_
                refine xCall 37 41 #[.agg (cellsOf .u32 (nn tab)), .agg #[.int .u32 ((y0 : Nat) : Int), .int .u32 ((y1 : Nat) : Int), .int .u32 ((y2 : Nat) : Int), .int .u32 ((y3 : Nat) : Int), .int .u32 ((y4 : Nat) : Int), .int .u32 ((y5 : Nat) : Int), .int .u32 ((y6 : Nat) : Int), .int .u32 ((y7 : Nat) : Int), .slice A r.length C, .int .i64 L], v] (by kernel_rfl) ?_
                refine (rwrite_any2 tab ([y0, y1, y2, y3, y4, y5, y6, y7], r, L) ns rfl (.slice A r.length C) v ht hy32 hr8 hb8 w81 R D (by omega) w.heap.size hrl).mono ?_
                rintro en w82 ⟨u2, he2, hU2, hb1, hub2⟩
                rw [hX] at he2 hU2
                rw [hp] at he2
                subst he2
                have e24 := belE0 hb1
                have ze24 := e24.size
                replace BL := BL.e0 e24
                replace R := R.e0 e24
                replace D := D.e0 e24
                replace b5 := b5.e0 e24
                replace b6 := b6.e0 e24
                replace b8 := b8.e0 e24
                replace b11 := b11.e0 e24
                replace b13 := b13.e0 e24
                replace IN := IN.e0 e24
                replace W := W.e0 e24
                replace U1 := U1.e0 e24
                replace b14 := b14.e0 e24
                replace b15 := b15.e0 e24
                clear e24
                have U2 : SL .u8 w82 u2 (nn X.2.1) := hU2
                refine ⟨.agg #[.int .u32 ((p0 : Nat) : Int), .int .u32 ((p1 : Nat) : Int), .int .u32 ((p2 : Nat) : Int), .int .u32 ((p3 : Nat) : Int), .int .u32 ((p4 : Nat) : Int), .int .u32 ((p5 : Nat) : Int), .int .u32 ((p6 : Nat) : Int), .int .u32 ((p7 : Nat) : Int), u2, .int .i64 X.2.2], rfl, ?_⟩
                refine ze 6 ⟨BL, R, D, b5, b6, b8, b11, b13, IN, W, by omega⟩ ?_
                simp only [List.set_cons_zero, List.set_cons_succ]
                refine zo1 9 rfl ?_
                refine xStoreR 66 (.tmp 14) (.tmp 33) rfl w66.heap.size 66 [.int .u32 0, .int .u32 0, .int .u32 0, .int .u32 0, .int .u32 0, .int .u32 0, .int .u32 0, .int .u32 0, .slice none 0 0, .int .i64 0] 0 [.int .u32 ((p0 : Nat) : Int), .int .u32 ((p1 : Nat) : Int), .int .u32 ((p2 : Nat) : Int), .int .u32 ((p3 : Nat) : Int), .int .u32 ((p4 : Nat) : Int), .int .u32 ((p5 : Nat) : Int), .int .u32 ((p6 : Nat) : Int), .int .u32 ((p7 : Nat) : Int), u1, .int .i64 X.2.2] (by kernel_rfl) (by kernel_rfl) b14 (by kernel_rfl) (by simp) (allC rfl (allC rfl (allC rfl (allC rfl (allC rfl (allC rfl (allC rfl (allC rfl (allC U1.oneCell (allC rfl allN)))))))))) [.int .u32 ((p0 : Nat) : Int), .int .u32 ((p1 : Nat) : Int), .int .u32 ((p2 : Nat) : Int), .int .u32 ((p3 : Nat) : Int), .int .u32 ((p4 : Nat) : Int), .int .u32 ((p5 : Nat) : Int), .int .u32 ((p6 : Nat) : Int), .int .u32 ((p7 : Nat) : Int), u1, .int .i64 X.2.2] rfl ?_
                intro w83 t31
                have zt31 := t31.z
                have BL_ := BL.ev t31.e (fun i h => show w.heap.size ≤ i by have h : i = w66.heap.size := h; omega)
                have R_ := R.ev t31.e (fun i hi => show ¬ (i = w66.heap.size) by have := hrl i hi; omega)
                have D_ := D.ev t31.e (fun i hi => show ¬ (i = w66.heap.size) by have := hdl i hi; omega)
                have b5_ := b5.ev t31.e (show ¬ (w.heap.size = w66.heap.size) by omega)
                have b6_ := b6.ev t31.e (show ¬ (w1.heap.size = w66.heap.size) by omega)
                have b8_ := b8.ev t31.e (show ¬ (w2.heap.size = w66.heap.size) by omega)
                have b11_ := b11.ev t31.e (show ¬ (g11 = w66.heap.size) by omega)
                have b13_ := b13.ev t31.e (show ¬ (g13 = w66.heap.size) by omega)
                have IN_ := IN.ev t31.e (fun i hi => show ¬ (i = w66.heap.size) by have := hil i hi; omega)
                have W_ := W.ev t31.e (fun i hi => show ¬ (i = w66.heap.size) by have := hwl i hi; omega)
                have U1_ := U1.ev t31.e (fun i hi => show ¬ (i = w66.heap.size) by have := hub1 i hi; omega)
                have b15_ := b15.ev t31.e (show ¬ (w76.heap.size = w66.heap.size) by omega)
                have U2_ := U2.ev t31.e (fun i hi => show ¬ (i = w66.heap.size) by have := hub2 i hi; omega)
                replace BL := BL_; clear BL_
                replace R := R_; clear R_
                replace D := D_; clear D_
                replace b5 := b5_; clear b5_
                replace b6 := b6_; clear b6_
                replace b8 := b8_; clear b8_
                replace b11 := b11_; clear b11_
                replace b13 := b13_; clear b13_
                replace IN := IN_; clear IN_
                replace W := W_; clear W_
                replace U1 := U1_; clear U1_
                replace b15 := b15_; clear b15_
                replace U2 := U2_; clear U2_
                replace b14 : Cel w83 w66.heap.size 66 [.int .u32 ((p0 : Nat) : Int), .int .u32 ((p1 : Nat) : Int), .int .u32 ((p2 : Nat) : Int), .int .u32 ((p3 : Nat) : Int), .int .u32 ((p4 : Nat) : Int), .int .u32 ((p5 : Nat) : Int), .int .u32 ((p6 : Nat) : Int), .int .u32 ((p7 : Nat) : Int), u1, .int .i64 X.2.2] := t31.c
                clear t31
                refine ze 9 ⟨BL, R, D, b5, b6, b8, b11, b13, IN, W, by omega⟩ ?_
                refine zo1 10 rfl ?_
                refine xStoreR 66 (.tmp 15) (.tmp 37) rfl w76.heap.size 66 [.int .u32 0, .int .u32 0, .int .u32 0, .int .u32 0, .int .u32 0, .int .u32 0, .int .u32 0, .int .u32 0, .slice none 0 0, .int .i64 0] 0 [.int .u32 ((p0 : Nat) : Int), .int .u32 ((p1 : Nat) : Int), .int .u32 ((p2 : Nat) : Int), .int .u32 ((p3 : Nat) : Int), .int .u32 ((p4 : Nat) : Int), .int .u32 ((p5 : Nat) : Int), .int .u32 ((p6 : Nat) : Int), .int .u32 ((p7 : Nat) : Int), u2, .int .i64 X.2.2] (by kernel_rfl) (by kernel_rfl) b15 (by kernel_rfl) (by simp) (allC rfl (allC rfl (allC rfl (allC rfl (allC rfl (allC rfl (allC rfl (allC rfl (allC U2.oneCell (allC rfl allN)))))))))) [.int .u32 ((p0 : Nat) : Int), .int .u32 ((p1 : Nat) : Int), .int .u32 ((p2 : Nat) : Int), .int .u32 ((p3 : Nat) : Int), .int .u32 ((p4 : Nat) : Int), .int .u32 ((p5 : Nat) : Int), .int .u32 ((p6 : Nat) : Int), .int .u32 ((p7 : Nat) : Int), u2, .int .i64 X.2.2] rfl ?_
                intro w84 t32
                have zt32 := t32.z
                have BL_ := BL.ev t32.e (fun i h => show w.heap.size ≤ i by have h : i = w76.heap.size := h; omega)
                have R_ := R.ev t32.e (fun i hi => show ¬ (i = w76.heap.size) by have := hrl i hi; omega)
                have D_ := D.ev t32.e (fun i hi => show ¬ (i = w76.heap.size) by have := hdl i hi; omega)
                have b5_ := b5.ev t32.e (show ¬ (w.heap.size = w76.heap.size) by omega)
                have b6_ := b6.ev t32.e (show ¬ (w1.heap.size = w76.heap.size) by omega)
                have b8_ := b8.ev t32.e (show ¬ (w2.heap.size = w76.heap.size) by omega)
                have b11_ := b11.ev t32.e (show ¬ (g11 = w76.heap.size) by omega)
                have b13_ := b13.ev t32.e (show ¬ (g13 = w76.heap.size) by omega)
                have IN_ := IN.ev t32.e (fun i hi => show ¬ (i = w76.heap.size) by have := hil i hi; omega)
                have W_ := W.ev t32.e (fun i hi => show ¬ (i = w76.heap.size) by have := hwl i hi; omega)
                have U1_ := U1.ev t32.e (fun i hi => show ¬ (i = w76.heap.size) by have := hub1 i hi; omega)
                have b14_ := b14.ev t32.e (show ¬ (w66.heap.size = w76.heap.size) by omega)
                have U2_ := U2.ev t32.e (fun i hi => show ¬ (i = w76.heap.size) by have := hub2 i hi; omega)
                replace BL := BL_; clear BL_
                replace R := R_; clear R_
                replace D := D_; clear D_
                replace b5 := b5_; clear b5_
                replace b6 := b6_; clear b6_
                replace b8 := b8_; clear b8_
                replace b11 := b11_; clear b11_
                replace b13 := b13_; clear b13_
                replace IN := IN_; clear IN_
                replace W := W_; clear W_
                replace U1 := U1_; clear U1_
                replace b14 := b14_; clear b14_
                replace U2 := U2_; clear U2_
                replace b15 : Cel w84 w76.heap.size 66 [.int .u32 ((p0 : Nat) : Int), .int .u32 ((p1 : Nat) : Int), .int .u32 ((p2 : Nat) : Int), .int .u32 ((p3 : Nat) : Int), .int .u32 ((p4 : Nat) : Int), .int .u32 ((p5 : Nat) : Int), .int .u32 ((p6 : Nat) : Int), .int .u32 ((p7 : Nat) : Int), u2, .int .i64 X.2.2] := t32.c
                clear t32
                refine zz 10 ?_
                refine zd (by kernel_rfl) ?_ _
                exact ⟨w66.heap.size, w76.heap.size, u1, u2, cutE, BL, R, D, b5, b6, b8, b11, b13, IN, W, b14, b15, U1, U2, by omega⟩
            · skip
              refine xAlloc 15 66 [.int .u32 0, .int .u32 0, .int .u32 0, .int .u32 0, .int .u32 0, .int .u32 0, .int .u32 0, .int .u32 0, .slice none 0 0, .int .i64 0] rfl (by kernel_rfl) ?_
              intro w85 n29
              have zn29 := n29.z
              have b15 := n29.c
              replace BL := BL.e0 n29.e
              replace R := R.e0 n29.e
              replace D := D.e0 n29.e
              replace b5 := b5.e0 n29.e
              replace b6 := b6.e0 n29.e
              replace b8 := b8.e0 n29.e
              replace b11 := b11.e0 n29.e
              replace b13 := b13.e0 n29.e
              replace IN := IN.e0 n29.e
              replace W := W.e0 n29.e
              replace U1 := U1.e0 n29.e
              refine ze 8 ⟨BL, R, D, b5, b6, b8, b11, b13, IN, W, by omega⟩ ?_
              simp only [List.set_cons_zero, List.set_cons_succ]
              refine zo2 6 7 rfl rfl ?_ ?_
              · skip
                refine xCall 37 41 #[.agg (cellsOf .u32 (nn tab)), .agg #[.int .u32 ((y0 : Nat) : Int), .int .u32 ((y1 : Nat) : Int), .int .u32 ((y2 : Nat) : Int), .int .u32 ((y3 : Nat) : Int), .int .u32 ((y4 : Nat) : Int), .int .u32 ((y5 : Nat) : Int), .int .u32 ((y6 : Nat) : Int), .int .u32 ((y7 : Nat) : Int), .slice A r.length C, .int .i64 L], v] (by kernel_rfl) ?_
                refine (rwrite_any2 tab ([y0, y1, y2, y3, y4, y5, y6, y7], r, L) ns rfl (.slice A r.length C) v ht hy32 hr8 hb8 w85 R D (by omega) w.heap.size hrl).mono ?_
                rintro en w86 ⟨u2, he2, hU2, hb1, hub2⟩
                rw [hX] at he2 hU2
                rw [hp] at he2
                subst he2
                have e25 := belE0 hb1
                have ze25 := e25.size
                replace BL := BL.e0 e25
                replace R := R.e0 e25
                replace D := D.e0 e25
                replace b5 := b5.e0 e25
                replace b6 := b6.e0 e25
                replace b8 := b8.e0 e25
                replace b11 := b11.e0 e25
                replace b13 := b13.e0 e25
                replace IN := IN.e0 e25
                replace W := W.e0 e25
                replace U1 := U1.e0 e25
                replace b15 := b15.e0 e25
                clear e25
                have U2 : SL .u8 w86 u2 (nn X.2.1) := hU2
                refine ⟨.agg #[.int .u32 ((p0 : Nat) : Int), .int .u32 ((p1 : Nat) : Int), .int .u32 ((p2 : Nat) : Int), .int .u32 ((p3 : Nat) : Int), .int .u32 ((p4 : Nat) : Int), .int .u32 ((p5 : Nat) : Int), .int .u32 ((p6 : Nat) : Int), .int .u32 ((p7 : Nat) : Int), u2, .int .i64 X.2.2], rfl, ?_⟩
                refine ze 6 ⟨BL, R, D, b5, b6, b8, b11, b13, IN, W, by omega⟩ ?_
                simp only [List.set_cons_zero, List.set_cons_succ]
                refine zo1 7 rfl ?_
                refine xAlloc 14 66 [.int .u32 0, .int .u32 0, .int .u32 0, .int .u32 0, .int .u32 0, .int .u32 0, .int .u32 0, .int .u32 0, .slice none 0 0, .int .i64 0] rfl (by kernel_rfl) ?_
                intro w87 n30
                have zn30 := n30.z
                have b14 := n30.c
                replace BL := BL.e0 n30.e
                replace R := R.e0 n30.e
                replace D := D.e0 n30.e
                replace b5 := b5.e0 n30.e
                replace b6 := b6.e0 n30.e
                replace b8 := b8.e0 n30.e
                replace b11 := b11.e0 n30.e
                replace b13 := b13.e0 n30.e
                replace IN := IN.e0 n30.e
                replace W := W.e0 n30.e
                replace U1 := U1.e0 n30.e
                replace b15 := b15.e0 n30.e
                replace U2 := U2.e0 n30.e
                refine ze 7 ⟨BL, R, D, b5, b6, b8, b11, b13, IN, W, by omega⟩ ?_
                simp only [List.set_cons_zero, List.set_cons_succ]
                refine zo1 9 rfl ?_
                refine xStoreR 66 (.tmp 14) (.tmp 33) rfl w86.heap.size 66 [.int .u32 0, .int .u32 0, .int .u32 0, .int .u32 0, .int .u32 0, .int .u32 0, .int .u32 0, .int .u32 0, .slice none 0 0, .int .i64 0] 0 [.int .u32 ((p0 : Nat) : Int), .int .u32 ((p1 : Nat) : Int), .int .u32 ((p2 : Nat) : Int), .int .u32 ((p3 : Nat) : Int), .int .u32 ((p4 : Nat) : Int), .int .u32 ((p5 : Nat) : Int), .int .u32 ((p6 : Nat) : Int), .int .u32 ((p7 : Nat) : Int), u1, .int .i64 X.2.2] (by kernel_rfl) (by kernel_rfl) b14 (by kernel_rfl) (by simp) (allC rfl (allC rfl (allC rfl (allC rfl (allC rfl (allC rfl (allC rfl (allC rfl (allC U1.oneCell (allC rfl allN)))))))))) [.int .u32 ((p0 : Nat) : Int), .int .u32 ((p1 : Nat) : Int), .int .u32 ((p2 : Nat) : Int), .int .u32 ((p3 : Nat) : Int), .int .u32 ((p4 : Nat) : Int), .int .u32 ((p5 : Nat) : Int), .int .u32 ((p6 : Nat) : Int), .int .u32 ((p7 : Nat) : Int), u1, .int .i64 X.2.2] rfl ?_
                intro w88 t33
                have zt33 := t33.z
                have BL_ := BL.ev t33.e (fun i h => show w.heap.size ≤ i by have h : i = w86.heap.size := h; omega)
                have R_ := R.ev t33.e (fun i hi => show ¬ (i = w86.heap.size) by have := hrl i hi; omega)
                have D_ := D.ev t33.e (fun i hi => show ¬ (i = w86.heap.size) by have := hdl i hi; omega)
                have b5_ := b5.ev t33.e (show ¬ (w.heap.size = w86.heap.size) by omega)
                have b6_ := b6.ev t33.e (show ¬ (w1.heap.size = w86.heap.size) by omega)
                have b8_ := b8.ev t33.e (show ¬ (w2.heap.size = w86.heap.size) by omega)
                have b11_ := b11.ev t33.e (show ¬ (g11 = w86.heap.size) by omega)
                have b13_ := b13.ev t33.e (show ¬ (g13 = w86.heap.size) by omega)
                have IN_ := IN.ev t33.e (fun i hi => show ¬ (i = w86.heap.size) by have := hil i hi; omega)
                have W_ := W.ev t33.e (fun i hi => show ¬ (i = w86.heap.size) by have := hwl i hi; omega)
                have U1_ := U1.ev t33.e (fun i hi => show ¬ (i = w86.heap.size) by have := hub1 i hi; omega)
                have b15_ := b15.ev t33.e (show ¬ (w66.heap.size = w86.heap.size) by omega)
                have U2_ := U2.ev t33.e (fun i hi => show ¬ (i = w86.heap.size) by have := hub2 i hi; omega)
                replace BL := BL_; clear BL_
                replace R := R_; clear R_
                replace D := D_; clear D_
                replace b5 := b5_; clear b5_
                replace b6 := b6_; clear b6_
                replace b8 := b8_; clear b8_
                replace b11 := b11_; clear b11_
                replace b13 := b13_; clear b13_
                replace IN := IN_; clear IN_
                replace W := W_; clear W_
                replace U1 := U1_; clear U1_
                replace b15 := b15_; clear b15_
                replace U2 := U2_; clear U2_
                replace b14 : Cel w88 w86.heap.size 66 [.int .u32 ((p0 : Nat) : Int), .int .u32 ((p1 : Nat) : Int), .int .u32 ((p2 : Nat) : Int), .int .u32 ((p3 : Nat) : Int), .int .u32 ((p4 : Nat) : Int), .int .u32 ((p5 : Nat) : Int), .int .u32 ((p6 : Nat) : Int), .int .u32 ((p7 : Nat) : Int), u1, .int .i64 X.2.2] := t33.c
                clear t33
                refine ze 9 ⟨BL, R, D, b5, b6, b8, b11, b13, IN, W, by omega⟩ ?_
                refine zo1 10 rfl ?_
                refine xStoreR 66 (.tmp 15) (.tmp 37) rfl w66.heap.size 66 [.int .u32 0, .int .u32 0, .int .u32 0, .int .u32 0, .int .u32 0, .int .u32 0, .int .u32 0, .int .u32 0, .slice none 0 0, .int .i64 0] 0 [.int .u32 ((p0 : Nat) : Int), .int .u32 ((p1 : Nat) : Int), .int .u32 ((p2 : Nat) : Int), .int .u32 ((p3 : Nat) : Int), .int .u32 ((p4 : Nat) : Int), .int .u32 ((p5 : Nat) : Int), .int .u32 ((p6 : Nat) : Int), .int .u32 ((p7 : Nat) : Int), u2, .int .i64 X.2.2] (by kernel_rfl) (by kernel_rfl) b15 (by kernel_rfl) (by simp) (allC rfl (allC rfl (allC rfl (allC rfl (allC rfl (allC rfl (allC rfl (allC rfl (allC U2.oneCell (allC rfl allN)))))))))) [.int .u32 ((p0 : Nat) : Int), .int .u32 ((p1 : Nat) : Int), .int .u32 ((p2 : Nat) : Int), .int .u32 ((p3 : Nat) : Int), .int .u32 ((p4 : Nat) : Int), .int .u32 ((p5 : Nat) : Int), .int .u32 ((p6 : Nat) : Int), .int .u32 ((p7 : Nat) : Int), u2, .int .i64 X.2.2] rfl ?_
                intro w89 t34
                have zt34 := t34.z
                have BL_ := BL.ev t34.e (fun i h => show w.heap.size ≤ i by have h : i = w66.heap.size := h; omega)
                have R_ := R.ev t34.e (fun i hi => show ¬ (i = w66.heap.size) by have := hrl i hi; omega)
                have D_ := D.ev t34.e (fun i hi => show ¬ (i = w66.heap.size) by have := hdl i hi; omega)
                have b5_ := b5.ev t34.e (show ¬ (w.heap.size = w66.heap.size) by omega)
                have b6_ := b6.ev t34.e (show ¬ (w1.heap.size = w66.heap.size) by omega)
                have b8_ := b8.ev t34.e (show ¬ (w2.heap.size = w66.heap.size) by omega)
                have b11_ := b11.ev t34.e (show ¬ (g11 = w66.heap.size) by omega)
                have b13_ := b13.ev t34.e (show ¬ (g13 = w66.heap.size) by omega)
                have IN_ := IN.ev t34.e (fun i hi => show ¬ (i = w66.heap.size) by have := hil i hi; omega)
                have W_ := W.ev t34.e (fun i hi => show ¬ (i = w66.heap.size) by have := hwl i hi; omega)
                have U1_ := U1.ev t34.e (fun i hi => show ¬ (i = w66.heap.size) by have := hub1 i hi; omega)
                have U2_ := U2.ev t34.e (fun i hi => show ¬ (i = w66.heap.size) by have := hub2 i hi; omega)
                have b14_ := b14.ev t34.e (show ¬ (w86.heap.size = w66.heap.size) by omega)
                replace BL := BL_; clear BL_
                replace R := R_; clear R_
                replace D := D_; clear D_
                replace b5 := b5_; clear b5_
                replace b6 := b6_; clear b6_
                replace b8 := b8_; clear b8_
                replace b11 := b11_; clear b11_
                replace b13 := b13_; clear b13_
                replace IN := IN_; clear IN_
                replace W := W_; clear W_
                replace U1 := U1_; clear U1_
                replace U2 := U2_; clear U2_
                replace b14 := b14_; clear b14_
                replace b15 : Cel w89 w66.heap.size 66 [.int .u32 ((p0 : Nat) : Int), .int .u32 ((p1 : Nat) : Int), .int .u32 ((p2 : Nat) : Int), .int .u32 ((p3 : Nat) : Int), .int .u32 ((p4 : Nat) : Int), .int .u32 ((p5 : Nat) : Int), .int .u32 ((p6 : Nat) : Int), .int .u32 ((p7 : Nat) : Int), u2, .int .i64 X.2.2] := t34.c
                clear t34
                refine zz 10 ?_
                refine zd (by kernel_rfl) ?_ _
                exact ⟨w86.heap.size, w66.heap.size, u1, u2, cutE, BL, R, D, b5, b6, b8, b11, b13, IN, W, b14, b15, U1, U2, by omega⟩
              · skip
                refine xAlloc 14 66 [.int .u32 0, .int .u32 0, .int .u32 0, .int .u32 0, .int .u32 0, .int .u32 0, .int .u32 0, .int .u32 0, .slice none 0 0, .int .i64 0] rfl (by kernel_rfl) ?_
                intro w90 n31
                have zn31 := n31.z
                have b14 := n31.c
                replace BL := BL.e0 n31.e
                replace R := R.e0 n31.e
                replace D := D.e0 n31.e
                replace b5 := b5.e0 n31.e
                replace b6 := b6.e0 n31.e
                replace b8 := b8.e0 n31.e
                replace b11 := b11.e0 n31.e
                replace b13 := b13.e0 n31.e
                replace IN := IN.e0 n31.e
                replace W := W.e0 n31.e
                replace U1 := U1.e0 n31.e
                replace b15 := b15.e0 n31.e
                refine ze 7 ⟨BL, R, D, b5, b6, b8, b11, b13, IN, W, by omega⟩ ?_
                simp only [List.set_cons_zero, List.set_cons_succ]
                refine zo1 6 rfl ?_
                refine xCall 37 41 #[.agg (cellsOf .u32 (nn tab)), .agg #[.int .u32 ((y0 : Nat) : Int), .int .u32 ((y1 : Nat) : Int), .int .u32 ((y2 : Nat) : Int), .int .u32 ((y3 : Nat) : Int), .int .u32 ((y4 : Nat) : Int), .int .u32 ((y5 : Nat) : Int), .int .u32 ((y6 : Nat) : Int), .int .u32 ((y7 : Nat) : Int), .slice A r.length C, .int .i64 L], v] (by kernel_rfl) ?_
                refine (rwrite_any2 tab ([y0, y1, y2, y3, y4, y5, y6, y7], r, L) ns rfl (.slice A r.length C) v ht hy32 hr8 hb8 w90 R D (by omega) w.heap.size hrl).mono ?_
                rintro en w91 ⟨u2, he2, hU2, hb1, hub2⟩
                rw [hX] at he2 hU2
                rw [hp] at he2
                subst he2
                have e26 := belE0 hb1
                have ze26 := e26.size
                replace BL := BL.e0 e26
                replace R := R.e0 e26
                replace D := D.e0 e26
                replace b5 := b5.e0 e26
                replace b6 := b6.e0 e26
                replace b8 := b8.e0 e26
                replace b11 := b11.e0 e26
                replace b13 := b13.e0 e26
                replace IN := IN.e0 e26
                replace W := W.e0 e26
                replace U1 := U1.e0 e26
                replace b15 := b15.e0 e26
                replace b14 := b14.e0 e26
                clear e26
                have U2 : SL .u8 w91 u2 (nn X.2.1) := hU2
                refine ⟨.agg #[.int .u32 ((p0 : Nat) : Int), .int .u32 ((p1 : Nat) : Int), .int .u32 ((p2 : Nat) : Int), .int .u32 ((p3 : Nat) : Int), .int .u32 ((p4 : Nat) : Int), .int .u32 ((p5 : Nat) : Int), .int .u32 ((p6 : Nat) : Int), .int .u32 ((p7 : Nat) : Int), u2, .int .i64 X.2.2], rfl, ?_⟩
                refine ze 6 ⟨BL, R, D, b5, b6, b8, b11, b13, IN, W, by omega⟩ ?_
                simp only [List.set_cons_zero, List.set_cons_succ]
                refine zo1 9 rfl ?_
                refine xStoreR 66 (.tmp 14) (.tmp 33) rfl w85.heap.size 66 [.int .u32 0, .int .u32 0, .int .u32 0, .int .u32 0, .int .u32 0, .int .u32 0, .int .u32 0, .int .u32 0, .slice none 0 0, .int .i64 0] 0 [.int .u32 ((p0 : Nat) : Int), .int .u32 ((p1 : Nat) : Int), .int .u32 ((p2 : Nat) : Int), .int .u32 ((p3 : Nat) : Int), .int .u32 ((p4 : Nat) : Int), .int .u32 ((p5 : Nat) : Int), .int .u32 ((p6 : Nat) : Int), .int .u32 ((p7 : Nat) : Int), u1, .int .i64 X.2.2] (by kernel_rfl) (by kernel_rfl) b14 (by kernel_rfl) (by simp) (allC rfl (allC rfl (allC rfl (allC rfl (allC rfl (allC rfl (allC rfl (allC rfl (allC U1.oneCell (allC rfl allN)))))))))) [.int .u32 ((p0 : Nat) : Int), .int .u32 ((p1 : Nat) : Int), .int .u32 ((p2 : Nat) : Int), .int .u32 ((p3 : Nat) : Int), .int .u32 ((p4 : Nat) : Int), .int .u32 ((p5 : Nat) : Int), .int .u32 ((p6 : Nat) : Int), .int .u32 ((p7 : Nat) : Int), u1, .int .i64 X.2.2] rfl ?_
                intro w92 t35
                have zt35 := t35.z
                have BL_ := BL.ev t35.e (fun i h => show w.heap.size ≤ i by have h : i = w85.heap.size := h; omega)
                have R_ := R.ev t35.e (fun i hi => show ¬ (i = w85.heap.size) by have := hrl i hi; omega)
                have D_ := D.ev t35.e (fun i hi => show ¬ (i = w85.heap.size) by have := hdl i hi; omega)
                have b5_ := b5.ev t35.e (show ¬ (w.heap.size = w85.heap.size) by omega)
                have b6_ := b6.ev t35.e (show ¬ (w1.heap.size = w85.heap.size) by omega)
                have b8_ := b8.ev t35.e (show ¬ (w2.heap.size = w85.heap.size) by omega)
                have b11_ := b11.ev t35.e (show ¬ (g11 = w85.heap.size) by omega)
                have b13_ := b13.ev t35.e (show ¬ (g13 = w85.heap.size) by omega)
                have IN_ := IN.ev t35.e (fun i hi => show ¬ (i = w85.heap.size) by have := hil i hi; omega)
                have W_ := W.ev t35.e (fun i hi => show ¬ (i = w85.heap.size) by have := hwl i hi; omega)
                have U1_ := U1.ev t35.e (fun i hi => show ¬ (i = w85.heap.size) by have := hub1 i hi; omega)
                have b15_ := b15.ev t35.e (show ¬ (w66.heap.size = w85.heap.size) by omega)
                have U2_ := U2.ev t35.e (fun i hi => show ¬ (i = w85.heap.size) by have := hub2 i hi; omega)
                replace BL := BL_; clear BL_
                replace R := R_; clear R_
                replace D := D_; clear D_
                replace b5 := b5_; clear b5_
                replace b6 := b6_; clear b6_
                replace b8 := b8_; clear b8_
                replace b11 := b11_; clear b11_
                replace b13 := b13_; clear b13_
                replace IN := IN_; clear IN_
                replace W := W_; clear W_
                replace U1 := U1_; clear U1_
                replace b15 := b15_; clear b15_
                replace U2 := U2_; clear U2_
                replace b14 : Cel w92 w85.heap.size 66 [.int .u32 ((p0 : Nat) : Int), .int .u32 ((p1 : Nat) : Int), .int .u32 ((p2 : Nat) : Int), .int .u32 ((p3 : Nat) : Int), .int .u32 ((p4 : Nat) : Int), .int .u32 ((p5 : Nat) : Int), .int .u32 ((p6 : Nat) : Int), .int .u32 ((p7 : Nat) : Int), u1, .int .i64 X.2.2] := t35.c
                clear t35
                refine ze 9 ⟨BL, R, D, b5, b6, b8, b11, b13, IN, W, by omega⟩ ?_
                refine zo1 10 rfl ?_
                refine xStoreR 66 (.tmp 15) (.tmp 37) rfl w66.heap.size 66 [.int .u32 0, .int .u32 0, .int .u32 0, .int .u32 0, .int .u32 0, .int .u32 0, .int .u32 0, .int .u32 0, .slice none 0 0, .int .i64 0] 0 [.int .u32 ((p0 : Nat) : Int), .int .u32 ((p1 : Nat) : Int), .int .u32 ((p2 : Nat) : Int), .int .u32 ((p3 : Nat) : Int), .int .u32 ((p4 : Nat) : Int), .int .u32 ((p5 : Nat) : Int), .int .u32 ((p6 : Nat) : Int), .int .u32 ((p7 : Nat) : Int), u2, .int .i64 X.2.2] (by kernel_rfl) (by kernel_rfl) b15 (by kernel_rfl) (by simp) (allC rfl (allC rfl (allC rfl (allC rfl (allC rfl (allC rfl (allC rfl (allC rfl (allC U2.oneCell (allC rfl allN)))))))))) [.int .u32 ((p0 : Nat) : Int), .int .u32 ((p1 : Nat) : Int), .int .u32 ((p2 : Nat) : Int), .int .u32 ((p3 : Nat) : Int), .int .u32 ((p4 : Nat) : Int), .int .u32 ((p5 : Nat) : Int), .int .u32 ((p6 : Nat) : Int), .int .u32 ((p7 : Nat) : Int), u2, .int .i64 X.2.2] rfl ?_
                intro w93 t36
                have zt36 := t36.z
                have BL_ := BL.ev t36.e (fun i h => show w.heap.size ≤ i by have h : i = w66.heap.size := h; omega)
                have R_ := R.ev t36.e (fun i hi => show ¬ (i = w66.heap.size) by have := hrl i hi; omega)
                have D_ := D.ev t36.e (fun i hi => show ¬ (i = w66.heap.size) by have := hdl i hi; omega)
                have b5_ := b5.ev t36.e (show ¬ (w.heap.size = w66.heap.size) by omega)
                have b6_ := b6.ev t36.e (show ¬ (w1.heap.size = w66.heap.size) by omega)
                have b8_ := b8.ev t36.e (show ¬ (w2.heap.size = w66.heap.size) by omega)
                have b11_ := b11.ev t36.e (show ¬ (g11 = w66.heap.size) by omega)
                have b13_ := b13.ev t36.e (show ¬ (g13 = w66.heap.size) by omega)
                have IN_ := IN.ev t36.e (fun i hi => show ¬ (i = w66.heap.size) by have := hil i hi; omega)
                have W_ := W.ev t36.e (fun i hi => show ¬ (i = w66.heap.size) by have := hwl i hi; omega)
                have U1_ := U1.ev t36.e (fun i hi => show ¬ (i = w66.heap.size) by have := hub1 i hi; omega)
                have b14_ := b14.ev t36.e (show ¬ (w85.heap.size = w66.heap.size) by omega)
                have U2_ := U2.ev t36.e (fun i hi => show ¬ (i = w66.heap.size) by have := hub2 i hi; omega)
                replace BL := BL_; clear BL_
                replace R := R_; clear R_
                replace D := D_; clear D_
                replace b5 := b5_; clear b5_
                replace b6 := b6_; clear b6_
                replace b8 := b8_; clear b8_
                replace b11 := b11_; clear b11_
                replace b13 := b13_; clear b13_
                replace IN := IN_; clear IN_
                replace W := W_; clear W_
                replace U1 := U1_; clear U1_
                replace b14 := b14_; clear b14_
                replace U2 := U2_; clear U2_
                replace b15 : Cel w93 w66.heap.size 66 [.int .u32 ((p0 : Nat) : Int), .int .u32 ((p1 : Nat) : Int), .int .u32 ((p2 : Nat) : Int), .int .u32 ((p3 : Nat) : Int), .int .u32 ((p4 : Nat) : Int), .int .u32 ((p5 : Nat) : Int), .int .u32 ((p6 : Nat) : Int), .int .u32 ((p7 : Nat) : Int), u2, .int .i64 X.2.2] := t36.c
                clear t36
                refine zz 10 ?_
                refine zd (by kernel_rfl) ?_ _
                exact ⟨w85.heap.size, w66.heap.size, u1, u2, cutE, BL, R, D, b5, b6, b8, b11, b13, IN, W, b14, b15, U1, U2, by omega⟩
          · skip
            refine xAlloc 14 66 [.int .u32 0, .int .u32 0, .int .u32 0, .int .u32 0, .int .u32 0, .int .u32 0, .int .u32 0, .int .u32 0, .slice none 0 0, .int .i64 0] rfl (by kernel_rfl) ?_
            intro w94 n32
            have zn32 := n32.z
            have b14 := n32.c
            replace BL := BL.e0 n32.e
            replace R := R.e0 n32.e
            replace D := D.e0 n32.e
            replace b5 := b5.e0 n32.e
            replace b6 := b6.e0 n32.e
            replace b8 := b8.e0 n32.e
            replace b11 := b11.e0 n32.e
            replace b13 := b13.e0 n32.e
            replace IN := IN.e0 n32.e
            replace W := W.e0 n32.e
            refine ze 7 ⟨BL, R, D, b5, b6, b8, b11, b13, IN, W, by omega⟩ ?_
            simp only [List.set_cons_zero, List.set_cons_succ]
            refine zo2 2 8 rfl rfl ?_ ?_
            · skip
              refine xCall 33 31 #[.pointer (some ⟨g11, 0, none⟩), .agg #[.int .u32 ((y0 : Nat) : Int), .int .u32 ((y1 : Nat) : Int), .int .u32 ((y2 : Nat) : Int), .int .u32 ((y3 : Nat) : Int), .int .u32 ((y4 : Nat) : Int), .int .u32 ((y5 : Nat) : Int), .int .u32 ((y6 : Nat) : Int), .int .u32 ((y7 : Nat) : Int), uw, .int .i64 L], ui] (by kernel_rfl) ?_
              refine (write_any2 g11 tab ([y0, y1, y2, y3, y4, y5, y6, y7], r, L) ns rfl uw ui ht w94 b11 W IN (by show r.length + _ ≤ _; omega) wJ1.heap.size hwl).mono ?_
              rintro en w95 ⟨u1, he1, hU1, hb1, hub1⟩
              rw [hX] at he1 hU1
              rw [hp] at he1
              subst he1
              have e27 := belE0 hb1
              have ze27 := e27.size
              replace BL := BL.e0 e27
              replace R := R.e0 e27
              replace D := D.e0 e27
              replace b5 := b5.e0 e27
              replace b6 := b6.e0 e27
              replace b8 := b8.e0 e27
              replace b11 := b11.e0 e27
              replace b13 := b13.e0 e27
              replace IN := IN.e0 e27
              replace W := W.e0 e27
              replace b14 := b14.e0 e27
              clear e27
              have U1 : SL .u8 w95 u1 (nn X.2.1) := hU1
              refine ⟨.agg #[.int .u32 ((p0 : Nat) : Int), .int .u32 ((p1 : Nat) : Int), .int .u32 ((p2 : Nat) : Int), .int .u32 ((p3 : Nat) : Int), .int .u32 ((p4 : Nat) : Int), .int .u32 ((p5 : Nat) : Int), .int .u32 ((p6 : Nat) : Int), .int .u32 ((p7 : Nat) : Int), u1, .int .i64 X.2.2], rfl, ?_⟩
              refine ze 2 ⟨BL, R, D, b5, b6, b8, b11, b13, IN, W, by omega⟩ ?_
              simp only [List.set_cons_zero, List.set_cons_succ]
              refine zo2 6 8 rfl rfl ?_ ?_
              · skip
                refine xCall 37 41 #[.agg (cellsOf .u32 (nn tab)), .agg #[.int .u32 ((y0 : Nat) : Int), .int .u32 ((y1 : Nat) : Int), .int .u32 ((y2 : Nat) : Int), .int .u32 ((y3 : Nat) : Int), .int .u32 ((y4 : Nat) : Int), .int .u32 ((y5 : Nat) : Int), .int .u32 ((y6 : Nat) : Int), .int .u32 ((y7 : Nat) : Int), .slice A r.length C, .int .i64 L], v] (by kernel_rfl) ?_
                refine (rwrite_any2 tab ([y0, y1, y2, y3, y4, y5, y6, y7], r, L) ns rfl (.slice A r.length C) v ht hy32 hr8 hb8 w95 R D (by omega) w.heap.size hrl).mono ?_
                rintro en w96 ⟨u2, he2, hU2, hb1, hub2⟩
                rw [hX] at he2 hU2
                rw [hp] at he2
                subst he2
                have e28 := belE0 hb1
                have ze28 := e28.size
                replace BL := BL.e0 e28
                replace R := R.e0 e28
                replace D := D.e0 e28
                replace b5 := b5.e0 e28
                replace b6 := b6.e0 e28
                replace b8 := b8.e0 e28
                replace b11 := b11.e0 e28
                replace b13 := b13.e0 e28
                replace IN := IN.e0 e28
                replace W := W.e0 e28
                replace b14 := b14.e0 e28
                replace U1 := U1.e0 e28
                clear e28
                have U2 : SL .u8 w96 u2 (nn X.2.1) := hU2
                refine ⟨.agg #[.int .u32 ((p0 : Nat) : Int), .int .u32 ((p1 : Nat) : Int), .int .u32 ((p2 : Nat) : Int), .int .u32 ((p3 : Nat) : Int), .int .u32 ((p4 : Nat) : Int), .int .u32 ((p5 : Nat) : Int), .int .u32 ((p6 : Nat) : Int), .int .u32 ((p7 : Nat) : Int), u2, .int .i64 X.2.2], rfl, ?_⟩
                refine ze 6 ⟨BL, R, D, b5, b6, b8, b11, b13, IN, W, by omega⟩ ?_
                simp only [List.set_cons_zero, List.set_cons_succ]
                refine zo1 8 rfl ?_
                refine xAlloc 15 66 [.int .u32 0, .int .u32 0, .int .u32 0, .int .u32 0, .int .u32 0, .int .u32 0, .int .u32 0, .int .u32 0, .slice none 0 0, .int .i64 0] rfl (by kernel_rfl) ?_
                intro w97 n33
                have zn33 := n33.z
                have b15 := n33.c
                replace BL := BL.e0 n33.e
                replace R := R.e0 n33.e
                replace D := D.e0 n33.e
                replace b5 := b5.e0 n33.e
                replace b6 := b6.e0 n33.e
                replace b8 := b8.e0 n33.e
                replace b11 := b11.e0 n33.e
                replace b13 := b13.e0 n33.e
                replace IN := IN.e0 n33.e
                replace W := W.e0 n33.e
                replace b14 := b14.e0 n33.e
                replace U1 := U1.e0 n33.e
                replace U2 := U2.e0 n33.e
                refine ze 8 ⟨BL, R, D, b5, b6, b8, b11, b13, IN, W, by omega⟩ ?_
                simp only [List.set_cons_zero, List.set_cons_succ]
                refine zo1 9 rfl ?_
                refine xStoreR 66 (.tmp 14) (.tmp 33) rfl w65.heap.size 66 [.int .u32 0, .int .u32 0, .int .u32 0, .int .u32 0, .int .u32 0, .int .u32 0, .int .u32 0, .int .u32 0, .slice none 0 0, .int .i64 0] 0 [.int .u32 ((p0 : Nat) : Int), .int .u32 ((p1 : Nat) : Int), .int .u32 ((p2 : Nat) : Int), .int .u32 ((p3 : Nat) : Int), .int .u32 ((p4 : Nat) : Int), .int .u32 ((p5 : Nat) : Int), .int .u32 ((p6 : Nat) : Int), .int .u32 ((p7 : Nat) : Int), u1, .int .i64 X.2.2] (by kernel_rfl) (by kernel_rfl) b14 (by kernel_rfl) (by simp) (allC rfl (allC rfl (allC rfl (allC rfl (allC rfl (allC rfl (allC rfl (allC rfl (allC U1.oneCell (allC rfl allN)))))))))) [.int .u32 ((p0 : Nat) : Int), .int .u32 ((p1 : Nat) : Int), .int .u32 ((p2 : Nat) : Int), .int .u32 ((p3 : Nat) : Int), .int .u32 ((p4 : Nat) : Int), .int .u32 ((p5 : Nat) : Int), .int .u32 ((p6 : Nat) : Int), .int .u32 ((p7 : Nat) : Int), u1, .int .i64 X.2.2] rfl ?_
                intro w98 t37
                have zt37 := t37.z
                have BL_ := BL.ev t37.e (fun i h => show w.heap.size ≤ i by have h : i = w65.heap.size := h; omega)
                have R_ := R.ev t37.e (fun i hi => show ¬ (i = w65.heap.size) by have := hrl i hi; omega)
                have D_ := D.ev t37.e (fun i hi => show ¬ (i = w65.heap.size) by have := hdl i hi; omega)
                have b5_ := b5.ev t37.e (show ¬ (w.heap.size = w65.heap.size) by omega)
                have b6_ := b6.ev t37.e (show ¬ (w1.heap.size = w65.heap.size) by omega)
                have b8_ := b8.ev t37.e (show ¬ (w2.heap.size = w65.heap.size) by omega)
                have b11_ := b11.ev t37.e (show ¬ (g11 = w65.heap.size) by omega)
                have b13_ := b13.ev t37.e (show ¬ (g13 = w65.heap.size) by omega)
                have IN_ := IN.ev t37.e (fun i hi => show ¬ (i = w65.heap.size) by have := hil i hi; omega)
                have W_ := W.ev t37.e (fun i hi => show ¬ (i = w65.heap.size) by have := hwl i hi; omega)
                have U1_ := U1.ev t37.e (fun i hi => show ¬ (i = w65.heap.size) by have := hub1 i hi; omega)
                have U2_ := U2.ev t37.e (fun i hi => show ¬ (i = w65.heap.size) by have := hub2 i hi; omega)
                have b15_ := b15.ev t37.e (show ¬ (w96.heap.size = w65.heap.size) by omega)
                replace BL := BL_; clear BL_
                replace R := R_; clear R_
                replace D := D_; clear D_
                replace b5 := b5_; clear b5_
                replace b6 := b6_; clear b6_
                replace b8 := b8_; clear b8_
                replace b11 := b11_; clear b11_
                replace b13 := b13_; clear b13_
                replace IN := IN_; clear IN_
                replace W := W_; clear W_
                replace U1 := U1_; clear U1_
                replace U2 := U2_; clear U2_
                replace b15 := b15_; clear b15_
                replace b14 : Cel w98 w65.heap.size 66 [.int .u32 ((p0 : Nat) : Int), .int .u32 ((p1 : Nat) : Int), .int .u32 ((p2 : Nat) : Int), .int .u32 ((p3 : Nat) : Int), .int .u32 ((p4 : Nat) : Int), .int .u32 ((p5 : Nat) : Int), .int .u32 ((p6 : Nat) : Int), .int .u32 ((p7 : Nat) : Int), u1, .int .i64 X.2.2] := t37.c
                clear t37
                refine ze 9 ⟨BL, R, D, b5, b6, b8, b11, b13, IN, W, by omega⟩ ?_
                refine zo1 10 rfl ?_
                refine xStoreR 66 (.tmp 15) (.tmp 37) rfl w96.heap.size 66 [.int .u32 0, .int .u32 0, .int .u32 0, .int .u32 0, .int .u32 0, .int .u32 0, .int .u32 0, .int .u32 0, .slice none 0 0, .int .i64 0] 0 [.int .u32 ((p0 : Nat) : Int), .int .u32 ((p1 : Nat) : Int), .int .u32 ((p2 : Nat) : Int), .int .u32 ((p3 : Nat) : Int), .int .u32 ((p4 : Nat) : Int), .int .u32 ((p5 : Nat) : Int), .int .u32 ((p6 : Nat) : Int), .int .u32 ((p7 : Nat) : Int), u2, .int .i64 X.2.2] (by kernel_rfl) (by kernel_rfl) b15 (by kernel_rfl) (by simp) (allC rfl (allC rfl (allC rfl (allC rfl (allC rfl (allC rfl (allC rfl (allC rfl (allC U2.oneCell (allC rfl allN)))))))))) [.int .u32 ((p0 : Nat) : Int), .int .u32 ((p1 : Nat) : Int), .int .u32 ((p2 : Nat) : Int), .int .u32 ((p3 : Nat) : Int), .int .u32 ((p4 : Nat) : Int), .int .u32 ((p5 : Nat) : Int), .int .u32 ((p6 : Nat) : Int), .int .u32 ((p7 : Nat) : Int), u2, .int .i64 X.2.2] rfl ?_
                intro w99 t38
                have zt38 := t38.z
                have BL_ := BL.ev t38.e (fun i h => show w.heap.size ≤ i by have h : i = w96.heap.size := h; omega)
                have R_ := R.ev t38.e (fun i hi => show ¬ (i = w96.heap.size) by have := hrl i hi; omega)
                have D_ := D.ev t38.e (fun i hi => show ¬ (i = w96.heap.size) by have := hdl i hi; omega)
                have b5_ := b5.ev t38.e (show ¬ (w.heap.size = w96.heap.size) by omega)
                have b6_ := b6.ev t38.e (show ¬ (w1.heap.size = w96.heap.size) by omega)
                have b8_ := b8.ev t38.e (show ¬ (w2.heap.size = w96.heap.size) by omega)
                have b11_ := b11.ev t38.e (show ¬ (g11 = w96.heap.size) by omega)
                have b13_ := b13.ev t38.e (show ¬ (g13 = w96.heap.size) by omega)
                have IN_ := IN.ev t38.e (fun i hi => show ¬ (i = w96.heap.size) by have := hil i hi; omega)
                have W_ := W.ev t38.e (fun i hi => show ¬ (i = w96.heap.size) by have := hwl i hi; omega)
                have b14_ := b14.ev t38.e (show ¬ (w65.heap.size = w96.heap.size) by omega)
                have U1_ := U1.ev t38.e (fun i hi => show ¬ (i = w96.heap.size) by have := hub1 i hi; omega)
                have U2_ := U2.ev t38.e (fun i hi => show ¬ (i = w96.heap.size) by have := hub2 i hi; omega)
                replace BL := BL_; clear BL_
                replace R := R_; clear R_
                replace D := D_; clear D_
                replace b5 := b5_; clear b5_
                replace b6 := b6_; clear b6_
                replace b8 := b8_; clear b8_
                replace b11 := b11_; clear b11_
                replace b13 := b13_; clear b13_
                replace IN := IN_; clear IN_
                replace W := W_; clear W_
                replace b14 := b14_; clear b14_
                replace U1 := U1_; clear U1_
                replace U2 := U2_; clear U2_
                replace b15 : Cel w99 w96.heap.size 66 [.int .u32 ((p0 : Nat) : Int), .int .u32 ((p1 : Nat) : Int), .int .u32 ((p2 : Nat) : Int), .int .u32 ((p3 : Nat) : Int), .int .u32 ((p4 : Nat) : Int), .int .u32 ((p5 : Nat) : Int), .int .u32 ((p6 : Nat) : Int), .int .u32 ((p7 : Nat) : Int), u2, .int .i64 X.2.2] := t38.c
                clear t38
                refine zz 10 ?_
                refine zd (by kernel_rfl) ?_ _
                exact ⟨w65.heap.size, w96.heap.size, u1, u2, cutE, BL, R, D, b5, b6, b8, b11, b13, IN, W, b14, b15, U1, U2, by omega⟩
              · skip
                refine xAlloc 15 66 [.int .u32 0, .int .u32 0, .int .u32 0, .int .u32 0, .int .u32 0, .int .u32 0, .int .u32 0, .int .u32 0, .slice none 0 0, .int .i64 0] rfl (by kernel_rfl) ?_
                intro w100 n34
                have zn34 := n34.z
                have b15 := n34.c
                replace BL := BL.e0 n34.e
                replace R := R.e0 n34.e
                replace D := D.e0 n34.e
                replace b5 := b5.e0 n34.e
                replace b6 := b6.e0 n34.e
                replace b8 := b8.e0 n34.e
                replace b11 := b11.e0 n34.e
                replace b13 := b13.e0 n34.e
                replace IN := IN.e0 n34.e
                replace W := W.e0 n34.e
                replace b14 := b14.e0 n34.e
                replace U1 := U1.e0 n34.e
                refine ze 8 ⟨BL, R, D, b5, b6, b8, b11, b13, IN, W, by omega⟩ ?_
                simp only [List.set_cons_zero, List.set_cons_succ]
                refine zo1 6 rfl ?_
                refine xCall 37 41 #[.agg (cellsOf .u32 (nn tab)), .agg #[.int .u32 ((y0 : Nat) : Int), .int .u32 ((y1 : Nat) : Int), .int .u32 ((y2 : Nat) : Int), .int .u32 ((y3 : Nat) : Int), .int .u32 ((y4 : Nat) : Int), .int .u32 ((y5 : Nat) : Int), .int .u32 ((y6 : Nat) : Int), .int .u32 ((y7 : Nat) : Int), .slice A r.length C, .int .i64 L], v] (by kernel_rfl) ?_
                refine (rwrite_any2 tab ([y0, y1, y2, y3, y4, y5, y6, y7], r, L) ns rfl (.slice A r.length C) v ht hy32 hr8 hb8 w100 R D (by omega) w.heap.size hrl).mono ?_
                rintro en w101 ⟨u2, he2, hU2, hb1, hub2⟩
                rw [hX] at he2 hU2
                rw [hp] at he2
                subst he2
                have e29 := belE0 hb1
                have ze29 := e29.size
                replace BL := BL.e0 e29
                replace R := R.e0 e29
                replace D := D.e0 e29
                replace b5 := b5.e0 e29
                replace b6 := b6.e0 e29
                replace b8 := b8.e0 e29
                replace b11 := b11.e0 e29
                replace b13 := b13.e0 e29
                replace IN := IN.e0 e29
                replace W := W.e0 e29
                replace b14 := b14.e0 e29
                replace U1 := U1.e0 e29
                replace b15 := b15.e0 e29
                clear e29
                have U2 : SL .u8 w101 u2 (nn X.2.1) := hU2
                refine ⟨.agg #[.int .u32 ((p0 : Nat) : Int), .int .u32 ((p1 : Nat) : Int), .int .u32 ((p2 : Nat) : Int), .int .u32 ((p3 : Nat) : Int), .int .u32 ((p4 : Nat) : Int), .int .u32 ((p5 : Nat) : Int), .int .u32 ((p6 : Nat) : Int), .int .u32 ((p7 : Nat) : Int), u2, .int .i64 X.2.2], rfl, ?_⟩
                refine ze 6 ⟨BL, R, D, b5, b6, b8, b11, b13, IN, W, by omega⟩ ?_
                simp only [List.set_cons_zero, List.set_cons_succ]
                refine zo1 9 rfl ?_
                refine xStoreR 66 (.tmp 14) (.tmp 33) rfl w65.heap.size 66 [.int .u32 0, .int .u32 0, .int .u32 0, .int .u32 0, .int .u32 0, .int .u32 0, .int .u32 0, .int .u32 0, .slice none 0 0, .int .i64 0] 0 [.int .u32 ((p0 : Nat) : Int), .int .u32 ((p1 : Nat) : Int), .int .u32 ((p2 : Nat) : Int), .int .u32 ((p3 : Nat) : Int), .int .u32 ((p4 : Nat) : Int), .int .u32 ((p5 : Nat) : Int), .int .u32 ((p6 : Nat) : Int), .int .u32 ((p7 : Nat) : Int), u1, .int .i64 X.2.2] (by kernel_rfl) (by kernel_rfl) b14 (by kernel_rfl) (by simp) (allC rfl (allC rfl (allC rfl (allC rfl (allC rfl (allC rfl (allC rfl (allC rfl (allC U1.oneCell (allC rfl allN)))))))))) [.int .u32 ((p0 : Nat) : Int), .int .u32 ((p1 : Nat) : Int), .int .u32 ((p2 : Nat) : Int), .int .u32 ((p3 : Nat) : Int), .int .u32 ((p4 : Nat) : Int), .int .u32 ((p5 : Nat) : Int), .int .u32 ((p6 : Nat) : Int), .int .u32 ((p7 : Nat) : Int), u1, .int .i64 X.2.2] rfl ?_
                intro w102 t39
                have zt39 := t39.z
                have BL_ := BL.ev t39.e (fun i h => show w.heap.size ≤ i by have h : i = w65.heap.size := h; omega)
                have R_ := R.ev t39.e (fun i hi => show ¬ (i = w65.heap.size) by have := hrl i hi; omega)
                have D_ := D.ev t39.e (fun i hi => show ¬ (i = w65.heap.size) by have := hdl i hi; omega)
                have b5_ := b5.ev t39.e (show ¬ (w.heap.size = w65.heap.size) by omega)
                have b6_ := b6.ev t39.e (show ¬ (w1.heap.size = w65.heap.size) by omega)
                have b8_ := b8.ev t39.e (show ¬ (w2.heap.size = w65.heap.size) by omega)
                have b11_ := b11.ev t39.e (show ¬ (g11 = w65.heap.size) by omega)
                have b13_ := b13.ev t39.e (show ¬ (g13 = w65.heap.size) by omega)
                have IN_ := IN.ev t39.e (fun i hi => show ¬ (i = w65.heap.size) by have := hil i hi; omega)
                have W_ := W.ev t39.e (fun i hi => show ¬ (i = w65.heap.size) by have := hwl i hi; omega)
                have U1_ := U1.ev t39.e (fun i hi => show ¬ (i = w65.heap.size) by have := hub1 i hi; omega)
                have b15_ := b15.ev t39.e (show ¬ (w95.heap.size = w65.heap.size) by omega)
                have U2_ := U2.ev t39.e (fun i hi => show ¬ (i = w65.heap.size) by have := hub2 i hi; omega)
                replace BL := BL_; clear BL_
                replace R := R_; clear R_
                replace D := D_; clear D_
                replace b5 := b5_; clear b5_
                replace b6 := b6_; clear b6_
                replace b8 := b8_; clear b8_
                replace b11 := b11_; clear b11_
                replace b13 := b13_; clear b13_
                replace IN := IN_; clear IN_
                replace W := W_; clear W_
                replace U1 := U1_; clear U1_
                replace b15 := b15_; clear b15_
                replace U2 := U2_; clear U2_
                replace b14 : Cel w102 w65.heap.size 66 [.int .u32 ((p0 : Nat) : Int), .int .u32 ((p1 : Nat) : Int), .int .u32 ((p2 : Nat) : Int), .int .u32 ((p3 : Nat) : Int), .int .u32 ((p4 : Nat) : Int), .int .u32 ((p5 : Nat) : Int), .int .u32 ((p6 : Nat) : Int), .int .u32 ((p7 : Nat) : Int), u1, .int .i64 X.2.2] := t39.c
                clear t39
                refine ze 9 ⟨BL, R, D, b5, b6, b8, b11, b13, IN, W, by omega⟩ ?_
                refine zo1 10 rfl ?_
                refine xStoreR 66 (.tmp 15) (.tmp 37) rfl w95.heap.size 66 [.int .u32 0, .int .u32 0, .int .u32 0, .int .u32 0, .int .u32 0, .int .u32 0, .int .u32 0, .int .u32 0, .slice none 0 0, .int .i64 0] 0 [.int .u32 ((p0 : Nat) : Int), .int .u32 ((p1 : Nat) : Int), .int .u32 ((p2 : Nat) : Int), .int .u32 ((p3 : Nat) : Int), .int .u32 ((p4 : Nat) : Int), .int .u32 ((p5 : Nat) : Int), .int .u32 ((p6 : Nat) : Int), .int .u32 ((p7 : Nat) : Int), u2, .int .i64 X.2.2] (by kernel_rfl) (by kernel_rfl) b15 (by kernel_rfl) (by simp) (allC rfl (allC rfl (allC rfl (allC rfl (allC rfl (allC rfl (allC rfl (allC rfl (allC U2.oneCell (allC rfl allN)))))))))) [.int .u32 ((p0 : Nat) : Int), .int .u32 ((p1 : Nat) : Int), .int .u32 ((p2 : Nat) : Int), .int .u32 ((p3 : Nat) : Int), .int .u32 ((p4 : Nat) : Int), .int .u32 ((p5 : Nat) : Int), .int .u32 ((p6 : Nat) : Int), .int .u32 ((p7 : Nat) : Int), u2, .int .i64 X.2.2] rfl ?_
                intro w103 t40
                have zt40 := t40.z
                have BL_ := BL.ev t40.e (fun i h => show w.heap.size ≤ i by have h : i = w95.heap.size := h; omega)
                have R_ := R.ev t40.e (fun i hi => show ¬ (i = w95.heap.size) by have := hrl i hi; omega)
                have D_ := D.ev t40.e (fun i hi => show ¬ (i = w95.heap.size) by have := hdl i hi; omega)
                have b5_ := b5.ev t40.e (show ¬ (w.heap.size = w95.heap.size) by omega)
                have b6_ := b6.ev t40.e (show ¬ (w1.heap.size = w95.heap.size) by omega)
                have b8_ := b8.ev t40.e (show ¬ (w2.heap.size = w95.heap.size) by omega)
                have b11_ := b11.ev t40.e (show ¬ (g11 = w95.heap.size) by omega)
                have b13_ := b13.ev t40.e (show ¬ (g13 = w95.heap.size) by omega)
                have IN_ := IN.ev t40.e (fun i hi => show ¬ (i = w95.heap.size) by have := hil i hi; omega)
                have W_ := W.ev t40.e (fun i hi => show ¬ (i = w95.heap.size) by have := hwl i hi; omega)
                have b14_ := b14.ev t40.e (show ¬ (w65.heap.size = w95.heap.size) by omega)
                have U1_ := U1.ev t40.e (fun i hi => show ¬ (i = w95.heap.size) by have := hub1 i hi; omega)
                have U2_ := U2.ev t40.e (fun i hi => show ¬ (i = w95.heap.size) by have := hub2 i hi; omega)
                replace BL := BL_; clear BL_
                replace R := R_; clear R_
                replace D := D_; clear D_
                replace b5 := b5_; clear b5_
                replace b6 := b6_; clear b6_
                replace b8 := b8_; clear b8_
                replace b11 := b11_; clear b11_
                replace b13 := b13_; clear b13_
                replace IN := IN_; clear IN_
                replace W := W_; clear W_
                replace b14 := b14_; clear b14_
                replace U1 := U1_; clear U1_
                replace U2 := U2_; clear U2_
                replace b15 : Cel w103 w95.heap.size 66 [.int .u32 ((p0 : Nat) : Int), .int .u32 ((p1 : Nat) : Int), .int .u32 ((p2 : Nat) : Int), .int .u32 ((p3 : Nat) : Int), .int .u32 ((p4 : Nat) : Int), .int .u32 ((p5 : Nat) : Int), .int .u32 ((p6 : Nat) : Int), .int .u32 ((p7 : Nat) : Int), u2, .int .i64 X.2.2] := t40.c
                clear t40
                refine zz 10 ?_
                refine zd (by kernel_rfl) ?_ _
                exact ⟨w65.heap.size, w95.heap.size, u1, u2, cutE, BL, R, D, b5, b6, b8, b11, b13, IN, W, b14, b15, U1, U2, by omega⟩
            · skip
              refine xAlloc 15 66 [.int .u32 0, .int .u32 0, .int .u32 0, .int .u32 0, .int .u32 0, .int .u32 0, .int .u32 0, .int .u32 0, .slice none 0 0, .int .i64 0] rfl (by kernel_rfl) ?_
              intro w104 n35
              have zn35 := n35.z
              have b15 := n35.c
              replace BL := BL.e0 n35.e
              replace R := R.e0 n35.e
              replace D := D.e0 n35.e
              replace b5 := b5.e0 n35.e
              replace b6 := b6.e0 n35.e
              replace b8 := b8.e0 n35.e
              replace b11 := b11.e0 n35.e
              replace b13 := b13.e0 n35.e
              replace IN := IN.e0 n35.e
              replace W := W.e0 n35.e
              replace b14 := b14.e0 n35.e
              refine ze 8 ⟨BL, R, D, b5, b6, b8, b11, b13, IN, W, by omega⟩ ?_
              simp only [List.set_cons_zero, List.set_cons_succ]
              refine zo1 2 rfl ?_
              refine xCall 33 31 #[.pointer (some ⟨g11, 0, none⟩), .agg #[.int .u32 ((y0 : Nat) : Int), .int .u32 ((y1 : Nat) : Int), .int .u32 ((y2 : Nat) : Int), .int .u32 ((y3 : Nat) : Int), .int .u32 ((y4 : Nat) : Int), .int .u32 ((y5 : Nat) : Int), .int .u32 ((y6 : Nat) : Int), .int .u32 ((y7 : Nat) : Int), uw, .int .i64 L], ui] (by kernel_rfl) ?_
              refine (write_any2 g11 tab ([y0, y1, y2, y3, y4, y5, y6, y7], r, L) ns rfl uw ui ht w104 b11 W IN (by show r.length + _ ≤ _; omega) wJ1.heap.size hwl).mono ?_
              rintro en w105 ⟨u1, he1, hU1, hb1, hub1⟩
              rw [hX] at he1 hU1
              rw [hp] at he1
              subst he1
              have e30 := belE0 hb1
              have ze30 := e30.size
              replace BL := BL.e0 e30
              replace R := R.e0 e30
              replace D := D.e0 e30
              replace b5 := b5.e0 e30
              replace b6 := b6.e0 e30
              replace b8 := b8.e0 e30
              replace b11 := b11.e0 e30
              replace b13 := b13.e0 e30
              replace IN := IN.e0 e30
              replace W := W.e0 e30
              replace b14 := b14.e0 e30
              replace b15 := b15.e0 e30
              clear e30
              have U1 : SL .u8 w105 u1 (nn X.2.1) := hU1
              refine ⟨.agg #[.int .u32 ((p0 : Nat) : Int), .int .u32 ((p1 : Nat) : Int), .int .u32 ((p2 : Nat) : Int), .int .u32 ((p3 : Nat) : Int), .int .u32 ((p4 : Nat) : Int), .int .u32 ((p5 : Nat) : Int), .int .u32 ((p6 : Nat) : Int), .int .u32 ((p7 : Nat) : Int), u1, .int .i64 X.2.2], rfl, ?_⟩
              refine ze 2 ⟨BL, R, D, b5, b6, b8, b11, b13, IN, W, by omega⟩ ?_
              simp only [List.set_cons_zero, List.set_cons_succ]
              refine zo1 6 rfl ?_
              refine xCall 37 41 #[.agg (cellsOf .u32 (nn tab)), .agg #[.int .u32 ((y0 : Nat) : Int), .int .u32 ((y1 : Nat) : Int), .int .u32 ((y2 : Nat) : Int), .int .u32 ((y3 : Nat) : Int), .int .u32 ((y4 : Nat) : Int), .int .u32 ((y5 : Nat) : Int), .int .u32 ((y6 : Nat) : Int), .int .u32 ((y7 : Nat) : Int), .slice A r.length C, .int .i64 L], v] (by kernel_rfl) ?_
              refine (rwrite_any2 tab ([y0, y1, y2, y3, y4, y5, y6, y7], r, L) ns rfl (.slice A r.length C) v ht hy32 hr8 hb8 w105 R D (by omega) w.heap.size hrl).mono ?_
              rintro en w106 ⟨u2, he2, hU2, hb1, hub2⟩
              rw [hX] at he2 hU2
              rw [hp] at he2
              subst he2
              have e31 := belE0 hb1
              have ze31 := e31.size
              replace BL := BL.e0 e31
              replace R := R.e0 e31
              replace D := D.e0 e31
              replace b5 := b5.e0 e31
              replace b6 := b6.e0 e31
              replace b8 := b8.e0 e31
              replace b11 := b11.e0 e31
              replace b13 := b13.e0 e31
              replace IN := IN.e0 e31
              replace W := W.e0 e31
              replace b14 := b14.e0 e31
              replace b15 := b15.e0 e31
              replace U1 := U1.e0 e31
              clear e31
              have U2 : SL .u8 w106 u2 (nn X.2.1) := hU2
              refine ⟨.agg #[.int .u32 ((p0 : Nat) : Int), .int .u32 ((p1 : Nat) : Int), .int .u32 ((p2 : Nat) : Int), .int .u32 ((p3 : Nat) : Int), .int .u32 ((p4 : Nat) : Int), .int .u32 ((p5 : Nat) : Int), .int .u32 ((p6 : Nat) : Int), .int .u32 ((p7 : Nat) : Int), u2, .int .i64 X.2.2], rfl, ?_⟩
              refine ze 6 ⟨BL, R, D, b5, b6, b8, b11, b13, IN, W, by omega⟩ ?_
              simp only [List.set_cons_zero, List.set_cons_succ]
              refine zo1 9 rfl ?_
              refine xStoreR 66 (.tmp 14) (.tmp 33) rfl w65.heap.size 66 [.int .u32 0, .int .u32 0, .int .u32 0, .int .u32 0, .int .u32 0, .int .u32 0, .int .u32 0, .int .u32 0, .slice none 0 0, .int .i64 0] 0 [.int .u32 ((p0 : Nat) : Int), .int .u32 ((p1 : Nat) : Int), .int .u32 ((p2 : Nat) : Int), .int .u32 ((p3 : Nat) : Int), .int .u32 ((p4 : Nat) : Int), .int .u32 ((p5 : Nat) : Int), .int .u32 ((p6 : Nat) : Int), .int .u32 ((p7 : Nat) : Int), u1, .int .i64 X.2.2] (by kernel_rfl) (by kernel_rfl) b14 (by kernel_rfl) (by simp) (allC rfl (allC rfl (allC rfl (allC rfl (allC rfl (allC rfl (allC rfl (allC rfl (allC U1.oneCell (allC rfl allN)))))))))) [.int .u32 ((p0 : Nat) : Int), .int .u32 ((p1 : Nat) : Int), .int .u32 ((p2 : Nat) : Int), .int .u32 ((p3 : Nat) : Int), .int .u32 ((p4 : Nat) : Int), .int .u32 ((p5 : Nat) : Int), .int .u32 ((p6 : Nat) : Int), .int .u32 ((p7 : Nat) : Int), u1, .int .i64 X.2.2] rfl ?_
              intro w107 t41
              have zt41 := t41.z
              have BL_ := BL.ev t41.e (fun i h => show w.heap.size ≤ i by have h : i = w65.heap.size := h; omega)
              have R_ := R.ev t41.e (fun i hi => show ¬ (i = w65.heap.size) by have := hrl i hi; omega)
              have D_ := D.ev t41.e (fun i hi => show ¬ (i = w65.heap.size) by have := hdl i hi; omega)
              have b5_ := b5.ev t41.e (show ¬ (w.heap.size = w65.heap.size) by omega)
              have b6_ := b6.ev t41.e (show ¬ (w1.heap.size = w65.heap.size) by omega)
              have b8_ := b8.ev t41.e (show ¬ (w2.heap.size = w65.heap.size) by omega)
              have b11_ := b11.ev t41.e (show ¬ (g11 = w65.heap.size) by omega)
              have b13_ := b13.ev t41.e (show ¬ (g13 = w65.heap.size) by omega)
              have IN_ := IN.ev t41.e (fun i hi => show ¬ (i = w65.heap.size) by have := hil i hi; omega)
              have W_ := W.ev t41.e (fun i hi => show ¬ (i = w65.heap.size) by have := hwl i hi; omega)
              have b15_ := b15.ev t41.e (show ¬ (w94.heap.size = w65.heap.size) by omega)
              have U1_ := U1.ev t41.e (fun i hi => show ¬ (i = w65.heap.size) by have := hub1 i hi; omega)
              have U2_ := U2.ev t41.e (fun i hi => show ¬ (i = w65.heap.size) by have := hub2 i hi; omega)
              replace BL := BL_; clear BL_
              replace R := R_; clear R_
              replace D := D_; clear D_
              replace b5 := b5_; clear b5_
              replace b6 := b6_; clear b6_
              replace b8 := b8_; clear b8_
              replace b11 := b11_; clear b11_
              replace b13 := b13_; clear b13_
              replace IN := IN_; clear IN_
              replace W := W_; clear W_
              replace b15 := b15_; clear b15_
              replace U1 := U1_; clear U1_
              replace U2 := U2_; clear U2_
              replace b14 : Cel w107 w65.heap.size 66 [.int .u32 ((p0 : Nat) : Int), .int .u32 ((p1 : Nat) : Int), .int .u32 ((p2 : Nat) : Int), .int .u32 ((p3 : Nat) : Int), .int .u32 ((p4 : Nat) : Int), .int .u32 ((p5 : Nat) : Int), .int .u32 ((p6 : Nat) : Int), .int .u32 ((p7 : Nat) : Int), u1, .int .i64 X.2.2] := t41.c
              clear t41
              refine ze 9 ⟨BL, R, D, b5, b6, b8, b11, b13, IN, W, by omega⟩ ?_
              refine zo1 10 rfl ?_
              refine xStoreR 66 (.tmp 15) (.tmp 37) rfl w94.heap.size 66 [.int .u32 0, .int .u32 0, .int .u32 0, .int .u32 0, .int .u32 0, .int .u32 0, .int .u32 0, .int .u32 0, .slice none 0 0, .int .i64 0] 0 [.int .u32 ((p0 : Nat) : Int), .int .u32 ((p1 : Nat) : Int), .int .u32 ((p2 : Nat) : Int), .int .u32 ((p3 : Nat) : Int), .int .u32 ((p4 : Nat) : Int), .int .u32 ((p5 : Nat) : Int), .int .u32 ((p6 : Nat) : Int), .int .u32 ((p7 : Nat) : Int), u2, .int .i64 X.2.2] (by kernel_rfl) (by kernel_rfl) b15 (by kernel_rfl) (by simp) (allC rfl (allC rfl (allC rfl (allC rfl (allC rfl (allC rfl (allC rfl (allC rfl (allC U2.oneCell (allC rfl allN)))))))))) [.int .u32 ((p0 : Nat) : Int), .int .u32 ((p1 : Nat) : Int), .int .u32 ((p2 : Nat) : Int), .int .u32 ((p3 : Nat) : Int), .int .u32 ((p4 : Nat) : Int), .int .u32 ((p5 : Nat) : Int), .int .u32 ((p6 : Nat) : Int), .int .u32 ((p7 : Nat) : Int), u2, .int .i64 X.2.2] rfl ?_
              intro w108 t42
              have zt42 := t42.z
              have BL_ := BL.ev t42.e (fun i h => show w.heap.size ≤ i by have h : i = w94.heap.size := h; omega)
              have R_ := R.ev t42.e (fun i hi => show ¬ (i = w94.heap.size) by have := hrl i hi; omega)
              have D_ := D.ev t42.e (fun i hi => show ¬ (i = w94.heap.size) by have := hdl i hi; omega)
              have b5_ := b5.ev t42.e (show ¬ (w.heap.size = w94.heap.size) by omega)
              have b6_ := b6.ev t42.e (show ¬ (w1.heap.size = w94.heap.size) by omega)
              have b8_ := b8.ev t42.e (show ¬ (w2.heap.size = w94.heap.size) by omega)
              have b11_ := b11.ev t42.e (show ¬ (g11 = w94.heap.size) by omega)
              have b13_ := b13.ev t42.e (show ¬ (g13 = w94.heap.size) by omega)
              have IN_ := IN.ev t42.e (fun i hi => show ¬ (i = w94.heap.size) by have := hil i hi; omega)
              have W_ := W.ev t42.e (fun i hi => show ¬ (i = w94.heap.size) by have := hwl i hi; omega)
              have b14_ := b14.ev t42.e (show ¬ (w65.heap.size = w94.heap.size) by omega)
              have U1_ := U1.ev t42.e (fun i hi => show ¬ (i = w94.heap.size) by have := hub1 i hi; omega)
              have U2_ := U2.ev t42.e (fun i hi => show ¬ (i = w94.heap.size) by have := hub2 i hi; omega)
              replace BL := BL_; clear BL_
              replace R := R_; clear R_
              replace D := D_; clear D_
              replace b5 := b5_; clear b5_
              replace b6 := b6_; clear b6_
              replace b8 := b8_; clear b8_
              replace b11 := b11_; clear b11_
              replace b13 := b13_; clear b13_
              replace IN := IN_; clear IN_
              replace W := W_; clear W_
              replace b14 := b14_; clear b14_
              replace U1 := U1_; clear U1_
              replace U2 := U2_; clear U2_
              replace b15 : Cel w108 w94.heap.size 66 [.int .u32 ((p0 : Nat) : Int), .int .u32 ((p1 : Nat) : Int), .int .u32 ((p2 : Nat) : Int), .int .u32 ((p3 : Nat) : Int), .int .u32 ((p4 : Nat) : Int), .int .u32 ((p5 : Nat) : Int), .int .u32 ((p6 : Nat) : Int), .int .u32 ((p7 : Nat) : Int), u2, .int .i64 X.2.2] := t42.c
              clear t42
              refine zz 10 ?_
              refine zd (by kernel_rfl) ?_ _
              exact ⟨w65.heap.size, w94.heap.size, u1, u2, cutE, BL, R, D, b5, b6, b8, b11, b13, IN, W, b14, b15, U1, U2, by omega⟩
          · skip
            refine xAlloc 15 66 [.int .u32 0, .int .u32 0, .int .u32 0, .int .u32 0, .int .u32 0, .int .u32 0, .int .u32 0, .int .u32 0, .slice none 0 0, .int .i64 0] rfl (by kernel_rfl) ?_
            intro w109 n36
            have zn36 := n36.z
            have b15 := n36.c
            replace BL := BL.e0 n36.e
            replace R := R.e0 n36.e
            replace D := D.e0 n36.e
            replace b5 := b5.e0 n36.e
            replace b6 := b6.e0 n36.e
            replace b8 := b8.e0 n36.e
            replace b11 := b11.e0 n36.e
            replace b13 := b13.e0 n36.e
            replace IN := IN.e0 n36.e
            replace W := W.e0 n36.e
            refine ze 8 ⟨BL, R, D, b5, b6, b8, b11, b13, IN, W, by omega⟩ ?_
            simp only [List.set_cons_zero, List.set_cons_succ]
            refine zo2 2 7 rfl rfl ?_ ?_
            · skip
              refine xCall 33 31 #[.pointer (some ⟨g11, 0, none⟩), .agg #[.int .u32 ((y0 : Nat) : Int), .int .u32 ((y1 : Nat) : Int), .int .u32 ((y2 : Nat) : Int), .int .u32 ((y3 : Nat) : Int), .int .u32 ((y4 : Nat) : Int), .int .u32 ((y5 : Nat) : Int), .int .u32 ((y6 : Nat) : Int), .int .u32 ((y7 : Nat) : Int), uw, .int .i64 L], ui] (by kernel_rfl) ?_
              refine (write_any2 g11 tab ([y0, y1, y2, y3, y4, y5, y6, y7], r, L) ns rfl uw ui ht w109 b11 W IN (by show r.length + _ ≤ _; omega) wJ1.heap.size hwl).mono ?_
              rintro en w110 ⟨u1, he1, hU1, hb1, hub1⟩
              rw [hX] at he1 hU1
              rw [hp] at he1
              subst he1
              have e32 := belE0 hb1
              have ze32 := e32.size
              replace BL := BL.e0 e32
              replace R := R.e0 e32
              replace D := D.e0 e32
              replace b5 := b5.e0 e32
              replace b6 := b6.e0 e32
              replace b8 := b8.e0 e32
              replace b11 := b11.e0 e32
              replace b13 := b13.e0 e32
              replace IN := IN.e0 e32
              replace W := W.e0 e32
              replace b15 := b15.e0 e32
              clear e32
              have U1 : SL .u8 w110 u1 (nn X.2.1) := hU1
              refine ⟨.agg #[.int .u32 ((p0 : Nat) : Int), .int .u32 ((p1 : Nat) : Int), .int .u32 ((p2 : Nat) : Int), .int .u32 ((p3 : Nat) : Int), .int .u32 ((p4 : Nat) : Int), .int .u32 ((p5 : Nat) : Int), .int .u32 ((p6 : Nat) : Int), .int .u32 ((p7 : Nat) : Int), u1, .int .i64 X.2.2], rfl, ?_⟩
              refine ze 2 ⟨BL, R, D, b5, b6, b8, b11, b13, IN, W, by omega⟩ ?_
              simp only [List.set_cons_zero, List.set_cons_succ]
              refine zo2 6 7 rfl rfl ?_ ?_
              · skip
                refine xCall 37 41 #[.agg (cellsOf .u32 (nn tab)), .agg #[.int .u32 ((y0 : Nat) : Int), .int .u32 ((y1 : Nat) : Int), .int .u32 ((y2 : Nat) : Int), .int .u32 ((y3 : Nat) : Int), .int .u32 ((y4 : Nat) : Int), .int .u32 ((y5 : Nat) : Int), .int .u32 ((y6 : Nat) : Int), .int .u32 ((y7 : Nat) : Int), .slice A r.length C, .int .i64 L], v] (by kernel_rfl) ?_
                refine (rwrite_any2 tab ([y0, y1, y2, y3, y4, y5, y6, y7], r, L) ns rfl (.slice A r.length C) v ht hy32 hr8 hb8 w110 R D (by omega) w.heap.size hrl).mono ?_
                rintro en w111 ⟨u2, he2, hU2, hb1, hub2⟩
                rw [hX] at he2 hU2
                rw [hp] at he2
                subst he2
                have e33 := belE0 hb1
                have ze33 := e33.size
                replace BL := BL.e0 e33
                replace R := R.e0 e33
                replace D := D.e0 e33
                replace b5 := b5.e0 e33
                replace b6 := b6.e0 e33
                replace b8 := b8.e0 e33
                replace b11 := b11.e0 e33
                replace b13 := b13.e0 e33
                replace IN := IN.e0 e33
                replace W := W.e0 e33
                replace b15 := b15.e0 e33
                replace U1 := U1.e0 e33
                clear e33
                have U2 : SL .u8 w111 u2 (nn X.2.1) := hU2
                refine ⟨.agg #[.int .u32 ((p0 : Nat) : Int), .int .u32 ((p1 : Nat) : Int), .int .u32 ((p2 : Nat) : Int), .int .u32 ((p3 : Nat) : Int), .int .u32 ((p4 : Nat) : Int), .int .u32 ((p5 : Nat) : Int), .int .u32 ((p6 : Nat) : Int), .int .u32 ((p7 : Nat) : Int), u2, .int .i64 X.2.2], rfl, ?_⟩
                refine ze 6 ⟨BL, R, D, b5, b6, b8, b11, b13, IN, W, by omega⟩ ?_
                simp only [List.set_cons_zero, List.set_cons_succ]
                refine zo1 7 rfl ?_
                refine xAlloc 14 66 [.int .u32 0, .int .u32 0, .int .u32 0, .int .u32 0, .int .u32 0, .int .u32 0, .int .u32 0, .int .u32 0, .slice none 0 0, .int .i64 0] rfl (by kernel_rfl) ?_
                intro w112 n37
                have zn37 := n37.z
                have b14 := n37.c
                replace BL := BL.e0 n37.e
                replace R := R.e0 n37.e
                replace D := D.e0 n37.e
                replace b5 := b5.e0 n37.e
                replace b6 := b6.e0 n37.e
                replace b8 := b8.e0 n37.e
                replace b11 := b11.e0 n37.e
                replace b13 := b13.e0 n37.e
                replace IN := IN.e0 n37.e
                replace W := W.e0 n37.e
                replace b15 := b15.e0 n37.e
                replace U1 := U1.e0 n37.e
                replace U2 := U2.e0 n37.e
                refine ze 7 ⟨BL, R, D, b5, b6, b8, b11, b13, IN, W, by omega⟩ ?_
                simp only [List.set_cons_zero, List.set_cons_succ]
                refine zo1 9 rfl ?_
                refine xStoreR 66 (.tmp 14) (.tmp 33) rfl w111.heap.size 66 [.int .u32 0, .int .u32 0, .int .u32 0, .int .u32 0, .int .u32 0, .int .u32 0, .int .u32 0, .int .u32 0, .slice none 0 0, .int .i64 0] 0 [.int .u32 ((p0 : Nat) : Int), .int .u32 ((p1 : Nat) : Int), .int .u32 ((p2 : Nat) : Int), .int .u32 ((p3 : Nat) : Int), .int .u32 ((p4 : Nat) : Int), .int .u32 ((p5 : Nat) : Int), .int .u32 ((p6 : Nat) : Int), .int .u32 ((p7 : Nat) : Int), u1, .int .i64 X.2.2] (by kernel_rfl) (by kernel_rfl) b14 (by kernel_rfl) (by simp) (allC rfl (allC rfl (allC rfl (allC rfl (allC rfl (allC rfl (allC rfl (allC rfl (allC U1.oneCell (allC rfl allN)))))))))) [.int .u32 ((p0 : Nat) : Int), .int .u32 ((p1 : Nat) : Int), .int .u32 ((p2 : Nat) : Int), .int .u32 ((p3 : Nat) : Int), .int .u32 ((p4 : Nat) : Int), .int .u32 ((p5 : Nat) : Int), .int .u32 ((p6 : Nat) : Int), .int .u32 ((p7 : Nat) : Int), u1, .int .i64 X.2.2] rfl ?_
                intro w113 t43
                have zt43 := t43.z
                have BL_ := BL.ev t43.e (fun i h => show w.heap.size ≤ i by have h : i = w111.heap.size := h; omega)
                have R_ := R.ev t43.e (fun i hi => show ¬ (i = w111.heap.size) by have := hrl i hi; omega)
                have D_ := D.ev t43.e (fun i hi => show ¬ (i = w111.heap.size) by have := hdl i hi; omega)
                have b5_ := b5.ev t43.e (show ¬ (w.heap.size = w111.heap.size) by omega)
                have b6_ := b6.ev t43.e (show ¬ (w1.heap.size = w111.heap.size) by omega)
                have b8_ := b8.ev t43.e (show ¬ (w2.heap.size = w111.heap.size) by omega)
                have b11_ := b11.ev t43.e (show ¬ (g11 = w111.heap.size) by omega)
                have b13_ := b13.ev t43.e (show ¬ (g13 = w111.heap.size) by omega)
                have IN_ := IN.ev t43.e (fun i hi => show ¬ (i = w111.heap.size) by have := hil i hi; omega)
                have W_ := W.ev t43.e (fun i hi => show ¬ (i = w111.heap.size) by have := hwl i hi; omega)
                have b15_ := b15.ev t43.e (show ¬ (w65.heap.size = w111.heap.size) by omega)
                have U1_ := U1.ev t43.e (fun i hi => show ¬ (i = w111.heap.size) by have := hub1 i hi; omega)
                have U2_ := U2.ev t43.e (fun i hi => show ¬ (i = w111.heap.size) by have := hub2 i hi; omega)
                replace BL := BL_; clear BL_
                replace R := R_; clear R_
                replace D := D_; clear D_
                replace b5 := b5_; clear b5_
                replace b6 := b6_; clear b6_
                replace b8 := b8_; clear b8_
                replace b11 := b11_; clear b11_
                replace b13 := b13_; clear b13_
                replace IN := IN_; clear IN_
                replace W := W_; clear W_
                replace b15 := b15_; clear b15_
                replace U1 := U1_; clear U1_
                replace U2 := U2_; clear U2_
                replace b14 : Cel w113 w111.heap.size 66 [.int .u32 ((p0 : Nat) : Int), .int .u32 ((p1 : Nat) : Int), .int .u32 ((p2 : Nat) : Int), .int .u32 ((p3 : Nat) : Int), .int .u32 ((p4 : Nat) : Int), .int .u32 ((p5 : Nat) : Int), .int .u32 ((p6 : Nat) : Int), .int .u32 ((p7 : Nat) : Int), u1, .int .i64 X.2.2] := t43.c
                clear t43
                refine ze 9 ⟨BL, R, D, b5, b6, b8, b11, b13, IN, W, by omega⟩ ?_
                refine zo1 10 rfl ?_
                refine xStoreR 66 (.tmp 15) (.tmp 37) rfl w65.heap.size 66 [.int .u32 0, .int .u32 0, .int .u32 0, .int .u32 0, .int .u32 0, .int .u32 0, .int .u32 0, .int .u32 0, .slice none 0 0, .int .i64 0] 0 [.int .u32 ((p0 : Nat) : Int), .int .u32 ((p1 : Nat) : Int), .int .u32 ((p2 : Nat) : Int), .int .u32 ((p3 : Nat) : Int), .int .u32 ((p4 : Nat) : Int), .int .u32 ((p5 : Nat) : Int), .int .u32 ((p6 : Nat) : Int), .int .u32 ((p7 : Nat) : Int), u2, .int .i64 X.2.2] (by kernel_rfl) (by kernel_rfl) b15 (by kernel_rfl) (by simp) (allC rfl (allC rfl (allC rfl (allC rfl (allC rfl (allC rfl (allC rfl (allC rfl (allC U2.oneCell (allC rfl allN)))))))))) [.int .u32 ((p0 : Nat) : Int), .int .u32 ((p1 : Nat) : Int), .int .u32 ((p2 : Nat) : Int), .int .u32 ((p3 : Nat) : Int), .int .u32 ((p4 : Nat) : Int), .int .u32 ((p5 : Nat) : Int), .int .u32 ((p6 : Nat) : Int), .int .u32 ((p7 : Nat) : Int), u2, .int .i64 X.2.2] rfl ?_
                intro w114 t44
                have zt44 := t44.z
                have BL_ := BL.ev t44.e (fun i h => show w.heap.size ≤ i by have h : i = w65.heap.size := h; omega)
                have R_ := R.ev t44.e (fun i hi => show ¬ (i = w65.heap.size) by have := hrl i hi; omega)
                have D_ := D.ev t44.e (fun i hi => show ¬ (i = w65.heap.size) by have := hdl i hi; omega)
                have b5_ := b5.ev t44.e (show ¬ (w.heap.size = w65.heap.size) by omega)
                have b6_ := b6.ev t44.e (show ¬ (w1.heap.size = w65.heap.size) by omega)
                have b8_ := b8.ev t44.e (show ¬ (w2.heap.size = w65.heap.size) by omega)
                have b11_ := b11.ev t44.e (show ¬ (g11 = w65.heap.size) by omega)
                have b13_ := b13.ev t44.e (show ¬ (g13 = w65.heap.size) by omega)
                have IN_ := IN.ev t44.e (fun i hi => show ¬ (i = w65.heap.size) by have := hil i hi; omega)
                have W_ := W.ev t44.e (fun i hi => show ¬ (i = w65.heap.size) by have := hwl i hi; omega)
                have U1_ := U1.ev t44.e (fun i hi => show ¬ (i = w65.heap.size) by have := hub1 i hi; omega)
                have U2_ := U2.ev t44.e (fun i hi => show ¬ (i = w65.heap.size) by have := hub2 i hi; omega)
                have b14_ := b14.ev t44.e (show ¬ (w111.heap.size = w65.heap.size) by omega)
                replace BL := BL_; clear BL_
                replace R := R_; clear R_
                replace D := D_; clear D_
                replace b5 := b5_; clear b5_
                replace b6 := b6_; clear b6_
                replace b8 := b8_; clear b8_
                replace b11 := b11_; clear b11_
                replace b13 := b13_; clear b13_
                replace IN := IN_; clear IN_
                replace W := W_; clear W_
                replace U1 := U1_; clear U1_
                replace U2 := U2_; clear U2_
                replace b14 := b14_; clear b14_
                replace b15 : Cel w114 w65.heap.size 66 [.int .u32 ((p0 : Nat) : Int), .int .u32 ((p1 : Nat) : Int), .int .u32 ((p2 : Nat) : Int), .int .u32 ((p3 : Nat) : Int), .int .u32 ((p4 : Nat) : Int), .int .u32 ((p5 : Nat) : Int), .int .u32 ((p6 : Nat) : Int), .int .u32 ((p7 : Nat) : Int), u2, .int .i64 X.2.2] := t44.c
                clear t44
                refine zz 10 ?_
                refine zd (by kernel_rfl) ?_ _
                exact ⟨w111.heap.size, w65.heap.size, u1, u2, cutE, BL, R, D, b5, b6, b8, b11, b13, IN, W, b14, b15, U1, U2, by omega⟩
              · skip
                refine xAlloc 14 66 [.int .u32 0, .int .u32 0, .int .u32 0, .int .u32 0, .int .u32 0, .int .u32 0, .int .u32 0, .int .u32 0, .slice none 0 0, .int .i64 0] rfl (by kernel_rfl) ?_
                intro w115 n38
                have zn38 := n38.z
                have b14 := n38.c
                replace BL := BL.e0 n38.e
                replace R := R.e0 n38.e
                replace D := D.e0 n38.e
                replace b5 := b5.e0 n38.e
                replace b6 := b6.e0 n38.e
                replace b8 := b8.e0 n38.e
                replace b11 := b11.e0 n38.e
                replace b13 := b13.e0 n38.e
                replace IN := IN.e0 n38.e
                replace W := W.e0 n38.e
                replace b15 := b15.e0 n38.e
                replace U1 := U1.e0 n38.e
                refine ze 7 ⟨BL, R, D, b5, b6, b8, b11, b13, IN, W, by omega⟩ ?_
                simp only [List.set_cons_zero, List.set_cons_succ]
                refine zo1 6 rfl ?_
                refine xCall 37 41 #[.agg (cellsOf .u32 (nn tab)), .agg #[.int .u32 ((y0 : Nat) : Int), .int .u32 ((y1 : Nat) : Int), .int .u32 ((y2 : Nat) : Int), .int .u32 ((y3 : Nat) : Int), .int .u32 ((y4 : Nat) : Int), .int .u32 ((y5 : Nat) : Int), .int .u32 ((y6 : Nat) : Int), .int .u32 ((y7 : Nat) : Int), .slice A r.length C, .int .i64 L], v] (by kernel_rfl) ?_
                refine (rwrite_any2 tab ([y0, y1, y2, y3, y4, y5, y6, y7], r, L) ns rfl (.slice A r.length C) v ht hy32 hr8 hb8 w115 R D (by omega) w.heap.size hrl).mono ?_
                rintro en w116 ⟨u2, he2, hU2, hb1, hub2⟩
                rw [hX] at he2 hU2
                rw [hp] at he2
                subst he2
                have e34 := belE0 hb1
                have ze34 := e34.size
                replace BL := BL.e0 e34
                replace R := R.e0 e34
                replace D := D.e0 e34
                replace b5 := b5.e0 e34
                replace b6 := b6.e0 e34
                replace b8 := b8.e0 e34
                replace b11 := b11.e0 e34
                replace b13 := b13.e0 e34
                replace IN := IN.e0 e34
                replace W := W.e0 e34
                replace b15 := b15.e0 e34
                replace U1 := U1.e0 e34
                replace b14 := b14.e0 e34
                clear e34
                have U2 : SL .u8 w116 u2 (nn X.2.1) := hU2
                refine ⟨.agg #[.int .u32 ((p0 : Nat) : Int), .int .u32 ((p1 : Nat) : Int), .int .u32 ((p2 : Nat) : Int), .int .u32 ((p3 : Nat) : Int), .int .u32 ((p4 : Nat) : Int), .int .u32 ((p5 : Nat) : Int), .int .u32 ((p6 : Nat) : Int), .int .u32 ((p7 : Nat) : Int), u2, .int .i64 X.2.2], rfl, ?_⟩
                refine ze 6 ⟨BL, R, D, b5, b6, b8, b11, b13, IN, W, by omega⟩ ?_
                simp only [List.set_cons_zero, List.set_cons_succ]
                refine zo1 9 rfl ?_
                refine xStoreR 66 (.tmp 14) (.tmp 33) rfl w110.heap.size 66 [.int .u32 0, .int .u32 0, .int .u32 0, .int .u32 0, .int .u32 0, .int .u32 0, .int .u32 0, .int .u32 0, .slice none 0 0, .int .i64 0] 0 [.int .u32 ((p0 : Nat) : Int), .int .u32 ((p1 : Nat) : Int), .int .u32 ((p2 : Nat) : Int), .int .u32 ((p3 : Nat) : Int), .int .u32 ((p4 : Nat) : Int), .int .u32 ((p5 : Nat) : Int), .int .u32 ((p6 : Nat) : Int), .int .u32 ((p7 : Nat) : Int), u1, .int .i64 X.2.2] (by kernel_rfl) (by kernel_rfl) b14 (by kernel_rfl) (by simp) (allC rfl (allC rfl (allC rfl (allC rfl (allC rfl (allC rfl (allC rfl (allC rfl (allC U1.oneCell (allC rfl allN)))))))))) [.int .u32 ((p0 : Nat) : Int), .int .u32 ((p1 : Nat) : Int), .int .u32 ((p2 : Nat) : Int), .int .u32 ((p3 : Nat) : Int), .int .u32 ((p4 : Nat) : Int), .int .u32 ((p5 : Nat) : Int), .int .u32 ((p6 : Nat) : Int), .int .u32 ((p7 : Nat) : Int), u1, .int .i64 X.2.2] rfl ?_
                intro w117 t45
                have zt45 := t45.z
                have BL_ := BL.ev t45.e (fun i h => show w.heap.size ≤ i by have h : i = w110.heap.size := h; omega)
                have R_ := R.ev t45.e (fun i hi => show ¬ (i = w110.heap.size) by have := hrl i hi; omega)
                have D_ := D.ev t45.e (fun i hi => show ¬ (i = w110.heap.size) by have := hdl i hi; omega)
                have b5_ := b5.ev t45.e (show ¬ (w.heap.size = w110.heap.size) by omega)
                have b6_ := b6.ev t45.e (show ¬ (w1.heap.size = w110.heap.size) by omega)
                have b8_ := b8.ev t45.e (show ¬ (w2.heap.size = w110.heap.size) by omega)
                have b11_ := b11.ev t45.e (show ¬ (g11 = w110.heap.size) by omega)
                have b13_ := b13.ev t45.e (show ¬ (g13 = w110.heap.size) by omega)
                have IN_ := IN.ev t45.e (fun i hi => show ¬ (i = w110.heap.size) by have := hil i hi; omega)
                have W_ := W.ev t45.e (fun i hi => show ¬ (i = w110.heap.size) by have := hwl i hi; omega)
                have b15_ := b15.ev t45.e (show ¬ (w65.heap.size = w110.heap.size) by omega)
                have U1_ := U1.ev t45.e (fun i hi => show ¬ (i = w110.heap.size) by have := hub1 i hi; omega)
                have U2_ := U2.ev t45.e (fun i hi => show ¬ (i = w110.heap.size) by have := hub2 i hi; omega)
                replace BL := BL_; clear BL_
                replace R := R_; clear R_
                replace D := D_; clear D_
                replace b5 := b5_; clear b5_
                replace b6 := b6_; clear b6_
                replace b8 := b8_; clear b8_
                replace b11 := b11_; clear b11_
                replace b13 := b13_; clear b13_
                replace IN := IN_; clear IN_
                replace W := W_; clear W_
                replace b15 := b15_; clear b15_
                replace U1 := U1_; clear U1_
                replace U2 := U2_; clear U2_
                replace b14 : Cel w117 w110.heap.size 66 [.int .u32 ((p0 : Nat) : Int), .int .u32 ((p1 : Nat) : Int), .int .u32 ((p2 : Nat) : Int), .int .u32 ((p3 : Nat) : Int), .int .u32 ((p4 : Nat) : Int), .int .u32 ((p5 : Nat) : Int), .int .u32 ((p6 : Nat) : Int), .int .u32 ((p7 : Nat) : Int), u1, .int .i64 X.2.2] := t45.c
                clear t45
                refine ze 9 ⟨BL, R, D, b5, b6, b8, b11, b13, IN, W, by omega⟩ ?_
                refine zo1 10 rfl ?_
                refine xStoreR 66 (.tmp 15) (.tmp 37) rfl w65.heap.size 66 [.int .u32 0, .int .u32 0, .int .u32 0, .int .u32 0, .int .u32 0, .int .u32 0, .int .u32 0, .int .u32 0, .slice none 0 0, .int .i64 0] 0 [.int .u32 ((p0 : Nat) : Int), .int .u32 ((p1 : Nat) : Int), .int .u32 ((p2 : Nat) : Int), .int .u32 ((p3 : Nat) : Int), .int .u32 ((p4 : Nat) : Int), .int .u32 ((p5 : Nat) : Int), .int .u32 ((p6 : Nat) : Int), .int .u32 ((p7 : Nat) : Int), u2, .int .i64 X.2.2] (by kernel_rfl) (by kernel_rfl) b15 (by kernel_rfl) (by simp) (allC rfl (allC rfl (allC rfl (allC rfl (allC rfl (allC rfl (allC rfl (allC rfl (allC U2.oneCell (allC rfl allN)))))))))) [.int .u32 ((p0 : Nat) : Int), .int .u32 ((p1 : Nat) : Int), .int .u32 ((p2 : Nat) : Int), .int .u32 ((p3 : Nat) : Int), .int .u32 ((p4 : Nat) : Int), .int .u32 ((p5 : Nat) : Int), .int .u32 ((p6 : Nat) : Int), .int .u32 ((p7 : Nat) : Int), u2, .int .i64 X.2.2] rfl ?_
                intro w118 t46
                have zt46 := t46.z
                have BL_ := BL.ev t46.e (fun i h => show w.heap.size ≤ i by have h : i = w65.heap.size := h; omega)
                have R_ := R.ev t46.e (fun i hi => show ¬ (i = w65.heap.size) by have := hrl i hi; omega)
                have D_ := D.ev t46.e (fun i hi => show ¬ (i = w65.heap.size) by have := hdl i hi; omega)
                have b5_ := b5.ev t46.e (show ¬ (w.heap.size = w65.heap.size) by omega)
                have b6_ := b6.ev t46.e (show ¬ (w1.heap.size = w65.heap.size) by omega)
                have b8_ := b8.ev t46.e (show ¬ (w2.heap.size = w65.heap.size) by omega)
                have b11_ := b11.ev t46.e (show ¬ (g11 = w65.heap.size) by omega)
                have b13_ := b13.ev t46.e (show ¬ (g13 = w65.heap.size) by omega)
                have IN_ := IN.ev t46.e (fun i hi => show ¬ (i = w65.heap.size) by have := hil i hi; omega)
                have W_ := W.ev t46.e (fun i hi => show ¬ (i = w65.heap.size) by have := hwl i hi; omega)
                have U1_ := U1.ev t46.e (fun i hi => show ¬ (i = w65.heap.size) by have := hub1 i hi; omega)
                have b14_ := b14.ev t46.e (show ¬ (w110.heap.size = w65.heap.size) by omega)
                have U2_ := U2.ev t46.e (fun i hi => show ¬ (i = w65.heap.size) by have := hub2 i hi; omega)
                replace BL := BL_; clear BL_
                replace R := R_; clear R_
                replace D := D_; clear D_
                replace b5 := b5_; clear b5_
                replace b6 := b6_; clear b6_
                replace b8 := b8_; clear b8_
                replace b11 := b11_; clear b11_
                replace b13 := b13_; clear b13_
                replace IN := IN_; clear IN_
                replace W := W_; clear W_
                replace U1 := U1_; clear U1_
                replace b14 := b14_; clear b14_
                replace U2 := U2_; clear U2_
                replace b15 : Cel w118 w65.heap.size 66 [.int .u32 ((p0 : Nat) : Int), .int .u32 ((p1 : Nat) : Int), .int .u32 ((p2 : Nat) : Int), .int .u32 ((p3 : Nat) : Int), .int .u32 ((p4 : Nat) : Int), .int .u32 ((p5 : Nat) : Int), .int .u32 ((p6 : Nat) : Int), .int .u32 ((p7 : Nat) : Int), u2, .int .i64 X.2.2] := t46.c
                clear t46
                refine zz 10 ?_
                refine zd (by kernel_rfl) ?_ _
                exact ⟨w110.heap.size, w65.heap.size, u1, u2, cutE, BL, R, D, b5, b6, b8, b11, b13, IN, W, b14, b15, U1, U2, by omega⟩
            · skip
              refine xAlloc 14 66 [.int .u32 0, .int .u32 0, .int .u32 0, .int .u32 0, .int .u32 0, .int .u32 0, .int .u32 0, .int .u32 0, .slice none 0 0, .int .i64 0] rfl (by kernel_rfl) ?_
              intro w119 n39
              have zn39 := n39.z
              have b14 := n39.c
              replace BL := BL.e0 n39.e
              replace R := R.e0 n39.e
              replace D := D.e0 n39.e
              replace b5 := b5.e0 n39.e
              replace b6 := b6.e0 n39.e
              replace b8 := b8.e0 n39.e
              replace b11 := b11.e0 n39.e
              replace b13 := b13.e0 n39.e
              replace IN := IN.e0 n39.e
              replace W := W.e0 n39.e
              replace b15 := b15.e0 n39.e
              refine ze 7 ⟨BL, R, D, b5, b6, b8, b11, b13, IN, W, by omega⟩ ?_
              simp only [List.set_cons_zero, List.set_cons_succ]
              refine zo1 2 rfl ?_
              refine xCall 33 31 #[.pointer (some ⟨g11, 0, none⟩), .agg #[.int .u32 ((y0 : Nat) : Int), .int .u32 ((y1 : Nat) : Int), .int .u32 ((y2 : Nat) : Int), .int .u32 ((y3 : Nat) : Int), .int .u32 ((y4 : Nat) : Int), .int .u32 ((y5 : Nat) : Int), .int .u32 ((y6 : Nat) : Int), .int .u32 ((y7 : Nat) : Int), uw, .int .i64 L], ui] (by kernel_rfl) ?_
              refine (write_any2 g11 tab ([y0, y1, y2, y3, y4, y5, y6, y7], r, L) ns rfl uw ui ht w119 b11 W IN (by show r.length + _ ≤ _; omega) wJ1.heap.size hwl).mono ?_
              rintro en w120 ⟨u1, he1, hU1, hb1, hub1⟩
              rw [hX] at he1 hU1
              rw [hp] at he1
              subst he1
              have e35 := belE0 hb1
              have ze35 := e35.size
              replace BL := BL.e0 e35
              replace R := R.e0 e35
              replace D := D.e0 e35
              replace b5 := b5.e0 e35
              replace b6 := b6.e0 e35
              replace b8 := b8.e0 e35
              replace b11 := b11.e0 e35
              replace b13 := b13.e0 e35
              replace IN := IN.e0 e35
              replace W := W.e0 e35
              replace b15 := b15.e0 e35
              replace b14 := b14.e0 e35
              clear e35
              have U1 : SL .u8 w120 u1 (nn X.2.1) := hU1
              refine ⟨.agg #[.int .u32 ((p0 : Nat) : Int), .int .u32 ((p1 : Nat) : Int), .int .u32 ((p2 : Nat) : Int), .int .u32 ((p3 : Nat) : Int), .int .u32 ((p4 : Nat) : Int), .int .u32 ((p5 : Nat) : Int), .int .u32 ((p6 : Nat) : Int), .int .u32 ((p7 : Nat) : Int), u1, .int .i64 X.2.2], rfl, ?_⟩
              refine ze 2 ⟨BL, R, D, b5, b6, b8, b11, b13, IN, W, by omega⟩ ?_
              simp only [List.set_cons_zero, List.set_cons_succ]
              refine zo1 6 rfl ?_
              refine xCall 37 41 #[.agg (cellsOf .u32 (nn tab)), .agg #[.int .u32 ((y0 : Nat) : Int), .int .u32 ((y1 : Nat) : Int), .int .u32 ((y2 : Nat) : Int), .int .u32 ((y3 : Nat) : Int), .int .u32 ((y4 : Nat) : Int), .int .u32 ((y5 : Nat) : Int), .int .u32 ((y6 : Nat) : Int), .int .u32 ((y7 : Nat) : Int), .slice A r.length C, .int .i64 L], v] (by kernel_rfl) ?_
              refine (rwrite_any2 tab ([y0, y1, y2, y3, y4, y5, y6, y7], r, L) ns rfl (.slice A r.length C) v ht hy32 hr8 hb8 w120 R D (by omega) w.heap.size hrl).mono ?_
              rintro en w121 ⟨u2, he2, hU2, hb1, hub2⟩
              rw [hX] at he2 hU2
              rw [hp] at he2
              subst he2
              have e36 := belE0 hb1
              have ze36 := e36.size
              replace BL := BL.e0 e36
              replace R := R.e0 e36
              replace D := D.e0 e36
              replace b5 := b5.e0 e36
              replace b6 := b6.e0 e36
              replace b8 := b8.e0 e36
              replace b11 := b11.e0 e36
              replace b13 := b13.e0 e36
              replace IN := IN.e0 e36
              replace W := W.e0 e36
              replace b15 := b15.e0 e36
              replace b14 := b14.e0 e36
              replace U1 := U1.e0 e36
              clear e36
              have U2 : SL .u8 w121 u2 (nn X.2.1) := hU2
              refine ⟨.agg #[.int .u32 ((p0 : Nat) : Int), .int .u32 ((p1 : Nat) : Int), .int .u32 ((p2 : Nat) : Int), .int .u32 ((p3 : Nat) : Int), .int .u32 ((p4 : Nat) : Int), .int .u32 ((p5 : Nat) : Int), .int .u32 ((p6 : Nat) : Int), .int .u32 ((p7 : Nat) : Int), u2, .int .i64 X.2.2], rfl, ?_⟩
              refine ze 6 ⟨BL, R, D, b5, b6, b8, b11, b13, IN, W, by omega⟩ ?_
              simp only [List.set_cons_zero, List.set_cons_succ]
              refine zo1 9 rfl ?_
              refine xStoreR 66 (.tmp 14) (.tmp 33) rfl w109.heap.size 66 [.int .u32 0, .int .u32 0, .int .u32 0, .int .u32 0, .int .u32 0, .int .u32 0, .int .u32 0, .int .u32 0, .slice none 0 0, .int .i64 0] 0 [.int .u32 ((p0 : Nat) : Int), .int .u32 ((p1 : Nat) : Int), .int .u32 ((p2 : Nat) : Int), .int .u32 ((p3 : Nat) : Int), .int .u32 ((p4 : Nat) : Int), .int .u32 ((p5 : Nat) : Int), .int .u32 ((p6 : Nat) : Int), .int .u32 ((p7 : Nat) : Int), u1, .int .i64 X.2.2] (by kernel_rfl) (by kernel_rfl) b14 (by kernel_rfl) (by simp) (allC rfl (allC rfl (allC rfl (allC rfl (allC rfl (allC rfl (allC rfl (allC rfl (allC U1.oneCell (allC rfl allN)))))))))) [.int .u32 ((p0 : Nat) : Int), .int .u32 ((p1 : Nat) : Int), .int .u32 ((p2 : Nat) : Int), .int .u32 ((p3 : Nat) : Int), .int .u32 ((p4 : Nat) : Int), .int .u32 ((p5 : Nat) : Int), .int .u32 ((p6 : Nat) : Int), .int .u32 ((p7 : Nat) : Int), u1, .int .i64 X.2.2] rfl ?_
              intro w122 t47
              have zt47 := t47.z
              have BL_ := BL.ev t47.e (fun i h => show w.heap.size ≤ i by have h : i = w109.heap.size := h; omega)
              have R_ := R.ev t47.e (fun i hi => show ¬ (i = w109.heap.size) by have := hrl i hi; omega)
              have D_ := D.ev t47.e (fun i hi => show ¬ (i = w109.heap.size) by have := hdl i hi; omega)
              have b5_ := b5.ev t47.e (show ¬ (w.heap.size = w109.heap.size) by omega)
              have b6_ := b6.ev t47.e (show ¬ (w1.heap.size = w109.heap.size) by omega)
              have b8_ := b8.ev t47.e (show ¬ (w2.heap.size = w109.heap.size) by omega)
              have b11_ := b11.ev t47.e (show ¬ (g11 = w109.heap.size) by omega)
              have b13_ := b13.ev t47.e (show ¬ (g13 = w109.heap.size) by omega)
              have IN_ := IN.ev t47.e (fun i hi => show ¬ (i = w109.heap.size) by have := hil i hi; omega)
              have W_ := W.ev t47.e (fun i hi => show ¬ (i = w109.heap.size) by have := hwl i hi; omega)
              have b15_ := b15.ev t47.e (show ¬ (w65.heap.size = w109.heap.size) by omega)
              have U1_ := U1.ev t47.e (fun i hi => show ¬ (i = w109.heap.size) by have := hub1 i hi; omega)
              have U2_ := U2.ev t47.e (fun i hi => show ¬ (i = w109.heap.size) by have := hub2 i hi; omega)
              replace BL := BL_; clear BL_
              replace R := R_; clear R_
              replace D := D_; clear D_
              replace b5 := b5_; clear b5_
              replace b6 := b6_; clear b6_
              replace b8 := b8_; clear b8_
              replace b11 := b11_; clear b11_
              replace b13 := b13_; clear b13_
              replace IN := IN_; clear IN_
              replace W := W_; clear W_
              replace b15 := b15_; clear b15_
              replace U1 := U1_; clear U1_
              replace U2 := U2_; clear U2_
              replace b14 : Cel w122 w109.heap.size 66 [.int .u32 ((p0 : Nat) : Int), .int .u32 ((p1 : Nat) : Int), .int .u32 ((p2 : Nat) : Int), .int .u32 ((p3 : Nat) : Int), .int .u32 ((p4 : Nat) : Int), .int .u32 ((p5 : Nat) : Int), .int .u32 ((p6 : Nat) : Int), .int .u32 ((p7 : Nat) : Int), u1, .int .i64 X.2.2] := t47.c
              clear t47
              refine ze 9 ⟨BL, R, D, b5, b6, b8, b11, b13, IN, W, by omega⟩ ?_
              refine zo1 10 rfl ?_
              refine xStoreR 66 (.tmp 15) (.tmp 37) rfl w65.heap.size 66 [.int .u32 0, .int .u32 0, .int .u32 0, .int .u32 0, .int .u32 0, .int .u32 0, .int .u32 0, .int .u32 0, .slice none 0 0, .int .i64 0] 0 [.int .u32 ((p0 : Nat) : Int), .int .u32 ((p1 : Nat) : Int), .int .u32 ((p2 : Nat) : Int), .int .u32 ((p3 : Nat) : Int), .int .u32 ((p4 : Nat) : Int), .int .u32 ((p5 : Nat) : Int), .int .u32 ((p6 : Nat) : Int), .int .u32 ((p7 : Nat) : Int), u2, .int .i64 X.2.2] (by kernel_rfl) (by kernel_rfl) b15 (by kernel_rfl) (by simp) (allC rfl (allC rfl (allC rfl (allC rfl (allC rfl (allC rfl (allC rfl (allC rfl (allC U2.oneCell (allC rfl allN)))))))))) [.int .u32 ((p0 : Nat) : Int), .int .u32 ((p1 : Nat) : Int), .int .u32 ((p2 : Nat) : Int), .int .u32 ((p3 : Nat) : Int), .int .u32 ((p4 : Nat) : Int), .int .u32 ((p5 : Nat) : Int), .int .u32 ((p6 : Nat) : Int), .int .u32 ((p7 : Nat) : Int), u2, .int .i64 X.2.2] rfl ?_
              intro w123 t48
              have zt48 := t48.z
              have BL_ := BL.ev t48.e (fun i h => show w.heap.size ≤ i by have h : i = w65.heap.size := h; omega)
              have R_ := R.ev t48.e (fun i hi => show ¬ (i = w65.heap.size) by have := hrl i hi; omega)
              have D_ := D.ev t48.e (fun i hi => show ¬ (i = w65.heap.size) by have := hdl i hi; omega)
              have b5_ := b5.ev t48.e (show ¬ (w.heap.size = w65.heap.size) by omega)
              have b6_ := b6.ev t48.e (show ¬ (w1.heap.size = w65.heap.size) by omega)
              have b8_ := b8.ev t48.e (show ¬ (w2.heap.size = w65.heap.size) by omega)
              have b11_ := b11.ev t48.e (show ¬ (g11 = w65.heap.size) by omega)
              have b13_ := b13.ev t48.e (show ¬ (g13 = w65.heap.size) by omega)
              have IN_ := IN.ev t48.e (fun i hi => show ¬ (i = w65.heap.size) by have := hil i hi; omega)
              have W_ := W.ev t48.e (fun i hi => show ¬ (i = w65.heap.size) by have := hwl i hi; omega)
              have b14_ := b14.ev t48.e (show ¬ (w109.heap.size = w65.heap.size) by omega)
              have U1_ := U1.ev t48.e (fun i hi => show ¬ (i = w65.heap.size) by have := hub1 i hi; omega)
              have U2_ := U2.ev t48.e (fun i hi => show ¬ (i = w65.heap.size) by have := hub2 i hi; omega)
              replace BL := BL_; clear BL_
              replace R := R_; clear R_
              replace D := D_; clear D_
              replace b5 := b5_; clear b5_
              replace b6 := b6_; clear b6_
              replace b8 := b8_; clear b8_
              replace b11 := b11_; clear b11_
              replace b13 := b13_; clear b13_
              replace IN := IN_; clear IN_
              replace W := W_; clear W_
              replace b14 := b14_; clear b14_
              replace U1 := U1_; clear U1_
              replace U2 := U2_; clear U2_
              replace b15 : Cel w123 w65.heap.size 66 [.int .u32 ((p0 : Nat) : Int), .int .u32 ((p1 : Nat) : Int), .int .u32 ((p2 : Nat) : Int), .int .u32 ((p3 : Nat) : Int), .int .u32 ((p4 : Nat) : Int), .int .u32 ((p5 : Nat) : Int), .int .u32 ((p6 : Nat) : Int), .int .u32 ((p7 : Nat) : Int), u2, .int .i64 X.2.2] := t48.c
              clear t48
              refine zz 10 ?_
              refine zd (by kernel_rfl) ?_ _
              exact ⟨w109.heap.size, w65.heap.size, u1, u2, cutE, BL, R, D, b5, b6, b8, b11, b13, IN, W, b14, b15, U1, U2, by omega⟩
        · skip
          clear BL R D b5 b6 b8 b11 b13 IN W
          rintro a_ wJ2 ⟨g14, g15, u1, u2, ⟨s2, rfl⟩, BL, R, D, b5, b6, b8, b11, b13, IN, W, b14, b15, U1, U2, zJ2⟩
          have hu1l := U1.lt
          have hu2l := U2.lt
          refine wp_seq_k fun K6 hK6 => ?_
          refine wp_seq_k fun K7 hK7 => ?_
          have e37 := drew_e0 wJ2
          refine zg (fun w_ => Bl w.heap.size w w_ ∧ SL .u8 w_ (.slice A r.length C) (nn r) ∧ SL .u8 w_ v (nn ns) ∧ Blk .u32 w_ w.heap.size 61 (nn tab) ∧ Cel w_ w1.heap.size 66 [.int .u32 ((y0 : Nat) : Int), .int .u32 ((y1 : Nat) : Int), .int .u32 ((y2 : Nat) : Int), .int .u32 ((y3 : Nat) : Int), .int .u32 ((y4 : Nat) : Int), .int .u32 ((y5 : Nat) : Int), .int .u32 ((y6 : Nat) : Int), .int .u32 ((y7 : Nat) : Int), .slice A r.length C, .int .i64 L] ∧ Blk .u8 w_ w2.heap.size 74 (nn (bl)) ∧ Blk .u32 w_ g11 61 (nn tab) ∧ Cel w_ g13 66 [.int .u32 ((y0 : Nat) : Int), .int .u32 ((y1 : Nat) : Int), .int .u32 ((y2 : Nat) : Int), .int .u32 ((y3 : Nat) : Int), .int .u32 ((y4 : Nat) : Int), .int .u32 ((y5 : Nat) : Int), .int .u32 ((y6 : Nat) : Int), .int .u32 ((y7 : Nat) : Int), uw, .int .i64 L] ∧ SL .u8 w_ ui (nn ns) ∧ SL .u8 w_ uw (nn r) ∧ Cel w_ g14 66 [.int .u32 ((p0 : Nat) : Int), .int .u32 ((p1 : Nat) : Int), .int .u32 ((p2 : Nat) : Int), .int .u32 ((p3 : Nat) : Int), .int .u32 ((p4 : Nat) : Int), .int .u32 ((p5 : Nat) : Int), .int .u32 ((p6 : Nat) : Int), .int .u32 ((p7 : Nat) : Int), u1, .int .i64 X.2.2] ∧ Cel w_ g15 66 [.int .u32 ((p0 : Nat) : Int), .int .u32 ((p1 : Nat) : Int), .int .u32 ((p2 : Nat) : Int), .int .u32 ((p3 : Nat) : Int), .int .u32 ((p4 : Nat) : Int), .int .u32 ((p5 : Nat) : Int), .int .u32 ((p6 : Nat) : Int), .int .u32 ((p7 : Nat) : Int), u2, .int .i64 X.2.2] ∧ SL .u8 w_ u1 (nn X.2.1) ∧ SL .u8 w_ u2 (nn X.2.1) ∧ wJ2.heap.size ≤ w_.heap.size) (fun w_ => Bl w.heap.size w w_ ∧ SL .u8 w_ (.slice A r.length C) (nn r) ∧ SL .u8 w_ v (nn ns) ∧ Blk .u32 w_ w.heap.size 61 (nn tab) ∧ Cel w_ w1.heap.size 66 [.int .u32 ((y0 : Nat) : Int), .int .u32 ((y1 : Nat) : Int), .int .u32 ((y2 : Nat) : Int), .int .u32 ((y3 : Nat) : Int), .int .u32 ((y4 : Nat) : Int), .int .u32 ((y5 : Nat) : Int), .int .u32 ((y6 : Nat) : Int), .int .u32 ((y7 : Nat) : Int), .slice A r.length C, .int .i64 L] ∧ Blk .u8 w_ w2.heap.size 74 (nn (bl)) ∧ Blk .u32 w_ g11 61 (nn tab) ∧ Cel w_ g13 66 [.int .u32 ((y0 : Nat) : Int), .int .u32 ((y1 : Nat) : Int), .int .u32 ((y2 : Nat) : Int), .int .u32 ((y3 : Nat) : Int), .int .u32 ((y4 : Nat) : Int), .int .u32 ((y5 : Nat) : Int), .int .u32 ((y6 : Nat) : Int), .int .u32 ((y7 : Nat) : Int), uw, .int .i64 L] ∧ SL .u8 w_ ui (nn ns) ∧ SL .u8 w_ uw (nn r) ∧ Cel w_ g14 66 [.int .u32 ((p0 : Nat) : Int), .int .u32 ((p1 : Nat) : Int), .int .u32 ((p2 : Nat) : Int), .int .u32 ((p3 : Nat) : Int), .int .u32 ((p4 : Nat) : Int), .int .u32 ((p5 : Nat) : Int), .int .u32 ((p6 : Nat) : Int), .int .u32 ((p7 : Nat) : Int), u1, .int .i64 X.2.2] ∧ Cel w_ g15 66 [.int .u32 ((p0 : Nat) : Int), .int .u32 ((p1 : Nat) : Int), .int .u32 ((p2 : Nat) : Int), .int .u32 ((p3 : Nat) : Int), .int .u32 ((p4 : Nat) : Int), .int .u32 ((p5 : Nat) : Int), .int .u32 ((p6 : Nat) : Int), .int .u32 ((p7 : Nat) : Int), u2, .int .i64 X.2.2] ∧ SL .u8 w_ u1 (nn X.2.1) ∧ SL .u8 w_ u2 (nn X.2.1) ∧ wJ2.heap.size ≤ w_.heap.size) 100000 49 ⟨BL.e0 e37, R.e0 e37, D.e0 e37, b5.e0 e37, b6.e0 e37, b8.e0 e37, b11.e0 e37, b13.e0 e37, IN.e0 e37, W.e0 e37, b14.e0 e37, b15.e0 e37, U1.e0 e37, U2.e0 e37, Nat.le_refl _⟩ ?_
          clear BL R D b5 b6 b8 b11 b13 IN W b14 b15 U1 U2
          clear e37
          intro w124
          rintro ⟨BL, R, D, b5, b6, b8, b11, b13, IN, W, b14, b15, U1, U2, z3⟩
          refine zv 0 38 (.agg (cellsOf .u32 (nn tab))) (fun _ ⟨BL, R, D, b5, b6, b8, b11, b13, IN, W, b14, b15, U1, U2, z3⟩ => Val.blk 61 _ rfl 0 72 (by kernel_rfl) b11 _ Try.underlying61 rfl (by kernel_rfl) (by (try simp only [nn_len, List.length_cons, List.length_nil, List.length_set, List.length_replicate]); try omega) _ (seg_all' _ (by (try simp only [nn_len, List.length_cons, List.length_nil, List.length_set, List.length_replicate]); try omega))) ⟨BL, R, D, b5, b6, b8, b11, b13, IN, W, b14, b15, U1, U2, by omega⟩ ?_
          simp only [List.set_cons_zero, List.set_cons_succ]
          refine zv 1 39 (.agg (cellsOf .u32 (nn tab))) (fun _ ⟨BL, R, D, b5, b6, b8, b11, b13, IN, W, b14, b15, U1, U2, z3⟩ => Val.blk 61 _ rfl 0 72 (by kernel_rfl) b5 _ Try.underlying61 rfl (by kernel_rfl) (by (try simp only [nn_len, List.length_cons, List.length_nil, List.length_set, List.length_replicate]); try omega) _ (seg_all' _ (by (try simp only [nn_len, List.length_cons, List.length_nil, List.length_set, List.length_replicate]); try omega))) ⟨BL, R, D, b5, b6, b8, b11, b13, IN, W, b14, b15, U1, U2, by omega⟩ ?_
          simp only [List.set_cons_zero, List.set_cons_succ]
          refine zv 2 40 (.bool false) (fun _ ⟨BL, R, D, b5, b6, b8, b11, b13, IN, W, b14, b15, U1, U2, z3⟩ => Val.eqK .neq 61 _ (.tmp 38) (.tmp 39) rfl kt_rounds 5 (by kernel_rfl) (by decide) Try.underlying61 rfl (by kernel_rfl) (by kernel_rfl) (nn tab) (nn tab) (by rw [← rounds_zip ht]; kernel_rfl) (by rw [← rounds_zip ht]; kernel_rfl) (by rw [nn_len, ht]; kernel_rfl) (by rw [nn_len, ht]; kernel_rfl) (rounds_wf h32) (rounds_wf h32) (.inr rfl) _ (by simp)) ⟨BL, R, D, b5, b6, b8, b11, b13, IN, W, b14, b15, U1, U2, by omega⟩ ?_
          simp only [List.set_cons_zero, List.set_cons_succ]
          refine zv 3 41 (.bool false) (fun _ _ => .of) ⟨BL, R, D, b5, b6, b8, b11, b13, IN, W, b14, b15, U1, U2, by omega⟩ ?_
          simp only [List.set_cons_zero, List.set_cons_succ]
          refine zv 4 42 (ui) (fun _ _ => .of) ⟨BL, R, D, b5, b6, b8, b11, b13, IN, W, b14, b15, U1, U2, by omega⟩ ?_
          simp only [List.set_cons_zero, List.set_cons_succ]
          refine zv 5 43 (v) (fun _ _ => .of) ⟨BL, R, D, b5, b6, b8, b11, b13, IN, W, b14, b15, U1, U2, by omega⟩ ?_
          simp only [List.set_cons_zero, List.set_cons_succ]
          refine zo1 6 rfl ?_
          refine xCall 44 16 #[ui, v] (by kernel_rfl) ?_
          refine (same_any _ _ (nn (ns)) (nn (ns)) w124 IN D (bytes_nn hb8) (bytes_nn hb8)).mono ?_
          rintro en w125 ⟨he, hw⟩
          rw [decide_eq_true rfl] at he
          subst he
          obtain rfl := (hw.symm).symm
          refine ⟨.bool true, rfl, ?_⟩
          refine ze 6 ⟨BL, R, D, b5, b6, b8, b11, b13, IN, W, b14, b15, U1, U2, by omega⟩ ?_
          simp only [List.set_cons_zero, List.set_cons_succ]
          refine zv 7 45 (.bool false) (fun _ _ => .of) ⟨BL, R, D, b5, b6, b8, b11, b13, IN, W, b14, b15, U1, U2, by omega⟩ ?_
          simp only [List.set_cons_zero, List.set_cons_succ]
          refine zv 8 46 (.bool false) (fun _ _ => .of) ⟨BL, R, D, b5, b6, b8, b11, b13, IN, W, b14, b15, U1, U2, by omega⟩ ?_
          simp only [List.set_cons_zero, List.set_cons_succ]
          refine zv 9 47 (.bool false) (fun _ _ => .of) ⟨BL, R, D, b5, b6, b8, b11, b13, IN, W, b14, b15, U1, U2, by omega⟩ ?_
          simp only [List.set_cons_zero, List.set_cons_succ]
          refine zv 10 48 (.agg #[.int .u32 ((y0 : Nat) : Int), .int .u32 ((y1 : Nat) : Int), .int .u32 ((y2 : Nat) : Int), .int .u32 ((y3 : Nat) : Int), .int .u32 ((y4 : Nat) : Int), .int .u32 ((y5 : Nat) : Int), .int .u32 ((y6 : Nat) : Int), .int .u32 ((y7 : Nat) : Int), uw, .int .i64 L]) (fun _ ⟨BL, R, D, b5, b6, b8, b11, b13, IN, W, b14, b15, U1, U2, z3⟩ => Val.cel 66 _ rfl 0 10 (by kernel_rfl) b13 _ Try.underlying66 rfl (by kernel_rfl) (by simp) [.int .u32 ((y0 : Nat) : Int), .int .u32 ((y1 : Nat) : Int), .int .u32 ((y2 : Nat) : Int), .int .u32 ((y3 : Nat) : Int), .int .u32 ((y4 : Nat) : Int), .int .u32 ((y5 : Nat) : Int), .int .u32 ((y6 : Nat) : Int), .int .u32 ((y7 : Nat) : Int), uw, .int .i64 L] rfl) ⟨BL, R, D, b5, b6, b8, b11, b13, IN, W, b14, b15, U1, U2, by omega⟩ ?_
          simp only [List.set_cons_zero, List.set_cons_succ]
          refine zv 11 49 (.agg #[.int .u32 ((y0 : Nat) : Int), .int .u32 ((y1 : Nat) : Int), .int .u32 ((y2 : Nat) : Int), .int .u32 ((y3 : Nat) : Int), .int .u32 ((y4 : Nat) : Int), .int .u32 ((y5 : Nat) : Int), .int .u32 ((y6 : Nat) : Int), .int .u32 ((y7 : Nat) : Int), .slice A r.length C, .int .i64 L]) (fun _ ⟨BL, R, D, b5, b6, b8, b11, b13, IN, W, b14, b15, U1, U2, z3⟩ => Val.cel 66 _ rfl 0 10 (by kernel_rfl) b6 _ Try.underlying66 rfl (by kernel_rfl) (by simp) [.int .u32 ((y0 : Nat) : Int), .int .u32 ((y1 : Nat) : Int), .int .u32 ((y2 : Nat) : Int), .int .u32 ((y3 : Nat) : Int), .int .u32 ((y4 : Nat) : Int), .int .u32 ((y5 : Nat) : Int), .int .u32 ((y6 : Nat) : Int), .int .u32 ((y7 : Nat) : Int), .slice A r.length C, .int .i64 L] rfl) ⟨BL, R, D, b5, b6, b8, b11, b13, IN, W, b14, b15, U1, U2, by omega⟩ ?_
          simp only [List.set_cons_zero, List.set_cons_succ]
          refine zo1 12 rfl ?_
          refine xCall 50 32 #[.agg #[.int .u32 ((y0 : Nat) : Int), .int .u32 ((y1 : Nat) : Int), .int .u32 ((y2 : Nat) : Int), .int .u32 ((y3 : Nat) : Int), .int .u32 ((y4 : Nat) : Int), .int .u32 ((y5 : Nat) : Int), .int .u32 ((y6 : Nat) : Int), .int .u32 ((y7 : Nat) : Int), uw, .int .i64 L], .agg #[.int .u32 ((y0 : Nat) : Int), .int .u32 ((y1 : Nat) : Int), .int .u32 ((y2 : Nat) : Int), .int .u32 ((y3 : Nat) : Int), .int .u32 ((y4 : Nat) : Int), .int .u32 ((y5 : Nat) : Int), .int .u32 ((y6 : Nat) : Int), .int .u32 ((y7 : Nat) : Int), .slice A r.length C, .int .i64 L]] (by kernel_rfl) ?_
          refine (sameH_any ([y0, y1, y2, y3, y4, y5, y6, y7], r, L) ([y0, y1, y2, y3, y4, y5, y6, y7], r, L) rfl rfl (uw) (.slice A r.length C) w124 W R hr8 hr8).mono ?_
          rintro en w126 ⟨he, hb1⟩
          rw [decide_eq_true rfl] at he
          subst he
          have e38 := belE0 hb1
          have ze38 := e38.size
          replace BL := BL.e0 e38
          replace R := R.e0 e38
          replace D := D.e0 e38
          replace b5 := b5.e0 e38
          replace b6 := b6.e0 e38
          replace b8 := b8.e0 e38
          replace b11 := b11.e0 e38
          replace b13 := b13.e0 e38
          replace IN := IN.e0 e38
          replace W := W.e0 e38
          replace b14 := b14.e0 e38
          replace b15 := b15.e0 e38
          replace U1 := U1.e0 e38
          replace U2 := U2.e0 e38
          clear e38
          refine ⟨.bool true, rfl, ?_⟩
          refine ze 12 ⟨BL, R, D, b5, b6, b8, b11, b13, IN, W, b14, b15, U1, U2, by omega⟩ ?_
          simp only [List.set_cons_zero, List.set_cons_succ]
          refine zv 13 51 (.bool false) (fun _ _ => .of) ⟨BL, R, D, b5, b6, b8, b11, b13, IN, W, b14, b15, U1, U2, by omega⟩ ?_
          simp only [List.set_cons_zero, List.set_cons_succ]
          refine zv 14 52 (.bool false) (fun _ _ => .of) ⟨BL, R, D, b5, b6, b8, b11, b13, IN, W, b14, b15, U1, U2, by omega⟩ ?_
          simp only [List.set_cons_zero, List.set_cons_succ]
          refine zv 15 53 (.bool false) (fun _ _ => .of) ⟨BL, R, D, b5, b6, b8, b11, b13, IN, W, b14, b15, U1, U2, by omega⟩ ?_
          simp only [List.set_cons_zero, List.set_cons_succ]
          refine zv 16 54 (.agg #[.int .u32 ((p0 : Nat) : Int), .int .u32 ((p1 : Nat) : Int), .int .u32 ((p2 : Nat) : Int), .int .u32 ((p3 : Nat) : Int), .int .u32 ((p4 : Nat) : Int), .int .u32 ((p5 : Nat) : Int), .int .u32 ((p6 : Nat) : Int), .int .u32 ((p7 : Nat) : Int), u1, .int .i64 X.2.2]) (fun _ ⟨BL, R, D, b5, b6, b8, b11, b13, IN, W, b14, b15, U1, U2, z3⟩ => Val.cel 66 _ rfl 0 10 (by kernel_rfl) b14 _ Try.underlying66 rfl (by kernel_rfl) (by simp) [.int .u32 ((p0 : Nat) : Int), .int .u32 ((p1 : Nat) : Int), .int .u32 ((p2 : Nat) : Int), .int .u32 ((p3 : Nat) : Int), .int .u32 ((p4 : Nat) : Int), .int .u32 ((p5 : Nat) : Int), .int .u32 ((p6 : Nat) : Int), .int .u32 ((p7 : Nat) : Int), u1, .int .i64 X.2.2] rfl) ⟨BL, R, D, b5, b6, b8, b11, b13, IN, W, b14, b15, U1, U2, by omega⟩ ?_
          simp only [List.set_cons_zero, List.set_cons_succ]
          refine zv 17 55 (.agg #[.int .u32 ((p0 : Nat) : Int), .int .u32 ((p1 : Nat) : Int), .int .u32 ((p2 : Nat) : Int), .int .u32 ((p3 : Nat) : Int), .int .u32 ((p4 : Nat) : Int), .int .u32 ((p5 : Nat) : Int), .int .u32 ((p6 : Nat) : Int), .int .u32 ((p7 : Nat) : Int), u2, .int .i64 X.2.2]) (fun _ ⟨BL, R, D, b5, b6, b8, b11, b13, IN, W, b14, b15, U1, U2, z3⟩ => Val.cel 66 _ rfl 0 10 (by kernel_rfl) b15 _ Try.underlying66 rfl (by kernel_rfl) (by simp) [.int .u32 ((p0 : Nat) : Int), .int .u32 ((p1 : Nat) : Int), .int .u32 ((p2 : Nat) : Int), .int .u32 ((p3 : Nat) : Int), .int .u32 ((p4 : Nat) : Int), .int .u32 ((p5 : Nat) : Int), .int .u32 ((p6 : Nat) : Int), .int .u32 ((p7 : Nat) : Int), u2, .int .i64 X.2.2] rfl) ⟨BL, R, D, b5, b6, b8, b11, b13, IN, W, b14, b15, U1, U2, by omega⟩ ?_
          simp only [List.set_cons_zero, List.set_cons_succ]
          refine zo1 18 rfl ?_
          refine xCall 56 32 #[.agg #[.int .u32 ((p0 : Nat) : Int), .int .u32 ((p1 : Nat) : Int), .int .u32 ((p2 : Nat) : Int), .int .u32 ((p3 : Nat) : Int), .int .u32 ((p4 : Nat) : Int), .int .u32 ((p5 : Nat) : Int), .int .u32 ((p6 : Nat) : Int), .int .u32 ((p7 : Nat) : Int), u1, .int .i64 X.2.2], .agg #[.int .u32 ((p0 : Nat) : Int), .int .u32 ((p1 : Nat) : Int), .int .u32 ((p2 : Nat) : Int), .int .u32 ((p3 : Nat) : Int), .int .u32 ((p4 : Nat) : Int), .int .u32 ((p5 : Nat) : Int), .int .u32 ((p6 : Nat) : Int), .int .u32 ((p7 : Nat) : Int), u2, .int .i64 X.2.2]] (by kernel_rfl) ?_
          refine (sameH_any ([p0, p1, p2, p3, p4, p5, p6, p7], X.2.1, X.2.2) ([p0, p1, p2, p3, p4, p5, p6, p7], X.2.1, X.2.2) rfl rfl (u1) (u2) w126 U1 U2 hXb hXb).mono ?_
          rintro en w127 ⟨he, hb1⟩
          rw [decide_eq_true rfl] at he
          subst he
          have e39 := belE0 hb1
          have ze39 := e39.size
          replace BL := BL.e0 e39
          replace R := R.e0 e39
          replace D := D.e0 e39
          replace b5 := b5.e0 e39
          replace b6 := b6.e0 e39
          replace b8 := b8.e0 e39
          replace b11 := b11.e0 e39
          replace b13 := b13.e0 e39
          replace IN := IN.e0 e39
          replace W := W.e0 e39
          replace b14 := b14.e0 e39
          replace b15 := b15.e0 e39
          replace U1 := U1.e0 e39
          replace U2 := U2.e0 e39
          clear e39
          refine ⟨.bool true, rfl, ?_⟩
          refine ze 18 ⟨BL, R, D, b5, b6, b8, b11, b13, IN, W, b14, b15, U1, U2, by omega⟩ ?_
          simp only [List.set_cons_zero, List.set_cons_succ]
          refine zv 19 57 (.bool false) (fun _ _ => .of) ⟨BL, R, D, b5, b6, b8, b11, b13, IN, W, b14, b15, U1, U2, by omega⟩ ?_
          simp only [List.set_cons_zero, List.set_cons_succ]
          refine zv 20 58 (.bool false) (fun _ _ => .of) ⟨BL, R, D, b5, b6, b8, b11, b13, IN, W, b14, b15, U1, U2, by omega⟩ ?_
          simp only [List.set_cons_zero, List.set_cons_succ]
          refine zv 21 59 (.bool false) (fun _ _ => .of) ⟨BL, R, D, b5, b6, b8, b11, b13, IN, W, b14, b15, U1, U2, by omega⟩ ?_
          simp only [List.set_cons_zero, List.set_cons_succ]
          refine zv 22 60 (.agg #[.int .u32 ((p0 : Nat) : Int), .int .u32 ((p1 : Nat) : Int), .int .u32 ((p2 : Nat) : Int), .int .u32 ((p3 : Nat) : Int), .int .u32 ((p4 : Nat) : Int), .int .u32 ((p5 : Nat) : Int), .int .u32 ((p6 : Nat) : Int), .int .u32 ((p7 : Nat) : Int), u1, .int .i64 X.2.2]) (fun _ ⟨BL, R, D, b5, b6, b8, b11, b13, IN, W, b14, b15, U1, U2, z3⟩ => Val.cel 66 _ rfl 0 10 (by kernel_rfl) b14 _ Try.underlying66 rfl (by kernel_rfl) (by simp) [.int .u32 ((p0 : Nat) : Int), .int .u32 ((p1 : Nat) : Int), .int .u32 ((p2 : Nat) : Int), .int .u32 ((p3 : Nat) : Int), .int .u32 ((p4 : Nat) : Int), .int .u32 ((p5 : Nat) : Int), .int .u32 ((p6 : Nat) : Int), .int .u32 ((p7 : Nat) : Int), u1, .int .i64 X.2.2] rfl) ⟨BL, R, D, b5, b6, b8, b11, b13, IN, W, b14, b15, U1, U2, by omega⟩ ?_
          simp only [List.set_cons_zero, List.set_cons_succ]
          refine zv 24 62 (.agg (cellsOf .u32 (nn tab))) (fun _ ⟨BL, R, D, b5, b6, b8, b11, b13, IN, W, b14, b15, U1, U2, z3⟩ => Val.blk 61 _ rfl 0 72 (by kernel_rfl) b5 _ Try.underlying61 rfl (by kernel_rfl) (by (try simp only [nn_len, List.length_cons, List.length_nil, List.length_set, List.length_replicate]); try omega) _ (seg_all' _ (by (try simp only [nn_len, List.length_cons, List.length_nil, List.length_set, List.length_replicate]); try omega))) ⟨BL, R, D, b5, b6, b8, b11, b13, IN, W, b14, b15, U1, U2, by omega⟩ ?_
          simp only [List.set_cons_zero, List.set_cons_succ]
          refine zv 25 63 (.agg #[.int .u32 ((p0 : Nat) : Int), .int .u32 ((p1 : Nat) : Int), .int .u32 ((p2 : Nat) : Int), .int .u32 ((p3 : Nat) : Int), .int .u32 ((p4 : Nat) : Int), .int .u32 ((p5 : Nat) : Int), .int .u32 ((p6 : Nat) : Int), .int .u32 ((p7 : Nat) : Int), u2, .int .i64 X.2.2]) (fun _ ⟨BL, R, D, b5, b6, b8, b11, b13, IN, W, b14, b15, U1, U2, z3⟩ => Val.cel 66 _ rfl 0 10 (by kernel_rfl) b15 _ Try.underlying66 rfl (by kernel_rfl) (by simp) [.int .u32 ((p0 : Nat) : Int), .int .u32 ((p1 : Nat) : Int), .int .u32 ((p2 : Nat) : Int), .int .u32 ((p3 : Nat) : Int), .int .u32 ((p4 : Nat) : Int), .int .u32 ((p5 : Nat) : Int), .int .u32 ((p6 : Nat) : Int), .int .u32 ((p7 : Nat) : Int), u2, .int .i64 X.2.2] rfl) ⟨BL, R, D, b5, b6, b8, b11, b13, IN, W, b14, b15, U1, U2, by omega⟩ ?_
          simp only [List.set_cons_zero, List.set_cons_succ]
          refine zo1 23 rfl ?_
          refine xCall 61 33 #[.pointer (some ⟨g11, 0, none⟩), .agg #[.int .u32 ((p0 : Nat) : Int), .int .u32 ((p1 : Nat) : Int), .int .u32 ((p2 : Nat) : Int), .int .u32 ((p3 : Nat) : Int), .int .u32 ((p4 : Nat) : Int), .int .u32 ((p5 : Nat) : Int), .int .u32 ((p6 : Nat) : Int), .int .u32 ((p7 : Nat) : Int), u1, .int .i64 X.2.2]] (by kernel_rfl) ?_
          have hs61 := fun W TB U => sum_any g11 tab X hX8 u1 ht W TB U
          rw [hp] at hs61
          refine (hs61 w127 b11 U1).mono ?_
          rintro en w128 ⟨rfl, hb1⟩
          have e40 := belE0 hb1
          have ze40 := e40.size
          replace BL := BL.e0 e40
          replace R := R.e0 e40
          replace D := D.e0 e40
          replace b5 := b5.e0 e40
          replace b6 := b6.e0 e40
          replace b8 := b8.e0 e40
          replace b11 := b11.e0 e40
          replace b13 := b13.e0 e40
          replace IN := IN.e0 e40
          replace W := W.e0 e40
          replace b14 := b14.e0 e40
          replace b15 := b15.e0 e40
          replace U1 := U1.e0 e40
          replace U2 := U2.e0 e40
          clear e40
          refine ⟨.agg (cellsOf .u8 (nn (sumN tab X))), rfl, ?_⟩
          refine ze 23 ⟨BL, R, D, b5, b6, b8, b11, b13, IN, W, b14, b15, U1, U2, by omega⟩ ?_
          simp only [List.set_cons_zero, List.set_cons_succ]
          refine zo1 26 rfl ?_
          refine xCall 64 42 #[.agg (cellsOf .u32 (nn tab)), .agg #[.int .u32 ((p0 : Nat) : Int), .int .u32 ((p1 : Nat) : Int), .int .u32 ((p2 : Nat) : Int), .int .u32 ((p3 : Nat) : Int), .int .u32 ((p4 : Nat) : Int), .int .u32 ((p5 : Nat) : Int), .int .u32 ((p6 : Nat) : Int), .int .u32 ((p7 : Nat) : Int), u2, .int .i64 X.2.2]] (by kernel_rfl) ?_
          have hs64 := fun W U => rsum_any tab X hX8 u2 ht hX32 hXb W U
          rw [hp] at hs64
          refine (hs64 w128 U2).mono ?_
          rintro en w129 ⟨rfl, hb1⟩
          have e41 := belE0 hb1
          have ze41 := e41.size
          replace BL := BL.e0 e41
          replace R := R.e0 e41
          replace D := D.e0 e41
          replace b5 := b5.e0 e41
          replace b6 := b6.e0 e41
          replace b8 := b8.e0 e41
          replace b11 := b11.e0 e41
          replace b13 := b13.e0 e41
          replace IN := IN.e0 e41
          replace W := W.e0 e41
          replace b14 := b14.e0 e41
          replace b15 := b15.e0 e41
          replace U1 := U1.e0 e41
          replace U2 := U2.e0 e41
          clear e41
          refine ⟨.agg (cellsOf .u8 (nn (sumN tab X))), rfl, ?_⟩
          refine ze 26 ⟨BL, R, D, b5, b6, b8, b11, b13, IN, W, b14, b15, U1, U2, by omega⟩ ?_
          simp only [List.set_cons_zero, List.set_cons_succ]
          refine zv 27 65 (.bool false) (fun _ ⟨BL, R, D, b5, b6, b8, b11, b13, IN, W, b14, b15, U1, U2, z3⟩ => Val.eqA .neq 23 _ (.tmp 61) (.tmp 64) rfl Try.underlying23 Try.underlying5 (by kernel_rfl) (by kernel_rfl) (nn (sumN tab X)) (nn (sumN tab X)) (by kernel_rfl) (by kernel_rfl) (by rw [nn_len]; exact hsl) (by rw [nn_len]; exact hsl) (.inr rfl) false (by simp)) ⟨BL, R, D, b5, b6, b8, b11, b13, IN, W, b14, b15, U1, U2, by omega⟩ ?_
          simp only [List.set_cons_zero, List.set_cons_succ]
          refine zv 28 66 (.bool false) (fun _ _ => .of) ⟨BL, R, D, b5, b6, b8, b11, b13, IN, W, b14, b15, U1, U2, by omega⟩ ?_
          simp only [List.set_cons_zero, List.set_cons_succ]
          refine zv 29 67 (.bool false) (fun _ _ => .of) ⟨BL, R, D, b5, b6, b8, b11, b13, IN, W, b14, b15, U1, U2, by omega⟩ ?_
          simp only [List.set_cons_zero, List.set_cons_succ]
          refine zv 30 68 (v) (fun _ _ => .of) ⟨BL, R, D, b5, b6, b8, b11, b13, IN, W, b14, b15, U1, U2, by omega⟩ ?_
          simp only [List.set_cons_zero, List.set_cons_succ]
          refine zv 32 70 (.agg (cellsOf .u32 (nn tab))) (fun _ ⟨BL, R, D, b5, b6, b8, b11, b13, IN, W, b14, b15, U1, U2, z3⟩ => Val.blk 61 _ rfl 0 72 (by kernel_rfl) b5 _ Try.underlying61 rfl (by kernel_rfl) (by (try simp only [nn_len, List.length_cons, List.length_nil, List.length_set, List.length_replicate]); try omega) _ (seg_all' _ (by (try simp only [nn_len, List.length_cons, List.length_nil, List.length_set, List.length_replicate]); try omega))) ⟨BL, R, D, b5, b6, b8, b11, b13, IN, W, b14, b15, U1, U2, by omega⟩ ?_
          simp only [List.set_cons_zero, List.set_cons_succ]
          refine zv 33 71 (v) (fun _ _ => .of) ⟨BL, R, D, b5, b6, b8, b11, b13, IN, W, b14, b15, U1, U2, by omega⟩ ?_
          simp only [List.set_cons_zero, List.set_cons_succ]
          refine zo1 31 rfl ?_
          refine xCall 69 35 #[.pointer (some ⟨g11, 0, none⟩), v] (by kernel_rfl) ?_
          refine (of_any g11 tab ns v ht w129 b11 D (by omega)).mono ?_
          rintro en w130 ⟨rfl, hb1⟩
          have e42 := belE0 hb1
          have ze42 := e42.size
          replace BL := BL.e0 e42
          replace R := R.e0 e42
          replace D := D.e0 e42
          replace b5 := b5.e0 e42
          replace b6 := b6.e0 e42
          replace b8 := b8.e0 e42
          replace b11 := b11.e0 e42
          replace b13 := b13.e0 e42
          replace IN := IN.e0 e42
          replace W := W.e0 e42
          replace b14 := b14.e0 e42
          replace b15 := b15.e0 e42
          replace U1 := U1.e0 e42
          replace U2 := U2.e0 e42
          clear e42
          refine ⟨.agg (cellsOf .u8 (nn (ofN tab ns))), rfl, ?_⟩
          refine ze 31 ⟨BL, R, D, b5, b6, b8, b11, b13, IN, W, b14, b15, U1, U2, by omega⟩ ?_
          simp only [List.set_cons_zero, List.set_cons_succ]
          refine zo1 34 rfl ?_
          refine xCall 72 43 #[.agg (cellsOf .u32 (nn tab)), v] (by kernel_rfl) ?_
          refine (rof_any tab ns v ht h32 hb8 w130 D (by omega)).mono ?_
          rintro en w131 ⟨rfl, hb1⟩
          have e43 := belE0 hb1
          have ze43 := e43.size
          replace BL := BL.e0 e43
          replace R := R.e0 e43
          replace D := D.e0 e43
          replace b5 := b5.e0 e43
          replace b6 := b6.e0 e43
          replace b8 := b8.e0 e43
          replace b11 := b11.e0 e43
          replace b13 := b13.e0 e43
          replace IN := IN.e0 e43
          replace W := W.e0 e43
          replace b14 := b14.e0 e43
          replace b15 := b15.e0 e43
          replace U1 := U1.e0 e43
          replace U2 := U2.e0 e43
          clear e43
          refine ⟨.agg (cellsOf .u8 (nn (ofN tab ns))), rfl, ?_⟩
          refine ze 34 ⟨BL, R, D, b5, b6, b8, b11, b13, IN, W, b14, b15, U1, U2, by omega⟩ ?_
          simp only [List.set_cons_zero, List.set_cons_succ]
          refine zv 35 73 (.bool false) (fun _ ⟨BL, R, D, b5, b6, b8, b11, b13, IN, W, b14, b15, U1, U2, z3⟩ => Val.eqA .neq 23 _ (.tmp 69) (.tmp 72) rfl Try.underlying23 Try.underlying5 (by kernel_rfl) (by kernel_rfl) (nn (ofN tab ns)) (nn (ofN tab ns)) (by kernel_rfl) (by kernel_rfl) (by rw [nn_len]; exact ofN_32 _ _) (by rw [nn_len]; exact ofN_32 _ _) (.inr rfl) false (by simp)) ⟨BL, R, D, b5, b6, b8, b11, b13, IN, W, b14, b15, U1, U2, by omega⟩ ?_
          simp only [List.set_cons_zero, List.set_cons_succ]
          refine zv 36 74 (.bool false) (fun _ _ => .of) ⟨BL, R, D, b5, b6, b8, b11, b13, IN, W, b14, b15, U1, U2, by omega⟩ ?_
          simp only [List.set_cons_zero, List.set_cons_succ]
          refine zv 37 75 (.bool false) (fun _ _ => .of) ⟨BL, R, D, b5, b6, b8, b11, b13, IN, W, b14, b15, U1, U2, by omega⟩ ?_
          simp only [List.set_cons_zero, List.set_cons_succ]
          refine zv 38 76 (.pointer (some ⟨w1.heap.size, 0, none⟩)) (fun _ _ => .of) ⟨BL, R, D, b5, b6, b8, b11, b13, IN, W, b14, b15, U1, U2, by omega⟩ ?_
          simp only [List.set_cons_zero, List.set_cons_succ]
          refine zv 39 77 (.agg (cellsOf .u32 (nn [y0, y1, y2, y3, y4, y5, y6, y7]))) (fun _ ⟨BL, R, D, b5, b6, b8, b11, b13, IN, W, b14, b15, U1, U2, z3⟩ => Val.cel 58 _ rfl 0 8 (by kernel_rfl) b6 _ Try.underlying58 rfl (by kernel_rfl) (by simp) ((nn [y0, y1, y2, y3, y4, y5, y6, y7]).map (Value.int .u32)) rfl) ⟨BL, R, D, b5, b6, b8, b11, b13, IN, W, b14, b15, U1, U2, by omega⟩ ?_
          simp only [List.set_cons_zero, List.set_cons_succ]
          refine zv 40 78 (.agg (cellsOf .u8 (nn (bl)))) (fun _ ⟨BL, R, D, b5, b6, b8, b11, b13, IN, W, b14, b15, U1, U2, z3⟩ => Val.blk 74 _ rfl 0 64 (by kernel_rfl) b8 _ Try.underlying74 rfl (by kernel_rfl) (by (try simp only [nn_len, List.length_cons, List.length_nil, List.length_set, List.length_replicate]); try omega) _ (seg_all' _ (by (try simp only [nn_len, List.length_cons, List.length_nil, List.length_set, List.length_replicate]); try omega))) ⟨BL, R, D, b5, b6, b8, b11, b13, IN, W, b14, b15, U1, U2, by omega⟩ ?_
          simp only [List.set_cons_zero, List.set_cons_succ]
          refine zv 42 80 (.agg (cellsOf .u32 (nn tab))) (fun _ ⟨BL, R, D, b5, b6, b8, b11, b13, IN, W, b14, b15, U1, U2, z3⟩ => Val.blk 61 _ rfl 0 72 (by kernel_rfl) b5 _ Try.underlying61 rfl (by kernel_rfl) (by (try simp only [nn_len, List.length_cons, List.length_nil, List.length_set, List.length_replicate]); try omega) _ (seg_all' _ (by (try simp only [nn_len, List.length_cons, List.length_nil, List.length_set, List.length_replicate]); try omega))) ⟨BL, R, D, b5, b6, b8, b11, b13, IN, W, b14, b15, U1, U2, by omega⟩ ?_
          simp only [List.set_cons_zero, List.set_cons_succ]
          refine zv 43 81 (.pointer (some ⟨w1.heap.size, 0, none⟩)) (fun _ _ => .of) ⟨BL, R, D, b5, b6, b8, b11, b13, IN, W, b14, b15, U1, U2, by omega⟩ ?_
          simp only [List.set_cons_zero, List.set_cons_succ]
          refine zv 44 82 (.agg (cellsOf .u32 (nn [y0, y1, y2, y3, y4, y5, y6, y7]))) (fun _ ⟨BL, R, D, b5, b6, b8, b11, b13, IN, W, b14, b15, U1, U2, z3⟩ => Val.cel 58 _ rfl 0 8 (by kernel_rfl) b6 _ Try.underlying58 rfl (by kernel_rfl) (by simp) ((nn [y0, y1, y2, y3, y4, y5, y6, y7]).map (Value.int .u32)) rfl) ⟨BL, R, D, b5, b6, b8, b11, b13, IN, W, b14, b15, U1, U2, by omega⟩ ?_
          simp only [List.set_cons_zero, List.set_cons_succ]
          refine zv 45 83 (.slice (some ⟨w2.heap.size, 0, none⟩) 64 64) (fun _ _ => .of) ⟨BL, R, D, b5, b6, b8, b11, b13, IN, W, b14, b15, U1, U2, by omega⟩ ?_
          simp only [List.set_cons_zero, List.set_cons_succ]
          refine zo1 41 rfl ?_
          refine xCall 79 36 #[.pointer (some ⟨g11, 0, none⟩), .agg (cellsOf .u32 (nn [y0, y1, y2, y3, y4, y5, y6, y7])), .agg (cellsOf .u8 (nn (bl)))] (by kernel_rfl) ?_
          refine (block_any g11 tab [y0, y1, y2, y3, y4, y5, y6, y7] bl ht rfl hbl w131 b11).mono ?_
          rintro en w132 ⟨rfl, hb1⟩
          have e44 := belE0 hb1
          have ze44 := e44.size
          replace BL := BL.e0 e44
          replace R := R.e0 e44
          replace D := D.e0 e44
          replace b5 := b5.e0 e44
          replace b6 := b6.e0 e44
          replace b8 := b8.e0 e44
          replace b11 := b11.e0 e44
          replace b13 := b13.e0 e44
          replace IN := IN.e0 e44
          replace W := W.e0 e44
          replace b14 := b14.e0 e44
          replace b15 := b15.e0 e44
          replace U1 := U1.e0 e44
          replace U2 := U2.e0 e44
          clear e44
          refine ⟨.agg (cellsOf .u32 (nn (blockN tab [y0, y1, y2, y3, y4, y5, y6, y7] bl))), rfl, ?_⟩
          refine ze 41 ⟨BL, R, D, b5, b6, b8, b11, b13, IN, W, b14, b15, U1, U2, by omega⟩ ?_
          simp only [List.set_cons_zero, List.set_cons_succ]
          refine zo1 46 rfl ?_
          refine xCall 84 44 #[.agg (cellsOf .u32 (nn tab)), .agg (cellsOf .u32 (nn [y0, y1, y2, y3, y4, y5, y6, y7])), .slice (some ⟨w2.heap.size, 0, none⟩) 64 64] (by kernel_rfl) ?_
          refine (rblock_any tab [y0, y1, y2, y3, y4, y5, y6, y7] bl _ ht rfl hy32 hbl hbl8 w132 (SL.ofBlk b8 (by rw [nn_len]; exact hbl) (by unfold maxLen; omega))).mono ?_
          rintro en w133 ⟨rfl, hb1⟩
          have e45 := belE0 hb1
          have ze45 := e45.size
          replace BL := BL.e0 e45
          replace R := R.e0 e45
          replace D := D.e0 e45
          replace b5 := b5.e0 e45
          replace b6 := b6.e0 e45
          replace b8 := b8.e0 e45
          replace b11 := b11.e0 e45
          replace b13 := b13.e0 e45
          replace IN := IN.e0 e45
          replace W := W.e0 e45
          replace b14 := b14.e0 e45
          replace b15 := b15.e0 e45
          replace U1 := U1.e0 e45
          replace U2 := U2.e0 e45
          clear e45
          refine ⟨.agg (cellsOf .u32 (nn (blockN tab [y0, y1, y2, y3, y4, y5, y6, y7] bl))), rfl, ?_⟩
          refine ze 46 ⟨BL, R, D, b5, b6, b8, b11, b13, IN, W, b14, b15, U1, U2, by omega⟩ ?_
          simp only [List.set_cons_zero, List.set_cons_succ]
          refine zv 47 85 (.bool false) (fun _ ⟨BL, R, D, b5, b6, b8, b11, b13, IN, W, b14, b15, U1, U2, z3⟩ => Val.eqA .neq 58 _ (.tmp 79) (.tmp 84) rfl Try.underlying58 Try.underlying39 (by kernel_rfl) (by kernel_rfl) (nn (blockN tab [y0, y1, y2, y3, y4, y5, y6, y7] bl)) (nn (blockN tab [y0, y1, y2, y3, y4, y5, y6, y7] bl)) (by kernel_rfl) (by kernel_rfl) (by rw [nn_len]; exact blockN_len _ _ _ rfl) (by rw [nn_len]; exact blockN_len _ _ _ rfl) (.inr rfl) false (by simp)) ⟨BL, R, D, b5, b6, b8, b11, b13, IN, W, b14, b15, U1, U2, by omega⟩ ?_
          simp only [List.set_cons_zero, List.set_cons_succ]
          refine zv 48 86 (.bool false) (fun _ _ => .of) ⟨BL, R, D, b5, b6, b8, b11, b13, IN, W, b14, b15, U1, U2, by omega⟩ ?_
          simp only [List.set_cons_zero, List.set_cons_succ]
          refine zd (by kernel_rfl) ?_ _
          refine hK7 _ _ ?_
          refine cF ?_
          refine wp_skip ?_
          refine hK6 _ _ ?_
          refine wp_seq_k fun K8 hK8 => ?_
          refine cPlain ?_
          refine sv 87 (.int .i64 n) .of ?_
          simp only [List.set_cons_zero, List.set_cons_succ]
          refine xCall 88 37 #[.int .i64 n] (by kernel_rfl) ?_
          refine (pad_int n w133).mono ?_
          rintro en w134 ⟨v1, rfl, hP1, hb1⟩
          have hp1l := hP1.lt
          have e46 := belE0 hb1
          have ze46 := e46.size
          replace BL := BL.e0 e46
          replace R := R.e0 e46
          replace D := D.e0 e46
          replace b5 := b5.e0 e46
          replace b6 := b6.e0 e46
          replace b8 := b8.e0 e46
          replace b11 := b11.e0 e46
          replace b13 := b13.e0 e46
          replace IN := IN.e0 e46
          replace W := W.e0 e46
          replace b14 := b14.e0 e46
          replace b15 := b15.e0 e46
          replace U1 := U1.e0 e46
          replace U2 := U2.e0 e46
          clear e46
          have P1 : SL .u8 w134 v1 (nn (padI n)) := hP1
          refine ⟨v1, rfl, ?_⟩
          simp only [List.set_cons_zero, List.set_cons_succ]
          refine sv 89 (.int .i64 n) .of ?_
          simp only [List.set_cons_zero, List.set_cons_succ]
          refine xCall 90 45 #[.int .i64 n] (by kernel_rfl) ?_
          refine (rpad_int n w134).mono ?_
          rintro en w135 ⟨v2, rfl, hP2, hb1⟩
          have hp2l := hP2.lt
          have e47 := belE0 hb1
          have ze47 := e47.size
          replace BL := BL.e0 e47
          replace R := R.e0 e47
          replace D := D.e0 e47
          replace b5 := b5.e0 e47
          replace b6 := b6.e0 e47
          replace b8 := b8.e0 e47
          replace b11 := b11.e0 e47
          replace b13 := b13.e0 e47
          replace IN := IN.e0 e47
          replace W := W.e0 e47
          replace b14 := b14.e0 e47
          replace b15 := b15.e0 e47
          replace U1 := U1.e0 e47
          replace U2 := U2.e0 e47
          replace P1 := P1.e0 e47
          clear e47
          have P2 : SL .u8 w135 v2 (nn (padI n)) := hP2
          refine ⟨v2, rfl, ?_⟩
          simp only [List.set_cons_zero, List.set_cons_succ]
          refine xCall 91 16 #[v1, v2] (by kernel_rfl) ?_
          refine (same_any _ _ (nn (padI n)) (nn (padI n)) w135 P1 P2 (bytes_nn (padI_b n)) (bytes_nn (padI_b n))).mono ?_
          rintro en w136 ⟨he, hw⟩
          rw [decide_eq_true rfl] at he
          subst he
          obtain rfl := (hw.symm).symm
          refine ⟨.bool true, rfl, ?_⟩
          simp only [List.set_cons_zero, List.set_cons_succ]
          refine sv 92 (.bool true) .of ?_
          simp only [List.set_cons_zero, List.set_cons_succ]
          refine xCall 93 38 #[] (by kernel_rfl) ?_
          refine (awake02_any w135).mono ?_
          rintro en w137 ⟨rfl, hb1⟩
          have e48 := belE0 hb1
          have ze48 := e48.size
          replace BL := BL.e0 e48
          replace R := R.e0 e48
          replace D := D.e0 e48
          replace b5 := b5.e0 e48
          replace b6 := b6.e0 e48
          replace b8 := b8.e0 e48
          replace b11 := b11.e0 e48
          replace b13 := b13.e0 e48
          replace IN := IN.e0 e48
          replace W := W.e0 e48
          replace b14 := b14.e0 e48
          replace b15 := b15.e0 e48
          replace U1 := U1.e0 e48
          replace U2 := U2.e0 e48
          replace P1 := P1.e0 e48
          replace P2 := P2.e0 e48
          clear e48
          refine ⟨.bool true, rfl, ?_⟩
          simp only [List.set_cons_zero, List.set_cons_succ]
          refine sv 94 (.bool true) .of ?_
          simp only [List.set_cons_zero, List.set_cons_succ]
          refine sv 10 (.bool true) .of ?_
          simp only [List.set_cons_zero, List.set_cons_succ]
          refine wpList_nil ?_
          refine hK8 _ _ ?_
          refine wp_ret ?_
          (try simp only [Exit.then, Exit.inBlock])
          refine bodyPost_ret (v := .bool true) rT rfl ?_
          exact ⟨rfl, BL.b⟩

end Go.Proofs.Ytoeaekamoejhcaa
