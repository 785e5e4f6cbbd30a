/-
  MerkleTells: the walk.
-/
import Derived.Test.YteaijjefbadnbaaMerkA
import Derived.Test.YteaijjefbadnbaaR10P
import Derived.Test.YteaijjefbadnbaaPk2
namespace Go.Proofs.Yteaijjefbadnbaa
open Go.RowKit
set_option linter.unusedVariables false
set_option linter.unusedSimpArgs false
set_option maxRecDepth 100000
attribute [local irreducible] wpList Code.wp wpAnyZ taggedN mnode
/-- What Root answers. -/
def rootT (tab : List Nat) (es : List (List Nat)) : List Nat × Int := match heightN es.length with | some h => (mroot tab h es, 0) | none => (List.replicate 32 0, 2)
def pathT (tab : List Nat) (es : List (List Nat)) (leaf : Int) : Int × List (List Nat) × Int :=
  match heightN es.length with
  | some h => if 0 ≤ leaf ∧ leaf < (es.length : Int) then (leaf, mpath tab h es leaf.toNat, 0) else (0, [], 2)
  | none => (0, [], 2)
def climbT (tab dx : List Nat) (leaf : Int) (bs : List (List Nat)) : List Nat × Int := if mright bs.length leaf then (mclimb tab dx leaf.toNat bs, 0) else (List.replicate 32 0, 2)
theorem rootT_len (tab : List Nat) (es : List (List Nat)) (h32 : ∀ d ∈ es, d.length = 32) : (rootT tab es).1.length = 32 := by
  unfold rootT
  cases e : heightN es.length with
  | none => rfl
  | some h => exact mroot_len tab h es (heightN_some e).1 h32
theorem rootT_b (tab : List Nat) (es : List (List Nat)) (hb : B8 es) : ∀ x ∈ (rootT tab es).1, x < 256 := by
  unfold rootT
  cases e : heightN es.length with
  | none => intro x hx; rw [List.eq_of_mem_replicate hx]; omega
  | some h => exact mroot_b tab h es (heightN_some e).1 hb
theorem climbT_len (tab dx : List Nat) (leaf : Int) (bs : List (List Nat)) (hx : dx.length = 32) : (climbT tab dx leaf bs).1.length = 32 := by
  unfold climbT
  split
  · exact mclimb_len tab _ _ _ hx
  · rfl
theorem mroot_tot (T : Nat) (tab : List Nat) (ht : tab.length = 72) (w : World) (TB : Blk .u32 w T 26 (nn tab)) (v : Value) (es : List (List Nat)) (D : SE .u8 32 w v (nnd es)) (hes : ∀ d ∈ es, d.length = 32) (hl : es.length ≤ 1000) :
    Calls Try.prog 45 #[.pointer (some ⟨T, 0, none⟩), v] w fun e w' => e = .returned (.tuple #[.agg (cellsOf .u8 (nn (rootT tab es).1)), .int .i64 (rootT tab es).2]) ∧ Below w.heap.size w w' := by
  unfold rootT
  cases e : heightN es.length with
  | none => exact mroot_no _ _ es w D hl e
  | some h => exact mroot_any T tab ht w TB v es D hes h (heightN_some e).2 (heightN_some e).1
theorem r10Root_tot (tab : List Nat) (ht : tab.length = 72) (h32 : ∀ x ∈ tab, x < 4294967296) (w : World) (v : Value) (es : List (List Nat)) (D : SE .u8 32 w v (nnd es)) (hes : ∀ d ∈ es, d.length = 32) (hb : B8 es) :
    Calls Try.prog 50 #[.agg (cellsOf .u32 (nn tab)), v] w fun e w' => e = .returned (.tuple #[.agg (cellsOf .u8 (nn (rootT tab es).1)), .int .i64 (rootT tab es).2]) ∧ Below w.heap.size w w' := by
  unfold rootT
  cases e : heightN es.length with
  | none => exact r10Root_no tab ht h32 w v es D e
  | some h => exact r10Root_any tab ht h32 w v es D hes hb h (heightN_some e).2 (heightN_some e).1
theorem mpath_tot (T : Nat) (tab : List Nat) (ht : tab.length = 72) (w : World) (TB : Blk .u32 w T 26 (nn tab)) (v : Value) (es : List (List Nat)) (leaf : Int) (D : SE .u8 32 w v (nnd es)) (hes : ∀ d ∈ es, d.length = 32) (hl : es.length ≤ 1000) :
    Calls Try.prog 46 #[.pointer (some ⟨T, 0, none⟩), v, .int .i64 leaf] w fun e w' => ∃ (A : Option Addr) (n C : Nat), e = .returned (.tuple #[.agg #[.int .i64 (pathT tab es leaf).1, .slice A n C], .int .i64 (pathT tab es leaf).2.2]) ∧ OwnE 37 .u8 32 w.heap.size w' (.slice A n C) (nnd (pathT tab es leaf).2.1) ∧ Below w.heap.size w w' := by
  by_cases hlf : 0 ≤ leaf ∧ leaf < (es.length : Int)
  · obtain ⟨k, rfl⟩ : ∃ k : Nat, leaf = (k : Int) := ⟨leaf.toNat, by omega⟩
    unfold pathT
    cases e : heightN es.length with
    | none =>
      refine (mpath_no _ v es k w D (by omega) hl e).mono ?_
      rintro _ w' ⟨rfl, hb⟩
      exact ⟨_, _, _, rfl, OwnE.nil _ _ _ _ _, hb⟩
    | some h =>
      simp only [if_pos hlf, Int.toNat_natCast]
      have hn := (heightN_some e).1
      exact mpath_any T tab ht w TB v es D hes h (heightN_some e).2 hn k (by omega)
  · have e0 : pathT tab es leaf = (0, [], 2) := by
      unfold pathT
      cases e : heightN es.length with
      | none => rfl
      | some h => simp only [if_neg hlf]
    rw [e0]
    refine (mpath_bad _ v es leaf w D (by omega)).mono ?_
    rintro _ w' ⟨rfl, hb⟩
    exact ⟨_, _, _, rfl, OwnE.nil _ _ _ _ _, hb⟩
theorem r10path_tot (tab : List Nat) (ht : tab.length = 72) (h32 : ∀ x ∈ tab, x < 4294967296) (w : World) (v : Value) (es : List (List Nat)) (leaf : Int) (D : SE .u8 32 w v (nnd es)) (hes : ∀ d ∈ es, d.length = 32) (hb8 : B8 es) :
    Calls Try.prog 51 #[.agg (cellsOf .u32 (nn tab)), v, .int .i64 leaf] w fun e w' => ∃ (A : Option Addr) (n C : Nat), e = .returned (.tuple #[.agg #[.int .i64 (pathT tab es leaf).1, .slice A n C], .int .i64 (pathT tab es leaf).2.2]) ∧ OwnE 37 .u8 32 w.heap.size w' (.slice A n C) (nnd (pathT tab es leaf).2.1) ∧ Below w.heap.size w w' := by
  cases e : heightN es.length with
  | none =>
    have e0 : pathT tab es leaf = (0, [], 2) := by unfold pathT; rw [e]
    rw [e0]
    refine (r10path_no tab ht h32 w v es leaf D e).mono ?_
    rintro _ w' ⟨rfl, hb⟩
    exact ⟨_, _, _, rfl, OwnE.nil _ _ _ _ _, hb⟩
  | some h =>
    have hn := (heightN_some e).1
    have hh := (heightN_some e).2
    by_cases hlf : 0 ≤ leaf ∧ leaf < (es.length : Int)
    · obtain ⟨k, rfl⟩ : ∃ k : Nat, leaf = (k : Int) := ⟨leaf.toNat, by omega⟩
      have e0 : pathT tab es (k : Int) = ((k : Int), mpath tab h es k, 0) := by unfold pathT; rw [e]; simp only [if_pos hlf, Int.toNat_natCast]
      rw [e0]
      exact r10path_any tab ht h32 w v es D hes hb8 h hh hn k (by omega)
    · have e0 : pathT tab es leaf = (0, [], 2) := by unfold pathT; rw [e]; simp only [if_neg hlf]
      rw [e0]
      refine (r10path_bad tab ht h32 w v es leaf D h hh hn (by omega)).mono ?_
      rintro _ w' ⟨rfl, hb⟩
      exact ⟨_, _, _, rfl, OwnE.nil _ _ _ _ _, hb⟩
theorem mright_nat {m : Nat} {leaf : Int} (h : mright m leaf = true) : m ≤ 8 ∧ ∃ k : Nat, leaf = (k : Int) ∧ k < 2 ^ m := by
  have := of_decide_eq_true h
  exact ⟨this.1, leaf.toNat, by omega, by omega⟩
theorem mclimb_tot (T : Nat) (tab : List Nat) (ht : tab.length = 72) (w : World) (TB : Blk .u32 w T 26 (nn tab)) (dx : List Nat) (hx : dx.length = 32) (leaf : Int) (A : Option Addr) (C : Nat) (bs : List (List Nat)) (D : SE .u8 32 w (.slice A bs.length C) (nnd bs)) (hbs : ∀ d ∈ bs, d.length = 32) :
    Calls Try.prog 43 #[.pointer (some ⟨T, 0, none⟩), .agg (cellsOf .u8 (nn dx)), .agg #[.int .i64 leaf, .slice A bs.length C]] w fun e w' => e = .returned (.tuple #[.agg (cellsOf .u8 (nn (climbT tab dx leaf bs).1)), .int .i64 (climbT tab dx leaf bs).2]) ∧ Below w.heap.size w w' := by
  unfold climbT
  cases e : mright bs.length leaf with
  | true =>
    obtain ⟨h8, k, rfl, hk⟩ := mright_nat e
    simp only [if_true, Int.toNat_natCast]
    exact mclimb_any T tab ht w TB dx hx k A C bs D hbs h8 hk
  | false =>
    simp only [Bool.false_eq_true, if_false]
    exact mclimb_no _ dx hx leaf A _ C w e
theorem r10climb_tot (tab : List Nat) (ht : tab.length = 72) (h32 : ∀ x ∈ tab, x < 4294967296) (w : World) (dx : List Nat) (hx : dx.length = 32) (hx8 : ∀ x ∈ dx, x < 256) (leaf : Int) (A : Option Addr) (C : Nat) (bs : List (List Nat)) (D : SE .u8 32 w (.slice A bs.length C) (nnd bs)) (hbs : ∀ d ∈ bs, d.length = 32) (hb8 : B8 bs) :
    Calls Try.prog 52 #[.agg (cellsOf .u32 (nn tab)), .agg (cellsOf .u8 (nn dx)), .agg #[.int .i64 leaf, .slice A bs.length C]] w fun e w' => e = .returned (.tuple #[.agg (cellsOf .u8 (nn (climbT tab dx leaf bs).1)), .int .i64 (climbT tab dx leaf bs).2]) ∧ Below w.heap.size w w' := by
  unfold climbT
  cases e : mright bs.length leaf with
  | true =>
    obtain ⟨h8, k, rfl, hk⟩ := mright_nat e
    simp only [if_true, Int.toNat_natCast]
    exact r10climb_any tab ht h32 w dx hx hx8 k A C bs D hbs hb8 h8 hk
  | false =>
    simp only [Bool.false_eq_true, if_false]
    exact r10climb_no tab ht h32 w dx hx leaf A _ C e

set_option maxHeartbeats 8000000 in
theorem merkleTells_walk (tab : List Nat) (ht : tab.length = 72) (h32 : ∀ x ∈ tab, x < 4294967296) (w : World) (v : Value) (es : List (List Nat)) (D : SE .u8 32 w v (nnd es)) (hes8 : B8 es) (leaf : Int) (pl : Int) (pv : Value) (bs : List (List Nat)) (PD : SE .u8 32 w pv (nnd bs)) (hbs8 : B8 bs) (dx : List Nat) (hx : dx.length = 32) (hx8 : ∀ x ∈ dx, x < 256) :
    Calls Try.prog 11 #[.agg (cellsOf .u32 (nn tab)), v, .int .i64 leaf, .agg #[.int .i64 pl, pv], .agg (cellsOf .u8 (nn dx))] w fun e w' => e = .returned (.bool true) ∧ Below w.heap.size w w' := by
  have BL := Bl.refl w
  have hvl := D.lt
  have hpvl := PD.lt
  have hes := nnd_lens D.lens
  have hbs := nnd_lens PD.lens
  obtain ⟨vA, vC, hv, hvc⟩ := D.len
  rw [nnd_len] at hv hvc
  subst hv
  obtain ⟨pA, pC, hpv, hpvc⟩ := PD.len
  rw [nnd_len] at hpv hpvc
  subst hpv
  have hrl := rootT_len tab es hes
  have hrb8 := rootT_b tab es hes8
  have hcl := climbT_len tab dx pl bs hx
  obtain ⟨rt, re, hrt⟩ : ∃ a b, rootT tab es = (a, b) := ⟨_, _, rfl⟩
  rw [hrt] at hrl hrb8
  replace hrl : rt.length = 32 := hrl
  obtain ⟨ct, ce, hct⟩ : ∃ a b, climbT tab dx pl bs = (a, b) := ⟨_, _, rfl⟩
  rw [hct] at hcl
  replace hcl : ct.length = 32 := hcl
  obtain ⟨pl2, pb, pe, hpt⟩ : ∃ a b c, pathT tab es leaf = (a, b, c) := ⟨_, _, _, rfl⟩
  obtain ⟨rb, hrb⟩ : ∃ b, mright bs.length pl = b := ⟨_, rfl⟩
  have hnl := mnode_len tab dx rt
  go_enter Try.func11, Try.ntmps11
  refine wp_seq_k fun K1 hK1 => ?_
  refine cPlain ?_
  refine xBox 5 26 _ ((nn tab).map (Value.int .u32)) rfl (cells_toList _ _) ?_
  intro w1 n1
  have zn1 := n1.z
  have b5 := n1.c
  replace b5 : Blk .u32 w1 w.heap.size 26 (nn tab) := b5
  replace BL := BL.e0 n1.e
  replace D := D.e0 n1.e
  replace PD := PD.e0 n1.e
  simp only [List.set_cons_zero, List.set_cons_succ]
  refine xBox 8 66 _ [.int .i64 pl, .slice pA bs.length pC] rfl (by kernel_rfl) ?_
  intro w2 n2
  have zn2 := n2.z
  have b8 := n2.c
  replace BL := BL.e0 n2.e
  replace D := D.e0 n2.e
  replace PD := PD.e0 n2.e
  replace b5 := b5.e0 n2.e
  simp only [List.set_cons_zero, List.set_cons_succ]
  refine xBox 9 37 _ ((nn (dx)).map (Value.int .u8)) rfl (cells_toList _ _) ?_
  intro w3 n3
  have zn3 := n3.z
  have b9 := n3.c
  replace b9 : Blk .u8 w3 w2.heap.size 37 (nn (dx)) := b9
  replace BL := BL.e0 n3.e
  replace D := D.e0 n3.e
  replace PD := PD.e0 n3.e
  replace b5 := b5.e0 n3.e
  replace b8 := b8.e0 n3.e
  simp only [List.set_cons_zero, List.set_cons_succ]
  refine sv 10 (.bool false) .of ?_
  simp only [List.set_cons_zero, List.set_cons_succ]
  refine wpList_nil ?_
  refine hK1 _ _ ?_
  refine wp_seq_k fun K2 hK2 => ?_
  refine wp_seq_k fun K3 hK3 => ?_
  refine cPlain ?_
  refine sv 24 (.slice vA es.length vC) .of ?_
  simp only [List.set_cons_zero, List.set_cons_succ]
  refine sv 25 (.int .i64 (es.length : Int)) .of ?_
  simp only [List.set_cons_zero, List.set_cons_succ]
  refine sv 26 (.bool (decide (40 < (es.length : Int)))) (Val.cmp .gtr 3 _ (.tmp 25) _ rfl .i64 (es.length : Int) 40 (by kernel_rfl) (by kernel_rfl) (by simp) _ rfl) ?_
  simp only [List.set_cons_zero, List.set_cons_succ]
  refine sv 27 (.bool (decide (40 < (es.length : Int)))) .of ?_
  simp only [List.set_cons_zero, List.set_cons_succ]
  by_cases g28 : 40 < (es.length : Int)
  · skip
    have dg28 : decide (40 < (es.length : Int)) = true := decide_eq_true g28
    simp only [dg28]
    clear dg28
    refine xSkip 28 ?_
    simp only [List.set_cons_zero, List.set_cons_succ]
    refine xSkip 29 ?_
    simp only [List.set_cons_zero, List.set_cons_succ]
    refine xSkip 30 ?_
    simp only [List.set_cons_zero, List.set_cons_succ]
    refine xSkip 31 ?_
    simp only [List.set_cons_zero, List.set_cons_succ]
    refine sv 32 (.bool true) .of ?_
    simp only [List.set_cons_zero, List.set_cons_succ]
    refine wpList_nil ?_
    refine hK3 _ _ ?_
    refine cT ?_
    refine wp_seq_k fun K4 hK4 => ?_
    refine cPlain ?_
    refine xCall 33 41 #[] (by kernel_rfl) ?_
    refine (awake10 w3).mono ?_
    rintro en w4 ⟨rfl, hb1⟩
    have e1 := belE0 hb1
    have ze1 := e1.size
    replace BL := BL.e0 e1
    replace D := D.e0 e1
    replace PD := PD.e0 e1
    replace b5 := b5.e0 e1
    replace b8 := b8.e0 e1
    replace b9 := b9.e0 e1
    clear e1
    refine ⟨.bool true, rfl, ?_⟩
    simp only [List.set_cons_zero, List.set_cons_succ]
    refine sv 10 (.bool true) .of ?_
    simp only [List.set_cons_zero, List.set_cons_succ]
    refine wpList_nil ?_
    refine hK4 _ _ ?_
    refine wp_ret ?_
    (try simp only [Exit.then, Exit.inBlock])
    refine bodyPost_ret (v := .bool true) rT rfl ?_
    exact ⟨rfl, BL.b⟩
  · skip
    have dg28 : decide (40 < (es.length : Int)) = false := decide_eq_false g28
    simp only [dg28]
    clear dg28
    refine sv 28 (.pointer (some ⟨w1.heap.size, 1, none⟩)) .of ?_
    simp only [List.set_cons_zero, List.set_cons_succ]
    refine sv 29 (.slice pA bs.length pC) (Val.cel1 63 _ rfl w1.heap.size 1 _ (by kernel_rfl) (fun _ => (by kernel_rfl)) b8 rfl) ?_
    simp only [List.set_cons_zero, List.set_cons_succ]
    refine sv 30 (.int .i64 (bs.length : Int)) .of ?_
    simp only [List.set_cons_zero, List.set_cons_succ]
    refine sv 31 (.bool (decide (20 < (bs.length : Int)))) (Val.cmp .gtr 3 _ (.tmp 30) _ rfl .i64 (bs.length : Int) 20 (by kernel_rfl) (by kernel_rfl) (by simp) _ rfl) ?_
    simp only [List.set_cons_zero, List.set_cons_succ]
    refine sv 32 (.bool (decide (20 < (bs.length : Int)))) .of ?_
    simp only [List.set_cons_zero, List.set_cons_succ]
    refine wpList_nil ?_
    refine hK3 _ _ ?_
    refine cDec (20 < (bs.length : Int)) (by kernel_rfl) (fun c32 => ?_) (fun c32 => ?_)
    · skip
      refine wp_seq_k fun K5 hK5 => ?_
      refine cPlain ?_
      refine xCall 33 41 #[] (by kernel_rfl) ?_
      refine (awake10 w3).mono ?_
      rintro en w5 ⟨rfl, hb1⟩
      have e2 := belE0 hb1
      have ze2 := e2.size
      replace BL := BL.e0 e2
      replace D := D.e0 e2
      replace PD := PD.e0 e2
      replace b5 := b5.e0 e2
      replace b8 := b8.e0 e2
      replace b9 := b9.e0 e2
      clear e2
      refine ⟨.bool true, rfl, ?_⟩
      simp only [List.set_cons_zero, List.set_cons_succ]
      refine sv 10 (.bool true) .of ?_
      simp only [List.set_cons_zero, List.set_cons_succ]
      refine wpList_nil ?_
      refine hK5 _ _ ?_
      refine wp_ret ?_
      (try simp only [Exit.then, Exit.inBlock])
      refine bodyPost_ret (v := .bool true) rT rfl ?_
      exact ⟨rfl, BL.b⟩
    · skip
      refine wp_skip ?_
      refine hK2 _ _ ?_
      refine wp_seq_k fun K6 hK6 => ?_
      refine cPlain ?_
      refine sv 34 (.slice vA es.length vC) .of ?_
      simp only [List.set_cons_zero, List.set_cons_succ]
      refine xCall 35 48 #[.slice vA es.length vC] (by kernel_rfl) ?_
      refine (copyD_any _ es w3 D (by omega)).mono ?_
      rintro en w6 ⟨r, rfl, hG, hb1⟩
      have e3 := belE0 hb1
      have ze3 := e3.size
      replace BL := BL.e0 e3
      replace D := D.e0 e3
      replace PD := PD.e0 e3
      replace b5 := b5.e0 e3
      replace b8 := b8.e0 e3
      replace b9 := b9.e0 e3
      clear e3
      have K : OwnE 37 .u8 32 w3.heap.size w6 r (nnd es) := hG
      have lK_1 := K.ge
      refine ⟨r, rfl, ?_⟩
      simp only [List.set_cons_zero, List.set_cons_succ]
      refine sv 11 (r) .of ?_
      simp only [List.set_cons_zero, List.set_cons_succ]
      refine wpList_nil ?_
      refine hK6 _ _ ?_
      refine wp_seq_k fun K7 hK7 => ?_
      refine cPlain ?_
      refine sv 37 (r) .of ?_
      simp only [List.set_cons_zero, List.set_cons_succ]
      refine xCall 38 45 #[.pointer (some ⟨w.heap.size, 0, none⟩), r] (by kernel_rfl) ?_
      refine (mroot_tot w.heap.size tab ht w6 b5 _ es K.se hes (by omega)).mono ?_
      rintro en w7 ⟨he, hb1⟩
      rw [hrt] at he
      subst he
      have e4 := belE0 hb1
      have ze4 := e4.size
      replace BL := BL.e0 e4
      replace D := D.e0 e4
      replace PD := PD.e0 e4
      replace b5 := b5.e0 e4
      replace b8 := b8.e0 e4
      replace b9 := b9.e0 e4
      replace K := K.e0 e4
      clear e4
      refine ⟨.tuple #[.agg (cellsOf .u8 (nn (rt))), .int .i64 re], rfl, ?_⟩
      simp only [List.set_cons_zero, List.set_cons_succ]
      refine sv 36 (.tuple #[.agg (cellsOf .u8 (nn (rt))), .int .i64 re]) .of ?_
      simp only [List.set_cons_zero, List.set_cons_succ]
      refine sv 39 (.agg (cellsOf .u8 (nn (rt)))) .of ?_
      simp only [List.set_cons_zero, List.set_cons_succ]
      refine sv 40 (.int .i64 re) .of ?_
      simp only [List.set_cons_zero, List.set_cons_succ]
      refine xAlloc 12 37 ((nn (List.replicate 32 0)).map (Value.int .u8)) rfl (by kernel_rfl) ?_
      intro w8 n4
      have zn4 := n4.z
      have b12 := n4.c
      replace b12 : Blk .u8 w8 w7.heap.size 37 (nn (List.replicate 32 0)) := b12
      replace BL := BL.e0 n4.e
      replace D := D.e0 n4.e
      replace PD := PD.e0 n4.e
      replace b5 := b5.e0 n4.e
      replace b8 := b8.e0 n4.e
      replace b9 := b9.e0 n4.e
      replace K := K.e0 n4.e
      simp only [List.set_cons_zero, List.set_cons_succ]
      refine xStoreA 37 (.tmp 12) (.tmp 39) rfl .u8 w7.heap.size 37 (nn (List.replicate 32 0)) 0 (nn (rt)) (by kernel_rfl) (by kernel_rfl) b12 (by rw [show (nn (rt)).length = 32 by ((try simp only [nn_len, List.length_cons, List.length_nil, List.length_set, List.length_replicate]); try omega)]; kernel_rfl) (by (try simp only [nn_len, List.length_cons, List.length_nil, List.length_set, List.length_replicate]); try omega) (nn (rt)) (over_whole _ _ (by (try simp only [nn_len, List.length_cons, List.length_nil, List.length_set, List.length_replicate]); try omega)) ?_
      intro w9 t1
      have zt1 := t1.z
      have BL_ := BL.ev t1.e (fun i h => show w.heap.size ≤ i by have h : i = w7.heap.size := h; omega)
      have D_ := D.ev t1.e (fun i hi => show ¬ (i = w7.heap.size) by have := hvl i hi; omega)
      have PD_ := PD.ev t1.e (fun i hi => show ¬ (i = w7.heap.size) by have := hpvl i hi; omega)
      have b5_ := b5.ev t1.e (show ¬ (w.heap.size = w7.heap.size) by omega)
      have b8_ := b8.ev t1.e (show ¬ (w1.heap.size = w7.heap.size) by omega)
      have b9_ := b9.ev t1.e (show ¬ (w2.heap.size = w7.heap.size) by omega)
      have K_ := K.ev t1.e (fun i hi => show ¬ (i = w7.heap.size) by have := lK_1 i hi; omega)
      replace BL := BL_; clear BL_
      replace D := D_; clear D_
      replace PD := PD_; clear PD_
      replace b5 := b5_; clear b5_
      replace b8 := b8_; clear b8_
      replace b9 := b9_; clear b9_
      replace K := K_; clear K_
      replace b12 : Blk .u8 w9 w7.heap.size 37 (nn (rt)) := t1.c
      clear t1
      refine sv 13 (.int .i64 re) .of ?_
      simp only [List.set_cons_zero, List.set_cons_succ]
      refine wpList_nil ?_
      refine hK7 _ _ ?_
      refine wp_seq_k fun K8 hK8 => ?_
      refine cPlain ?_
      refine sv 42 (.agg (cellsOf .u32 (nn tab))) (Val.blk 26 _ rfl 0 72 (by kernel_rfl) b5 _ Try.underlying26 rfl (by kernel_rfl) (by (try simp only [nn_len, List.length_cons, List.length_nil, List.length_set, List.length_replicate]); try omega) _ (seg_all' _ (by (try simp only [nn_len, List.length_cons, List.length_nil, List.length_set, List.length_replicate]); try omega))) ?_
      simp only [List.set_cons_zero, List.set_cons_succ]
      refine sv 43 (.slice vA es.length vC) .of ?_
      simp only [List.set_cons_zero, List.set_cons_succ]
      refine xCall 44 50 #[.agg (cellsOf .u32 (nn tab)), .slice vA es.length vC] (by kernel_rfl) ?_
      refine (r10Root_tot tab ht h32 w9 _ es D hes hes8).mono ?_
      rintro en w10 ⟨he, hb1⟩
      rw [hrt] at he
      subst he
      have e5 := belE0 hb1
      have ze5 := e5.size
      replace BL := BL.e0 e5
      replace D := D.e0 e5
      replace PD := PD.e0 e5
      replace b5 := b5.e0 e5
      replace b8 := b8.e0 e5
      replace b9 := b9.e0 e5
      replace K := K.e0 e5
      replace b12 := b12.e0 e5
      clear e5
      refine ⟨.tuple #[.agg (cellsOf .u8 (nn (rt))), .int .i64 re], rfl, ?_⟩
      simp only [List.set_cons_zero, List.set_cons_succ]
      refine sv 41 (.tuple #[.agg (cellsOf .u8 (nn (rt))), .int .i64 re]) .of ?_
      simp only [List.set_cons_zero, List.set_cons_succ]
      refine sv 45 (.agg (cellsOf .u8 (nn (rt)))) .of ?_
      simp only [List.set_cons_zero, List.set_cons_succ]
      refine sv 46 (.int .i64 re) .of ?_
      simp only [List.set_cons_zero, List.set_cons_succ]
      refine xAlloc 14 37 ((nn (List.replicate 32 0)).map (Value.int .u8)) rfl (by kernel_rfl) ?_
      intro w11 n5
      have zn5 := n5.z
      have b14 := n5.c
      replace b14 : Blk .u8 w11 w10.heap.size 37 (nn (List.replicate 32 0)) := b14
      replace BL := BL.e0 n5.e
      replace D := D.e0 n5.e
      replace PD := PD.e0 n5.e
      replace b5 := b5.e0 n5.e
      replace b8 := b8.e0 n5.e
      replace b9 := b9.e0 n5.e
      replace K := K.e0 n5.e
      replace b12 := b12.e0 n5.e
      simp only [List.set_cons_zero, List.set_cons_succ]
      refine xStoreA 37 (.tmp 14) (.tmp 45) rfl .u8 w10.heap.size 37 (nn (List.replicate 32 0)) 0 (nn (rt)) (by kernel_rfl) (by kernel_rfl) b14 (by rw [show (nn (rt)).length = 32 by ((try simp only [nn_len, List.length_cons, List.length_nil, List.length_set, List.length_replicate]); try omega)]; kernel_rfl) (by (try simp only [nn_len, List.length_cons, List.length_nil, List.length_set, List.length_replicate]); try omega) (nn (rt)) (over_whole _ _ (by (try simp only [nn_len, List.length_cons, List.length_nil, List.length_set, List.length_replicate]); try omega)) ?_
      intro w12 t2
      have zt2 := t2.z
      have BL_ := BL.ev t2.e (fun i h => show w.heap.size ≤ i by have h : i = w10.heap.size := h; omega)
      have D_ := D.ev t2.e (fun i hi => show ¬ (i = w10.heap.size) by have := hvl i hi; omega)
      have PD_ := PD.ev t2.e (fun i hi => show ¬ (i = w10.heap.size) by have := hpvl i hi; omega)
      have b5_ := b5.ev t2.e (show ¬ (w.heap.size = w10.heap.size) by omega)
      have b8_ := b8.ev t2.e (show ¬ (w1.heap.size = w10.heap.size) by omega)
      have b9_ := b9.ev t2.e (show ¬ (w2.heap.size = w10.heap.size) by omega)
      have K_ := K.ev t2.e (fun i hi => show ¬ (i = w10.heap.size) by have := lK_1 i hi; omega)
      have b12_ := b12.ev t2.e (show ¬ (w7.heap.size = w10.heap.size) by omega)
      replace BL := BL_; clear BL_
      replace D := D_; clear D_
      replace PD := PD_; clear PD_
      replace b5 := b5_; clear b5_
      replace b8 := b8_; clear b8_
      replace b9 := b9_; clear b9_
      replace K := K_; clear K_
      replace b12 := b12_; clear b12_
      replace b14 : Blk .u8 w12 w10.heap.size 37 (nn (rt)) := t2.c
      clear t2
      refine sv 15 (.int .i64 re) .of ?_
      simp only [List.set_cons_zero, List.set_cons_succ]
      refine wpList_nil ?_
      refine hK8 _ _ ?_
      refine wp_seq_k fun K9 hK9 => ?_
      refine cPlain ?_
      refine sv 48 (r) .of ?_
      simp only [List.set_cons_zero, List.set_cons_succ]
      refine sv 49 (.int .i64 leaf) .of ?_
      simp only [List.set_cons_zero, List.set_cons_succ]
      refine xCall 50 46 #[.pointer (some ⟨w.heap.size, 0, none⟩), r, .int .i64 leaf] (by kernel_rfl) ?_
      refine (mpath_tot w.heap.size tab ht w12 b5 _ es leaf K.se hes (by omega)).mono ?_
      rintro en w13 ⟨A1, m1, C1, he, hBO, hb1⟩
      rw [hpt] at he hBO
      subst he
      have e6 := belE0 hb1
      have ze6 := e6.size
      replace BL := BL.e0 e6
      replace D := D.e0 e6
      replace PD := PD.e0 e6
      replace b5 := b5.e0 e6
      replace b8 := b8.e0 e6
      replace b9 := b9.e0 e6
      replace K := K.e0 e6
      replace b12 := b12.e0 e6
      replace b14 := b14.e0 e6
      clear e6
      have P1 : OwnE 37 .u8 32 w12.heap.size w13 (.slice A1 m1 C1) (nnd pb) := hBO
      have lP1_1 := P1.ge
      refine ⟨.tuple #[.agg #[.int .i64 pl2, .slice A1 m1 C1], .int .i64 pe], rfl, ?_⟩
      simp only [List.set_cons_zero, List.set_cons_succ]
      refine sv 47 (.tuple #[.agg #[.int .i64 pl2, .slice A1 m1 C1], .int .i64 pe]) .of ?_
      simp only [List.set_cons_zero, List.set_cons_succ]
      refine sv 51 (.agg #[.int .i64 pl2, .slice A1 m1 C1]) .of ?_
      simp only [List.set_cons_zero, List.set_cons_succ]
      refine sv 52 (.int .i64 pe) .of ?_
      simp only [List.set_cons_zero, List.set_cons_succ]
      refine xAlloc 16 66 [.int .i64 0, .slice none 0 0] rfl (by kernel_rfl) ?_
      intro w14 n6
      have zn6 := n6.z
      have b16 := n6.c
      replace BL := BL.e0 n6.e
      replace D := D.e0 n6.e
      replace PD := PD.e0 n6.e
      replace b5 := b5.e0 n6.e
      replace b8 := b8.e0 n6.e
      replace b9 := b9.e0 n6.e
      replace K := K.e0 n6.e
      replace b12 := b12.e0 n6.e
      replace b14 := b14.e0 n6.e
      replace P1 := P1.e0 n6.e
      simp only [List.set_cons_zero, List.set_cons_succ]
      refine xStoreR 66 (.tmp 16) (.tmp 51) rfl w13.heap.size 66 [.int .i64 0, .slice none 0 0] 0 [.int .i64 pl2, .slice A1 m1 C1] (by kernel_rfl) (by kernel_rfl) b16 (by kernel_rfl) (by simp) rfl [.int .i64 pl2, .slice A1 m1 C1] rfl ?_
      intro w15 t3
      have zt3 := t3.z
      have BL_ := BL.ev t3.e (fun i h => show w.heap.size ≤ i by have h : i = w13.heap.size := h; omega)
      have D_ := D.ev t3.e (fun i hi => show ¬ (i = w13.heap.size) by have := hvl i hi; omega)
      have PD_ := PD.ev t3.e (fun i hi => show ¬ (i = w13.heap.size) by have := hpvl i hi; omega)
      have b5_ := b5.ev t3.e (show ¬ (w.heap.size = w13.heap.size) by omega)
      have b8_ := b8.ev t3.e (show ¬ (w1.heap.size = w13.heap.size) by omega)
      have b9_ := b9.ev t3.e (show ¬ (w2.heap.size = w13.heap.size) by omega)
      have K_ := K.ev t3.e (fun i hi => show ¬ (i = w13.heap.size) by have := lK_1 i hi; omega)
      have b12_ := b12.ev t3.e (show ¬ (w7.heap.size = w13.heap.size) by omega)
      have b14_ := b14.ev t3.e (show ¬ (w10.heap.size = w13.heap.size) by omega)
      have P1_ := P1.ev t3.e (fun i hi => show ¬ (i = w13.heap.size) by have := lP1_1 i hi; omega)
      replace BL := BL_; clear BL_
      replace D := D_; clear D_
      replace PD := PD_; clear PD_
      replace b5 := b5_; clear b5_
      replace b8 := b8_; clear b8_
      replace b9 := b9_; clear b9_
      replace K := K_; clear K_
      replace b12 := b12_; clear b12_
      replace b14 := b14_; clear b14_
      replace P1 := P1_; clear P1_
      replace b16 : Cel w15 w13.heap.size 66 [.int .i64 pl2, .slice A1 m1 C1] := t3.c
      clear t3
      refine sv 17 (.int .i64 pe) .of ?_
      simp only [List.set_cons_zero, List.set_cons_succ]
      refine wpList_nil ?_
      refine hK9 _ _ ?_
      refine wp_seq_k fun K10 hK10 => ?_
      refine cPlain ?_
      refine sv 54 (.agg (cellsOf .u32 (nn tab))) (Val.blk 26 _ rfl 0 72 (by kernel_rfl) b5 _ Try.underlying26 rfl (by kernel_rfl) (by (try simp only [nn_len, List.length_cons, List.length_nil, List.length_set, List.length_replicate]); try omega) _ (seg_all' _ (by (try simp only [nn_len, List.length_cons, List.length_nil, List.length_set, List.length_replicate]); try omega))) ?_
      simp only [List.set_cons_zero, List.set_cons_succ]
      refine sv 55 (.slice vA es.length vC) .of ?_
      simp only [List.set_cons_zero, List.set_cons_succ]
      refine sv 56 (.int .i64 leaf) .of ?_
      simp only [List.set_cons_zero, List.set_cons_succ]
      refine xCall 57 51 #[.agg (cellsOf .u32 (nn tab)), .slice vA es.length vC, .int .i64 leaf] (by kernel_rfl) ?_
      refine (r10path_tot tab ht h32 w15 _ es leaf D hes hes8).mono ?_
      rintro en w16 ⟨A2, m2, C2, he, hBO, hb1⟩
      rw [hpt] at he hBO
      subst he
      have e7 := belE0 hb1
      have ze7 := e7.size
      replace BL := BL.e0 e7
      replace D := D.e0 e7
      replace PD := PD.e0 e7
      replace b5 := b5.e0 e7
      replace b8 := b8.e0 e7
      replace b9 := b9.e0 e7
      replace K := K.e0 e7
      replace b12 := b12.e0 e7
      replace b14 := b14.e0 e7
      replace P1 := P1.e0 e7
      replace b16 := b16.e0 e7
      clear e7
      have P2 : OwnE 37 .u8 32 w15.heap.size w16 (.slice A2 m2 C2) (nnd pb) := hBO
      have lP2_1 := P2.ge
      refine ⟨.tuple #[.agg #[.int .i64 pl2, .slice A2 m2 C2], .int .i64 pe], rfl, ?_⟩
      simp only [List.set_cons_zero, List.set_cons_succ]
      refine sv 53 (.tuple #[.agg #[.int .i64 pl2, .slice A2 m2 C2], .int .i64 pe]) .of ?_
      simp only [List.set_cons_zero, List.set_cons_succ]
      refine sv 58 (.agg #[.int .i64 pl2, .slice A2 m2 C2]) .of ?_
      simp only [List.set_cons_zero, List.set_cons_succ]
      refine sv 59 (.int .i64 pe) .of ?_
      simp only [List.set_cons_zero, List.set_cons_succ]
      refine xAlloc 18 66 [.int .i64 0, .slice none 0 0] rfl (by kernel_rfl) ?_
      intro w17 n7
      have zn7 := n7.z
      have b18 := n7.c
      replace BL := BL.e0 n7.e
      replace D := D.e0 n7.e
      replace PD := PD.e0 n7.e
      replace b5 := b5.e0 n7.e
      replace b8 := b8.e0 n7.e
      replace b9 := b9.e0 n7.e
      replace K := K.e0 n7.e
      replace b12 := b12.e0 n7.e
      replace b14 := b14.e0 n7.e
      replace P1 := P1.e0 n7.e
      replace b16 := b16.e0 n7.e
      replace P2 := P2.e0 n7.e
      simp only [List.set_cons_zero, List.set_cons_succ]
      refine xStoreR 66 (.tmp 18) (.tmp 58) rfl w16.heap.size 66 [.int .i64 0, .slice none 0 0] 0 [.int .i64 pl2, .slice A2 m2 C2] (by kernel_rfl) (by kernel_rfl) b18 (by kernel_rfl) (by simp) rfl [.int .i64 pl2, .slice A2 m2 C2] rfl ?_
      intro w18 t4
      have zt4 := t4.z
      have BL_ := BL.ev t4.e (fun i h => show w.heap.size ≤ i by have h : i = w16.heap.size := h; omega)
      have D_ := D.ev t4.e (fun i hi => show ¬ (i = w16.heap.size) by have := hvl i hi; omega)
      have PD_ := PD.ev t4.e (fun i hi => show ¬ (i = w16.heap.size) by have := hpvl i hi; omega)
      have b5_ := b5.ev t4.e (show ¬ (w.heap.size = w16.heap.size) by omega)
      have b8_ := b8.ev t4.e (show ¬ (w1.heap.size = w16.heap.size) by omega)
      have b9_ := b9.ev t4.e (show ¬ (w2.heap.size = w16.heap.size) by omega)
      have K_ := K.ev t4.e (fun i hi => show ¬ (i = w16.heap.size) by have := lK_1 i hi; omega)
      have b12_ := b12.ev t4.e (show ¬ (w7.heap.size = w16.heap.size) by omega)
      have b14_ := b14.ev t4.e (show ¬ (w10.heap.size = w16.heap.size) by omega)
      have P1_ := P1.ev t4.e (fun i hi => show ¬ (i = w16.heap.size) by have := lP1_1 i hi; omega)
      have b16_ := b16.ev t4.e (show ¬ (w13.heap.size = w16.heap.size) by omega)
      have P2_ := P2.ev t4.e (fun i hi => show ¬ (i = w16.heap.size) by have := lP2_1 i hi; omega)
      replace BL := BL_; clear BL_
      replace D := D_; clear D_
      replace PD := PD_; clear PD_
      replace b5 := b5_; clear b5_
      replace b8 := b8_; clear b8_
      replace b9 := b9_; clear b9_
      replace K := K_; clear K_
      replace b12 := b12_; clear b12_
      replace b14 := b14_; clear b14_
      replace P1 := P1_; clear P1_
      replace b16 := b16_; clear b16_
      replace P2 := P2_; clear P2_
      replace b18 : Cel w18 w16.heap.size 66 [.int .i64 pl2, .slice A2 m2 C2] := t4.c
      clear t4
      refine sv 19 (.int .i64 pe) .of ?_
      simp only [List.set_cons_zero, List.set_cons_succ]
      refine wpList_nil ?_
      refine hK10 _ _ ?_
      refine wp_seq_k fun K11 hK11 => ?_
      refine cPlain ?_
      refine sv 61 (.agg (cellsOf .u8 (nn (dx)))) (Val.blk 37 _ rfl 0 32 (by kernel_rfl) b9 _ Try.underlying37 rfl (by kernel_rfl) (by (try simp only [nn_len, List.length_cons, List.length_nil, List.length_set, List.length_replicate]); try omega) _ (seg_all' _ (by (try simp only [nn_len, List.length_cons, List.length_nil, List.length_set, List.length_replicate]); try omega))) ?_
      simp only [List.set_cons_zero, List.set_cons_succ]
      refine sv 62 (.agg #[.int .i64 pl, .slice pA bs.length pC]) (Val.cel 66 _ rfl 0 2 (by kernel_rfl) b8 _ Try.underlying66 rfl (by kernel_rfl) (by simp) [.int .i64 pl, .slice pA bs.length pC] rfl) ?_
      simp only [List.set_cons_zero, List.set_cons_succ]
      refine xCall 63 43 #[.pointer (some ⟨w.heap.size, 0, none⟩), .agg (cellsOf .u8 (nn (dx))), .agg #[.int .i64 pl, .slice pA bs.length pC]] (by kernel_rfl) ?_
      refine (mclimb_tot w.heap.size tab ht w18 b5 dx hx pl pA pC bs PD hbs).mono ?_
      rintro en w19 ⟨he, hb1⟩
      rw [hct] at he
      subst he
      have e8 := belE0 hb1
      have ze8 := e8.size
      replace BL := BL.e0 e8
      replace D := D.e0 e8
      replace PD := PD.e0 e8
      replace b5 := b5.e0 e8
      replace b8 := b8.e0 e8
      replace b9 := b9.e0 e8
      replace K := K.e0 e8
      replace b12 := b12.e0 e8
      replace b14 := b14.e0 e8
      replace P1 := P1.e0 e8
      replace b16 := b16.e0 e8
      replace P2 := P2.e0 e8
      replace b18 := b18.e0 e8
      clear e8
      refine ⟨.tuple #[.agg (cellsOf .u8 (nn (ct))), .int .i64 ce], rfl, ?_⟩
      simp only [List.set_cons_zero, List.set_cons_succ]
      refine sv 60 (.tuple #[.agg (cellsOf .u8 (nn (ct))), .int .i64 ce]) .of ?_
      simp only [List.set_cons_zero, List.set_cons_succ]
      refine sv 64 (.agg (cellsOf .u8 (nn (ct)))) .of ?_
      simp only [List.set_cons_zero, List.set_cons_succ]
      refine sv 65 (.int .i64 ce) .of ?_
      simp only [List.set_cons_zero, List.set_cons_succ]
      refine xAlloc 20 37 ((nn (List.replicate 32 0)).map (Value.int .u8)) rfl (by kernel_rfl) ?_
      intro w20 n8
      have zn8 := n8.z
      have b20 := n8.c
      replace b20 : Blk .u8 w20 w19.heap.size 37 (nn (List.replicate 32 0)) := b20
      replace BL := BL.e0 n8.e
      replace D := D.e0 n8.e
      replace PD := PD.e0 n8.e
      replace b5 := b5.e0 n8.e
      replace b8 := b8.e0 n8.e
      replace b9 := b9.e0 n8.e
      replace K := K.e0 n8.e
      replace b12 := b12.e0 n8.e
      replace b14 := b14.e0 n8.e
      replace P1 := P1.e0 n8.e
      replace b16 := b16.e0 n8.e
      replace P2 := P2.e0 n8.e
      replace b18 := b18.e0 n8.e
      simp only [List.set_cons_zero, List.set_cons_succ]
      refine xStoreA 37 (.tmp 20) (.tmp 64) rfl .u8 w19.heap.size 37 (nn (List.replicate 32 0)) 0 (nn (ct)) (by kernel_rfl) (by kernel_rfl) b20 (by rw [show (nn (ct)).length = 32 by ((try simp only [nn_len, List.length_cons, List.length_nil, List.length_set, List.length_replicate]); try omega)]; kernel_rfl) (by (try simp only [nn_len, List.length_cons, List.length_nil, List.length_set, List.length_replicate]); try omega) (nn (ct)) (over_whole _ _ (by (try simp only [nn_len, List.length_cons, List.length_nil, List.length_set, List.length_replicate]); try omega)) ?_
      intro w21 t5
      have zt5 := t5.z
      have BL_ := BL.ev t5.e (fun i h => show w.heap.size ≤ i by have h : i = w19.heap.size := h; omega)
      have D_ := D.ev t5.e (fun i hi => show ¬ (i = w19.heap.size) by have := hvl i hi; omega)
      have PD_ := PD.ev t5.e (fun i hi => show ¬ (i = w19.heap.size) by have := hpvl i hi; omega)
      have b5_ := b5.ev t5.e (show ¬ (w.heap.size = w19.heap.size) by omega)
      have b8_ := b8.ev t5.e (show ¬ (w1.heap.size = w19.heap.size) by omega)
      have b9_ := b9.ev t5.e (show ¬ (w2.heap.size = w19.heap.size) by omega)
      have K_ := K.ev t5.e (fun i hi => show ¬ (i = w19.heap.size) by have := lK_1 i hi; omega)
      have b12_ := b12.ev t5.e (show ¬ (w7.heap.size = w19.heap.size) by omega)
      have b14_ := b14.ev t5.e (show ¬ (w10.heap.size = w19.heap.size) by omega)
      have P1_ := P1.ev t5.e (fun i hi => show ¬ (i = w19.heap.size) by have := lP1_1 i hi; omega)
      have b16_ := b16.ev t5.e (show ¬ (w13.heap.size = w19.heap.size) by omega)
      have P2_ := P2.ev t5.e (fun i hi => show ¬ (i = w19.heap.size) by have := lP2_1 i hi; omega)
      have b18_ := b18.ev t5.e (show ¬ (w16.heap.size = w19.heap.size) by omega)
      replace BL := BL_; clear BL_
      replace D := D_; clear D_
      replace PD := PD_; clear PD_
      replace b5 := b5_; clear b5_
      replace b8 := b8_; clear b8_
      replace b9 := b9_; clear b9_
      replace K := K_; clear K_
      replace b12 := b12_; clear b12_
      replace b14 := b14_; clear b14_
      replace P1 := P1_; clear P1_
      replace b16 := b16_; clear b16_
      replace P2 := P2_; clear P2_
      replace b18 := b18_; clear b18_
      replace b20 : Blk .u8 w21 w19.heap.size 37 (nn (ct)) := t5.c
      clear t5
      refine sv 21 (.int .i64 ce) .of ?_
      simp only [List.set_cons_zero, List.set_cons_succ]
      refine wpList_nil ?_
      refine hK11 _ _ ?_
      refine wp_seq_k fun K12 hK12 => ?_
      refine cPlain ?_
      refine sv 67 (.agg (cellsOf .u32 (nn tab))) (Val.blk 26 _ rfl 0 72 (by kernel_rfl) b5 _ Try.underlying26 rfl (by kernel_rfl) (by (try simp only [nn_len, List.length_cons, List.length_nil, List.length_set, List.length_replicate]); try omega) _ (seg_all' _ (by (try simp only [nn_len, List.length_cons, List.length_nil, List.length_set, List.length_replicate]); try omega))) ?_
      simp only [List.set_cons_zero, List.set_cons_succ]
      refine sv 68 (.agg (cellsOf .u8 (nn (dx)))) (Val.blk 37 _ rfl 0 32 (by kernel_rfl) b9 _ Try.underlying37 rfl (by kernel_rfl) (by (try simp only [nn_len, List.length_cons, List.length_nil, List.length_set, List.length_replicate]); try omega) _ (seg_all' _ (by (try simp only [nn_len, List.length_cons, List.length_nil, List.length_set, List.length_replicate]); try omega))) ?_
      simp only [List.set_cons_zero, List.set_cons_succ]
      refine sv 69 (.agg #[.int .i64 pl, .slice pA bs.length pC]) (Val.cel 66 _ rfl 0 2 (by kernel_rfl) b8 _ Try.underlying66 rfl (by kernel_rfl) (by simp) [.int .i64 pl, .slice pA bs.length pC] rfl) ?_
      simp only [List.set_cons_zero, List.set_cons_succ]
      refine xCall 70 52 #[.agg (cellsOf .u32 (nn tab)), .agg (cellsOf .u8 (nn (dx))), .agg #[.int .i64 pl, .slice pA bs.length pC]] (by kernel_rfl) ?_
      refine (r10climb_tot tab ht h32 w21 dx hx hx8 pl pA pC bs PD hbs hbs8).mono ?_
      rintro en w22 ⟨he, hb1⟩
      rw [hct] at he
      subst he
      have e9 := belE0 hb1
      have ze9 := e9.size
      replace BL := BL.e0 e9
      replace D := D.e0 e9
      replace PD := PD.e0 e9
      replace b5 := b5.e0 e9
      replace b8 := b8.e0 e9
      replace b9 := b9.e0 e9
      replace K := K.e0 e9
      replace b12 := b12.e0 e9
      replace b14 := b14.e0 e9
      replace P1 := P1.e0 e9
      replace b16 := b16.e0 e9
      replace P2 := P2.e0 e9
      replace b18 := b18.e0 e9
      replace b20 := b20.e0 e9
      clear e9
      refine ⟨.tuple #[.agg (cellsOf .u8 (nn (ct))), .int .i64 ce], rfl, ?_⟩
      simp only [List.set_cons_zero, List.set_cons_succ]
      refine sv 66 (.tuple #[.agg (cellsOf .u8 (nn (ct))), .int .i64 ce]) .of ?_
      simp only [List.set_cons_zero, List.set_cons_succ]
      refine sv 71 (.agg (cellsOf .u8 (nn (ct)))) .of ?_
      simp only [List.set_cons_zero, List.set_cons_succ]
      refine sv 72 (.int .i64 ce) .of ?_
      simp only [List.set_cons_zero, List.set_cons_succ]
      refine xAlloc 22 37 ((nn (List.replicate 32 0)).map (Value.int .u8)) rfl (by kernel_rfl) ?_
      intro w23 n9
      have zn9 := n9.z
      have b22 := n9.c
      replace b22 : Blk .u8 w23 w22.heap.size 37 (nn (List.replicate 32 0)) := b22
      replace BL := BL.e0 n9.e
      replace D := D.e0 n9.e
      replace PD := PD.e0 n9.e
      replace b5 := b5.e0 n9.e
      replace b8 := b8.e0 n9.e
      replace b9 := b9.e0 n9.e
      replace K := K.e0 n9.e
      replace b12 := b12.e0 n9.e
      replace b14 := b14.e0 n9.e
      replace P1 := P1.e0 n9.e
      replace b16 := b16.e0 n9.e
      replace P2 := P2.e0 n9.e
      replace b18 := b18.e0 n9.e
      replace b20 := b20.e0 n9.e
      simp only [List.set_cons_zero, List.set_cons_succ]
      refine xStoreA 37 (.tmp 22) (.tmp 71) rfl .u8 w22.heap.size 37 (nn (List.replicate 32 0)) 0 (nn (ct)) (by kernel_rfl) (by kernel_rfl) b22 (by rw [show (nn (ct)).length = 32 by ((try simp only [nn_len, List.length_cons, List.length_nil, List.length_set, List.length_replicate]); try omega)]; kernel_rfl) (by (try simp only [nn_len, List.length_cons, List.length_nil, List.length_set, List.length_replicate]); try omega) (nn (ct)) (over_whole _ _ (by (try simp only [nn_len, List.length_cons, List.length_nil, List.length_set, List.length_replicate]); try omega)) ?_
      intro w24 t6
      have zt6 := t6.z
      have BL_ := BL.ev t6.e (fun i h => show w.heap.size ≤ i by have h : i = w22.heap.size := h; omega)
      have D_ := D.ev t6.e (fun i hi => show ¬ (i = w22.heap.size) by have := hvl i hi; omega)
      have PD_ := PD.ev t6.e (fun i hi => show ¬ (i = w22.heap.size) by have := hpvl i hi; omega)
      have b5_ := b5.ev t6.e (show ¬ (w.heap.size = w22.heap.size) by omega)
      have b8_ := b8.ev t6.e (show ¬ (w1.heap.size = w22.heap.size) by omega)
      have b9_ := b9.ev t6.e (show ¬ (w2.heap.size = w22.heap.size) by omega)
      have K_ := K.ev t6.e (fun i hi => show ¬ (i = w22.heap.size) by have := lK_1 i hi; omega)
      have b12_ := b12.ev t6.e (show ¬ (w7.heap.size = w22.heap.size) by omega)
      have b14_ := b14.ev t6.e (show ¬ (w10.heap.size = w22.heap.size) by omega)
      have P1_ := P1.ev t6.e (fun i hi => show ¬ (i = w22.heap.size) by have := lP1_1 i hi; omega)
      have b16_ := b16.ev t6.e (show ¬ (w13.heap.size = w22.heap.size) by omega)
      have P2_ := P2.ev t6.e (fun i hi => show ¬ (i = w22.heap.size) by have := lP2_1 i hi; omega)
      have b18_ := b18.ev t6.e (show ¬ (w16.heap.size = w22.heap.size) by omega)
      have b20_ := b20.ev t6.e (show ¬ (w19.heap.size = w22.heap.size) by omega)
      replace BL := BL_; clear BL_
      replace D := D_; clear D_
      replace PD := PD_; clear PD_
      replace b5 := b5_; clear b5_
      replace b8 := b8_; clear b8_
      replace b9 := b9_; clear b9_
      replace K := K_; clear K_
      replace b12 := b12_; clear b12_
      replace b14 := b14_; clear b14_
      replace P1 := P1_; clear P1_
      replace b16 := b16_; clear b16_
      replace P2 := P2_; clear P2_
      replace b18 := b18_; clear b18_
      replace b20 := b20_; clear b20_
      replace b22 : Blk .u8 w24 w22.heap.size 37 (nn (ct)) := t6.c
      clear t6
      refine sv 23 (.int .i64 ce) .of ?_
      simp only [List.set_cons_zero, List.set_cons_succ]
      refine wpList_nil ?_
      refine hK12 _ _ ?_
      refine wp_seq_k fun K13 hK13 => ?_
      have e10 := drew_e0 w24
      refine zg (fun w_ => Bl w.heap.size w w_ ∧ SE .u8 32 w_ (.slice vA es.length vC) (nnd es) ∧ SE .u8 32 w_ (.slice pA bs.length pC) (nnd bs) ∧ Blk .u32 w_ w.heap.size 26 (nn tab) ∧ Cel w_ w1.heap.size 66 [.int .i64 pl, .slice pA bs.length pC] ∧ Blk .u8 w_ w2.heap.size 37 (nn (dx)) ∧ OwnE 37 .u8 32 w3.heap.size w_ r (nnd es) ∧ Blk .u8 w_ w7.heap.size 37 (nn (rt)) ∧ Blk .u8 w_ w10.heap.size 37 (nn (rt)) ∧ OwnE 37 .u8 32 w12.heap.size w_ (.slice A1 m1 C1) (nnd pb) ∧ Cel w_ w13.heap.size 66 [.int .i64 pl2, .slice A1 m1 C1] ∧ OwnE 37 .u8 32 w15.heap.size w_ (.slice A2 m2 C2) (nnd pb) ∧ Cel w_ w16.heap.size 66 [.int .i64 pl2, .slice A2 m2 C2] ∧ Blk .u8 w_ w19.heap.size 37 (nn (ct)) ∧ Blk .u8 w_ w22.heap.size 37 (nn (ct)) ∧ w24.heap.size ≤ w_.heap.size) (fun w_ => Bl w.heap.size w w_ ∧ SE .u8 32 w_ (.slice vA es.length vC) (nnd es) ∧ SE .u8 32 w_ (.slice pA bs.length pC) (nnd bs) ∧ Blk .u32 w_ w.heap.size 26 (nn tab) ∧ Cel w_ w1.heap.size 66 [.int .i64 pl, .slice pA bs.length pC] ∧ Blk .u8 w_ w2.heap.size 37 (nn (dx)) ∧ OwnE 37 .u8 32 w3.heap.size w_ r (nnd es) ∧ Blk .u8 w_ w7.heap.size 37 (nn (rt)) ∧ Blk .u8 w_ w10.heap.size 37 (nn (rt)) ∧ OwnE 37 .u8 32 w12.heap.size w_ (.slice A1 m1 C1) (nnd pb) ∧ Cel w_ w13.heap.size 66 [.int .i64 pl2, .slice A1 m1 C1] ∧ OwnE 37 .u8 32 w15.heap.size w_ (.slice A2 m2 C2) (nnd pb) ∧ Cel w_ w16.heap.size 66 [.int .i64 pl2, .slice A2 m2 C2] ∧ Blk .u8 w_ w19.heap.size 37 (nn (ct)) ∧ Blk .u8 w_ w22.heap.size 37 (nn (ct)) ∧ w24.heap.size ≤ w_.heap.size) 100000 54 ⟨BL.e0 e10, D.e0 e10, PD.e0 e10, b5.e0 e10, b8.e0 e10, b9.e0 e10, K.e0 e10, b12.e0 e10, b14.e0 e10, P1.e0 e10, b16.e0 e10, P2.e0 e10, b18.e0 e10, b20.e0 e10, b22.e0 e10, Nat.le_refl _⟩ ?_
      clear BL D PD b5 b8 b9 K b12 b14 P1 b16 P2 b18 b20 b22
      clear e10
      intro w25
      rintro ⟨BL, D, PD, b5, b8, b9, K, b12, b14, P1, b16, P2, b18, b20, b22, z1⟩
      refine zv 0 73 (.agg (cellsOf .u8 (nn (rt)))) (fun _ ⟨BL, D, PD, b5, b8, b9, K, b12, b14, P1, b16, P2, b18, b20, b22, z1⟩ => Val.blk 37 _ rfl 0 32 (by kernel_rfl) b12 _ Try.underlying37 rfl (by kernel_rfl) (by (try simp only [nn_len, List.length_cons, List.length_nil, List.length_set, List.length_replicate]); try omega) _ (seg_all' _ (by (try simp only [nn_len, List.length_cons, List.length_nil, List.length_set, List.length_replicate]); try omega))) ⟨BL, D, PD, b5, b8, b9, K, b12, b14, P1, b16, P2, b18, b20, b22, by omega⟩ ?_
      simp only [List.set_cons_zero, List.set_cons_succ]
      refine zv 1 74 (.agg (cellsOf .u8 (nn (rt)))) (fun _ ⟨BL, D, PD, b5, b8, b9, K, b12, b14, P1, b16, P2, b18, b20, b22, z1⟩ => Val.blk 37 _ rfl 0 32 (by kernel_rfl) b14 _ Try.underlying37 rfl (by kernel_rfl) (by (try simp only [nn_len, List.length_cons, List.length_nil, List.length_set, List.length_replicate]); try omega) _ (seg_all' _ (by (try simp only [nn_len, List.length_cons, List.length_nil, List.length_set, List.length_replicate]); try omega))) ⟨BL, D, PD, b5, b8, b9, K, b12, b14, P1, b16, P2, b18, b20, b22, by omega⟩ ?_
      simp only [List.set_cons_zero, List.set_cons_succ]
      refine zv 2 75 (.bool true) (fun _ ⟨BL, D, PD, b5, b8, b9, K, b12, b14, P1, b16, P2, b18, b20, b22, z1⟩ => Val.eqA .eql 37 _ (.tmp 73) (.tmp 74) rfl Try.underlying37 Try.underlying5 (by kernel_rfl) (by kernel_rfl) (nn (rt)) (nn (rt)) (by kernel_rfl) (by kernel_rfl) (by rw [nn_len]; exact hrl) (by rw [nn_len]; exact hrl) (.inl rfl) true (by simp)) ⟨BL, D, PD, b5, b8, b9, K, b12, b14, P1, b16, P2, b18, b20, b22, by omega⟩ ?_
      simp only [List.set_cons_zero, List.set_cons_succ]
      refine zv 3 76 (.bool true) (fun _ _ => .of) ⟨BL, D, PD, b5, b8, b9, K, b12, b14, P1, b16, P2, b18, b20, b22, by omega⟩ ?_
      simp only [List.set_cons_zero, List.set_cons_succ]
      refine zv 4 77 (.int .i64 re) (fun _ _ => .of) ⟨BL, D, PD, b5, b8, b9, K, b12, b14, P1, b16, P2, b18, b20, b22, by omega⟩ ?_
      simp only [List.set_cons_zero, List.set_cons_succ]
      refine zv 5 78 (.int .i64 re) (fun _ _ => .of) ⟨BL, D, PD, b5, b8, b9, K, b12, b14, P1, b16, P2, b18, b20, b22, by omega⟩ ?_
      simp only [List.set_cons_zero, List.set_cons_succ]
      refine zv 6 79 (.bool true) (fun _ ⟨BL, D, PD, b5, b8, b9, K, b12, b14, P1, b16, P2, b18, b20, b22, z1⟩ => Val.cmp .eql 67 _ (.tmp 77) (.tmp 78) rfl .i64 re re (by kernel_rfl) (by kernel_rfl) (by simp) _ (by simp [cmpB])) ⟨BL, D, PD, b5, b8, b9, K, b12, b14, P1, b16, P2, b18, b20, b22, by omega⟩ ?_
      simp only [List.set_cons_zero, List.set_cons_succ]
      refine zv 7 80 (.bool true) (fun _ _ => .of) ⟨BL, D, PD, b5, b8, b9, K, b12, b14, P1, b16, P2, b18, b20, b22, by omega⟩ ?_
      simp only [List.set_cons_zero, List.set_cons_succ]
      refine zv 8 81 (.bool true) (fun _ _ => .of) ⟨BL, D, PD, b5, b8, b9, K, b12, b14, P1, b16, P2, b18, b20, b22, by omega⟩ ?_
      simp only [List.set_cons_zero, List.set_cons_succ]
      refine zv 9 82 (.agg #[.int .i64 pl2, .slice A1 m1 C1]) (fun _ ⟨BL, D, PD, b5, b8, b9, K, b12, b14, P1, b16, P2, b18, b20, b22, z1⟩ => Val.cel 66 _ rfl 0 2 (by kernel_rfl) b16 _ Try.underlying66 rfl (by kernel_rfl) (by simp) [.int .i64 pl2, .slice A1 m1 C1] rfl) ⟨BL, D, PD, b5, b8, b9, K, b12, b14, P1, b16, P2, b18, b20, b22, by omega⟩ ?_
      simp only [List.set_cons_zero, List.set_cons_succ]
      refine zv 10 83 (.agg #[.int .i64 pl2, .slice A2 m2 C2]) (fun _ ⟨BL, D, PD, b5, b8, b9, K, b12, b14, P1, b16, P2, b18, b20, b22, z1⟩ => Val.cel 66 _ rfl 0 2 (by kernel_rfl) b18 _ Try.underlying66 rfl (by kernel_rfl) (by simp) [.int .i64 pl2, .slice A2 m2 C2] rfl) ⟨BL, D, PD, b5, b8, b9, K, b12, b14, P1, b16, P2, b18, b20, b22, by omega⟩ ?_
      simp only [List.set_cons_zero, List.set_cons_succ]
      refine zo1 11 rfl ?_
      refine xCall 84 53 #[.agg #[.int .i64 pl2, .slice A1 m1 C1], .agg #[.int .i64 pl2, .slice A2 m2 C2]] (by kernel_rfl) ?_
      refine (samepath_any pl2 pl2 _ _ _ _ _ _ pb pb w25 P1.se P2.se).mono ?_
      rintro en w26 ⟨he, hb1⟩
      rw [decide_eq_true (⟨rfl, rfl⟩ : pl2 = pl2 ∧ pb = pb)] at he
      subst he
      have e11 := belE0 hb1
      have ze11 := e11.size
      replace BL := BL.e0 e11
      replace D := D.e0 e11
      replace PD := PD.e0 e11
      replace b5 := b5.e0 e11
      replace b8 := b8.e0 e11
      replace b9 := b9.e0 e11
      replace K := K.e0 e11
      replace b12 := b12.e0 e11
      replace b14 := b14.e0 e11
      replace P1 := P1.e0 e11
      replace b16 := b16.e0 e11
      replace P2 := P2.e0 e11
      replace b18 := b18.e0 e11
      replace b20 := b20.e0 e11
      replace b22 := b22.e0 e11
      clear e11
      refine ⟨.bool true, rfl, ?_⟩
      refine ze 11 ⟨BL, D, PD, b5, b8, b9, K, b12, b14, P1, b16, P2, b18, b20, b22, by omega⟩ ?_
      simp only [List.set_cons_zero, List.set_cons_succ]
      refine zv 12 85 (.bool true) (fun _ _ => .of) ⟨BL, D, PD, b5, b8, b9, K, b12, b14, P1, b16, P2, b18, b20, b22, by omega⟩ ?_
      simp only [List.set_cons_zero, List.set_cons_succ]
      refine zv 13 86 (.bool true) (fun _ _ => .of) ⟨BL, D, PD, b5, b8, b9, K, b12, b14, P1, b16, P2, b18, b20, b22, by omega⟩ ?_
      simp only [List.set_cons_zero, List.set_cons_succ]
      refine zv 14 87 (.int .i64 pe) (fun _ _ => .of) ⟨BL, D, PD, b5, b8, b9, K, b12, b14, P1, b16, P2, b18, b20, b22, by omega⟩ ?_
      simp only [List.set_cons_zero, List.set_cons_succ]
      refine zv 15 88 (.int .i64 pe) (fun _ _ => .of) ⟨BL, D, PD, b5, b8, b9, K, b12, b14, P1, b16, P2, b18, b20, b22, by omega⟩ ?_
      simp only [List.set_cons_zero, List.set_cons_succ]
      refine zv 16 89 (.bool true) (fun _ ⟨BL, D, PD, b5, b8, b9, K, b12, b14, P1, b16, P2, b18, b20, b22, z1⟩ => Val.cmp .eql 67 _ (.tmp 87) (.tmp 88) rfl .i64 pe pe (by kernel_rfl) (by kernel_rfl) (by simp) _ (by simp [cmpB])) ⟨BL, D, PD, b5, b8, b9, K, b12, b14, P1, b16, P2, b18, b20, b22, by omega⟩ ?_
      simp only [List.set_cons_zero, List.set_cons_succ]
      refine zv 17 90 (.bool true) (fun _ _ => .of) ⟨BL, D, PD, b5, b8, b9, K, b12, b14, P1, b16, P2, b18, b20, b22, by omega⟩ ?_
      simp only [List.set_cons_zero, List.set_cons_succ]
      refine zv 18 91 (.bool true) (fun _ _ => .of) ⟨BL, D, PD, b5, b8, b9, K, b12, b14, P1, b16, P2, b18, b20, b22, by omega⟩ ?_
      simp only [List.set_cons_zero, List.set_cons_succ]
      refine zv 19 92 (.agg (cellsOf .u8 (nn (ct)))) (fun _ ⟨BL, D, PD, b5, b8, b9, K, b12, b14, P1, b16, P2, b18, b20, b22, z1⟩ => Val.blk 37 _ rfl 0 32 (by kernel_rfl) b20 _ Try.underlying37 rfl (by kernel_rfl) (by (try simp only [nn_len, List.length_cons, List.length_nil, List.length_set, List.length_replicate]); try omega) _ (seg_all' _ (by (try simp only [nn_len, List.length_cons, List.length_nil, List.length_set, List.length_replicate]); try omega))) ⟨BL, D, PD, b5, b8, b9, K, b12, b14, P1, b16, P2, b18, b20, b22, by omega⟩ ?_
      simp only [List.set_cons_zero, List.set_cons_succ]
      refine zv 20 93 (.agg (cellsOf .u8 (nn (ct)))) (fun _ ⟨BL, D, PD, b5, b8, b9, K, b12, b14, P1, b16, P2, b18, b20, b22, z1⟩ => Val.blk 37 _ rfl 0 32 (by kernel_rfl) b22 _ Try.underlying37 rfl (by kernel_rfl) (by (try simp only [nn_len, List.length_cons, List.length_nil, List.length_set, List.length_replicate]); try omega) _ (seg_all' _ (by (try simp only [nn_len, List.length_cons, List.length_nil, List.length_set, List.length_replicate]); try omega))) ⟨BL, D, PD, b5, b8, b9, K, b12, b14, P1, b16, P2, b18, b20, b22, by omega⟩ ?_
      simp only [List.set_cons_zero, List.set_cons_succ]
      refine zv 21 94 (.bool true) (fun _ ⟨BL, D, PD, b5, b8, b9, K, b12, b14, P1, b16, P2, b18, b20, b22, z1⟩ => Val.eqA .eql 37 _ (.tmp 92) (.tmp 93) rfl Try.underlying37 Try.underlying5 (by kernel_rfl) (by kernel_rfl) (nn (ct)) (nn (ct)) (by kernel_rfl) (by kernel_rfl) (by rw [nn_len]; exact hcl) (by rw [nn_len]; exact hcl) (.inl rfl) true (by simp)) ⟨BL, D, PD, b5, b8, b9, K, b12, b14, P1, b16, P2, b18, b20, b22, by omega⟩ ?_
      simp only [List.set_cons_zero, List.set_cons_succ]
      refine zv 22 95 (.bool true) (fun _ _ => .of) ⟨BL, D, PD, b5, b8, b9, K, b12, b14, P1, b16, P2, b18, b20, b22, by omega⟩ ?_
      simp only [List.set_cons_zero, List.set_cons_succ]
      refine zv 23 96 (.bool true) (fun _ _ => .of) ⟨BL, D, PD, b5, b8, b9, K, b12, b14, P1, b16, P2, b18, b20, b22, by omega⟩ ?_
      simp only [List.set_cons_zero, List.set_cons_succ]
      refine zv 24 97 (.int .i64 ce) (fun _ _ => .of) ⟨BL, D, PD, b5, b8, b9, K, b12, b14, P1, b16, P2, b18, b20, b22, by omega⟩ ?_
      simp only [List.set_cons_zero, List.set_cons_succ]
      refine zv 25 98 (.int .i64 ce) (fun _ _ => .of) ⟨BL, D, PD, b5, b8, b9, K, b12, b14, P1, b16, P2, b18, b20, b22, by omega⟩ ?_
      simp only [List.set_cons_zero, List.set_cons_succ]
      refine zv 26 99 (.bool true) (fun _ ⟨BL, D, PD, b5, b8, b9, K, b12, b14, P1, b16, P2, b18, b20, b22, z1⟩ => Val.cmp .eql 67 _ (.tmp 97) (.tmp 98) rfl .i64 ce ce (by kernel_rfl) (by kernel_rfl) (by simp) _ (by simp [cmpB])) ⟨BL, D, PD, b5, b8, b9, K, b12, b14, P1, b16, P2, b18, b20, b22, by omega⟩ ?_
      simp only [List.set_cons_zero, List.set_cons_succ]
      refine zv 27 100 (.bool true) (fun _ _ => .of) ⟨BL, D, PD, b5, b8, b9, K, b12, b14, P1, b16, P2, b18, b20, b22, by omega⟩ ?_
      simp only [List.set_cons_zero, List.set_cons_succ]
      refine zv 28 101 (.bool true) (fun _ _ => .of) ⟨BL, D, PD, b5, b8, b9, K, b12, b14, P1, b16, P2, b18, b20, b22, by omega⟩ ?_
      simp only [List.set_cons_zero, List.set_cons_succ]
      refine zv 29 102 (.agg #[.int .i64 pl, .slice pA bs.length pC]) (fun _ ⟨BL, D, PD, b5, b8, b9, K, b12, b14, P1, b16, P2, b18, b20, b22, z1⟩ => Val.cel 66 _ rfl 0 2 (by kernel_rfl) b8 _ Try.underlying66 rfl (by kernel_rfl) (by simp) [.int .i64 pl, .slice pA bs.length pC] rfl) ⟨BL, D, PD, b5, b8, b9, K, b12, b14, P1, b16, P2, b18, b20, b22, by omega⟩ ?_
      simp only [List.set_cons_zero, List.set_cons_succ]
      refine zv 31 104 (.agg #[.int .i64 pl, .slice pA bs.length pC]) (fun _ ⟨BL, D, PD, b5, b8, b9, K, b12, b14, P1, b16, P2, b18, b20, b22, z1⟩ => Val.cel 66 _ rfl 0 2 (by kernel_rfl) b8 _ Try.underlying66 rfl (by kernel_rfl) (by simp) [.int .i64 pl, .slice pA bs.length pC] rfl) ⟨BL, D, PD, b5, b8, b9, K, b12, b14, P1, b16, P2, b18, b20, b22, by omega⟩ ?_
      simp only [List.set_cons_zero, List.set_cons_succ]
      refine zo1 30 rfl ?_
      refine xCall 103 47 #[.agg #[.int .i64 pl, .slice pA bs.length pC]] (by kernel_rfl) ?_
      refine (mright_any pl pA bs.length pC w26).mono ?_
      rintro en w27 ⟨he, hb1⟩
      rw [hrb] at he
      subst he
      have e12 := belE0 hb1
      have ze12 := e12.size
      replace BL := BL.e0 e12
      replace D := D.e0 e12
      replace PD := PD.e0 e12
      replace b5 := b5.e0 e12
      replace b8 := b8.e0 e12
      replace b9 := b9.e0 e12
      replace K := K.e0 e12
      replace b12 := b12.e0 e12
      replace b14 := b14.e0 e12
      replace P1 := P1.e0 e12
      replace b16 := b16.e0 e12
      replace P2 := P2.e0 e12
      replace b18 := b18.e0 e12
      replace b20 := b20.e0 e12
      replace b22 := b22.e0 e12
      clear e12
      refine ⟨.bool rb, rfl, ?_⟩
      refine ze 30 ⟨BL, D, PD, b5, b8, b9, K, b12, b14, P1, b16, P2, b18, b20, b22, by omega⟩ ?_
      simp only [List.set_cons_zero, List.set_cons_succ]
      refine zo1 32 rfl ?_
      refine xCall 105 54 #[.agg #[.int .i64 pl, .slice pA bs.length pC]] (by kernel_rfl) ?_
      refine (r10right_any pl pA bs.length pC w27).mono ?_
      rintro en w28 ⟨he, hb1⟩
      rw [hrb] at he
      subst he
      have e13 := belE0 hb1
      have ze13 := e13.size
      replace BL := BL.e0 e13
      replace D := D.e0 e13
      replace PD := PD.e0 e13
      replace b5 := b5.e0 e13
      replace b8 := b8.e0 e13
      replace b9 := b9.e0 e13
      replace K := K.e0 e13
      replace b12 := b12.e0 e13
      replace b14 := b14.e0 e13
      replace P1 := P1.e0 e13
      replace b16 := b16.e0 e13
      replace P2 := P2.e0 e13
      replace b18 := b18.e0 e13
      replace b20 := b20.e0 e13
      replace b22 := b22.e0 e13
      clear e13
      refine ⟨.bool rb, rfl, ?_⟩
      refine ze 32 ⟨BL, D, PD, b5, b8, b9, K, b12, b14, P1, b16, P2, b18, b20, b22, by omega⟩ ?_
      simp only [List.set_cons_zero, List.set_cons_succ]
      refine zv 33 106 (.bool true) (fun _ ⟨BL, D, PD, b5, b8, b9, K, b12, b14, P1, b16, P2, b18, b20, b22, z1⟩ => Val.bools .eql 4 _ (.tmp 103) (.tmp 105) rfl Try.underlying4 rb rb (by kernel_rfl) (by kernel_rfl) (.inl rfl) true (by cases rb <;> rfl)) ⟨BL, D, PD, b5, b8, b9, K, b12, b14, P1, b16, P2, b18, b20, b22, by omega⟩ ?_
      simp only [List.set_cons_zero, List.set_cons_succ]
      refine zv 34 107 (.bool true) (fun _ _ => .of) ⟨BL, D, PD, b5, b8, b9, K, b12, b14, P1, b16, P2, b18, b20, b22, by omega⟩ ?_
      simp only [List.set_cons_zero, List.set_cons_succ]
      refine zv 35 108 (.bool true) (fun _ _ => .of) ⟨BL, D, PD, b5, b8, b9, K, b12, b14, P1, b16, P2, b18, b20, b22, by omega⟩ ?_
      simp only [List.set_cons_zero, List.set_cons_succ]
      refine zv 36 109 (.agg (cellsOf .u8 (nn (dx)))) (fun _ ⟨BL, D, PD, b5, b8, b9, K, b12, b14, P1, b16, P2, b18, b20, b22, z1⟩ => Val.blk 37 _ rfl 0 32 (by kernel_rfl) b9 _ Try.underlying37 rfl (by kernel_rfl) (by (try simp only [nn_len, List.length_cons, List.length_nil, List.length_set, List.length_replicate]); try omega) _ (seg_all' _ (by (try simp only [nn_len, List.length_cons, List.length_nil, List.length_set, List.length_replicate]); try omega))) ⟨BL, D, PD, b5, b8, b9, K, b12, b14, P1, b16, P2, b18, b20, b22, by omega⟩ ?_
      simp only [List.set_cons_zero, List.set_cons_succ]
      refine zv 37 110 (.agg (cellsOf .u8 (nn (rt)))) (fun _ ⟨BL, D, PD, b5, b8, b9, K, b12, b14, P1, b16, P2, b18, b20, b22, z1⟩ => Val.blk 37 _ rfl 0 32 (by kernel_rfl) b14 _ Try.underlying37 rfl (by kernel_rfl) (by (try simp only [nn_len, List.length_cons, List.length_nil, List.length_set, List.length_replicate]); try omega) _ (seg_all' _ (by (try simp only [nn_len, List.length_cons, List.length_nil, List.length_set, List.length_replicate]); try omega))) ⟨BL, D, PD, b5, b8, b9, K, b12, b14, P1, b16, P2, b18, b20, b22, by omega⟩ ?_
      simp only [List.set_cons_zero, List.set_cons_succ]
      refine zv 39 112 (.agg (cellsOf .u32 (nn tab))) (fun _ ⟨BL, D, PD, b5, b8, b9, K, b12, b14, P1, b16, P2, b18, b20, b22, z1⟩ => Val.blk 26 _ rfl 0 72 (by kernel_rfl) b5 _ Try.underlying26 rfl (by kernel_rfl) (by (try simp only [nn_len, List.length_cons, List.length_nil, List.length_set, List.length_replicate]); try omega) _ (seg_all' _ (by (try simp only [nn_len, List.length_cons, List.length_nil, List.length_set, List.length_replicate]); try omega))) ⟨BL, D, PD, b5, b8, b9, K, b12, b14, P1, b16, P2, b18, b20, b22, by omega⟩ ?_
      simp only [List.set_cons_zero, List.set_cons_succ]
      refine zv 40 113 (.agg (cellsOf .u8 (nn (dx)))) (fun _ ⟨BL, D, PD, b5, b8, b9, K, b12, b14, P1, b16, P2, b18, b20, b22, z1⟩ => Val.blk 37 _ rfl 0 32 (by kernel_rfl) b9 _ Try.underlying37 rfl (by kernel_rfl) (by (try simp only [nn_len, List.length_cons, List.length_nil, List.length_set, List.length_replicate]); try omega) _ (seg_all' _ (by (try simp only [nn_len, List.length_cons, List.length_nil, List.length_set, List.length_replicate]); try omega))) ⟨BL, D, PD, b5, b8, b9, K, b12, b14, P1, b16, P2, b18, b20, b22, by omega⟩ ?_
      simp only [List.set_cons_zero, List.set_cons_succ]
      refine zv 41 114 (.agg (cellsOf .u8 (nn (rt)))) (fun _ ⟨BL, D, PD, b5, b8, b9, K, b12, b14, P1, b16, P2, b18, b20, b22, z1⟩ => Val.blk 37 _ rfl 0 32 (by kernel_rfl) b14 _ Try.underlying37 rfl (by kernel_rfl) (by (try simp only [nn_len, List.length_cons, List.length_nil, List.length_set, List.length_replicate]); try omega) _ (seg_all' _ (by (try simp only [nn_len, List.length_cons, List.length_nil, List.length_set, List.length_replicate]); try omega))) ⟨BL, D, PD, b5, b8, b9, K, b12, b14, P1, b16, P2, b18, b20, b22, by omega⟩ ?_
      simp only [List.set_cons_zero, List.set_cons_succ]
      refine zo1 38 rfl ?_
      refine xCall 111 40 #[.pointer (some ⟨w.heap.size, 0, none⟩), .agg (cellsOf .u8 (nn (dx))), .agg (cellsOf .u8 (nn (rt)))] (by kernel_rfl) ?_
      refine (mnode_any w.heap.size tab ht w28 b5 dx rt hx hrl).mono ?_
      rintro en w29 ⟨rfl, hb1⟩
      have e14 := belE0 hb1
      have ze14 := e14.size
      replace BL := BL.e0 e14
      replace D := D.e0 e14
      replace PD := PD.e0 e14
      replace b5 := b5.e0 e14
      replace b8 := b8.e0 e14
      replace b9 := b9.e0 e14
      replace K := K.e0 e14
      replace b12 := b12.e0 e14
      replace b14 := b14.e0 e14
      replace P1 := P1.e0 e14
      replace b16 := b16.e0 e14
      replace P2 := P2.e0 e14
      replace b18 := b18.e0 e14
      replace b20 := b20.e0 e14
      replace b22 := b22.e0 e14
      clear e14
      refine ⟨.agg (cellsOf .u8 (nn (mnode tab dx rt))), rfl, ?_⟩
      refine ze 38 ⟨BL, D, PD, b5, b8, b9, K, b12, b14, P1, b16, P2, b18, b20, b22, by omega⟩ ?_
      simp only [List.set_cons_zero, List.set_cons_succ]
      refine zo1 42 rfl ?_
      refine xCall 115 55 #[.agg (cellsOf .u32 (nn tab)), .agg (cellsOf .u8 (nn (dx))), .agg (cellsOf .u8 (nn (rt)))] (by kernel_rfl) ?_
      refine (r10node_any tab ht h32 w29 dx rt hx hrl hx8 hrb8).mono ?_
      rintro en w30 ⟨rfl, hb1⟩
      have e15 := belE0 hb1
      have ze15 := e15.size
      replace BL := BL.e0 e15
      replace D := D.e0 e15
      replace PD := PD.e0 e15
      replace b5 := b5.e0 e15
      replace b8 := b8.e0 e15
      replace b9 := b9.e0 e15
      replace K := K.e0 e15
      replace b12 := b12.e0 e15
      replace b14 := b14.e0 e15
      replace P1 := P1.e0 e15
      replace b16 := b16.e0 e15
      replace P2 := P2.e0 e15
      replace b18 := b18.e0 e15
      replace b20 := b20.e0 e15
      replace b22 := b22.e0 e15
      clear e15
      refine ⟨.agg (cellsOf .u8 (nn (mnode tab dx rt))), rfl, ?_⟩
      refine ze 42 ⟨BL, D, PD, b5, b8, b9, K, b12, b14, P1, b16, P2, b18, b20, b22, by omega⟩ ?_
      simp only [List.set_cons_zero, List.set_cons_succ]
      refine zv 43 116 (.bool true) (fun _ ⟨BL, D, PD, b5, b8, b9, K, b12, b14, P1, b16, P2, b18, b20, b22, z1⟩ => Val.eqA .eql 37 _ (.tmp 111) (.tmp 115) rfl Try.underlying37 Try.underlying5 (by kernel_rfl) (by kernel_rfl) (nn (mnode tab dx rt)) (nn (mnode tab dx rt)) (by kernel_rfl) (by kernel_rfl) (by rw [nn_len]; exact hnl) (by rw [nn_len]; exact hnl) (.inl rfl) true (by simp)) ⟨BL, D, PD, b5, b8, b9, K, b12, b14, P1, b16, P2, b18, b20, b22, by omega⟩ ?_
      simp only [List.set_cons_zero, List.set_cons_succ]
      refine zv 44 117 (.bool true) (fun _ _ => .of) ⟨BL, D, PD, b5, b8, b9, K, b12, b14, P1, b16, P2, b18, b20, b22, by omega⟩ ?_
      simp only [List.set_cons_zero, List.set_cons_succ]
      refine zv 45 118 (.bool true) (fun _ _ => .of) ⟨BL, D, PD, b5, b8, b9, K, b12, b14, P1, b16, P2, b18, b20, b22, by omega⟩ ?_
      simp only [List.set_cons_zero, List.set_cons_succ]
      refine zv 46 119 (r) (fun _ _ => .of) ⟨BL, D, PD, b5, b8, b9, K, b12, b14, P1, b16, P2, b18, b20, b22, by omega⟩ ?_
      simp only [List.set_cons_zero, List.set_cons_succ]
      refine zv 47 120 (.slice vA es.length vC) (fun _ _ => .of) ⟨BL, D, PD, b5, b8, b9, K, b12, b14, P1, b16, P2, b18, b20, b22, by omega⟩ ?_
      simp only [List.set_cons_zero, List.set_cons_succ]
      refine zo1 48 rfl ?_
      refine xCall 121 49 #[r, .slice vA es.length vC] (by kernel_rfl) ?_
      refine (samedig_any _ _ es es w30 K.se D).mono ?_
      rintro en w31 ⟨he, hb1⟩
      rw [decide_eq_true rfl] at he
      subst he
      have e16 := belE0 hb1
      have ze16 := e16.size
      replace BL := BL.e0 e16
      replace D := D.e0 e16
      replace PD := PD.e0 e16
      replace b5 := b5.e0 e16
      replace b8 := b8.e0 e16
      replace b9 := b9.e0 e16
      replace K := K.e0 e16
      replace b12 := b12.e0 e16
      replace b14 := b14.e0 e16
      replace P1 := P1.e0 e16
      replace b16 := b16.e0 e16
      replace P2 := P2.e0 e16
      replace b18 := b18.e0 e16
      replace b20 := b20.e0 e16
      replace b22 := b22.e0 e16
      clear e16
      refine ⟨.bool true, rfl, ?_⟩
      refine ze 48 ⟨BL, D, PD, b5, b8, b9, K, b12, b14, P1, b16, P2, b18, b20, b22, by omega⟩ ?_
      simp only [List.set_cons_zero, List.set_cons_succ]
      refine zv 49 122 (.bool true) (fun _ _ => .of) ⟨BL, D, PD, b5, b8, b9, K, b12, b14, P1, b16, P2, b18, b20, b22, by omega⟩ ?_
      simp only [List.set_cons_zero, List.set_cons_succ]
      refine zv 50 123 (.bool true) (fun _ _ => .of) ⟨BL, D, PD, b5, b8, b9, K, b12, b14, P1, b16, P2, b18, b20, b22, by omega⟩ ?_
      simp only [List.set_cons_zero, List.set_cons_succ]
      refine zo1 51 rfl ?_
      refine xCall 124 41 #[] (by kernel_rfl) ?_
      refine (awake10 w31).mono ?_
      rintro en w32 ⟨rfl, hb1⟩
      have e17 := belE0 hb1
      have ze17 := e17.size
      replace BL := BL.e0 e17
      replace D := D.e0 e17
      replace PD := PD.e0 e17
      replace b5 := b5.e0 e17
      replace b8 := b8.e0 e17
      replace b9 := b9.e0 e17
      replace K := K.e0 e17
      replace b12 := b12.e0 e17
      replace b14 := b14.e0 e17
      replace P1 := P1.e0 e17
      replace b16 := b16.e0 e17
      replace P2 := P2.e0 e17
      replace b18 := b18.e0 e17
      replace b20 := b20.e0 e17
      replace b22 := b22.e0 e17
      clear e17
      refine ⟨.bool true, rfl, ?_⟩
      refine ze 51 ⟨BL, D, PD, b5, b8, b9, K, b12, b14, P1, b16, P2, b18, b20, b22, by omega⟩ ?_
      simp only [List.set_cons_zero, List.set_cons_succ]
      refine zv 52 125 (.bool true) (fun _ _ => .of) ⟨BL, D, PD, b5, b8, b9, K, b12, b14, P1, b16, P2, b18, b20, b22, by omega⟩ ?_
      simp only [List.set_cons_zero, List.set_cons_succ]
      refine zv 53 10 (.bool true) (fun _ _ => .of) ⟨BL, D, PD, b5, b8, b9, K, b12, b14, P1, b16, P2, b18, b20, b22, by omega⟩ ?_
      simp only [List.set_cons_zero, List.set_cons_succ]
      refine zd (by kernel_rfl) ?_ _
      refine hK13 _ _ ?_
      refine wp_ret ?_
      (try simp only [Exit.then, Exit.inBlock])
      refine bodyPost_ret (v := .bool true) rT rfl ?_
      exact ⟨rfl, BL.b⟩

theorem merkleTells_any (w : World) (x0 : List Value) (R0 : RInts .u32 72 w x0) (v1 : Value) (es1 : List (List Int)) (D1 : SE .u8 32 w v1 es1) (w1 : ∀ y ∈ es1, ∀ n ∈ y, (Lit.int .u8 n).wf = true) (leaf : Int) (h2 : -9223372036854775808 ≤ leaf ∧ leaf ≤ 9223372036854775807) (x3 : List Value) (R3 : RFields [(1, RInt .i64), (1, RElems .u8 32)] w x3) (x4 : List Value) (R4 : RInts .u8 32 w x4) :
    Calls Try.prog 11 #[.agg x0.toArray, v1, .int .i64 leaf, .agg x3.toArray, .agg x4.toArray] w fun e w' => e = .returned (.bool true) ∧ Below w.heap.size w w' := by
  obtain ⟨tab, ht, rfl, h32⟩ := rints32 R0
  obtain ⟨es, rfl, he8⟩ := nnd_of w1
  obtain ⟨_, _, rfl, _, ⟨pl, rfl, _⟩, _, _, rfl, _, ⟨pv, pe, rfl, PD, pw⟩, rfl⟩ := R3
  obtain ⟨bs, rfl, hb8⟩ := nnd_of pw
  obtain ⟨dx, hx, rfl, hx8⟩ := rints8 R4
  exact merkleTells_walk tab ht h32 w v1 es D1 he8 leaf pl pv bs PD hb8 dx hx hx8
end Go.Proofs.Yteaijjefbadnbaa
