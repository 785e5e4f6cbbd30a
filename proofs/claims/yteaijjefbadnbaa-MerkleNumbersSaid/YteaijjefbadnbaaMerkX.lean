/-
  merkle.levels with Path's closure, merkle.Root, merkle.Path, merkle.Right, merkle.Climb.
-/
import Derived.Test.YteaijjefbadnbaaMerkW
namespace Go.Proofs.Yteaijjefbadnbaa
open Go.RowKit
set_option linter.unusedVariables false
set_option linter.unusedSimpArgs false
set_option maxRecDepth 100000
attribute [local irreducible] wpList Code.wp wpAnyZ taggedN mnode
set_option maxHeartbeats 8000000 in
theorem levelsP_any (T : Nat) (tab : List Nat) (ht : tab.length = 72) (w : World) (TB : Blk .u32 w T 26 (nn tab)) (v : Value) (es : List (List Nat)) (D : SE .u8 32 w v (nnd es)) (hes : ∀ d ∈ es, d.length = 32) (h : Nat) (hh : h ≤ 8) (hn : es.length = 2 ^ h) (PB AB : Nat) (hPA : PB ≠ AB) (hTP : T ≠ PB) (hTA : T ≠ AB) (hvP : ∀ i, v.ownBlock = some i → i ≠ PB ∧ i ≠ AB) (kk : Nat) (hkk : kk < 2 ^ h) (leaf : Int) (P1 : Cel w PB 66 [.int .i64 leaf, .slice none 0 0]) (A1 : Cel w AB 3 [.int .i64 ((kk : Nat) : Int)]) :
    Calls Try.prog 96 #[.pointer (some ⟨T, 0, none⟩), v, .func (.func 98) #[] #[.pointer (some ⟨PB, 0, none⟩), .pointer (some ⟨AB, 0, none⟩)]] w fun e w' => e = .returned (.bool true) ∧ ∃ (A : Option Addr) (n C : Nat), OwnE 37 .u8 32 w.heap.size w' (.slice A n C) (nnd (mpath tab h es kk)) ∧ Cel w' PB 66 [.int .i64 leaf, .slice A n C] ∧ Ev (fun i => i = PB ∨ i = AB) w w' := by
  have hT := TB.lt
  have hpw : 2 ^ h ≤ 256 := Nat.pow_le_pow_right (by omega) hh
  have hp1 : 1 ≤ 2 ^ h := Nat.one_le_two_pow
  have hand := pow_and' hn hh
  have EV : Ev (fun i => i = PB ∨ i = AB) w w := Ev.refl _ w
  have hvl := D.lt
  obtain ⟨vA, vC, hv, hvc⟩ := D.len
  rw [nnd_len] at hv hvc
  subst hv
  have hPB := P1.lt
  have hAB := A1.lt
  have BO := OwnE.nil 37 .u8 32 w.heap.size w
  replace hvl := fun i hi => And.intro (hvl i hi) (hvP i hi)
  have e1 : kk / 2 ^ 0 = kk := by rw [Nat.pow_zero, Nat.div_one]
  rw [← e1] at A1
  have lBO_1 := BO.ge
  go_enter Try.func96, Try.ntmps96
  refine wp_seq_k fun K1 hK1 => ?_
  refine cPlain ?_
  refine sv 6 (.bool false) .of ?_
  simp only [List.set_cons_zero, List.set_cons_succ]
  refine wpList_nil ?_
  refine hK1 _ _ ?_
  refine wp_seq_k fun K2 hK2 => ?_
  refine cPlain ?_
  refine sv 11 (.slice vA es.length vC) .of ?_
  simp only [List.set_cons_zero, List.set_cons_succ]
  refine sv 12 (.int .i64 (es.length : Int)) .of ?_
  simp only [List.set_cons_zero, List.set_cons_succ]
  refine sv 7 (.int .i64 (es.length : Int)) .of ?_
  simp only [List.set_cons_zero, List.set_cons_succ]
  refine wpList_nil ?_
  refine hK2 _ _ ?_
  refine wp_seq_k fun K3 hK3 => ?_
  refine wp_seq_k fun K4 hK4 => ?_
  refine cPlain ?_
  refine sv 13 (.int .i64 (es.length : Int)) .of ?_
  simp only [List.set_cons_zero, List.set_cons_succ]
  refine sv 14 (.bool false) (Val.cmp .lss 3 _ (.tmp 13) _ rfl .i64 (es.length : Int) 1 (by kernel_rfl) (by kernel_rfl) (by simp) _ (by simp [cmpB]; omega)) ?_
  simp only [List.set_cons_zero, List.set_cons_succ]
  refine sv 15 (.bool false) .of ?_
  simp only [List.set_cons_zero, List.set_cons_succ]
  refine sv 16 (.int .i64 (es.length : Int)) .of ?_
  simp only [List.set_cons_zero, List.set_cons_succ]
  refine sv 17 (.bool false) (Val.cmp .gtr 3 _ (.tmp 16) _ rfl .i64 (es.length : Int) 256 (by kernel_rfl) (by kernel_rfl) (by simp) _ (by simp [cmpB]; omega)) ?_
  simp only [List.set_cons_zero, List.set_cons_succ]
  refine sv 18 (.bool false) .of ?_
  simp only [List.set_cons_zero, List.set_cons_succ]
  refine sv 19 (.bool false) .of ?_
  simp only [List.set_cons_zero, List.set_cons_succ]
  refine sv 20 (.int .i64 (es.length : Int)) .of ?_
  simp only [List.set_cons_zero, List.set_cons_succ]
  refine sv 21 (.int .i64 (es.length : Int)) .of ?_
  simp only [List.set_cons_zero, List.set_cons_succ]
  refine sv 22 (.int .i64 ((es.length - 1 : Nat) : Int)) (Val.as (Val.sub 3 _ (.tmp 21) _ rfl (es.length : Int) 1 (by kernel_rfl) (by kernel_rfl) (by omega)) (congrArg (Value.int .i64) (by omega))) ?_
  simp only [List.set_cons_zero, List.set_cons_succ]
  refine sv 23 (.int .i64 ((0 : Nat) : Int)) (Val.asN (Val.andI 3 _ (.tmp 20) (.tmp 22) rfl es.length (es.length - 1) (by kernel_rfl) (by kernel_rfl) (by omega) (by omega)) hand) ?_
  simp only [List.set_cons_zero, List.set_cons_succ]
  refine sv 24 (.bool false) (Val.cmp .neq 3 _ (.tmp 23) _ rfl .i64 ((0 : Nat) : Int) 0 (by kernel_rfl) (by kernel_rfl) (by simp) _ (by simp [cmpB])) ?_
  simp only [List.set_cons_zero, List.set_cons_succ]
  refine sv 25 (.bool false) .of ?_
  simp only [List.set_cons_zero, List.set_cons_succ]
  refine wpList_nil ?_
  refine hK4 _ _ ?_
  refine cF ?_
  refine wp_skip ?_
  refine hK3 _ _ ?_
  refine wp_seq_k fun K5 hK5 => ?_
  refine cPlain ?_
  refine sv 26 (.slice vA es.length vC) .of ?_
  simp only [List.set_cons_zero, List.set_cons_succ]
  refine xCall 27 121 #[.slice vA es.length vC] (by kernel_rfl) ?_
  refine (cloneD_any _ es w D (by omega) (by omega)).mono ?_
  rintro en w1 ⟨r, rfl, hO, hb1⟩
  obtain ⟨LA0, LC0, hr, hr2⟩ := hO.len
  rw [nnd_len] at hr
  subst hr
  replace hO := hO.mono EV.size
  have e1 := belE0 hb1
  have ze1 := e1.size
  replace TB := TB.e0 e1
  replace D := D.e0 e1
  have EV : Ev (fun i => i = PB ∨ i = AB) w w1 := EV.then e1 (fun _ x => x.elim)
  replace BO := BO.e0 e1
  replace P1 := P1.e0 e1
  replace A1 := A1.e0 e1
  clear e1
  have L : OwnE 37 .u8 32 w.heap.size w1 (.slice LA0 es.length LC0) (nnd es) := hO
  have lL_1 := L.ge
  refine ⟨.slice LA0 es.length LC0, rfl, ?_⟩
  simp only [List.set_cons_zero, List.set_cons_succ]
  refine sv 8 (.slice LA0 es.length LC0) .of ?_
  simp only [List.set_cons_zero, List.set_cons_succ]
  refine wpList_nil ?_
  refine hK5 _ _ ?_
  refine wp_seq_k fun K6 hK6 => ?_
  refine wp_seq_k fun K7 hK7 => ?_
  refine cPlain ?_
  refine sv 28 (.func (.func 98) #[] #[.pointer (some ⟨PB, 0, none⟩), .pointer (some ⟨AB, 0, none⟩)]) .of ?_
  simp only [List.set_cons_zero, List.set_cons_succ]
  refine sv 29 (.slice LA0 es.length LC0) .of ?_
  simp only [List.set_cons_zero, List.set_cons_succ]
  refine xCall 30 98 #[.slice LA0 es.length LC0, .pointer (some ⟨PB, 0, none⟩), .pointer (some ⟨AB, 0, none⟩)] (by kernel_rfl) ?_
  refine (pathTell_any tab PB AB hPA _ es h 0 hh (by omega) hn hes kk hkk leaf none 0 0 w.heap.size w1 L.se BO P1 A1 (by omega) (by omega) (by omega)).mono ?_
  rintro en w2 ⟨rfl, A0, n0, C0, hBO, hP1, hA1, hEv⟩
  have e2 := hEv
  have ze2 := e2.size
  have TB_ := TB.ev e2 (fun h => by rcases h with h | h | h <;> first | omega | (have := no_own _ h; omega))
  have D_ := D.ev e2 (fun i hi h => by have := hvl i hi; rcases h with h | h | h <;> first | omega | (have := no_own _ h; omega))
  have EV : Ev (fun i => i = PB ∨ i = AB) w w2 := EV.then e2 (fun i h => by show (i = PB ∨ i = AB) ∨ _ ≤ i; rcases h with h | h | h <;> first | omega | (have := no_own _ h; omega))
  have L_ := L.ev e2 (fun i hi h => by have := lL_1 i hi; rcases h with h | h | h <;> first | omega | (have := no_own _ h; omega))
  replace TB := TB_; clear TB_
  replace D := D_; clear D_
  replace L := L_; clear L_
  clear e2
  have BO : OwnE 37 .u8 32 w.heap.size w2 (.slice A0 n0 C0) (nnd (mpath tab (min (0 + 1) h) es kk)) := hBO
  have P1 : Cel w2 PB 66 [.int .i64 leaf, .slice A0 n0 C0] := hP1
  have A1 : Cel w2 AB 3 [.int .i64 ((kk / 2 ^ (min (0 + 1) h) : Nat) : Int)] := hA1
  have lBO_2 := BO.ge
  refine ⟨.tuple #[], rfl, ?_⟩
  simp only [List.set_cons_zero, List.set_cons_succ]
  refine wpList_nil ?_
  refine hK7 _ _ ?_
  refine wp_block ?_
  refine cLoop (fun N_ A_ w_ => ∃ (j : Nat) (LA : Option Addr) (LC : Nat) (ln : Nat) (BA : Option Addr) (bn BC : Nat), (N_ = h - j ∧ (j ≤ h) ∧ (ln = 2 ^ (h - j)) ∧ (∃ s1 : Nat → Value, A_ = ⟨[.pointer (some ⟨T, 0, none⟩), .slice vA es.length vC, .func (.func 98) #[] #[.pointer (some ⟨PB, 0, none⟩), .pointer (some ⟨AB, 0, none⟩)], undef, undef, undef, .bool false, .int .i64 (es.length : Int), .slice LA ln LC, (s1 9), (s1 10), .slice vA es.length vC, .int .i64 (es.length : Int), .int .i64 (es.length : Int), .bool false, .bool false, .int .i64 (es.length : Int), .bool false, .bool false, .bool false, .int .i64 (es.length : Int), .int .i64 (es.length : Int), .int .i64 ((es.length - 1 : Nat) : Int), .int .i64 ((0 : Nat) : Int), .bool false, .bool false, .slice vA es.length vC, .slice LA0 es.length LC0, .func (.func 98) #[] #[.pointer (some ⟨PB, 0, none⟩), .pointer (some ⟨AB, 0, none⟩)], .slice LA0 es.length LC0, .tuple #[], (s1 31), (s1 32), (s1 33), (s1 34), (s1 35), (s1 36), (s1 37), (s1 38), (s1 39), (s1 40), (s1 41), (s1 42), (s1 43), (s1 44), (s1 45), (s1 46), (s1 47), (s1 48), (s1 49), (s1 50), (s1 51), (s1 52), (s1 53), (s1 54), (s1 55), (s1 56), (s1 57)].toArray, []⟩) ∧ Blk .u32 w_ T 26 (nn tab) ∧ Ev (fun i => i = PB ∨ i = AB) w w_ ∧ OwnE 37 .u8 32 w.heap.size w_ (.slice LA ln LC) (nnd (mups tab j es)) ∧ OwnE 37 .u8 32 w.heap.size w_ (.slice BA bn BC) (nnd (mpath tab (min (j + 1) h) es kk)) ∧ Cel w_ PB 66 [.int .i64 leaf, .slice BA bn BC] ∧ Cel w_ AB 3 [.int .i64 ((kk / 2 ^ (min (j + 1) h) : Nat) : Int)] ∧ w2.heap.size ≤ w_.heap.size)) _ ⟨0, LA0, LC0, es.length, A0, n0, C0, rfl, (Nat.zero_le _), hn, cutE, TB, EV, L, BO, P1, A1, Nat.le_refl _⟩ ?_
  clear TB D EV L BO P1 A1
  rintro n_ a_ wl0 ⟨j, LA, LC, ln, BA, bn, BC, rfl, hc0_0, hc0_1, ⟨s1, rfl⟩, TB, EV, L, BO, P1, A1, zl0⟩
  have lL_2 := L.ge
  have lBO_3 := BO.ge
  have hXn : (mups tab j es).length = ln := by rw [hc0_1]; exact mups_len tab j _ es (by rw [hn, ← Nat.pow_add]; congr 1; omega)
  have hXl := mups_lens tab j es hes
  have hpl : 2 ^ (h - j) ≤ 2 ^ h := Nat.pow_le_pow_right (by omega) (by omega)
  have hBOb := BO.ge
  refine wp_seq_k fun K8 hK8 => ?_
  refine wp_seq_k fun K9 hK9 => ?_
  refine cPlain ?_
  refine sv 31 (.slice LA ln LC) .of ?_
  simp only [List.set_cons_zero, List.set_cons_succ]
  refine sv 32 (.int .i64 (ln : Int)) .of ?_
  simp only [List.set_cons_zero, List.set_cons_succ]
  refine sv 33 (.bool (decide (1 < (ln : Int)))) (Val.cmp .gtr 3 _ (.tmp 32) _ rfl .i64 (ln : Int) 1 (by kernel_rfl) (by kernel_rfl) (by simp) _ rfl) ?_
  simp only [List.set_cons_zero, List.set_cons_succ]
  refine wpList_nil ?_
  refine hK9 _ _ ?_
  refine cDec (1 < (ln : Int)) (by kernel_rfl) (fun c33 => ?_) (fun c33 => ?_)
  · skip
    refine wp_skip ?_
    refine hK8 _ _ ?_
    refine wp_seq_k fun K10 hK10 => ?_
    refine wp_block ?_
    refine wp_seq_k fun K11 hK11 => ?_
    have hjh : j < h := by
      rcases Nat.lt_or_ge j h with h1 | h1
      · exact h1
      · exfalso; rw [show h - j = 0 by omega, Nat.pow_zero] at hc0_1; omega
    obtain ⟨q, hq⟩ : ∃ q, 2 ^ (h - j - 1) = q := ⟨_, rfl⟩
    have hq2 : ln = 2 * q := by rw [hc0_1, ← hq, ← Nat.pow_succ']; congr 1; omega
    have hq3 : 1 ≤ q := by rw [← hq]; exact Nat.one_le_two_pow
    have hLb := L.ge
    refine cPlain ?_
    refine sv 9 (.slice none 0 0) .of ?_
    simp only [List.set_cons_zero, List.set_cons_succ]
    refine wpList_nil ?_
    refine hK11 _ _ ?_
    refine wp_seq_k fun K12 hK12 => ?_
    refine wp_seq_k fun K13 hK13 => ?_
    refine cPlain ?_
    refine sv 10 (.int .i64 0) .of ?_
    simp only [List.set_cons_zero, List.set_cons_succ]
    refine wpList_nil ?_
    refine hK13 _ _ ?_
    refine wp_block ?_
    refine cLoop (fun N_ A_ w_ => ∃ (m : Nat) (UA : Option Addr) (UC : Nat) (un : Nat), (N_ = q - m ∧ (m ≤ q) ∧ (un = m) ∧ (∃ s2 : Nat → Value, A_ = ⟨[.pointer (some ⟨T, 0, none⟩), .slice vA es.length vC, .func (.func 98) #[] #[.pointer (some ⟨PB, 0, none⟩), .pointer (some ⟨AB, 0, none⟩)], undef, undef, undef, .bool false, .int .i64 (es.length : Int), .slice LA ln LC, .slice UA un UC, .int .i64 ((2 * m : Nat) : Int), .slice vA es.length vC, .int .i64 (es.length : Int), .int .i64 (es.length : Int), .bool false, .bool false, .int .i64 (es.length : Int), .bool false, .bool false, .bool false, .int .i64 (es.length : Int), .int .i64 (es.length : Int), .int .i64 ((es.length - 1 : Nat) : Int), .int .i64 ((0 : Nat) : Int), .bool false, .bool false, .slice vA es.length vC, .slice LA0 es.length LC0, .func (.func 98) #[] #[.pointer (some ⟨PB, 0, none⟩), .pointer (some ⟨AB, 0, none⟩)], .slice LA0 es.length LC0, .tuple #[], .slice LA ln LC, .int .i64 (ln : Int), .bool (decide (1 < (ln : Int))), (s1 34), (s1 35), (s1 36), (s2 37), (s2 38), (s2 39), (s2 40), (s2 41), (s2 42), (s2 43), (s2 44), (s2 45), (s2 46), (s2 47), (s2 48), (s2 49), (s2 50), (s2 51), (s2 52), (s2 53), (s2 54), (s2 55), (s2 56), (s1 57)].toArray, []⟩) ∧ Blk .u32 w_ T 26 (nn tab) ∧ Ev (fun i => i = PB ∨ i = AB) w w_ ∧ OwnE 37 .u8 32 w.heap.size w_ (.slice LA ln LC) (nnd (mups tab j es)) ∧ OwnE 37 .u8 32 w.heap.size w_ (.slice BA bn BC) (nnd (mpath tab (min (j + 1) h) es kk)) ∧ Cel w_ PB 66 [.int .i64 leaf, .slice BA bn BC] ∧ Cel w_ AB 3 [.int .i64 ((kk / 2 ^ (min (j + 1) h) : Nat) : Int)] ∧ OwnE 37 .u8 32 wl0.heap.size w_ (.slice UA un UC) (nnd (mup tab ((mups tab j es).take (2 * m)))) ∧ wl0.heap.size ≤ w_.heap.size)) _ ⟨0, none, 0, 0, rfl, (Nat.zero_le _), rfl, cutE, TB, EV, L, BO, P1, A1, (OwnE.nil _ _ _ _ _), Nat.le_refl _⟩ ?_
    clear TB EV L BO P1 A1
    rintro n_ a_ wl1 ⟨m, UA, UC, un, rfl, hc1_0, hc1_1, ⟨s2, rfl⟩, TB, EV, L, BO, P1, A1, U, zl1⟩
    have lL_3 := L.ge
    have lBO_4 := BO.ge
    have lU_1 := U.ge
    refine wp_seq_k fun K14 hK14 => ?_
    refine wp_seq_k fun K15 hK15 => ?_
    refine cPlain ?_
    refine sv 37 (.int .i64 ((2 * m : Nat) : Int)) .of ?_
    simp only [List.set_cons_zero, List.set_cons_succ]
    refine sv 38 (.slice LA ln LC) .of ?_
    simp only [List.set_cons_zero, List.set_cons_succ]
    refine sv 39 (.int .i64 (ln : Int)) .of ?_
    simp only [List.set_cons_zero, List.set_cons_succ]
    refine sv 40 (.bool (decide (((2 * m : Nat) : Int) < (ln : Int)))) (Val.cmp .lss 3 _ (.tmp 37) (.tmp 39) rfl .i64 ((2 * m : Nat) : Int) (ln : Int) (by kernel_rfl) (by kernel_rfl) (by simp) _ rfl) ?_
    simp only [List.set_cons_zero, List.set_cons_succ]
    refine wpList_nil ?_
    refine hK15 _ _ ?_
    refine cDec (((2 * m : Nat) : Int) < (ln : Int)) (by kernel_rfl) (fun c40 => ?_) (fun c40 => ?_)
    · skip
      refine wp_skip ?_
      refine hK14 _ _ ?_
      refine wp_seq_k fun K16 hK16 => ?_
      refine wp_block ?_
      have hml2 : (mup tab ((mups tab j es).take (2 * m))).length = m := mup_len tab m _ (by rw [List.length_take]; omega)
      have hml := mnode_len tab ((mups tab j es).getD (2 * m) []) ((mups tab j es).getD (2 * m + 1) [])
      have e3 := drew_e0 wl1
      refine zg (fun w_ => Blk .u32 w_ T 26 (nn tab) ∧ Ev (fun i => i = PB ∨ i = AB) w w_ ∧ OwnE 37 .u8 32 w.heap.size w_ (.slice LA ln LC) (nnd (mups tab j es)) ∧ OwnE 37 .u8 32 w.heap.size w_ (.slice BA bn BC) (nnd (mpath tab (min (j + 1) h) es kk)) ∧ Cel w_ PB 66 [.int .i64 leaf, .slice BA bn BC] ∧ Cel w_ AB 3 [.int .i64 ((kk / 2 ^ (min (j + 1) h) : Nat) : Int)] ∧ wl1.heap.size ≤ w_.heap.size) (fun w_ => Blk .u32 w_ T 26 (nn tab) ∧ Ev (fun i => i = PB ∨ i = AB) w w_ ∧ OwnE 37 .u8 32 w.heap.size w_ (.slice LA ln LC) (nnd (mups tab j es)) ∧ OwnE 37 .u8 32 w.heap.size w_ (.slice BA bn BC) (nnd (mpath tab (min (j + 1) h) es kk)) ∧ Cel w_ PB 66 [.int .i64 leaf, .slice BA bn BC] ∧ Cel w_ AB 3 [.int .i64 ((kk / 2 ^ (min (j + 1) h) : Nat) : Int)] ∧ OwnE 37 .u8 32 wl0.heap.size w_ (.slice UA un UC) (nnd (mup tab ((mups tab j es).take (2 * m)))) ∧ wl1.heap.size ≤ w_.heap.size) 100000 15 ⟨TB.e0 e3, EV.then e3 (fun _ x => x.elim), L.e0 e3, BO.e0 e3, P1.e0 e3, A1.e0 e3, U.e0 e3, Nat.le_refl _⟩ ?_
      clear TB EV L BO P1 A1 U
      clear e3
      intro w3
      rintro ⟨TB, EV, L, BO, P1, A1, U, z1⟩
      refine zv 0 43 (.slice UA un UC) (fun _ _ => .of) ⟨TB, EV, L, BO, P1, A1, by omega⟩ ?_
      simp only [List.set_cons_zero, List.set_cons_succ]
      refine zv 1 44 (.pointer (some ⟨T, 0, none⟩)) (fun _ _ => .of) ⟨TB, EV, L, BO, P1, A1, by omega⟩ ?_
      simp only [List.set_cons_zero, List.set_cons_succ]
      refine zv 2 45 (.slice LA ln LC) (fun _ _ => .of) ⟨TB, EV, L, BO, P1, A1, by omega⟩ ?_
      simp only [List.set_cons_zero, List.set_cons_succ]
      refine zv 3 46 (.int .i64 ((2 * m : Nat) : Int)) (fun _ _ => .of) ⟨TB, EV, L, BO, P1, A1, by omega⟩ ?_
      simp only [List.set_cons_zero, List.set_cons_succ]
      refine zv 4 47 (elemE 32 (.slice LA ln LC) (2 * m)) (fun _ ⟨TB, EV, L, BO, P1, A1, z1⟩ => Val.ixE 63 (.tmp 45) (.tmp 46) rfl (.slice LA ln LC) (2 * m) (by kernel_rfl) (by kernel_rfl) L.se Try.underlying63 (by kernel_rfl) (by simp only [nnd_len]; omega)) ⟨TB, EV, L, BO, P1, A1, by omega⟩ ?_
      simp only [List.set_cons_zero, List.set_cons_succ]
      refine zv 5 48 (.agg (cellsOf .u8 (nn ((mups tab j es).getD (2 * m) [])))) (fun _ ⟨TB, EV, L, BO, P1, A1, z1⟩ => Val.ldGN 37 _ rfl (.slice LA ln LC) (2 * m) (by kernel_rfl) L.se _ Try.underlying37 rfl (by kernel_rfl) (by simp only [nnd_len]; omega)) ⟨TB, EV, L, BO, P1, A1, by omega⟩ ?_
      simp only [List.set_cons_zero, List.set_cons_succ]
      refine zv 6 49 (.slice LA ln LC) (fun _ _ => .of) ⟨TB, EV, L, BO, P1, A1, by omega⟩ ?_
      simp only [List.set_cons_zero, List.set_cons_succ]
      refine zv 7 50 (.int .i64 ((2 * m : Nat) : Int)) (fun _ _ => .of) ⟨TB, EV, L, BO, P1, A1, by omega⟩ ?_
      simp only [List.set_cons_zero, List.set_cons_succ]
      refine zv 8 51 (.int .i64 ((2 * m + 1 : Nat) : Int)) (fun _ ⟨TB, EV, L, BO, P1, A1, z1⟩ => Val.as (Val.add 3 _ (.tmp 50) _ rfl ((2 * m : Nat) : Int) 1 (by kernel_rfl) (by kernel_rfl) (by omega)) (congrArg (Value.int .i64) (by omega))) ⟨TB, EV, L, BO, P1, A1, by omega⟩ ?_
      simp only [List.set_cons_zero, List.set_cons_succ]
      refine zv 9 52 (elemE 32 (.slice LA ln LC) (2 * m + 1)) (fun _ ⟨TB, EV, L, BO, P1, A1, z1⟩ => Val.ixE 63 (.tmp 49) (.tmp 51) rfl (.slice LA ln LC) (2 * m + 1) (by kernel_rfl) (by kernel_rfl) L.se Try.underlying63 (by kernel_rfl) (by simp only [nnd_len]; omega)) ⟨TB, EV, L, BO, P1, A1, by omega⟩ ?_
      simp only [List.set_cons_zero, List.set_cons_succ]
      refine zv 10 53 (.agg (cellsOf .u8 (nn ((mups tab j es).getD (2 * m + 1) [])))) (fun _ ⟨TB, EV, L, BO, P1, A1, z1⟩ => Val.ldGN 37 _ rfl (.slice LA ln LC) (2 * m + 1) (by kernel_rfl) L.se _ Try.underlying37 rfl (by kernel_rfl) (by simp only [nnd_len]; omega)) ⟨TB, EV, L, BO, P1, A1, by omega⟩ ?_
      simp only [List.set_cons_zero, List.set_cons_succ]
      refine zo1 11 rfl ?_
      refine xCall 54 40 #[.pointer (some ⟨T, 0, none⟩), .agg (cellsOf .u8 (nn ((mups tab j es).getD (2 * m) []))), .agg (cellsOf .u8 (nn ((mups tab j es).getD (2 * m + 1) [])))] (by kernel_rfl) ?_
      refine (mnode_any T tab ht w3 TB ((mups tab j es).getD (2 * m) []) ((mups tab j es).getD (2 * m + 1) []) (fe_getDN hXl (by omega)) (fe_getDN hXl (by omega))).mono ?_
      rintro en w4 ⟨rfl, hb1⟩
      have e4 := belE0 hb1
      have ze4 := e4.size
      replace TB := TB.e0 e4
      have EV : Ev (fun i => i = PB ∨ i = AB) w w4 := EV.then e4 (fun _ x => x.elim)
      replace L := L.e0 e4
      replace BO := BO.e0 e4
      replace P1 := P1.e0 e4
      replace A1 := A1.e0 e4
      replace U := U.e0 e4
      clear e4
      refine ⟨.agg (cellsOf .u8 (nn (mnode tab ((mups tab j es).getD (2 * m) []) ((mups tab j es).getD (2 * m + 1) [])))), rfl, ?_⟩
      refine ze 11 ⟨TB, EV, L, BO, P1, A1, by omega⟩ ?_
      simp only [List.set_cons_zero, List.set_cons_succ]
      refine zo1 12 rfl ?_
      refine xLitE 55 63 37 1 _ rfl .u8 32 (nnd [(mnode tab ((mups tab j es).getD (2 * m) []) ((mups tab j es).getD (2 * m + 1) []))]) (by kernel_rfl) Try.underlying63 (by kernel_rfl) (by omega) rfl (by omega) (by omega) (lenC (by (try simp only [nn_len, List.length_cons, List.length_nil, List.length_set, List.length_replicate]); try omega) lenN) ?_
      intro w5 n1 b55
      have zn1 := n1.z
      replace TB := TB.e0 n1.e
      have EV : Ev (fun i => i = PB ∨ i = AB) w w5 := EV.then n1.e (fun _ x => x.elim)
      replace L := L.e0 n1.e
      replace BO := BO.e0 n1.e
      replace P1 := P1.e0 n1.e
      replace A1 := A1.e0 n1.e
      replace U := U.e0 n1.e
      have lb55_1 := b55.ge
      refine ze 12 ⟨TB, EV, L, BO, P1, A1, by omega⟩ ?_
      simp only [List.set_cons_zero, List.set_cons_succ]
      refine zo1 13 rfl ?_
      refine xAppE 56 (.tmp 43) (.tmp 55) 63 37 .u8 32 32 rfl Try.underlying63 (by kernel_rfl) (by omega) wl0.heap.size (.slice UA un UC) (nnd (mup tab ((mups tab j es).take (2 * m)))) (by kernel_rfl) U (.slice (some ⟨w4.heap.size, 0, none⟩) 1 1) (nnd [(mnode tab ((mups tab j es).getD (2 * m) []) ((mups tab j es).getD (2 * m + 1) []))]) (by kernel_rfl) b55.se ?va1_1 ?va1_2 ?va1_3 ?_
      case va1_1 => simp only [nnd_len, List.length_append, List.length_cons, List.length_nil]; omega
      case va1_2 => simp only [nnd_len, List.length_append, List.length_cons, List.length_nil]; unfold maxLen; omega
      case va1_3 => omega
      intro va1 w6 rva1 e5
      have ze5 := e5.size
      have TB_ := TB.ev e5 (fun h => by have := lU_1 _ h; omega)
      have EV : Ev (fun i => i = PB ∨ i = AB) w w6 := EV.then e5 (fun i h => by have := lU_1 _ h; show (i = PB ∨ i = AB) ∨ _ ≤ i; omega)
      have L_ := L.ev e5 (fun i hi h => by have := hLb i hi; have := lU_1 _ h; omega)
      have BO_ := BO.ev e5 (fun i hi h => by have := hBOb i hi; have := lU_1 _ h; omega)
      have P1_ := P1.ev e5 (fun h => by have := lU_1 _ h; omega)
      have A1_ := A1.ev e5 (fun h => by have := lU_1 _ h; omega)
      have b55_ := b55.ev e5 (fun i hi h => by have := lb55_1 i hi; have := lU_1 _ h; omega)
      replace TB := TB_; clear TB_
      replace L := L_; clear L_
      replace BO := BO_; clear BO_
      replace P1 := P1_; clear P1_
      replace A1 := A1_; clear A1_
      replace b55 := b55_; clear b55_
      rw [← nnd_app] at rva1
      obtain ⟨Au, Cu, hAu, hlAu⟩ := rva1.len; rw [nnd_len] at hAu hlAu
      subst hAu
      replace U := rva1
      clear rva1 e5
      have lU_2 := U.ge
      refine ze 13 ⟨TB, EV, L, BO, P1, A1, by omega⟩ ?_
      simp only [List.set_cons_zero, List.set_cons_succ]
      refine zv 14 9 (.slice Au (((mup tab ((mups tab j es).take (2 * m))) ++ [(mnode tab ((mups tab j es).getD (2 * m) []) ((mups tab j es).getD (2 * m + 1) []))])).length Cu) (fun _ _ => .of) ⟨TB, EV, L, BO, P1, A1, by omega⟩ ?_
      simp only [List.set_cons_zero, List.set_cons_succ]
      refine zd (by kernel_rfl) ?_ _
      refine hK16 _ _ ?_
      refine cPlain ?_
      refine sv 41 (.int .i64 ((2 * m : Nat) : Int)) .of ?_
      simp only [List.set_cons_zero, List.set_cons_succ]
      refine sv 42 (.int .i64 ((2 * (m + 1) : Nat) : Int)) (Val.as (Val.add 3 _ (.tmp 41) _ rfl ((2 * m : Nat) : Int) 2 (by kernel_rfl) (by kernel_rfl) (by omega)) (congrArg (Value.int .i64) (by omega))) ?_
      simp only [List.set_cons_zero, List.set_cons_succ]
      refine sv 10 (.int .i64 ((2 * (m + 1) : Nat) : Int)) .of ?_
      simp only [List.set_cons_zero, List.set_cons_succ]
      refine wpList_nil ?_
      refine ⟨_, ?_, m + 1, Au, Cu, (((mup tab ((mups tab j es).take (2 * m))) ++ [(mnode tab ((mups tab j es).getD (2 * m) []) ((mups tab j es).getD (2 * m + 1) []))])).length, rfl, by omega, by (simp only [List.length_append, List.length_cons, List.length_nil]; rw [mup_len tab m _ (by rw [List.length_take]; omega)]), cutE, TB, EV, L, BO, P1, A1, (OwnE.cast U (congrArg nnd (mup_take tab _ m (by omega)).symm)), by omega⟩
      omega
    · skip
      refine wp_exit ?_
      simp only [Exit.then, Exit.inBlock, ↓reduceIte, Nat.reduceEqDiff]
      refine hK12 _ _ ?_
      have hmq : 2 * m = ln := by omega
      have hUe : mup tab ((mups tab j es).take (2 * m)) = mups tab (j + 1) es := by rw [List.take_of_length_le (by omega), mups_succ]
      have hUl : (mups tab (j + 1) es).length = q := by rw [mups_succ]; exact mup_len tab q _ (by omega)
      rw [hUe] at U
      have hUb := U.ge
      have hmj : min (j + 1) h = j + 1 := Nat.min_eq_left (by omega)
      rw [hmj] at BO A1
      refine cPlain ?_
      refine sv 57 (.slice UA un UC) .of ?_
      simp only [List.set_cons_zero, List.set_cons_succ]
      refine sv 8 (.slice UA un UC) .of ?_
      simp only [List.set_cons_zero, List.set_cons_succ]
      refine wpList_nil ?_
      refine hK10 _ _ ?_
      refine cPlain ?_
      refine sv 34 (.func (.func 98) #[] #[.pointer (some ⟨PB, 0, none⟩), .pointer (some ⟨AB, 0, none⟩)]) .of ?_
      simp only [List.set_cons_zero, List.set_cons_succ]
      refine sv 35 (.slice UA un UC) .of ?_
      simp only [List.set_cons_zero, List.set_cons_succ]
      refine xCall 36 98 #[.slice UA un UC, .pointer (some ⟨PB, 0, none⟩), .pointer (some ⟨AB, 0, none⟩)] (by kernel_rfl) ?_
      refine (pathTell_any tab PB AB hPA _ es h (j + 1) hh (by omega) hn hes kk hkk leaf BA BC bn w.heap.size wl1 U.se BO P1 A1 (by omega) (by omega) (by omega)).mono ?_
      rintro en w7 ⟨rfl, A9, n9, C9, hBO, hP1, hA1, hEv⟩
      have e6 := hEv
      have ze6 := e6.size
      have TB_ := TB.ev e6 (fun h => by rcases h with h | h | h <;> first | omega | (have := hBOb _ h; omega))
      have EV : Ev (fun i => i = PB ∨ i = AB) w w7 := EV.then e6 (fun i h => by show (i = PB ∨ i = AB) ∨ _ ≤ i; rcases h with h | h | h <;> first | omega | (have := hBOb _ h; omega))
      have U_ := U.ev e6 (fun i hi h => by have := lU_1 i hi; rcases h with h | h | h <;> first | omega | (have := hBOb _ h; omega))
      replace TB := TB_; clear TB_
      replace U := U_; clear U_
      clear e6
      have BO : OwnE 37 .u8 32 w.heap.size w7 (.slice A9 n9 C9) (nnd (mpath tab (min ((j + 1) + 1) h) es kk)) := hBO
      have P1 : Cel w7 PB 66 [.int .i64 leaf, .slice A9 n9 C9] := hP1
      have A1 : Cel w7 AB 3 [.int .i64 ((kk / 2 ^ (min ((j + 1) + 1) h) : Nat) : Int)] := hA1
      have lBO_5 := BO.ge
      refine ⟨.tuple #[], rfl, ?_⟩
      simp only [List.set_cons_zero, List.set_cons_succ]
      refine wpList_nil ?_
      refine ⟨_, ?_, j + 1, UA, UC, un, A9, n9, C9, rfl, by omega, (by have e : 2 ^ (h - (j + 1)) = q := hq; omega), cutE, TB, EV, (U.mono (by omega)), BO, P1, A1, by omega⟩
      omega
  · skip
    refine wp_exit ?_
    simp only [Exit.then, Exit.inBlock, ↓reduceIte, Nat.reduceEqDiff]
    refine hK6 _ _ ?_
    refine wp_seq_k fun K17 hK17 => ?_
    refine cPlain ?_
    refine sv 6 (.bool true) .of ?_
    simp only [List.set_cons_zero, List.set_cons_succ]
    refine wpList_nil ?_
    refine hK17 _ _ ?_
    refine wp_ret ?_
    (try simp only [Exit.then, Exit.inBlock])
    refine bodyPost_ret (v := .bool true) rT rfl ?_
    have hjh : j = h := by
      rcases Nat.lt_or_ge j h with h1 | h1
      · have := two_le_pow (show 0 < h - j by omega); omega
      · omega
    subst hjh
    rw [Nat.min_eq_right (by omega)] at BO
    exact ⟨rfl, _, _, _, BO, P1, EV⟩

set_option maxHeartbeats 4000000 in
theorem levels_no (t f : Value) (v : Value) (es : List (List Nat)) (w : World) (D : SE .u8 32 w v (nnd es)) (hl : es.length ≤ 1000) (hno : heightN es.length = none) :
    Calls Try.prog 96 #[t, v, f] w fun e w' => e = .returned (.bool false) ∧ w' = w := by
  obtain ⟨vA, vC, hv, hvc⟩ := D.len
  rw [nnd_len] at hv hvc
  subst hv
  go_enter Try.func96, Try.ntmps96
  refine wp_seq_k fun K1 hK1 => ?_
  refine cPlain ?_
  refine sv 6 (.bool false) .of ?_
  simp only [List.set_cons_zero, List.set_cons_succ]
  refine wpList_nil ?_
  refine hK1 _ _ ?_
  refine wp_seq_k fun K2 hK2 => ?_
  refine cPlain ?_
  refine sv 11 (.slice vA es.length vC) .of ?_
  simp only [List.set_cons_zero, List.set_cons_succ]
  refine sv 12 (.int .i64 (es.length : Int)) .of ?_
  simp only [List.set_cons_zero, List.set_cons_succ]
  refine sv 7 (.int .i64 (es.length : Int)) .of ?_
  simp only [List.set_cons_zero, List.set_cons_succ]
  refine wpList_nil ?_
  refine hK2 _ _ ?_
  refine wp_seq_k fun K3 hK3 => ?_
  refine wp_seq_k fun K4 hK4 => ?_
  refine cPlain ?_
  refine sv 13 (.int .i64 (es.length : Int)) .of ?_
  simp only [List.set_cons_zero, List.set_cons_succ]
  refine sv 14 (.bool (decide ((es.length : Int) < 1))) (Val.cmp .lss 3 _ (.tmp 13) _ rfl .i64 (es.length : Int) 1 (by kernel_rfl) (by kernel_rfl) (by simp) _ rfl) ?_
  simp only [List.set_cons_zero, List.set_cons_succ]
  refine sv 15 (.bool (decide ((es.length : Int) < 1))) .of ?_
  simp only [List.set_cons_zero, List.set_cons_succ]
  by_cases g16 : (es.length : Int) < 1
  · skip
    have dg16 : decide ((es.length : Int) < 1) = true := decide_eq_true g16
    simp only [dg16]
    clear dg16
    refine xSkip 16 ?_
    simp only [List.set_cons_zero, List.set_cons_succ]
    refine xSkip 17 ?_
    simp only [List.set_cons_zero, List.set_cons_succ]
    refine sv 18 (.bool true) .of ?_
    simp only [List.set_cons_zero, List.set_cons_succ]
    refine sv 19 (.bool true) .of ?_
    simp only [List.set_cons_zero, List.set_cons_succ]
    refine xSkip 20 ?_
    simp only [List.set_cons_zero, List.set_cons_succ]
    refine xSkip 21 ?_
    simp only [List.set_cons_zero, List.set_cons_succ]
    refine xSkip 22 ?_
    simp only [List.set_cons_zero, List.set_cons_succ]
    refine xSkip 23 ?_
    simp only [List.set_cons_zero, List.set_cons_succ]
    refine xSkip 24 ?_
    simp only [List.set_cons_zero, List.set_cons_succ]
    refine sv 25 (.bool true) .of ?_
    simp only [List.set_cons_zero, List.set_cons_succ]
    refine wpList_nil ?_
    refine hK4 _ _ ?_
    refine cT ?_
    refine wp_seq_k fun K5 hK5 => ?_
    refine cPlain ?_
    refine sv 6 (.bool false) .of ?_
    simp only [List.set_cons_zero, List.set_cons_succ]
    refine wpList_nil ?_
    refine hK5 _ _ ?_
    refine wp_ret ?_
    (try simp only [Exit.then, Exit.inBlock])
    refine bodyPost_ret (v := .bool false) rT rfl ?_
    exact ⟨rfl, rfl⟩
  · skip
    have dg16 : decide ((es.length : Int) < 1) = false := decide_eq_false g16
    simp only [dg16]
    clear dg16
    refine sv 16 (.int .i64 (es.length : Int)) .of ?_
    simp only [List.set_cons_zero, List.set_cons_succ]
    refine sv 17 (.bool (decide (256 < (es.length : Int)))) (Val.cmp .gtr 3 _ (.tmp 16) _ rfl .i64 (es.length : Int) 256 (by kernel_rfl) (by kernel_rfl) (by simp) _ rfl) ?_
    simp only [List.set_cons_zero, List.set_cons_succ]
    refine sv 18 (.bool (decide (256 < (es.length : Int)))) .of ?_
    simp only [List.set_cons_zero, List.set_cons_succ]
    refine sv 19 (.bool (decide (256 < (es.length : Int)))) .of ?_
    simp only [List.set_cons_zero, List.set_cons_succ]
    by_cases g20 : 256 < (es.length : Int)
    · skip
      have dg20 : decide (256 < (es.length : Int)) = true := decide_eq_true g20
      simp only [dg20]
      clear dg20
      refine xSkip 20 ?_
      simp only [List.set_cons_zero, List.set_cons_succ]
      refine xSkip 21 ?_
      simp only [List.set_cons_zero, List.set_cons_succ]
      refine xSkip 22 ?_
      simp only [List.set_cons_zero, List.set_cons_succ]
      refine xSkip 23 ?_
      simp only [List.set_cons_zero, List.set_cons_succ]
      refine xSkip 24 ?_
      simp only [List.set_cons_zero, List.set_cons_succ]
      refine sv 25 (.bool true) .of ?_
      simp only [List.set_cons_zero, List.set_cons_succ]
      refine wpList_nil ?_
      refine hK4 _ _ ?_
      refine cT ?_
      refine wp_seq_k fun K6 hK6 => ?_
      refine cPlain ?_
      refine sv 6 (.bool false) .of ?_
      simp only [List.set_cons_zero, List.set_cons_succ]
      refine wpList_nil ?_
      refine hK6 _ _ ?_
      refine wp_ret ?_
      (try simp only [Exit.then, Exit.inBlock])
      refine bodyPost_ret (v := .bool false) rT rfl ?_
      exact ⟨rfl, rfl⟩
    · skip
      have dg20 : decide (256 < (es.length : Int)) = false := decide_eq_false g20
      simp only [dg20]
      clear dg20
      refine sv 20 (.int .i64 (es.length : Int)) .of ?_
      simp only [List.set_cons_zero, List.set_cons_succ]
      refine sv 21 (.int .i64 (es.length : Int)) .of ?_
      simp only [List.set_cons_zero, List.set_cons_succ]
      refine sv 22 (.int .i64 ((es.length - 1 : Nat) : Int)) (Val.as (Val.sub 3 _ (.tmp 21) _ rfl (es.length : Int) 1 (by kernel_rfl) (by kernel_rfl) (by omega)) (congrArg (Value.int .i64) (by omega))) ?_
      simp only [List.set_cons_zero, List.set_cons_succ]
      refine sv 23 (.int .i64 ((es.length &&& (es.length - 1) : Nat) : Int)) (Val.andI 3 _ (.tmp 20) (.tmp 22) rfl es.length (es.length - 1) (by kernel_rfl) (by kernel_rfl) (by omega) (by omega)) ?_
      simp only [List.set_cons_zero, List.set_cons_succ]
      refine sv 24 (.bool true) (Val.cmp .neq 3 _ (.tmp 23) _ rfl .i64 ((es.length &&& (es.length - 1) : Nat) : Int) 0 (by kernel_rfl) (by kernel_rfl) (by simp) _ (by have := no_and' hno (by omega) (by omega); simp [cmpB]; try omega)) ?_
      simp only [List.set_cons_zero, List.set_cons_succ]
      refine sv 25 (.bool true) .of ?_
      simp only [List.set_cons_zero, List.set_cons_succ]
      refine wpList_nil ?_
      refine hK4 _ _ ?_
      refine cT ?_
      refine wp_seq_k fun K7 hK7 => ?_
      refine cPlain ?_
      refine sv 6 (.bool false) .of ?_
      simp only [List.set_cons_zero, List.set_cons_succ]
      refine wpList_nil ?_
      refine hK7 _ _ ?_
      refine wp_ret ?_
      (try simp only [Exit.then, Exit.inBlock])
      refine bodyPost_ret (v := .bool false) rT rfl ?_
      exact ⟨rfl, rfl⟩

set_option maxHeartbeats 4000000 in
theorem mroot_any (T : Nat) (tab : List Nat) (ht : tab.length = 72) (w : World) (TB : Blk .u32 w T 26 (nn tab)) (v : Value) (es : List (List Nat)) (D : SE .u8 32 w v (nnd es)) (hes : ∀ d ∈ es, d.length = 32) (h : Nat) (hh : h ≤ 8) (hn : es.length = 2 ^ h) :
    Calls Try.prog 45 #[.pointer (some ⟨T, 0, none⟩), v] w fun e w' => e = .returned (.tuple #[.agg (cellsOf .u8 (nn (mroot tab h es))), .int .i64 0]) ∧ Below w.heap.size w w' := by
  have BL := Bl.refl w
  have hT := TB.lt
  have hvl := D.lt
  have hrl := mroot_len tab h es hn hes
  go_enter Try.func45, Try.ntmps45
  refine wp_seq_k fun K1 hK1 => ?_
  refine cPlain ?_
  refine xAlloc 4 37 ((nn (List.replicate 32 0)).map (Value.int .u8)) rfl (by kernel_rfl) ?_
  intro w1 n1
  have zn1 := n1.z
  have b4 := n1.c
  replace b4 : Blk .u8 w1 w.heap.size 37 (nn (List.replicate 32 0)) := b4
  replace BL := BL.e0 n1.e
  replace TB := TB.e0 n1.e
  replace D := D.e0 n1.e
  simp only [List.set_cons_zero, List.set_cons_succ]
  refine sv 5 (.int .i64 0) .of ?_
  simp only [List.set_cons_zero, List.set_cons_succ]
  refine wpList_nil ?_
  refine hK1 _ _ ?_
  refine wp_seq_k fun K2 hK2 => ?_
  refine cPlain ?_
  refine xAlloc 6 37 ((nn (List.replicate 32 0)).map (Value.int .u8)) rfl (by kernel_rfl) ?_
  intro w2 n2
  have zn2 := n2.z
  have b6 := n2.c
  replace b6 : Blk .u8 w2 w1.heap.size 37 (nn (List.replicate 32 0)) := b6
  replace BL := BL.e0 n2.e
  replace TB := TB.e0 n2.e
  replace D := D.e0 n2.e
  replace b4 := b4.e0 n2.e
  simp only [List.set_cons_zero, List.set_cons_succ]
  refine wpList_nil ?_
  refine hK2 _ _ ?_
  refine wp_seq_k fun K3 hK3 => ?_
  refine wp_seq_k fun K4 hK4 => ?_
  refine cPlain ?_
  refine sv 7 (.pointer (some ⟨T, 0, none⟩)) .of ?_
  simp only [List.set_cons_zero, List.set_cons_succ]
  refine sv 8 (v) .of ?_
  simp only [List.set_cons_zero, List.set_cons_succ]
  refine sv 9 (.func (.func 97) #[] #[.pointer (some ⟨w1.heap.size, 0, none⟩)]) .of ?_
  simp only [List.set_cons_zero, List.set_cons_succ]
  refine xCall 10 96 #[.pointer (some ⟨T, 0, none⟩), v, .func (.func 97) #[] #[.pointer (some ⟨w1.heap.size, 0, none⟩)]] (by kernel_rfl) ?_
  refine (levelsR_any T tab ht w2 TB v es D hes h hh hn w1.heap.size (List.replicate 32 0) rfl b6 (by omega) (fun i hi => by have := hvl i hi; omega)).mono ?_
  rintro en w3 ⟨rfl, hRB, hEv⟩
  have e1 := hEv
  have ze1 := e1.size
  have BL_ := BL.ev e1 (fun i h => show w.heap.size ≤ i by have h : i = w1.heap.size := h; omega)
  have TB_ := TB.ev e1 (show ¬ (T = w1.heap.size) by omega)
  have D_ := D.ev e1 (fun i hi => show ¬ (i = w1.heap.size) by have := hvl i hi; omega)
  have b4_ := b4.ev e1 (show ¬ (w.heap.size = w1.heap.size) by omega)
  replace BL := BL_; clear BL_
  replace TB := TB_; clear TB_
  replace D := D_; clear D_
  replace b4 := b4_; clear b4_
  clear e1
  have b6 : Blk .u8 w3 w1.heap.size 37 (nn (mroot tab h es)) := hRB
  refine ⟨.bool true, rfl, ?_⟩
  simp only [List.set_cons_zero, List.set_cons_succ]
  refine sv 11 (.bool false) .of ?_
  simp only [List.set_cons_zero, List.set_cons_succ]
  refine wpList_nil ?_
  refine hK4 _ _ ?_
  refine cF ?_
  refine wp_skip ?_
  refine hK3 _ _ ?_
  refine wp_seq_k fun K5 hK5 => ?_
  refine cPlain ?_
  refine sv 13 (.agg (cellsOf .u8 (nn (mroot tab h es)))) (Val.blk 37 _ rfl 0 32 (by kernel_rfl) b6 _ Try.underlying37 rfl (by kernel_rfl) (by (try simp only [nn_len, List.length_cons, List.length_nil, List.length_set, List.length_replicate]); try omega) _ (seg_all' _ (by (try simp only [nn_len, List.length_cons, List.length_nil, List.length_set, List.length_replicate]); try omega))) ?_
  simp only [List.set_cons_zero, List.set_cons_succ]
  refine xStoreA 37 (.tmp 4) (.tmp 13) rfl .u8 w.heap.size 37 (nn (List.replicate 32 0)) 0 (nn (mroot tab h es)) (by kernel_rfl) (by kernel_rfl) b4 (by rw [show (nn (mroot tab h es)).length = 32 by ((try simp only [nn_len, List.length_cons, List.length_nil, List.length_set, List.length_replicate]); try omega)]; kernel_rfl) (by (try simp only [nn_len, List.length_cons, List.length_nil, List.length_set, List.length_replicate]); try omega) (nn (mroot tab h es)) (over_whole _ _ (by (try simp only [nn_len, List.length_cons, List.length_nil, List.length_set, List.length_replicate]); try omega)) ?_
  intro w4 t1
  have zt1 := t1.z
  have BL_ := BL.ev t1.e (fun i h => show w.heap.size ≤ i by have h : i = w.heap.size := h; omega)
  have TB_ := TB.ev t1.e (show ¬ (T = w.heap.size) by omega)
  have D_ := D.ev t1.e (fun i hi => show ¬ (i = w.heap.size) by have := hvl i hi; omega)
  have b6_ := b6.ev t1.e (show ¬ (w1.heap.size = w.heap.size) by omega)
  replace BL := BL_; clear BL_
  replace TB := TB_; clear TB_
  replace D := D_; clear D_
  replace b6 := b6_; clear b6_
  replace b4 : Blk .u8 w4 w.heap.size 37 (nn (mroot tab h es)) := t1.c
  clear t1
  refine sv 5 (.int .i64 0) .of ?_
  simp only [List.set_cons_zero, List.set_cons_succ]
  refine wpList_nil ?_
  refine hK5 _ _ ?_
  refine wp_ret ?_
  (try simp only [Exit.then, Exit.inBlock])
  refine bodyPost_ret (rCT rfl _ w.heap.size _ _ (.int .i64 0) (by kernel_rfl) (by kernel_rfl) b4.cel _ Try.underlying37 rfl (by rw [List.length_map, show (nn (mroot tab h es)).length = 32 by ((try simp only [nn_len, List.length_cons, List.length_nil, List.length_set, List.length_replicate]); try omega)]; kernel_rfl)) rfl ?_
  exact ⟨rfl, BL.b⟩

set_option maxHeartbeats 4000000 in
theorem mroot_no (t v : Value) (es : List (List Nat)) (w : World) (D : SE .u8 32 w v (nnd es)) (hl : es.length ≤ 1000) (hno : heightN es.length = none) :
    Calls Try.prog 45 #[t, v] w fun e w' => e = .returned (.tuple #[.agg (cellsOf .u8 (nn (List.replicate 32 0))), .int .i64 2]) ∧ Below w.heap.size w w' := by
  have BL := Bl.refl w
  have hvl := D.lt
  go_enter Try.func45, Try.ntmps45
  refine wp_seq_k fun K1 hK1 => ?_
  refine cPlain ?_
  refine xAlloc 4 37 ((nn (List.replicate 32 0)).map (Value.int .u8)) rfl (by kernel_rfl) ?_
  intro w1 n1
  have zn1 := n1.z
  have b4 := n1.c
  replace b4 : Blk .u8 w1 w.heap.size 37 (nn (List.replicate 32 0)) := b4
  replace BL := BL.e0 n1.e
  replace D := D.e0 n1.e
  simp only [List.set_cons_zero, List.set_cons_succ]
  refine sv 5 (.int .i64 0) .of ?_
  simp only [List.set_cons_zero, List.set_cons_succ]
  refine wpList_nil ?_
  refine hK1 _ _ ?_
  refine wp_seq_k fun K2 hK2 => ?_
  refine cPlain ?_
  refine xAlloc 6 37 ((nn (List.replicate 32 0)).map (Value.int .u8)) rfl (by kernel_rfl) ?_
  intro w2 n2
  have zn2 := n2.z
  have b6 := n2.c
  replace b6 : Blk .u8 w2 w1.heap.size 37 (nn (List.replicate 32 0)) := b6
  replace BL := BL.e0 n2.e
  replace D := D.e0 n2.e
  replace b4 := b4.e0 n2.e
  simp only [List.set_cons_zero, List.set_cons_succ]
  refine wpList_nil ?_
  refine hK2 _ _ ?_
  refine wp_seq_k fun K3 hK3 => ?_
  refine wp_seq_k fun K4 hK4 => ?_
  refine cPlain ?_
  refine sv 7 (t) .of ?_
  simp only [List.set_cons_zero, List.set_cons_succ]
  refine sv 8 (v) .of ?_
  simp only [List.set_cons_zero, List.set_cons_succ]
  refine sv 9 (.func (.func 97) #[] #[.pointer (some ⟨w1.heap.size, 0, none⟩)]) .of ?_
  simp only [List.set_cons_zero, List.set_cons_succ]
  refine xCall 10 96 #[t, v, .func (.func 97) #[] #[.pointer (some ⟨w1.heap.size, 0, none⟩)]] (by kernel_rfl) ?_
  refine (levels_no t _ v es w2 D hl hno).mono ?_
  rintro en w3 ⟨rfl, hw⟩
  have e1 : E0 w2 w3 := (hw ▸ Ev.refl _ _)
  have ze1 := e1.size
  replace BL := BL.e0 e1
  replace D := D.e0 e1
  replace b4 := b4.e0 e1
  replace b6 := b6.e0 e1
  clear e1
  refine ⟨.bool false, rfl, ?_⟩
  simp only [List.set_cons_zero, List.set_cons_succ]
  refine sv 11 (.bool true) .of ?_
  simp only [List.set_cons_zero, List.set_cons_succ]
  refine wpList_nil ?_
  refine hK4 _ _ ?_
  refine cT ?_
  refine wp_seq_k fun K5 hK5 => ?_
  refine cPlain ?_
  refine sv 12 (.agg (cellsOf .u8 (nn [0, 0, 0, 0, 0, 0, 0, 0, 0, 0, 0, 0, 0, 0, 0, 0, 0, 0, 0, 0, 0, 0, 0, 0, 0, 0, 0, 0, 0, 0, 0, 0]))) .of ?_
  simp only [List.set_cons_zero, List.set_cons_succ]
  refine xStoreA 37 (.tmp 4) (.tmp 12) rfl .u8 w.heap.size 37 (nn (List.replicate 32 0)) 0 (nn [0, 0, 0, 0, 0, 0, 0, 0, 0, 0, 0, 0, 0, 0, 0, 0, 0, 0, 0, 0, 0, 0, 0, 0, 0, 0, 0, 0, 0, 0, 0, 0]) (by kernel_rfl) (by kernel_rfl) b4 (by rw [show (nn [0, 0, 0, 0, 0, 0, 0, 0, 0, 0, 0, 0, 0, 0, 0, 0, 0, 0, 0, 0, 0, 0, 0, 0, 0, 0, 0, 0, 0, 0, 0, 0]).length = 32 by ((try simp only [nn_len, List.length_cons, List.length_nil, List.length_set, List.length_replicate]); try omega)]; kernel_rfl) (by (try simp only [nn_len, List.length_cons, List.length_nil, List.length_set, List.length_replicate]); try omega) (nn [0, 0, 0, 0, 0, 0, 0, 0, 0, 0, 0, 0, 0, 0, 0, 0, 0, 0, 0, 0, 0, 0, 0, 0, 0, 0, 0, 0, 0, 0, 0, 0]) (over_whole _ _ (by (try simp only [nn_len, List.length_cons, List.length_nil, List.length_set, List.length_replicate]); try omega)) ?_
  intro w4 t1
  have zt1 := t1.z
  have BL_ := BL.ev t1.e (fun i h => show w.heap.size ≤ i by have h : i = w.heap.size := h; omega)
  have D_ := D.ev t1.e (fun i hi => show ¬ (i = w.heap.size) by have := hvl i hi; omega)
  have b6_ := b6.ev t1.e (show ¬ (w1.heap.size = w.heap.size) by omega)
  replace BL := BL_; clear BL_
  replace D := D_; clear D_
  replace b6 := b6_; clear b6_
  replace b4 : Blk .u8 w4 w.heap.size 37 (nn [0, 0, 0, 0, 0, 0, 0, 0, 0, 0, 0, 0, 0, 0, 0, 0, 0, 0, 0, 0, 0, 0, 0, 0, 0, 0, 0, 0, 0, 0, 0, 0]) := t1.c
  clear t1
  refine sv 5 (.int .i64 2) .of ?_
  simp only [List.set_cons_zero, List.set_cons_succ]
  refine wpList_nil ?_
  refine hK5 _ _ ?_
  refine wp_ret ?_
  (try simp only [Exit.then, Exit.inBlock])
  refine bodyPost_ret (rCT rfl _ w.heap.size _ _ (.int .i64 2) (by kernel_rfl) (by kernel_rfl) b4.cel _ Try.underlying37 rfl (by rw [List.length_map, show (nn [0, 0, 0, 0, 0, 0, 0, 0, 0, 0, 0, 0, 0, 0, 0, 0, 0, 0, 0, 0, 0, 0, 0, 0, 0, 0, 0, 0, 0, 0, 0, 0]).length = 32 by ((try simp only [nn_len, List.length_cons, List.length_nil, List.length_set, List.length_replicate]); try omega)]; kernel_rfl)) rfl ?_
  exact ⟨rfl, BL.b⟩

set_option maxHeartbeats 4000000 in
theorem mpath_any (T : Nat) (tab : List Nat) (ht : tab.length = 72) (w : World) (TB : Blk .u32 w T 26 (nn tab)) (v : Value) (es : List (List Nat)) (D : SE .u8 32 w v (nnd es)) (hes : ∀ d ∈ es, d.length = 32) (h : Nat) (hh : h ≤ 8) (hn : es.length = 2 ^ h) (k : Nat) (hk : k < 2 ^ h) :
    Calls Try.prog 46 #[.pointer (some ⟨T, 0, none⟩), v, .int .i64 ((k : Nat) : Int)] w fun e w' => ∃ (A : Option Addr) (n C : Nat), e = .returned (.tuple #[.agg #[.int .i64 ((k : Nat) : Int), .slice A n C], .int .i64 0]) ∧ OwnE 37 .u8 32 w.heap.size w' (.slice A n C) (nnd (mpath tab h es k)) ∧ Below w.heap.size w w' := by
  have BL := Bl.refl w
  have hT := TB.lt
  have hvl := D.lt
  obtain ⟨vA, vC, hv, hvc⟩ := D.len
  rw [nnd_len] at hv hvc
  subst hv
  go_enter Try.func46, Try.ntmps46
  refine wp_seq_k fun K1 hK1 => ?_
  refine cPlain ?_
  refine xAlloc 6 66 [.int .i64 0, .slice none 0 0] rfl (by kernel_rfl) ?_
  intro w1 n1
  have zn1 := n1.z
  have b6 := n1.c
  replace BL := BL.e0 n1.e
  replace TB := TB.e0 n1.e
  replace D := D.e0 n1.e
  simp only [List.set_cons_zero, List.set_cons_succ]
  refine sv 7 (.int .i64 0) .of ?_
  simp only [List.set_cons_zero, List.set_cons_succ]
  refine wpList_nil ?_
  refine hK1 _ _ ?_
  refine wp_seq_k fun K2 hK2 => ?_
  refine wp_seq_k fun K3 hK3 => ?_
  refine cPlain ?_
  refine sv 11 (.int .i64 ((k : Nat) : Int)) .of ?_
  simp only [List.set_cons_zero, List.set_cons_succ]
  refine sv 12 (.bool false) (Val.cmp .lss 3 _ (.tmp 11) _ rfl .i64 ((k : Nat) : Int) 0 (by kernel_rfl) (by kernel_rfl) (by simp) _ (by simp [cmpB]; try omega)) ?_
  simp only [List.set_cons_zero, List.set_cons_succ]
  refine sv 13 (.bool false) .of ?_
  simp only [List.set_cons_zero, List.set_cons_succ]
  refine sv 14 (.int .i64 ((k : Nat) : Int)) .of ?_
  simp only [List.set_cons_zero, List.set_cons_succ]
  refine sv 15 (.slice vA es.length vC) .of ?_
  simp only [List.set_cons_zero, List.set_cons_succ]
  refine sv 16 (.int .i64 (es.length : Int)) .of ?_
  simp only [List.set_cons_zero, List.set_cons_succ]
  refine sv 17 (.bool false) (Val.cmp .geq 3 _ (.tmp 14) (.tmp 16) rfl .i64 ((k : Nat) : Int) (es.length : Int) (by kernel_rfl) (by kernel_rfl) (by simp) _ (by simp [cmpB]; omega)) ?_
  simp only [List.set_cons_zero, List.set_cons_succ]
  refine sv 18 (.bool false) .of ?_
  simp only [List.set_cons_zero, List.set_cons_succ]
  refine wpList_nil ?_
  refine hK3 _ _ ?_
  refine cF ?_
  refine wp_skip ?_
  refine hK2 _ _ ?_
  refine wp_seq_k fun K4 hK4 => ?_
  refine cPlain ?_
  refine sv 20 (.int .i64 ((k : Nat) : Int)) .of ?_
  simp only [List.set_cons_zero, List.set_cons_succ]
  refine sv 21 (.agg #[.int .i64 ((k : Nat) : Int), .slice none 0 0]) .of ?_
  simp only [List.set_cons_zero, List.set_cons_succ]
  refine xAlloc 8 66 [.int .i64 0, .slice none 0 0] rfl (by kernel_rfl) ?_
  intro w2 n2
  have zn2 := n2.z
  have b8 := n2.c
  replace BL := BL.e0 n2.e
  replace TB := TB.e0 n2.e
  replace D := D.e0 n2.e
  replace b6 := b6.e0 n2.e
  simp only [List.set_cons_zero, List.set_cons_succ]
  refine xStoreR 66 (.tmp 8) (.tmp 21) rfl w1.heap.size 66 [.int .i64 0, .slice none 0 0] 0 [.int .i64 ((k : Nat) : Int), .slice none 0 0] (by kernel_rfl) (by kernel_rfl) b8 (by kernel_rfl) (by simp) rfl [.int .i64 ((k : Nat) : Int), .slice none 0 0] rfl ?_
  intro w3 t1
  have zt1 := t1.z
  have BL_ := BL.ev t1.e (fun i h => show w.heap.size ≤ i by have h : i = w1.heap.size := h; omega)
  have TB_ := TB.ev t1.e (show ¬ (T = w1.heap.size) by omega)
  have D_ := D.ev t1.e (fun i hi => show ¬ (i = w1.heap.size) by have := hvl i hi; omega)
  have b6_ := b6.ev t1.e (show ¬ (w.heap.size = w1.heap.size) by omega)
  replace BL := BL_; clear BL_
  replace TB := TB_; clear TB_
  replace D := D_; clear D_
  replace b6 := b6_; clear b6_
  replace b8 : Cel w3 w1.heap.size 66 [.int .i64 ((k : Nat) : Int), .slice none 0 0] := t1.c
  clear t1
  refine wpList_nil ?_
  refine hK4 _ _ ?_
  refine wp_seq_k fun K5 hK5 => ?_
  refine cPlain ?_
  refine sv 22 (.int .i64 ((k : Nat) : Int)) .of ?_
  simp only [List.set_cons_zero, List.set_cons_succ]
  refine xAlloc 9 3 [.int .i64 0] rfl (by kernel_rfl) ?_
  intro w4 n3
  have zn3 := n3.z
  have b9 := n3.c
  replace BL := BL.e0 n3.e
  replace TB := TB.e0 n3.e
  replace D := D.e0 n3.e
  replace b6 := b6.e0 n3.e
  replace b8 := b8.e0 n3.e
  simp only [List.set_cons_zero, List.set_cons_succ]
  refine xStore 3 (.tmp 9) (.tmp 22) rfl w3.heap.size 3 [.int .i64 0] 0 (.int .i64 ((k : Nat) : Int)) (by kernel_rfl) (by kernel_rfl) b9 (by kernel_rfl) (by simp) rfl [.int .i64 ((k : Nat) : Int)] rfl ?_
  intro w5 t2
  have zt2 := t2.z
  have BL_ := BL.ev t2.e (fun i h => show w.heap.size ≤ i by have h : i = w3.heap.size := h; omega)
  have TB_ := TB.ev t2.e (show ¬ (T = w3.heap.size) by omega)
  have D_ := D.ev t2.e (fun i hi => show ¬ (i = w3.heap.size) by have := hvl i hi; omega)
  have b6_ := b6.ev t2.e (show ¬ (w.heap.size = w3.heap.size) by omega)
  have b8_ := b8.ev t2.e (show ¬ (w1.heap.size = w3.heap.size) by omega)
  replace BL := BL_; clear BL_
  replace TB := TB_; clear TB_
  replace D := D_; clear D_
  replace b6 := b6_; clear b6_
  replace b8 := b8_; clear b8_
  replace b9 : Cel w5 w3.heap.size 3 [.int .i64 ((k : Nat) : Int)] := t2.c
  clear t2
  refine wpList_nil ?_
  refine hK5 _ _ ?_
  refine wp_seq_k fun K6 hK6 => ?_
  refine cPlain ?_
  refine sv 23 (.pointer (some ⟨T, 0, none⟩)) .of ?_
  simp only [List.set_cons_zero, List.set_cons_succ]
  refine sv 24 (.slice vA es.length vC) .of ?_
  simp only [List.set_cons_zero, List.set_cons_succ]
  refine sv 25 (.func (.func 98) #[] #[.pointer (some ⟨w1.heap.size, 0, none⟩), .pointer (some ⟨w3.heap.size, 0, none⟩)]) .of ?_
  simp only [List.set_cons_zero, List.set_cons_succ]
  refine xCall 26 96 #[.pointer (some ⟨T, 0, none⟩), .slice vA es.length vC, .func (.func 98) #[] #[.pointer (some ⟨w1.heap.size, 0, none⟩), .pointer (some ⟨w3.heap.size, 0, none⟩)]] (by kernel_rfl) ?_
  refine (levelsP_any T tab ht w5 TB _ es D hes h hh hn w1.heap.size w3.heap.size (by omega) (by omega) (by omega) (fun i hi => by have := hvl i hi; omega) k hk ((k : Nat) : Int) b8 b9).mono ?_
  rintro en w6 ⟨rfl, A9, n9, C9, hBO, hP1, hEv⟩
  have e1 := hEv
  have ze1 := e1.size
  have BL_ := BL.ev e1 (fun i h => by rcases h with h | h <;> omega)
  have TB_ := TB.ev e1 (fun h => by rcases h with h | h <;> omega)
  have D_ := D.ev e1 (fun i hi h => by have := hvl i hi; rcases h with h | h <;> omega)
  have b6_ := b6.ev e1 (fun h => by rcases h with h | h <;> omega)
  replace BL := BL_; clear BL_
  replace TB := TB_; clear TB_
  replace D := D_; clear D_
  replace b6 := b6_; clear b6_
  clear e1
  have BO : OwnE 37 .u8 32 w5.heap.size w6 (.slice A9 n9 C9) (nnd (mpath tab h es k)) := hBO
  have b8 : Cel w6 w1.heap.size 66 [.int .i64 ((k : Nat) : Int), .slice A9 n9 C9] := hP1
  have lBO_1 := BO.ge
  refine ⟨.bool true, rfl, ?_⟩
  simp only [List.set_cons_zero, List.set_cons_succ]
  refine sv 10 (.bool true) .of ?_
  simp only [List.set_cons_zero, List.set_cons_succ]
  refine wpList_nil ?_
  refine hK6 _ _ ?_
  refine wp_seq_k fun K7 hK7 => ?_
  refine wp_seq_k fun K8 hK8 => ?_
  refine cPlain ?_
  refine sv 27 (.bool true) .of ?_
  simp only [List.set_cons_zero, List.set_cons_succ]
  refine sv 28 (.bool false) .of ?_
  simp only [List.set_cons_zero, List.set_cons_succ]
  refine wpList_nil ?_
  refine hK8 _ _ ?_
  refine cF ?_
  refine wp_skip ?_
  refine hK7 _ _ ?_
  refine wp_seq_k fun K9 hK9 => ?_
  refine cPlain ?_
  refine sv 30 (.agg #[.int .i64 ((k : Nat) : Int), .slice A9 n9 C9]) (Val.cel 66 _ rfl 0 2 (by kernel_rfl) b8 _ Try.underlying66 rfl (by kernel_rfl) (by simp) [.int .i64 ((k : Nat) : Int), .slice A9 n9 C9] rfl) ?_
  simp only [List.set_cons_zero, List.set_cons_succ]
  refine xStoreR 66 (.tmp 6) (.tmp 30) rfl w.heap.size 66 [.int .i64 0, .slice none 0 0] 0 [.int .i64 ((k : Nat) : Int), .slice A9 n9 C9] (by kernel_rfl) (by kernel_rfl) b6 (by kernel_rfl) (by simp) rfl [.int .i64 ((k : Nat) : Int), .slice A9 n9 C9] rfl ?_
  intro w7 t3
  have zt3 := t3.z
  have BL_ := BL.ev t3.e (fun i h => show w.heap.size ≤ i by have h : i = w.heap.size := h; omega)
  have TB_ := TB.ev t3.e (show ¬ (T = w.heap.size) by omega)
  have D_ := D.ev t3.e (fun i hi => show ¬ (i = w.heap.size) by have := hvl i hi; omega)
  have BO_ := BO.ev t3.e (fun i hi => show ¬ (i = w.heap.size) by have := lBO_1 i hi; omega)
  have b8_ := b8.ev t3.e (show ¬ (w1.heap.size = w.heap.size) by omega)
  replace BL := BL_; clear BL_
  replace TB := TB_; clear TB_
  replace D := D_; clear D_
  replace BO := BO_; clear BO_
  replace b8 := b8_; clear b8_
  replace b6 : Cel w7 w.heap.size 66 [.int .i64 ((k : Nat) : Int), .slice A9 n9 C9] := t3.c
  clear t3
  refine sv 7 (.int .i64 0) .of ?_
  simp only [List.set_cons_zero, List.set_cons_succ]
  refine wpList_nil ?_
  refine hK9 _ _ ?_
  refine wp_ret ?_
  (try simp only [Exit.then, Exit.inBlock])
  refine bodyPost_ret (rCT rfl _ w.heap.size _ _ (.int .i64 0) (by kernel_rfl) (by kernel_rfl) b6 _ Try.underlying66 rfl (by kernel_rfl)) rfl ?_
  exact ⟨_, _, _, rfl, BO.mono (by omega), BL.b⟩

set_option maxHeartbeats 4000000 in
theorem mpath_bad (t v : Value) (es : List (List Nat)) (leaf : Int) (w : World) (D : SE .u8 32 w v (nnd es)) (hbad : leaf < 0 ∨ (es.length : Int) ≤ leaf) :
    Calls Try.prog 46 #[t, v, .int .i64 leaf] w fun e w' => e = .returned (.tuple #[.agg #[.int .i64 0, .slice none 0 0], .int .i64 2]) ∧ Below w.heap.size w w' := by
  have BL := Bl.refl w
  obtain ⟨vA, vC, hv, hvc⟩ := D.len
  rw [nnd_len] at hv hvc
  subst hv
  go_enter Try.func46, Try.ntmps46
  refine wp_seq_k fun K1 hK1 => ?_
  refine cPlain ?_
  refine xAlloc 6 66 [.int .i64 0, .slice none 0 0] rfl (by kernel_rfl) ?_
  intro w1 n1
  have zn1 := n1.z
  have b6 := n1.c
  replace BL := BL.e0 n1.e
  simp only [List.set_cons_zero, List.set_cons_succ]
  refine sv 7 (.int .i64 0) .of ?_
  simp only [List.set_cons_zero, List.set_cons_succ]
  refine wpList_nil ?_
  refine hK1 _ _ ?_
  refine wp_seq_k fun K2 hK2 => ?_
  refine wp_seq_k fun K3 hK3 => ?_
  refine cPlain ?_
  refine sv 11 (.int .i64 leaf) .of ?_
  simp only [List.set_cons_zero, List.set_cons_succ]
  refine sv 12 (.bool (decide (leaf < 0))) (Val.cmp .lss 3 _ (.tmp 11) _ rfl .i64 leaf 0 (by kernel_rfl) (by kernel_rfl) (by simp) _ rfl) ?_
  simp only [List.set_cons_zero, List.set_cons_succ]
  refine sv 13 (.bool (decide (leaf < 0))) .of ?_
  simp only [List.set_cons_zero, List.set_cons_succ]
  by_cases g14 : leaf < 0
  · skip
    have dg14 : decide (leaf < 0) = true := decide_eq_true g14
    simp only [dg14]
    clear dg14
    refine xSkip 14 ?_
    simp only [List.set_cons_zero, List.set_cons_succ]
    refine xSkip 15 ?_
    simp only [List.set_cons_zero, List.set_cons_succ]
    refine xSkip 16 ?_
    simp only [List.set_cons_zero, List.set_cons_succ]
    refine xSkip 17 ?_
    simp only [List.set_cons_zero, List.set_cons_succ]
    refine sv 18 (.bool true) .of ?_
    simp only [List.set_cons_zero, List.set_cons_succ]
    refine wpList_nil ?_
    refine hK3 _ _ ?_
    refine cT ?_
    refine wp_seq_k fun K4 hK4 => ?_
    refine cPlain ?_
    refine sv 19 (.agg #[.int .i64 0, .slice none 0 0]) .of ?_
    simp only [List.set_cons_zero, List.set_cons_succ]
    refine xStoreR 66 (.tmp 6) (.tmp 19) rfl w.heap.size 66 [.int .i64 0, .slice none 0 0] 0 [.int .i64 0, .slice none 0 0] (by kernel_rfl) (by kernel_rfl) b6 (by kernel_rfl) (by simp) rfl [.int .i64 0, .slice none 0 0] rfl ?_
    intro w2 t1
    have zt1 := t1.z
    have BL_ := BL.ev t1.e (fun i h => show w.heap.size ≤ i by have h : i = w.heap.size := h; omega)
    replace BL := BL_; clear BL_
    replace b6 : Cel w2 w.heap.size 66 [.int .i64 0, .slice none 0 0] := t1.c
    clear t1
    refine sv 7 (.int .i64 2) .of ?_
    simp only [List.set_cons_zero, List.set_cons_succ]
    refine wpList_nil ?_
    refine hK4 _ _ ?_
    refine wp_ret ?_
    (try simp only [Exit.then, Exit.inBlock])
    refine bodyPost_ret (rCT rfl _ w.heap.size _ _ (.int .i64 2) (by kernel_rfl) (by kernel_rfl) b6 _ Try.underlying66 rfl (by kernel_rfl)) rfl ?_
    exact ⟨rfl, BL.b⟩
  · skip
    have dg14 : decide (leaf < 0) = false := decide_eq_false g14
    simp only [dg14]
    clear dg14
    refine sv 14 (.int .i64 leaf) .of ?_
    simp only [List.set_cons_zero, List.set_cons_succ]
    refine sv 15 (.slice vA es.length vC) .of ?_
    simp only [List.set_cons_zero, List.set_cons_succ]
    refine sv 16 (.int .i64 (es.length : Int)) .of ?_
    simp only [List.set_cons_zero, List.set_cons_succ]
    refine sv 17 (.bool true) (Val.cmp .geq 3 _ (.tmp 14) (.tmp 16) rfl .i64 leaf (es.length : Int) (by kernel_rfl) (by kernel_rfl) (by simp) _ (by simp [cmpB]; omega)) ?_
    simp only [List.set_cons_zero, List.set_cons_succ]
    refine sv 18 (.bool true) .of ?_
    simp only [List.set_cons_zero, List.set_cons_succ]
    refine wpList_nil ?_
    refine hK3 _ _ ?_
    refine cT ?_
    refine wp_seq_k fun K5 hK5 => ?_
    refine cPlain ?_
    refine sv 19 (.agg #[.int .i64 0, .slice none 0 0]) .of ?_
    simp only [List.set_cons_zero, List.set_cons_succ]
    refine xStoreR 66 (.tmp 6) (.tmp 19) rfl w.heap.size 66 [.int .i64 0, .slice none 0 0] 0 [.int .i64 0, .slice none 0 0] (by kernel_rfl) (by kernel_rfl) b6 (by kernel_rfl) (by simp) rfl [.int .i64 0, .slice none 0 0] rfl ?_
    intro w3 t2
    have zt2 := t2.z
    have BL_ := BL.ev t2.e (fun i h => show w.heap.size ≤ i by have h : i = w.heap.size := h; omega)
    replace BL := BL_; clear BL_
    replace b6 : Cel w3 w.heap.size 66 [.int .i64 0, .slice none 0 0] := t2.c
    clear t2
    refine sv 7 (.int .i64 2) .of ?_
    simp only [List.set_cons_zero, List.set_cons_succ]
    refine wpList_nil ?_
    refine hK5 _ _ ?_
    refine wp_ret ?_
    (try simp only [Exit.then, Exit.inBlock])
    refine bodyPost_ret (rCT rfl _ w.heap.size _ _ (.int .i64 2) (by kernel_rfl) (by kernel_rfl) b6 _ Try.underlying66 rfl (by kernel_rfl)) rfl ?_
    exact ⟨rfl, BL.b⟩

set_option maxHeartbeats 4000000 in
theorem mpath_no (t v : Value) (es : List (List Nat)) (k : Nat) (w : World) (D : SE .u8 32 w v (nnd es)) (hk : k < es.length) (hl : es.length ≤ 1000) (hno : heightN es.length = none) :
    Calls Try.prog 46 #[t, v, .int .i64 ((k : Nat) : Int)] w fun e w' => e = .returned (.tuple #[.agg #[.int .i64 0, .slice none 0 0], .int .i64 2]) ∧ Below w.heap.size w w' := by
  have BL := Bl.refl w
  have hvl := D.lt
  obtain ⟨vA, vC, hv, hvc⟩ := D.len
  rw [nnd_len] at hv hvc
  subst hv
  go_enter Try.func46, Try.ntmps46
  refine wp_seq_k fun K1 hK1 => ?_
  refine cPlain ?_
  refine xAlloc 6 66 [.int .i64 0, .slice none 0 0] rfl (by kernel_rfl) ?_
  intro w1 n1
  have zn1 := n1.z
  have b6 := n1.c
  replace BL := BL.e0 n1.e
  replace D := D.e0 n1.e
  simp only [List.set_cons_zero, List.set_cons_succ]
  refine sv 7 (.int .i64 0) .of ?_
  simp only [List.set_cons_zero, List.set_cons_succ]
  refine wpList_nil ?_
  refine hK1 _ _ ?_
  refine wp_seq_k fun K2 hK2 => ?_
  refine wp_seq_k fun K3 hK3 => ?_
  refine cPlain ?_
  refine sv 11 (.int .i64 ((k : Nat) : Int)) .of ?_
  simp only [List.set_cons_zero, List.set_cons_succ]
  refine sv 12 (.bool false) (Val.cmp .lss 3 _ (.tmp 11) _ rfl .i64 ((k : Nat) : Int) 0 (by kernel_rfl) (by kernel_rfl) (by simp) _ (by simp [cmpB]; try omega)) ?_
  simp only [List.set_cons_zero, List.set_cons_succ]
  refine sv 13 (.bool false) .of ?_
  simp only [List.set_cons_zero, List.set_cons_succ]
  refine sv 14 (.int .i64 ((k : Nat) : Int)) .of ?_
  simp only [List.set_cons_zero, List.set_cons_succ]
  refine sv 15 (.slice vA es.length vC) .of ?_
  simp only [List.set_cons_zero, List.set_cons_succ]
  refine sv 16 (.int .i64 (es.length : Int)) .of ?_
  simp only [List.set_cons_zero, List.set_cons_succ]
  refine sv 17 (.bool false) (Val.cmp .geq 3 _ (.tmp 14) (.tmp 16) rfl .i64 ((k : Nat) : Int) (es.length : Int) (by kernel_rfl) (by kernel_rfl) (by simp) _ (by simp [cmpB]; omega)) ?_
  simp only [List.set_cons_zero, List.set_cons_succ]
  refine sv 18 (.bool false) .of ?_
  simp only [List.set_cons_zero, List.set_cons_succ]
  refine wpList_nil ?_
  refine hK3 _ _ ?_
  refine cF ?_
  refine wp_skip ?_
  refine hK2 _ _ ?_
  refine wp_seq_k fun K4 hK4 => ?_
  refine cPlain ?_
  refine sv 20 (.int .i64 ((k : Nat) : Int)) .of ?_
  simp only [List.set_cons_zero, List.set_cons_succ]
  refine sv 21 (.agg #[.int .i64 ((k : Nat) : Int), .slice none 0 0]) .of ?_
  simp only [List.set_cons_zero, List.set_cons_succ]
  refine xAlloc 8 66 [.int .i64 0, .slice none 0 0] rfl (by kernel_rfl) ?_
  intro w2 n2
  have zn2 := n2.z
  have b8 := n2.c
  replace BL := BL.e0 n2.e
  replace D := D.e0 n2.e
  replace b6 := b6.e0 n2.e
  simp only [List.set_cons_zero, List.set_cons_succ]
  refine xStoreR 66 (.tmp 8) (.tmp 21) rfl w1.heap.size 66 [.int .i64 0, .slice none 0 0] 0 [.int .i64 ((k : Nat) : Int), .slice none 0 0] (by kernel_rfl) (by kernel_rfl) b8 (by kernel_rfl) (by simp) rfl [.int .i64 ((k : Nat) : Int), .slice none 0 0] rfl ?_
  intro w3 t1
  have zt1 := t1.z
  have BL_ := BL.ev t1.e (fun i h => show w.heap.size ≤ i by have h : i = w1.heap.size := h; omega)
  have D_ := D.ev t1.e (fun i hi => show ¬ (i = w1.heap.size) by have := hvl i hi; omega)
  have b6_ := b6.ev t1.e (show ¬ (w.heap.size = w1.heap.size) by omega)
  replace BL := BL_; clear BL_
  replace D := D_; clear D_
  replace b6 := b6_; clear b6_
  replace b8 : Cel w3 w1.heap.size 66 [.int .i64 ((k : Nat) : Int), .slice none 0 0] := t1.c
  clear t1
  refine wpList_nil ?_
  refine hK4 _ _ ?_
  refine wp_seq_k fun K5 hK5 => ?_
  refine cPlain ?_
  refine sv 22 (.int .i64 ((k : Nat) : Int)) .of ?_
  simp only [List.set_cons_zero, List.set_cons_succ]
  refine xAlloc 9 3 [.int .i64 0] rfl (by kernel_rfl) ?_
  intro w4 n3
  have zn3 := n3.z
  have b9 := n3.c
  replace BL := BL.e0 n3.e
  replace D := D.e0 n3.e
  replace b6 := b6.e0 n3.e
  replace b8 := b8.e0 n3.e
  simp only [List.set_cons_zero, List.set_cons_succ]
  refine xStore 3 (.tmp 9) (.tmp 22) rfl w3.heap.size 3 [.int .i64 0] 0 (.int .i64 ((k : Nat) : Int)) (by kernel_rfl) (by kernel_rfl) b9 (by kernel_rfl) (by simp) rfl [.int .i64 ((k : Nat) : Int)] rfl ?_
  intro w5 t2
  have zt2 := t2.z
  have BL_ := BL.ev t2.e (fun i h => show w.heap.size ≤ i by have h : i = w3.heap.size := h; omega)
  have D_ := D.ev t2.e (fun i hi => show ¬ (i = w3.heap.size) by have := hvl i hi; omega)
  have b6_ := b6.ev t2.e (show ¬ (w.heap.size = w3.heap.size) by omega)
  have b8_ := b8.ev t2.e (show ¬ (w1.heap.size = w3.heap.size) by omega)
  replace BL := BL_; clear BL_
  replace D := D_; clear D_
  replace b6 := b6_; clear b6_
  replace b8 := b8_; clear b8_
  replace b9 : Cel w5 w3.heap.size 3 [.int .i64 ((k : Nat) : Int)] := t2.c
  clear t2
  refine wpList_nil ?_
  refine hK5 _ _ ?_
  refine wp_seq_k fun K6 hK6 => ?_
  refine cPlain ?_
  refine sv 23 (t) .of ?_
  simp only [List.set_cons_zero, List.set_cons_succ]
  refine sv 24 (.slice vA es.length vC) .of ?_
  simp only [List.set_cons_zero, List.set_cons_succ]
  refine sv 25 (.func (.func 98) #[] #[.pointer (some ⟨w1.heap.size, 0, none⟩), .pointer (some ⟨w3.heap.size, 0, none⟩)]) .of ?_
  simp only [List.set_cons_zero, List.set_cons_succ]
  refine xCall 26 96 #[t, .slice vA es.length vC, .func (.func 98) #[] #[.pointer (some ⟨w1.heap.size, 0, none⟩), .pointer (some ⟨w3.heap.size, 0, none⟩)]] (by kernel_rfl) ?_
  refine (levels_no t _ _ es w5 D hl hno).mono ?_
  rintro en w6 ⟨rfl, hw⟩
  have e1 : E0 w5 w6 := (hw ▸ Ev.refl _ _)
  have ze1 := e1.size
  replace BL := BL.e0 e1
  replace D := D.e0 e1
  replace b6 := b6.e0 e1
  replace b8 := b8.e0 e1
  replace b9 := b9.e0 e1
  clear e1
  refine ⟨.bool false, rfl, ?_⟩
  simp only [List.set_cons_zero, List.set_cons_succ]
  refine sv 10 (.bool false) .of ?_
  simp only [List.set_cons_zero, List.set_cons_succ]
  refine wpList_nil ?_
  refine hK6 _ _ ?_
  refine wp_seq_k fun K7 hK7 => ?_
  refine wp_seq_k fun K8 hK8 => ?_
  refine cPlain ?_
  refine sv 27 (.bool false) .of ?_
  simp only [List.set_cons_zero, List.set_cons_succ]
  refine sv 28 (.bool true) .of ?_
  simp only [List.set_cons_zero, List.set_cons_succ]
  refine wpList_nil ?_
  refine hK8 _ _ ?_
  refine cT ?_
  refine wp_seq_k fun K9 hK9 => ?_
  refine cPlain ?_
  refine sv 29 (.agg #[.int .i64 0, .slice none 0 0]) .of ?_
  simp only [List.set_cons_zero, List.set_cons_succ]
  refine xStoreR 66 (.tmp 6) (.tmp 29) rfl w.heap.size 66 [.int .i64 0, .slice none 0 0] 0 [.int .i64 0, .slice none 0 0] (by kernel_rfl) (by kernel_rfl) b6 (by kernel_rfl) (by simp) rfl [.int .i64 0, .slice none 0 0] rfl ?_
  intro w7 t3
  have zt3 := t3.z
  have BL_ := BL.ev t3.e (fun i h => show w.heap.size ≤ i by have h : i = w.heap.size := h; omega)
  have D_ := D.ev t3.e (fun i hi => show ¬ (i = w.heap.size) by have := hvl i hi; omega)
  have b8_ := b8.ev t3.e (show ¬ (w1.heap.size = w.heap.size) by omega)
  have b9_ := b9.ev t3.e (show ¬ (w3.heap.size = w.heap.size) by omega)
  replace BL := BL_; clear BL_
  replace D := D_; clear D_
  replace b8 := b8_; clear b8_
  replace b9 := b9_; clear b9_
  replace b6 : Cel w7 w.heap.size 66 [.int .i64 0, .slice none 0 0] := t3.c
  clear t3
  refine sv 7 (.int .i64 2) .of ?_
  simp only [List.set_cons_zero, List.set_cons_succ]
  refine wpList_nil ?_
  refine hK9 _ _ ?_
  refine wp_ret ?_
  (try simp only [Exit.then, Exit.inBlock])
  refine bodyPost_ret (rCT rfl _ w.heap.size _ _ (.int .i64 2) (by kernel_rfl) (by kernel_rfl) b6 _ Try.underlying66 rfl (by kernel_rfl)) rfl ?_
  exact ⟨rfl, BL.b⟩

set_option maxHeartbeats 4000000 in
theorem mright_any (leaf : Int) (A : Option Addr) (n C : Nat) (w : World) :
    Calls Try.prog 47 #[.agg #[.int .i64 leaf, .slice A n C]] w fun e w' => e = .returned (.bool (mright n leaf)) ∧ Below w.heap.size w w' := by
  have BL := Bl.refl w
  go_enter Try.func47, Try.ntmps47
  refine wp_seq_k fun K1 hK1 => ?_
  refine cPlain ?_
  refine xBox 1 66 _ [.int .i64 leaf, .slice A n C] rfl (by kernel_rfl) ?_
  intro w1 n1
  have zn1 := n1.z
  have b1 := n1.c
  replace BL := BL.e0 n1.e
  simp only [List.set_cons_zero, List.set_cons_succ]
  refine sv 2 (.bool false) .of ?_
  simp only [List.set_cons_zero, List.set_cons_succ]
  refine wpList_nil ?_
  refine hK1 _ _ ?_
  refine wp_seq_k fun K2 hK2 => ?_
  have e1 := drew_e0 w1
  refine zg (fun w_ => Bl w.heap.size w w_ ∧ Cel w_ w.heap.size 66 [.int .i64 leaf, .slice A n C] ∧ w1.heap.size ≤ w_.heap.size) (fun w_ => Bl w.heap.size w w_ ∧ Cel w_ w.heap.size 66 [.int .i64 leaf, .slice A n C] ∧ w1.heap.size ≤ w_.heap.size) 100000 19 ⟨BL.e0 e1, b1.e0 e1, Nat.le_refl _⟩ ?_
  clear BL b1
  clear e1
  intro w2
  rintro ⟨BL, b1, z1⟩
  refine zv 0 3 (.pointer (some ⟨w.heap.size, 1, none⟩)) (fun _ _ => .of) ⟨BL, b1, by omega⟩ ?_
  simp only [List.set_cons_zero, List.set_cons_succ]
  refine zv 1 4 (.slice A n C) (fun _ ⟨BL, b1, z1⟩ => Val.cel1 63 _ rfl w.heap.size 1 _ (by kernel_rfl) (fun _ => (by kernel_rfl)) b1 rfl) ⟨BL, b1, by omega⟩ ?_
  simp only [List.set_cons_zero, List.set_cons_succ]
  refine zv 2 5 (.int .i64 (n : Int)) (fun _ _ => .of) ⟨BL, b1, by omega⟩ ?_
  simp only [List.set_cons_zero, List.set_cons_succ]
  refine zv 3 6 (.bool (decide ((n : Int) ≤ 8))) (fun _ ⟨BL, b1, z1⟩ => Val.cmp .leq 3 _ (.tmp 5) _ rfl .i64 (n : Int) 8 (by kernel_rfl) (by kernel_rfl) (by simp) _ rfl) ⟨BL, b1, by omega⟩ ?_
  simp only [List.set_cons_zero, List.set_cons_succ]
  refine zv 4 7 (.bool (decide ((n : Int) ≤ 8))) (fun _ _ => .of) ⟨BL, b1, by omega⟩ ?_
  simp only [List.set_cons_zero, List.set_cons_succ]
  by_cases g8 : (n : Int) ≤ 8
  · skip
    have dg8 : decide ((n : Int) ≤ 8) = true := decide_eq_true g8
    simp only [dg8]
    clear dg8
    refine zv 5 8 (.pointer (some ⟨w.heap.size, 0, none⟩)) (fun _ _ => .of) ⟨BL, b1, by omega⟩ ?_
    simp only [List.set_cons_zero, List.set_cons_succ]
    refine zv 6 9 (.int .i64 leaf) (fun _ ⟨BL, b1, z1⟩ => Val.cel1 3 _ rfl w.heap.size 0 _ (by kernel_rfl) (fun _ => (by kernel_rfl)) b1 rfl) ⟨BL, b1, by omega⟩ ?_
    simp only [List.set_cons_zero, List.set_cons_succ]
    refine zv 7 10 (.bool (decide (0 ≤ leaf))) (fun _ ⟨BL, b1, z1⟩ => Val.cmp .geq 3 _ (.tmp 9) _ rfl .i64 leaf 0 (by kernel_rfl) (by kernel_rfl) (by simp) _ rfl) ⟨BL, b1, by omega⟩ ?_
    simp only [List.set_cons_zero, List.set_cons_succ]
    refine zv 8 11 (.bool (decide (0 ≤ leaf))) (fun _ _ => .of) ⟨BL, b1, by omega⟩ ?_
    simp only [List.set_cons_zero, List.set_cons_succ]
    refine zv 9 12 (.bool (decide (0 ≤ leaf))) (fun _ _ => .of) ⟨BL, b1, by omega⟩ ?_
    simp only [List.set_cons_zero, List.set_cons_succ]
    by_cases g13 : 0 ≤ leaf
    · skip
      have dg13 : decide (0 ≤ leaf) = true := decide_eq_true g13
      simp only [dg13]
      clear dg13
      refine zv 10 13 (.pointer (some ⟨w.heap.size, 0, none⟩)) (fun _ _ => .of) ⟨BL, b1, by omega⟩ ?_
      simp only [List.set_cons_zero, List.set_cons_succ]
      refine zv 11 14 (.int .i64 leaf) (fun _ ⟨BL, b1, z1⟩ => Val.cel1 3 _ rfl w.heap.size 0 _ (by kernel_rfl) (fun _ => (by kernel_rfl)) b1 rfl) ⟨BL, b1, by omega⟩ ?_
      simp only [List.set_cons_zero, List.set_cons_succ]
      refine zv 12 15 (.pointer (some ⟨w.heap.size, 1, none⟩)) (fun _ _ => .of) ⟨BL, b1, by omega⟩ ?_
      simp only [List.set_cons_zero, List.set_cons_succ]
      refine zv 13 16 (.slice A n C) (fun _ ⟨BL, b1, z1⟩ => Val.cel1 63 _ rfl w.heap.size 1 _ (by kernel_rfl) (fun _ => (by kernel_rfl)) b1 rfl) ⟨BL, b1, by omega⟩ ?_
      simp only [List.set_cons_zero, List.set_cons_succ]
      refine zv 14 17 (.int .i64 (n : Int)) (fun _ _ => .of) ⟨BL, b1, by omega⟩ ?_
      simp only [List.set_cons_zero, List.set_cons_succ]
      refine zv 15 18 (.int .i64 ((2 ^ n : Nat) : Int)) (fun _ ⟨BL, b1, z1⟩ => Val.shl1 3 _ _ (.tmp 17) rfl .i64 n (by omega) (by kernel_rfl) (by kernel_rfl)) ⟨BL, b1, by omega⟩ ?_
      simp only [List.set_cons_zero, List.set_cons_succ]
      refine zv 16 19 (.bool (decide (leaf < ((2 ^ n : Nat) : Int)))) (fun _ ⟨BL, b1, z1⟩ => Val.cmp .lss 3 _ (.tmp 14) (.tmp 18) rfl .i64 leaf ((2 ^ n : Nat) : Int) (by kernel_rfl) (by kernel_rfl) (by simp) _ rfl) ⟨BL, b1, by omega⟩ ?_
      simp only [List.set_cons_zero, List.set_cons_succ]
      refine zv 17 20 (.bool (decide (leaf < ((2 ^ n : Nat) : Int)))) (fun _ _ => .of) ⟨BL, b1, by omega⟩ ?_
      simp only [List.set_cons_zero, List.set_cons_succ]
      refine zv 18 2 (.bool (decide (leaf < ((2 ^ n : Nat) : Int)))) (fun _ _ => .of) ⟨BL, b1, by omega⟩ ?_
      simp only [List.set_cons_zero, List.set_cons_succ]
      refine zd (by kernel_rfl) ?_ _
      refine hK2 _ _ ?_
      refine wp_ret ?_
      (try simp only [Exit.then, Exit.inBlock])
      refine bodyPost_ret (v := .bool (decide (leaf < ((2 ^ n : Nat) : Int)))) rT rfl ?_
      refine ⟨congrArg (fun b => Ending.returned (.bool b)) ?_, BL.b⟩
      unfold mright
      first | exact decide_eq_decide.2 (by omega) | exact (decide_eq_false (by omega)).symm
    · skip
      have dg13 : decide (0 ≤ leaf) = false := decide_eq_false g13
      simp only [dg13]
      clear dg13
      refine zs 10 13 ⟨BL, b1, by omega⟩ ?_
      simp only [List.set_cons_zero, List.set_cons_succ]
      refine zs 11 14 ⟨BL, b1, by omega⟩ ?_
      simp only [List.set_cons_zero, List.set_cons_succ]
      refine zs 12 15 ⟨BL, b1, by omega⟩ ?_
      simp only [List.set_cons_zero, List.set_cons_succ]
      refine zs 13 16 ⟨BL, b1, by omega⟩ ?_
      simp only [List.set_cons_zero, List.set_cons_succ]
      refine zs 14 17 ⟨BL, b1, by omega⟩ ?_
      simp only [List.set_cons_zero, List.set_cons_succ]
      refine zs 15 18 ⟨BL, b1, by omega⟩ ?_
      simp only [List.set_cons_zero, List.set_cons_succ]
      refine zs 16 19 ⟨BL, b1, by omega⟩ ?_
      simp only [List.set_cons_zero, List.set_cons_succ]
      refine zv 17 20 (.bool false) (fun _ _ => .of) ⟨BL, b1, by omega⟩ ?_
      simp only [List.set_cons_zero, List.set_cons_succ]
      refine zv 18 2 (.bool false) (fun _ _ => .of) ⟨BL, b1, by omega⟩ ?_
      simp only [List.set_cons_zero, List.set_cons_succ]
      refine zd (by kernel_rfl) ?_ _
      refine hK2 _ _ ?_
      refine wp_ret ?_
      (try simp only [Exit.then, Exit.inBlock])
      refine bodyPost_ret (v := .bool false) rT rfl ?_
      refine ⟨congrArg (fun b => Ending.returned (.bool b)) ?_, BL.b⟩
      unfold mright
      first | exact decide_eq_decide.2 (by omega) | exact (decide_eq_false (by omega)).symm
  · skip
    have dg8 : decide ((n : Int) ≤ 8) = false := decide_eq_false g8
    simp only [dg8]
    clear dg8
    refine zs 5 8 ⟨BL, b1, by omega⟩ ?_
    simp only [List.set_cons_zero, List.set_cons_succ]
    refine zs 6 9 ⟨BL, b1, by omega⟩ ?_
    simp only [List.set_cons_zero, List.set_cons_succ]
    refine zs 7 10 ⟨BL, b1, by omega⟩ ?_
    simp only [List.set_cons_zero, List.set_cons_succ]
    refine zv 8 11 (.bool false) (fun _ _ => .of) ⟨BL, b1, by omega⟩ ?_
    simp only [List.set_cons_zero, List.set_cons_succ]
    refine zv 9 12 (.bool false) (fun _ _ => .of) ⟨BL, b1, by omega⟩ ?_
    simp only [List.set_cons_zero, List.set_cons_succ]
    refine zs 10 13 ⟨BL, b1, by omega⟩ ?_
    simp only [List.set_cons_zero, List.set_cons_succ]
    refine zs 11 14 ⟨BL, b1, by omega⟩ ?_
    simp only [List.set_cons_zero, List.set_cons_succ]
    refine zs 12 15 ⟨BL, b1, by omega⟩ ?_
    simp only [List.set_cons_zero, List.set_cons_succ]
    refine zs 13 16 ⟨BL, b1, by omega⟩ ?_
    simp only [List.set_cons_zero, List.set_cons_succ]
    refine zs 14 17 ⟨BL, b1, by omega⟩ ?_
    simp only [List.set_cons_zero, List.set_cons_succ]
    refine zs 15 18 ⟨BL, b1, by omega⟩ ?_
    simp only [List.set_cons_zero, List.set_cons_succ]
    refine zs 16 19 ⟨BL, b1, by omega⟩ ?_
    simp only [List.set_cons_zero, List.set_cons_succ]
    refine zv 17 20 (.bool false) (fun _ _ => .of) ⟨BL, b1, by omega⟩ ?_
    simp only [List.set_cons_zero, List.set_cons_succ]
    refine zv 18 2 (.bool false) (fun _ _ => .of) ⟨BL, b1, by omega⟩ ?_
    simp only [List.set_cons_zero, List.set_cons_succ]
    refine zd (by kernel_rfl) ?_ _
    refine hK2 _ _ ?_
    refine wp_ret ?_
    (try simp only [Exit.then, Exit.inBlock])
    refine bodyPost_ret (v := .bool false) rT rfl ?_
    refine ⟨congrArg (fun b => Ending.returned (.bool b)) ?_, BL.b⟩
    unfold mright
    first | exact decide_eq_decide.2 (by omega) | exact (decide_eq_false (by omega)).symm

set_option maxHeartbeats 4000000 in
theorem mclimb_any (T : Nat) (tab : List Nat) (ht : tab.length = 72) (w : World) (TB : Blk .u32 w T 26 (nn tab)) (dx : List Nat) (hx : dx.length = 32) (lf : Nat) (A : Option Addr) (C : Nat) (bs : List (List Nat)) (D : SE .u8 32 w (.slice A bs.length C) (nnd bs)) (hbs : ∀ d ∈ bs, d.length = 32) (h8 : bs.length ≤ 8) (hlf : lf < 2 ^ bs.length) :
    Calls Try.prog 43 #[.pointer (some ⟨T, 0, none⟩), .agg (cellsOf .u8 (nn dx)), .agg #[.int .i64 ((lf : Nat) : Int), .slice A bs.length C]] w fun e w' => e = .returned (.tuple #[.agg (cellsOf .u8 (nn (mclimb tab dx lf bs))), .int .i64 0]) ∧ Below w.heap.size w w' := by
  have BL := Bl.refl w
  have hT := TB.lt
  have hvl := D.lt
  have hpw : 2 ^ bs.length ≤ 256 := Nat.pow_le_pow_right (by omega) h8
  have hR : mright bs.length ((lf : Nat) : Int) = true := decide_eq_true ⟨h8, by omega, by omega⟩
  go_enter Try.func43, Try.ntmps43
  refine wp_seq_k fun K1 hK1 => ?_
  refine cPlain ?_
  refine xBox 4 37 _ ((nn (dx)).map (Value.int .u8)) rfl (cells_toList _ _) ?_
  intro w1 n1
  have zn1 := n1.z
  have b4 := n1.c
  replace b4 : Blk .u8 w1 w.heap.size 37 (nn (dx)) := b4
  replace BL := BL.e0 n1.e
  replace TB := TB.e0 n1.e
  replace D := D.e0 n1.e
  simp only [List.set_cons_zero, List.set_cons_succ]
  refine xBox 5 66 _ [.int .i64 ((lf : Nat) : Int), .slice A bs.length C] rfl (by kernel_rfl) ?_
  intro w2 n2
  have zn2 := n2.z
  have b5 := n2.c
  replace BL := BL.e0 n2.e
  replace TB := TB.e0 n2.e
  replace D := D.e0 n2.e
  replace b4 := b4.e0 n2.e
  simp only [List.set_cons_zero, List.set_cons_succ]
  refine xAlloc 6 37 ((nn (List.replicate 32 0)).map (Value.int .u8)) rfl (by kernel_rfl) ?_
  intro w3 n3
  have zn3 := n3.z
  have b6 := n3.c
  replace b6 : Blk .u8 w3 w2.heap.size 37 (nn (List.replicate 32 0)) := b6
  replace BL := BL.e0 n3.e
  replace TB := TB.e0 n3.e
  replace D := D.e0 n3.e
  replace b4 := b4.e0 n3.e
  replace b5 := b5.e0 n3.e
  simp only [List.set_cons_zero, List.set_cons_succ]
  refine sv 7 (.int .i64 0) .of ?_
  simp only [List.set_cons_zero, List.set_cons_succ]
  refine wpList_nil ?_
  refine hK1 _ _ ?_
  refine wp_seq_k fun K2 hK2 => ?_
  refine wp_seq_k fun K3 hK3 => ?_
  refine cPlain ?_
  refine sv 10 (.agg #[.int .i64 ((lf : Nat) : Int), .slice A bs.length C]) (Val.cel 66 _ rfl 0 2 (by kernel_rfl) b5 _ Try.underlying66 rfl (by kernel_rfl) (by simp) [.int .i64 ((lf : Nat) : Int), .slice A bs.length C] rfl) ?_
  simp only [List.set_cons_zero, List.set_cons_succ]
  refine xCall 11 47 #[.agg #[.int .i64 ((lf : Nat) : Int), .slice A bs.length C]] (by kernel_rfl) ?_
  refine (mright_any ((lf : Nat) : Int) A bs.length C w3).mono ?_
  rintro en w4 ⟨he, hb1⟩
  rw [hR] at he
  subst he
  have e1 := belE0 hb1
  have ze1 := e1.size
  replace BL := BL.e0 e1
  replace TB := TB.e0 e1
  replace D := D.e0 e1
  replace b4 := b4.e0 e1
  replace b5 := b5.e0 e1
  replace b6 := b6.e0 e1
  clear e1
  refine ⟨.bool true, rfl, ?_⟩
  simp only [List.set_cons_zero, List.set_cons_succ]
  refine sv 12 (.bool false) .of ?_
  simp only [List.set_cons_zero, List.set_cons_succ]
  refine wpList_nil ?_
  refine hK3 _ _ ?_
  refine cF ?_
  refine wp_skip ?_
  refine hK2 _ _ ?_
  refine wp_seq_k fun K4 hK4 => ?_
  refine wp_seq_k fun K5 hK5 => ?_
  refine cPlain ?_
  refine sv 14 (.pointer (some ⟨w1.heap.size, 1, none⟩)) .of ?_
  simp only [List.set_cons_zero, List.set_cons_succ]
  refine sv 15 (.slice A bs.length C) (Val.cel1 63 _ rfl w1.heap.size 1 _ (by kernel_rfl) (fun _ => (by kernel_rfl)) b5 rfl) ?_
  simp only [List.set_cons_zero, List.set_cons_succ]
  refine sv 16 (.int .i64 (bs.length : Int)) .of ?_
  simp only [List.set_cons_zero, List.set_cons_succ]
  refine sv 17 (.int .i64 0) .of ?_
  simp only [List.set_cons_zero, List.set_cons_succ]
  refine wpList_nil ?_
  refine hK5 _ _ ?_
  refine wp_block ?_
  refine cLoop (fun N_ A_ w_ => ∃ (i : Nat), (N_ = bs.length - i ∧ (i ≤ bs.length) ∧ (∃ s1 : Nat → Value, A_ = ⟨[.pointer (some ⟨T, 0, none⟩), .agg (cellsOf .u8 (nn (dx))), .agg #[.int .i64 ((lf : Nat) : Int), .slice A bs.length C], undef, .pointer (some ⟨w.heap.size, 0, none⟩), .pointer (some ⟨w1.heap.size, 0, none⟩), .pointer (some ⟨w2.heap.size, 0, none⟩), .int .i64 0, (s1 8), (s1 9), .agg #[.int .i64 ((lf : Nat) : Int), .slice A bs.length C], .bool true, .bool false, undef, .pointer (some ⟨w1.heap.size, 1, none⟩), .slice A bs.length C, .int .i64 (bs.length : Int), .int .i64 ((i : Nat) : Int), (s1 18), (s1 19), (s1 20), (s1 21), (s1 22), (s1 23), (s1 24), (s1 25), (s1 26), (s1 27), (s1 28), (s1 29), (s1 30), (s1 31), (s1 32), (s1 33), (s1 34), (s1 35), (s1 36), undef].toArray, []⟩) ∧ Bl w.heap.size w w_ ∧ Blk .u32 w_ T 26 (nn tab) ∧ SE .u8 32 w_ (.slice A bs.length C) (nnd bs) ∧ Blk .u8 w_ w.heap.size 37 (nn (mclimb tab dx lf (bs.take i))) ∧ Cel w_ w1.heap.size 66 [.int .i64 ((lf : Nat) : Int), .slice A bs.length C] ∧ Blk .u8 w_ w2.heap.size 37 (nn (List.replicate 32 0)) ∧ w4.heap.size ≤ w_.heap.size)) _ ⟨0, rfl, (Nat.zero_le _), cutE, BL, TB, D, b4, b5, b6, Nat.le_refl _⟩ ?_
  clear BL TB D b4 b5 b6
  rintro n_ a_ wl0 ⟨i, rfl, hc0_0, ⟨s1, rfl⟩, BL, TB, D, b4, b5, b6, zl0⟩
  refine wp_seq_k fun K6 hK6 => ?_
  refine cPlain ?_
  refine sv 18 (.bool (decide (((i : Nat) : Int) < (bs.length : Int)))) (Val.cmp .lss 3 _ (.tmp 17) (.tmp 16) rfl .i64 ((i : Nat) : Int) (bs.length : Int) (by kernel_rfl) (by kernel_rfl) (by simp) _ rfl) ?_
  simp only [List.set_cons_zero, List.set_cons_succ]
  refine wpList_nil ?_
  refine hK6 _ _ ?_
  refine wp_seq_k fun K7 hK7 => ?_
  refine cDec (((i : Nat) : Int) < (bs.length : Int)) (by kernel_rfl) (fun c18 => ?_) (fun c18 => ?_)
  · skip
    refine wp_skip ?_
    refine hK7 _ _ ?_
    refine wp_seq_k fun K8 hK8 => ?_
    refine wp_block ?_
    refine wp_seq_k fun K9 hK9 => ?_
    have hcl := mclimb_len tab (bs.take i) dx lf hx
    have hbi : (bs.getD i []).length = 32 := fe_getDN hbs (by omega)
    refine cPlain ?_
    refine sv 19 (.int .i64 ((i : Nat) : Int)) .of ?_
    simp only [List.set_cons_zero, List.set_cons_succ]
    refine sv 20 (elemE 32 (.slice A bs.length C) i) (Val.ixE 63 (.tmp 15) (.tmp 17) rfl (.slice A bs.length C) i (by kernel_rfl) (by kernel_rfl) D Try.underlying63 (by kernel_rfl) (by simp only [nnd_len]; omega)) ?_
    simp only [List.set_cons_zero, List.set_cons_succ]
    refine sv 21 (.agg (cellsOf .u8 (nn (bs.getD i [])))) (Val.ldGN 37 _ rfl (.slice A bs.length C) i (by kernel_rfl) D _ Try.underlying37 rfl (by kernel_rfl) (by simp only [nnd_len]; omega)) ?_
    simp only [List.set_cons_zero, List.set_cons_succ]
    refine xAlloc 9 37 ((nn (List.replicate 32 0)).map (Value.int .u8)) rfl (by kernel_rfl) ?_
    intro w5 n4
    have zn4 := n4.z
    have b9 := n4.c
    replace b9 : Blk .u8 w5 wl0.heap.size 37 (nn (List.replicate 32 0)) := b9
    replace BL := BL.e0 n4.e
    replace TB := TB.e0 n4.e
    replace D := D.e0 n4.e
    replace b4 := b4.e0 n4.e
    replace b5 := b5.e0 n4.e
    replace b6 := b6.e0 n4.e
    simp only [List.set_cons_zero, List.set_cons_succ]
    refine sv 8 (.int .i64 ((i : Nat) : Int)) .of ?_
    simp only [List.set_cons_zero, List.set_cons_succ]
    refine xStoreA 37 (.tmp 9) (.tmp 21) rfl .u8 wl0.heap.size 37 (nn (List.replicate 32 0)) 0 (nn (bs.getD i [])) (by kernel_rfl) (by kernel_rfl) b9 (by rw [show (nn (bs.getD i [])).length = 32 by ((try simp only [nn_len, List.length_cons, List.length_nil, List.length_set, List.length_replicate]); try omega)]; kernel_rfl) (by (try simp only [nn_len, List.length_cons, List.length_nil, List.length_set, List.length_replicate]); try omega) (nn (bs.getD i [])) (over_whole _ _ (by (try simp only [nn_len, List.length_cons, List.length_nil, List.length_set, List.length_replicate]); try omega)) ?_
    intro w6 t1
    have zt1 := t1.z
    have BL_ := BL.ev t1.e (fun i h => show w.heap.size ≤ i by have h : i = wl0.heap.size := h; omega)
    have TB_ := TB.ev t1.e (show ¬ (T = wl0.heap.size) by omega)
    have D_ := D.ev t1.e (fun i hi => show ¬ (i = wl0.heap.size) by have := hvl i hi; omega)
    have b4_ := b4.ev t1.e (show ¬ (w.heap.size = wl0.heap.size) by omega)
    have b5_ := b5.ev t1.e (show ¬ (w1.heap.size = wl0.heap.size) by omega)
    have b6_ := b6.ev t1.e (show ¬ (w2.heap.size = wl0.heap.size) by omega)
    replace BL := BL_; clear BL_
    replace TB := TB_; clear TB_
    replace D := D_; clear D_
    replace b4 := b4_; clear b4_
    replace b5 := b5_; clear b5_
    replace b6 := b6_; clear b6_
    replace b9 : Blk .u8 w6 wl0.heap.size 37 (nn (bs.getD i [])) := t1.c
    clear t1
    refine wpList_nil ?_
    refine hK9 _ _ ?_
    refine wp_seq_k fun K10 hK10 => ?_
    have hdl : lf / 2 ^ i ≤ lf := Nat.div_le_self _ _
    have hml1 := mnode_len tab (mclimb tab dx lf (bs.take i)) (bs.getD i [])
    have hml2 := mnode_len tab (bs.getD i []) (mclimb tab dx lf (bs.take i))
    have hst : mclimb tab dx lf (bs.take (i + 1)) = if lf / 2 ^ i % 2 = 0 then mnode tab (mclimb tab dx lf (bs.take i)) (bs.getD i []) else mnode tab (bs.getD i []) (mclimb tab dx lf (bs.take i)) := by
      have hti : (bs.take i).length = i := by rw [List.length_take]; omega
      have hge : bs.getD i [] = bs[i] := by rw [List.getD_eq_getElem?_getD, List.getElem?_eq_getElem (by omega)]; rfl
      rw [List.take_add_one, List.getElem?_eq_getElem (show i < bs.length by omega), hge]
      show mclimb tab dx lf (bs.take i ++ [bs[i]]) = _
      rw [mclimb_snoc, hti]
    refine cPlain ?_
    refine sv 22 (.pointer (some ⟨w1.heap.size, 0, none⟩)) .of ?_
    simp only [List.set_cons_zero, List.set_cons_succ]
    refine sv 23 (.int .i64 ((lf : Nat) : Int)) (Val.cel1 3 _ rfl w1.heap.size 0 _ (by kernel_rfl) (fun _ => (by kernel_rfl)) b5 rfl) ?_
    simp only [List.set_cons_zero, List.set_cons_succ]
    refine sv 24 (.int .i64 ((i : Nat) : Int)) .of ?_
    simp only [List.set_cons_zero, List.set_cons_succ]
    refine sv 25 (.int .i64 ((lf / 2 ^ i : Nat) : Int)) (Val.asN (Val.shrN 3 _ (.tmp 23) (.tmp 24) rfl .i64 .i64 lf i (by kernel_rfl) (by kernel_rfl) (by simp only [IntKind.bits]; omega)) (Nat.shiftRight_eq_div_pow _ _)) ?_
    simp only [List.set_cons_zero, List.set_cons_succ]
    refine sv 26 (.int .i64 ((lf / 2 ^ i % 2 : Nat) : Int)) (Val.asN (Val.andI 3 _ (.tmp 25) _ rfl (lf / 2 ^ i) 1 (by kernel_rfl) (by kernel_rfl) (by omega) (by omega)) (Nat.and_one_is_mod _)) ?_
    simp only [List.set_cons_zero, List.set_cons_succ]
    refine sv 27 (.bool (decide (((lf / 2 ^ i % 2 : Nat) : Int) = 0))) (Val.cmp .eql 3 _ (.tmp 26) _ rfl .i64 ((lf / 2 ^ i % 2 : Nat) : Int) 0 (by kernel_rfl) (by kernel_rfl) (by simp) _ rfl) ?_
    simp only [List.set_cons_zero, List.set_cons_succ]
    refine wpList_nil ?_
    refine hK10 _ _ ?_
    refine cDec (((lf / 2 ^ i % 2 : Nat) : Int) = 0) (by kernel_rfl) (fun c27 => ?_) (fun c27 => ?_)
    · skip
      refine cPlain ?_
      refine sv 28 (.pointer (some ⟨T, 0, none⟩)) .of ?_
      simp only [List.set_cons_zero, List.set_cons_succ]
      refine sv 29 (.agg (cellsOf .u8 (nn (mclimb tab dx lf (bs.take i))))) (Val.blk 37 _ rfl 0 32 (by kernel_rfl) b4 _ Try.underlying37 rfl (by kernel_rfl) (by (try simp only [nn_len, List.length_cons, List.length_nil, List.length_set, List.length_replicate]); try omega) _ (seg_all' _ (by (try simp only [nn_len, List.length_cons, List.length_nil, List.length_set, List.length_replicate]); try omega))) ?_
      simp only [List.set_cons_zero, List.set_cons_succ]
      refine sv 30 (.agg (cellsOf .u8 (nn (bs.getD i [])))) (Val.blk 37 _ rfl 0 32 (by kernel_rfl) b9 _ Try.underlying37 rfl (by kernel_rfl) (by (try simp only [nn_len, List.length_cons, List.length_nil, List.length_set, List.length_replicate]); try omega) _ (seg_all' _ (by (try simp only [nn_len, List.length_cons, List.length_nil, List.length_set, List.length_replicate]); try omega))) ?_
      simp only [List.set_cons_zero, List.set_cons_succ]
      refine xCall 31 40 #[.pointer (some ⟨T, 0, none⟩), .agg (cellsOf .u8 (nn (mclimb tab dx lf (bs.take i)))), .agg (cellsOf .u8 (nn (bs.getD i [])))] (by kernel_rfl) ?_
      refine (mnode_any T tab ht w6 TB (mclimb tab dx lf (bs.take i)) (bs.getD i []) (mclimb_len tab _ _ _ hx) (fe_getDN hbs (by omega))).mono ?_
      rintro en w7 ⟨rfl, hb1⟩
      have e2 := belE0 hb1
      have ze2 := e2.size
      replace BL := BL.e0 e2
      replace TB := TB.e0 e2
      replace D := D.e0 e2
      replace b4 := b4.e0 e2
      replace b5 := b5.e0 e2
      replace b6 := b6.e0 e2
      replace b9 := b9.e0 e2
      clear e2
      refine ⟨.agg (cellsOf .u8 (nn (mnode tab (mclimb tab dx lf (bs.take i)) (bs.getD i [])))), rfl, ?_⟩
      simp only [List.set_cons_zero, List.set_cons_succ]
      refine xStoreA 37 (.tmp 4) (.tmp 31) rfl .u8 w.heap.size 37 (nn (mclimb tab dx lf (bs.take i))) 0 (nn (mnode tab (mclimb tab dx lf (bs.take i)) (bs.getD i []))) (by kernel_rfl) (by kernel_rfl) b4 (by rw [show (nn (mnode tab (mclimb tab dx lf (bs.take i)) (bs.getD i []))).length = 32 by ((try simp only [nn_len, List.length_cons, List.length_nil, List.length_set, List.length_replicate]); try omega)]; kernel_rfl) (by (try simp only [nn_len, List.length_cons, List.length_nil, List.length_set, List.length_replicate]); try omega) (nn (mnode tab (mclimb tab dx lf (bs.take i)) (bs.getD i []))) (over_whole _ _ (by (try simp only [nn_len, List.length_cons, List.length_nil, List.length_set, List.length_replicate]); try omega)) ?_
      intro w8 t2
      have zt2 := t2.z
      have BL_ := BL.ev t2.e (fun i h => show w.heap.size ≤ i by have h : i = w.heap.size := h; omega)
      have TB_ := TB.ev t2.e (show ¬ (T = w.heap.size) by omega)
      have D_ := D.ev t2.e (fun i hi => show ¬ (i = w.heap.size) by have := hvl i hi; omega)
      have b5_ := b5.ev t2.e (show ¬ (w1.heap.size = w.heap.size) by omega)
      have b6_ := b6.ev t2.e (show ¬ (w2.heap.size = w.heap.size) by omega)
      have b9_ := b9.ev t2.e (show ¬ (wl0.heap.size = w.heap.size) by omega)
      replace BL := BL_; clear BL_
      replace TB := TB_; clear TB_
      replace D := D_; clear D_
      replace b5 := b5_; clear b5_
      replace b6 := b6_; clear b6_
      replace b9 := b9_; clear b9_
      replace b4 : Blk .u8 w8 w.heap.size 37 (nn (mnode tab (mclimb tab dx lf (bs.take i)) (bs.getD i []))) := t2.c
      clear t2
      refine wpList_nil ?_
      refine hK8 _ _ ?_
      refine cPlain ?_
      refine sv 36 (.int .i64 ((i + 1 : Nat) : Int)) (Val.as (Val.add 3 _ (.tmp 17) _ rfl ((i : Nat) : Int) 1 (by kernel_rfl) (by kernel_rfl) (by omega)) (congrArg (Value.int .i64) (by omega))) ?_
      simp only [List.set_cons_zero, List.set_cons_succ]
      refine sv 17 (.int .i64 ((i + 1 : Nat) : Int)) .of ?_
      simp only [List.set_cons_zero, List.set_cons_succ]
      refine wpList_nil ?_
      refine ⟨_, ?_, i + 1, rfl, by omega, cutE, BL, TB, D, (by first | (rw [hst, if_pos (by omega)]; exact b4) | (rw [hst, if_neg (by omega)]; exact b4)), b5, b6, by omega⟩
      omega
    · skip
      refine cPlain ?_
      refine sv 32 (.pointer (some ⟨T, 0, none⟩)) .of ?_
      simp only [List.set_cons_zero, List.set_cons_succ]
      refine sv 33 (.agg (cellsOf .u8 (nn (bs.getD i [])))) (Val.blk 37 _ rfl 0 32 (by kernel_rfl) b9 _ Try.underlying37 rfl (by kernel_rfl) (by (try simp only [nn_len, List.length_cons, List.length_nil, List.length_set, List.length_replicate]); try omega) _ (seg_all' _ (by (try simp only [nn_len, List.length_cons, List.length_nil, List.length_set, List.length_replicate]); try omega))) ?_
      simp only [List.set_cons_zero, List.set_cons_succ]
      refine sv 34 (.agg (cellsOf .u8 (nn (mclimb tab dx lf (bs.take i))))) (Val.blk 37 _ rfl 0 32 (by kernel_rfl) b4 _ Try.underlying37 rfl (by kernel_rfl) (by (try simp only [nn_len, List.length_cons, List.length_nil, List.length_set, List.length_replicate]); try omega) _ (seg_all' _ (by (try simp only [nn_len, List.length_cons, List.length_nil, List.length_set, List.length_replicate]); try omega))) ?_
      simp only [List.set_cons_zero, List.set_cons_succ]
      refine xCall 35 40 #[.pointer (some ⟨T, 0, none⟩), .agg (cellsOf .u8 (nn (bs.getD i []))), .agg (cellsOf .u8 (nn (mclimb tab dx lf (bs.take i))))] (by kernel_rfl) ?_
      refine (mnode_any T tab ht w6 TB (bs.getD i []) (mclimb tab dx lf (bs.take i)) (fe_getDN hbs (by omega)) (mclimb_len tab _ _ _ hx)).mono ?_
      rintro en w9 ⟨rfl, hb1⟩
      have e3 := belE0 hb1
      have ze3 := e3.size
      replace BL := BL.e0 e3
      replace TB := TB.e0 e3
      replace D := D.e0 e3
      replace b4 := b4.e0 e3
      replace b5 := b5.e0 e3
      replace b6 := b6.e0 e3
      replace b9 := b9.e0 e3
      clear e3
      refine ⟨.agg (cellsOf .u8 (nn (mnode tab (bs.getD i []) (mclimb tab dx lf (bs.take i))))), rfl, ?_⟩
      simp only [List.set_cons_zero, List.set_cons_succ]
      refine xStoreA 37 (.tmp 4) (.tmp 35) rfl .u8 w.heap.size 37 (nn (mclimb tab dx lf (bs.take i))) 0 (nn (mnode tab (bs.getD i []) (mclimb tab dx lf (bs.take i)))) (by kernel_rfl) (by kernel_rfl) b4 (by rw [show (nn (mnode tab (bs.getD i []) (mclimb tab dx lf (bs.take i)))).length = 32 by ((try simp only [nn_len, List.length_cons, List.length_nil, List.length_set, List.length_replicate]); try omega)]; kernel_rfl) (by (try simp only [nn_len, List.length_cons, List.length_nil, List.length_set, List.length_replicate]); try omega) (nn (mnode tab (bs.getD i []) (mclimb tab dx lf (bs.take i)))) (over_whole _ _ (by (try simp only [nn_len, List.length_cons, List.length_nil, List.length_set, List.length_replicate]); try omega)) ?_
      intro w10 t3
      have zt3 := t3.z
      have BL_ := BL.ev t3.e (fun i h => show w.heap.size ≤ i by have h : i = w.heap.size := h; omega)
      have TB_ := TB.ev t3.e (show ¬ (T = w.heap.size) by omega)
      have D_ := D.ev t3.e (fun i hi => show ¬ (i = w.heap.size) by have := hvl i hi; omega)
      have b5_ := b5.ev t3.e (show ¬ (w1.heap.size = w.heap.size) by omega)
      have b6_ := b6.ev t3.e (show ¬ (w2.heap.size = w.heap.size) by omega)
      have b9_ := b9.ev t3.e (show ¬ (wl0.heap.size = w.heap.size) by omega)
      replace BL := BL_; clear BL_
      replace TB := TB_; clear TB_
      replace D := D_; clear D_
      replace b5 := b5_; clear b5_
      replace b6 := b6_; clear b6_
      replace b9 := b9_; clear b9_
      replace b4 : Blk .u8 w10 w.heap.size 37 (nn (mnode tab (bs.getD i []) (mclimb tab dx lf (bs.take i)))) := t3.c
      clear t3
      refine wpList_nil ?_
      refine hK8 _ _ ?_
      refine cPlain ?_
      refine sv 36 (.int .i64 ((i + 1 : Nat) : Int)) (Val.as (Val.add 3 _ (.tmp 17) _ rfl ((i : Nat) : Int) 1 (by kernel_rfl) (by kernel_rfl) (by omega)) (congrArg (Value.int .i64) (by omega))) ?_
      simp only [List.set_cons_zero, List.set_cons_succ]
      refine sv 17 (.int .i64 ((i + 1 : Nat) : Int)) .of ?_
      simp only [List.set_cons_zero, List.set_cons_succ]
      refine wpList_nil ?_
      refine ⟨_, ?_, i + 1, rfl, by omega, cutE, BL, TB, D, (by first | (rw [hst, if_pos (by omega)]; exact b4) | (rw [hst, if_neg (by omega)]; exact b4)), b5, b6, by omega⟩
      omega
  · skip
    refine wp_exit ?_
    simp only [Exit.then, Exit.inBlock, ↓reduceIte, Nat.reduceEqDiff]
    refine hK4 _ _ ?_
    refine wp_seq_k fun K11 hK11 => ?_
    have hcl := mclimb_len tab (bs.take i) dx lf hx
    refine cPlain ?_
    refine sv 37 (.agg (cellsOf .u8 (nn (mclimb tab dx lf (bs.take i))))) (Val.blk 37 _ rfl 0 32 (by kernel_rfl) b4 _ Try.underlying37 rfl (by kernel_rfl) (by (try simp only [nn_len, List.length_cons, List.length_nil, List.length_set, List.length_replicate]); try omega) _ (seg_all' _ (by (try simp only [nn_len, List.length_cons, List.length_nil, List.length_set, List.length_replicate]); try omega))) ?_
    simp only [List.set_cons_zero, List.set_cons_succ]
    refine xStoreA 37 (.tmp 6) (.tmp 37) rfl .u8 w2.heap.size 37 (nn (List.replicate 32 0)) 0 (nn (mclimb tab dx lf (bs.take i))) (by kernel_rfl) (by kernel_rfl) b6 (by rw [show (nn (mclimb tab dx lf (bs.take i))).length = 32 by ((try simp only [nn_len, List.length_cons, List.length_nil, List.length_set, List.length_replicate]); try omega)]; kernel_rfl) (by (try simp only [nn_len, List.length_cons, List.length_nil, List.length_set, List.length_replicate]); try omega) (nn (mclimb tab dx lf (bs.take i))) (over_whole _ _ (by (try simp only [nn_len, List.length_cons, List.length_nil, List.length_set, List.length_replicate]); try omega)) ?_
    intro w11 t4
    have zt4 := t4.z
    have BL_ := BL.ev t4.e (fun i h => show w.heap.size ≤ i by have h : i = w2.heap.size := h; omega)
    have TB_ := TB.ev t4.e (show ¬ (T = w2.heap.size) by omega)
    have D_ := D.ev t4.e (fun i hi => show ¬ (i = w2.heap.size) by have := hvl i hi; omega)
    have b4_ := b4.ev t4.e (show ¬ (w.heap.size = w2.heap.size) by omega)
    have b5_ := b5.ev t4.e (show ¬ (w1.heap.size = w2.heap.size) by omega)
    replace BL := BL_; clear BL_
    replace TB := TB_; clear TB_
    replace D := D_; clear D_
    replace b4 := b4_; clear b4_
    replace b5 := b5_; clear b5_
    replace b6 : Blk .u8 w11 w2.heap.size 37 (nn (mclimb tab dx lf (bs.take i))) := t4.c
    clear t4
    refine sv 7 (.int .i64 0) .of ?_
    simp only [List.set_cons_zero, List.set_cons_succ]
    refine wpList_nil ?_
    refine hK11 _ _ ?_
    refine wp_ret ?_
    (try simp only [Exit.then, Exit.inBlock])
    refine bodyPost_ret (rCT rfl _ w2.heap.size _ _ (.int .i64 0) (by kernel_rfl) (by kernel_rfl) b6.cel _ Try.underlying37 rfl (by rw [List.length_map, show (nn (mclimb tab dx lf (bs.take i))).length = 32 by ((try simp only [nn_len, List.length_cons, List.length_nil, List.length_set, List.length_replicate]); try omega)]; kernel_rfl)) rfl ?_
    rw [List.take_of_length_le (show bs.length ≤ i by omega)]
    exact ⟨rfl, BL.b⟩

set_option maxHeartbeats 4000000 in
theorem mclimb_no (t : Value) (dx : List Nat) (hx : dx.length = 32) (lf : Int) (A : Option Addr) (n C : Nat) (w : World) (hno : mright n lf = false) :
    Calls Try.prog 43 #[t, .agg (cellsOf .u8 (nn dx)), .agg #[.int .i64 lf, .slice A n C]] w fun e w' => e = .returned (.tuple #[.agg (cellsOf .u8 (nn (List.replicate 32 0))), .int .i64 2]) ∧ Below w.heap.size w w' := by
  have BL := Bl.refl w
  go_enter Try.func43, Try.ntmps43
  refine wp_seq_k fun K1 hK1 => ?_
  refine cPlain ?_
  refine xBox 4 37 _ ((nn (dx)).map (Value.int .u8)) rfl (cells_toList _ _) ?_
  intro w1 n1
  have zn1 := n1.z
  have b4 := n1.c
  replace b4 : Blk .u8 w1 w.heap.size 37 (nn (dx)) := b4
  replace BL := BL.e0 n1.e
  simp only [List.set_cons_zero, List.set_cons_succ]
  refine xBox 5 66 _ [.int .i64 lf, .slice A n C] rfl (by kernel_rfl) ?_
  intro w2 n2
  have zn2 := n2.z
  have b5 := n2.c
  replace BL := BL.e0 n2.e
  replace b4 := b4.e0 n2.e
  simp only [List.set_cons_zero, List.set_cons_succ]
  refine xAlloc 6 37 ((nn (List.replicate 32 0)).map (Value.int .u8)) rfl (by kernel_rfl) ?_
  intro w3 n3
  have zn3 := n3.z
  have b6 := n3.c
  replace b6 : Blk .u8 w3 w2.heap.size 37 (nn (List.replicate 32 0)) := b6
  replace BL := BL.e0 n3.e
  replace b4 := b4.e0 n3.e
  replace b5 := b5.e0 n3.e
  simp only [List.set_cons_zero, List.set_cons_succ]
  refine sv 7 (.int .i64 0) .of ?_
  simp only [List.set_cons_zero, List.set_cons_succ]
  refine wpList_nil ?_
  refine hK1 _ _ ?_
  refine wp_seq_k fun K2 hK2 => ?_
  refine wp_seq_k fun K3 hK3 => ?_
  refine cPlain ?_
  refine sv 10 (.agg #[.int .i64 lf, .slice A n C]) (Val.cel 66 _ rfl 0 2 (by kernel_rfl) b5 _ Try.underlying66 rfl (by kernel_rfl) (by simp) [.int .i64 lf, .slice A n C] rfl) ?_
  simp only [List.set_cons_zero, List.set_cons_succ]
  refine xCall 11 47 #[.agg #[.int .i64 lf, .slice A n C]] (by kernel_rfl) ?_
  refine (mright_any lf A n C w3).mono ?_
  rintro en w4 ⟨he, hb1⟩
  rw [hno] at he
  subst he
  have e1 := belE0 hb1
  have ze1 := e1.size
  replace BL := BL.e0 e1
  replace b4 := b4.e0 e1
  replace b5 := b5.e0 e1
  replace b6 := b6.e0 e1
  clear e1
  refine ⟨.bool false, rfl, ?_⟩
  simp only [List.set_cons_zero, List.set_cons_succ]
  refine sv 12 (.bool true) .of ?_
  simp only [List.set_cons_zero, List.set_cons_succ]
  refine wpList_nil ?_
  refine hK3 _ _ ?_
  refine cT ?_
  refine wp_seq_k fun K4 hK4 => ?_
  refine cPlain ?_
  refine sv 13 (.agg (cellsOf .u8 (nn [0, 0, 0, 0, 0, 0, 0, 0, 0, 0, 0, 0, 0, 0, 0, 0, 0, 0, 0, 0, 0, 0, 0, 0, 0, 0, 0, 0, 0, 0, 0, 0]))) .of ?_
  simp only [List.set_cons_zero, List.set_cons_succ]
  refine xStoreA 37 (.tmp 6) (.tmp 13) rfl .u8 w2.heap.size 37 (nn (List.replicate 32 0)) 0 (nn [0, 0, 0, 0, 0, 0, 0, 0, 0, 0, 0, 0, 0, 0, 0, 0, 0, 0, 0, 0, 0, 0, 0, 0, 0, 0, 0, 0, 0, 0, 0, 0]) (by kernel_rfl) (by kernel_rfl) b6 (by rw [show (nn [0, 0, 0, 0, 0, 0, 0, 0, 0, 0, 0, 0, 0, 0, 0, 0, 0, 0, 0, 0, 0, 0, 0, 0, 0, 0, 0, 0, 0, 0, 0, 0]).length = 32 by ((try simp only [nn_len, List.length_cons, List.length_nil, List.length_set, List.length_replicate]); try omega)]; kernel_rfl) (by (try simp only [nn_len, List.length_cons, List.length_nil, List.length_set, List.length_replicate]); try omega) (nn [0, 0, 0, 0, 0, 0, 0, 0, 0, 0, 0, 0, 0, 0, 0, 0, 0, 0, 0, 0, 0, 0, 0, 0, 0, 0, 0, 0, 0, 0, 0, 0]) (over_whole _ _ (by (try simp only [nn_len, List.length_cons, List.length_nil, List.length_set, List.length_replicate]); try omega)) ?_
  intro w5 t1
  have zt1 := t1.z
  have BL_ := BL.ev t1.e (fun i h => show w.heap.size ≤ i by have h : i = w2.heap.size := h; omega)
  have b4_ := b4.ev t1.e (show ¬ (w.heap.size = w2.heap.size) by omega)
  have b5_ := b5.ev t1.e (show ¬ (w1.heap.size = w2.heap.size) by omega)
  replace BL := BL_; clear BL_
  replace b4 := b4_; clear b4_
  replace b5 := b5_; clear b5_
  replace b6 : Blk .u8 w5 w2.heap.size 37 (nn [0, 0, 0, 0, 0, 0, 0, 0, 0, 0, 0, 0, 0, 0, 0, 0, 0, 0, 0, 0, 0, 0, 0, 0, 0, 0, 0, 0, 0, 0, 0, 0]) := t1.c
  clear t1
  refine sv 7 (.int .i64 2) .of ?_
  simp only [List.set_cons_zero, List.set_cons_succ]
  refine wpList_nil ?_
  refine hK4 _ _ ?_
  refine wp_ret ?_
  (try simp only [Exit.then, Exit.inBlock])
  refine bodyPost_ret (rCT rfl _ w2.heap.size _ _ (.int .i64 2) (by kernel_rfl) (by kernel_rfl) b6.cel _ Try.underlying37 rfl (by rw [List.length_map, show (nn [0, 0, 0, 0, 0, 0, 0, 0, 0, 0, 0, 0, 0, 0, 0, 0, 0, 0, 0, 0, 0, 0, 0, 0, 0, 0, 0, 0, 0, 0, 0, 0]).length = 32 by ((try simp only [nn_len, List.length_cons, List.length_nil, List.length_set, List.length_replicate]); try omega)]; kernel_rfl)) rfl ?_
  exact ⟨rfl, BL.b⟩

end Go.Proofs.Yteaijjefbadnbaa
