/-
  MerkleSteps: the walk.
-/
import Derived.Test.YteaijjefbadnbaaMerkA
import Derived.Test.YteaijjefbadnbaaNnB
namespace Go.Proofs.Yteaijjefbadnbaa
open Go.RowKit
set_option linter.unusedVariables false
set_option linter.unusedSimpArgs false
set_option maxRecDepth 100000
attribute [local irreducible] wpList Code.wp wpAnyZ taggedN mnode ofN textN
theorem SE.part {z : Nat} {w : World} {v : Value} {l : List (List Nat)} (h : SE .u8 z w v (nnd l)) (lo hi : Nat) (h1 : lo ≤ hi) (h2 : hi ≤ l.length) (m : List (List Nat)) (hm : (l.drop lo).take (hi - lo) = m) :
    ∃ A C, sliceE z v lo hi = .slice A m.length C ∧ SE .u8 z w (.slice A m.length C) (nnd m) := by
  have h3 := SE.cast (h.slice lo hi h1 (by rw [nnd_len]; exact h2)) (nnd_seg _ _ _)
  rw [hm] at h3
  obtain ⟨A, C, e, _⟩ := h3.len
  rw [nnd_len] at e
  exact ⟨A, C, e, e ▸ h3⟩

set_option maxHeartbeats 8000000 in
theorem merkleSteps_walk (tab : List Nat) (ht : tab.length = 72) (w : World) (dx : List Nat) (hx : dx.length = 32) (v : Value) (l : List (List Nat)) (D : SE .u8 32 w v (nnd l)) (leaf : Int) (cut : Nat) (hcut : cut < 256) :
    Calls Try.prog 7 #[.agg (cellsOf .u32 (nn tab)), .agg (cellsOf .u8 (nn dx)), v, .int .i64 leaf, .int .u8 ((cut : Nat) : Int)] w fun e w' => e = .returned (.bool true) ∧ Below w.heap.size w w' := by
  have BL := Bl.refl w
  have hvl := D.lt
  obtain ⟨A0, C0, hv, hvc⟩ := D.len
  rw [nnd_len] at hv hvc
  subst hv
  have hll := D.cap.2.2
  unfold maxLen at hll
  obtain ⟨m, hm⟩ : ∃ m, l.take 8 = m := ⟨_, rfl⟩
  have hml : m.length = min l.length 8 := by rw [← hm, List.length_take]; omega
  have hm8 : m.length ≤ 8 := by omega
  obtain ⟨A1, C1, hk1, D1⟩ := D.part 0 m.length (Nat.zero_le _) (by omega) m (by rw [List.drop_zero, Nat.sub_zero, hml, ← hm]; rcases Nat.le_total l.length 8 with h | h; rw [Nat.min_eq_left h, List.take_of_length_le (Nat.le_refl _), List.take_of_length_le h]; rw [Nat.min_eq_right h])
  have hvl1 := D1.lt
  have hm32 := nnd_lens D1.lens
  have hpw : 2 ^ m.length ≤ 256 := Nat.pow_le_pow_right (by omega) hm8
  have hp1 : 0 < 2 ^ m.length := Nat.two_pow_pos _
  obtain ⟨pk, hpk⟩ : ∃ pk, pickN leaf (2 ^ m.length) = pk := ⟨_, rfl⟩
  have hpl := pickN_lt leaf hp1
  rw [hpk] at hpl
  obtain ⟨kc, hkc⟩ : ∃ kc, cut % (m.length + 1) = kc := ⟨_, rfl⟩
  have hkl : kc ≤ m.length := by have := Nat.mod_lt cut (show 0 < m.length + 1 by omega); omega
  have hp2 : 0 < 2 ^ kc := Nat.two_pow_pos _
  have hpw2 : 2 ^ kc ≤ 2 ^ m.length := Nat.pow_le_pow_right (by omega) hkl
  obtain ⟨p, hp⟩ : ∃ p, m.take kc = p := ⟨_, rfl⟩
  obtain ⟨q, hq⟩ : ∃ q, m.drop kc = q := ⟨_, rfl⟩
  have hpn : p.length = kc := by rw [← hp, List.length_take]; omega
  have hqn : q.length = m.length - kc := by rw [← hq, List.length_drop]
  obtain ⟨A2, C2, hk2, D2⟩ := D1.part 0 kc (Nat.zero_le _) hkl p (by rw [List.drop_zero, Nat.sub_zero, hp])
  obtain ⟨A3, C3, hk3, D3⟩ := D1.part kc m.length hkl (Nat.le_refl _) q (by rw [List.take_of_length_le (by rw [List.length_drop]; omega), hq])
  have hvl2 := D2.lt
  have hvl3 := D3.lt
  have hp32 := nnd_lens D2.lens
  have hq32 := nnd_lens D3.lens
  have hlt2 : pk % 2 ^ kc < 2 ^ p.length := by rw [hpn]; exact Nat.mod_lt _ hp2
  have hlt3 : pk / 2 ^ kc < 2 ^ q.length := by rw [hqn, Nat.div_lt_iff_lt_mul hp2, ← Nat.pow_add, show m.length - kc + kc = m.length by omega]; exact hpl
  have hyl := mclimb_len tab m dx pk hx
  have hzl := mclimb_len tab p dx (pk % 2 ^ kc) hx
  have hwl := mclimb_len tab q (mclimb tab dx (pk % 2 ^ kc) p) (pk / 2 ^ kc) hzl
  have heq : mclimb tab dx pk m = mclimb tab (mclimb tab dx (pk % 2 ^ kc) p) (pk / 2 ^ kc) q := by
    rw [← hpn, mclimb_mod tab p dx pk, ← mclimb_app, ← hp, ← hq, List.take_append_drop]
  go_enter Try.func7, Try.ntmps7
  refine wp_seq_k fun K1 hK1 => ?_
  refine cPlain ?_
  refine xBox 5 26 _ ((nn tab).map (Value.int .u32)) rfl (cells_toList _ _) ?_
  intro w1 n1
  have zn1 := n1.z
  have b5 := n1.c
  replace b5 : Blk .u32 w1 w.heap.size 26 (nn tab) := b5
  replace BL := BL.e0 n1.e
  replace D := D.e0 n1.e
  replace D1 := D1.e0 n1.e
  replace D2 := D2.e0 n1.e
  replace D3 := D3.e0 n1.e
  simp only [List.set_cons_zero, List.set_cons_succ]
  refine xBox 6 37 _ ((nn (dx)).map (Value.int .u8)) rfl (cells_toList _ _) ?_
  intro w2 n2
  have zn2 := n2.z
  have b6 := n2.c
  replace b6 : Blk .u8 w2 w1.heap.size 37 (nn (dx)) := b6
  replace BL := BL.e0 n2.e
  replace D := D.e0 n2.e
  replace D1 := D1.e0 n2.e
  replace D2 := D2.e0 n2.e
  replace D3 := D3.e0 n2.e
  replace b5 := b5.e0 n2.e
  simp only [List.set_cons_zero, List.set_cons_succ]
  refine sv 10 (.bool false) .of ?_
  simp only [List.set_cons_zero, List.set_cons_succ]
  refine wpList_nil ?_
  refine hK1 _ _ ?_
  refine wp_seq_k fun K2 hK2 => ?_
  refine cPlain ?_
  refine sv 19 (.slice A0 l.length C0) .of ?_
  simp only [List.set_cons_zero, List.set_cons_succ]
  refine sv 20 (.slice A0 l.length C0) .of ?_
  simp only [List.set_cons_zero, List.set_cons_succ]
  refine sv 21 (.int .i64 (l.length : Int)) .of ?_
  simp only [List.set_cons_zero, List.set_cons_succ]
  refine sv 22 (.int .i64 ((m.length : Nat) : Int)) (Val.as (Val.minN (.tmp 21) _ _ _ rfl l.length 8 (by kernel_rfl) (by kernel_rfl)) (congrArg (fun k : Nat => Value.int .i64 (k : Int)) hml.symm)) ?_
  simp only [List.set_cons_zero, List.set_cons_succ]
  refine sv 23 (.slice A1 m.length C1) (Val.as (Val.slcE 63 (.tmp 19) none (some (.tmp 22)) rfl (.slice A0 l.length C0) (by kernel_rfl) D 0 m.length (.inr ⟨rfl, rfl⟩) (.inl (by kernel_rfl)) (Nat.zero_le _) (by rw [nnd_len]; omega) Try.underlying63 (by kernel_rfl)) hk1) ?_
  simp only [List.set_cons_zero, List.set_cons_succ]
  refine sv 2 (.slice A1 m.length C1) .of ?_
  simp only [List.set_cons_zero, List.set_cons_succ]
  refine wpList_nil ?_
  refine hK2 _ _ ?_
  refine wp_seq_k fun K3 hK3 => ?_
  refine cPlain ?_
  refine sv 24 (.int .i64 leaf) .of ?_
  simp only [List.set_cons_zero, List.set_cons_succ]
  refine sv 25 (.slice A1 m.length C1) .of ?_
  simp only [List.set_cons_zero, List.set_cons_succ]
  refine sv 26 (.int .i64 (m.length : Int)) .of ?_
  simp only [List.set_cons_zero, List.set_cons_succ]
  refine sv 27 (.int .i64 ((2 ^ m.length : Nat) : Int)) (Val.shl1 3 _ _ (.tmp 26) rfl .i64 m.length (by omega) (by kernel_rfl) (by kernel_rfl)) ?_
  simp only [List.set_cons_zero, List.set_cons_succ]
  refine xCall 28 42 #[.int .i64 leaf, .int .i64 ((2 ^ m.length : Nat) : Int)] (by kernel_rfl) ?_
  refine (pickM_any leaf (2 ^ m.length) hp1 (by omega) w2).mono ?_
  rintro en w3 ⟨he, hw⟩
  rw [hpk] at he
  subst he
  have e1 : E0 w2 w3 := (hw ▸ Ev.refl _ _)
  have ze1 := e1.size
  replace BL := BL.e0 e1
  replace D := D.e0 e1
  replace D1 := D1.e0 e1
  replace D2 := D2.e0 e1
  replace D3 := D3.e0 e1
  replace b5 := b5.e0 e1
  replace b6 := b6.e0 e1
  clear e1
  refine ⟨.int .i64 ((pk : Nat) : Int), rfl, ?_⟩
  simp only [List.set_cons_zero, List.set_cons_succ]
  refine sv 29 (.slice A1 m.length C1) .of ?_
  simp only [List.set_cons_zero, List.set_cons_succ]
  refine sv 30 (.agg #[.int .i64 ((pk : Nat) : Int), .slice A1 m.length C1]) .of ?_
  simp only [List.set_cons_zero, List.set_cons_succ]
  refine xAlloc 11 66 [.int .i64 0, .slice none 0 0] rfl (by kernel_rfl) ?_
  intro w4 n3
  have zn3 := n3.z
  have b11 := n3.c
  replace BL := BL.e0 n3.e
  replace D := D.e0 n3.e
  replace D1 := D1.e0 n3.e
  replace D2 := D2.e0 n3.e
  replace D3 := D3.e0 n3.e
  replace b5 := b5.e0 n3.e
  replace b6 := b6.e0 n3.e
  simp only [List.set_cons_zero, List.set_cons_succ]
  refine xStoreR 66 (.tmp 11) (.tmp 30) rfl w3.heap.size 66 [.int .i64 0, .slice none 0 0] 0 [.int .i64 ((pk : Nat) : Int), .slice A1 m.length C1] (by kernel_rfl) (by kernel_rfl) b11 (by kernel_rfl) (by simp) rfl [.int .i64 ((pk : Nat) : Int), .slice A1 m.length C1] rfl ?_
  intro w5 t1
  have zt1 := t1.z
  have BL_ := BL.ev t1.e (fun i h => show w.heap.size ≤ i by have h : i = w3.heap.size := h; omega)
  have D_ := D.ev t1.e (fun i hi => show ¬ (i = w3.heap.size) by have := hvl i hi; omega)
  have D1_ := D1.ev t1.e (fun i hi => show ¬ (i = w3.heap.size) by have := hvl1 i hi; omega)
  have D2_ := D2.ev t1.e (fun i hi => show ¬ (i = w3.heap.size) by have := hvl2 i hi; omega)
  have D3_ := D3.ev t1.e (fun i hi => show ¬ (i = w3.heap.size) by have := hvl3 i hi; omega)
  have b5_ := b5.ev t1.e (show ¬ (w.heap.size = w3.heap.size) by omega)
  have b6_ := b6.ev t1.e (show ¬ (w1.heap.size = w3.heap.size) by omega)
  replace BL := BL_; clear BL_
  replace D := D_; clear D_
  replace D1 := D1_; clear D1_
  replace D2 := D2_; clear D2_
  replace D3 := D3_; clear D3_
  replace b5 := b5_; clear b5_
  replace b6 := b6_; clear b6_
  replace b11 : Cel w5 w3.heap.size 66 [.int .i64 ((pk : Nat) : Int), .slice A1 m.length C1] := t1.c
  clear t1
  refine wpList_nil ?_
  refine hK3 _ _ ?_
  refine wp_seq_k fun K4 hK4 => ?_
  refine cPlain ?_
  refine sv 31 (.int .u8 ((cut : Nat) : Int)) .of ?_
  simp only [List.set_cons_zero, List.set_cons_succ]
  refine sv 32 (.int .i64 ((cut : Nat) : Int)) (Val.conv64 5 3 (.tmp 31) rfl Try.underlying5 Try.underlying3 ((cut : Nat) : Int) (by kernel_rfl) (by omega)) ?_
  simp only [List.set_cons_zero, List.set_cons_succ]
  refine sv 33 (.slice A1 m.length C1) .of ?_
  simp only [List.set_cons_zero, List.set_cons_succ]
  refine sv 34 (.int .i64 (m.length : Int)) .of ?_
  simp only [List.set_cons_zero, List.set_cons_succ]
  refine sv 35 (.int .i64 ((m.length + 1 : Nat) : Int)) (Val.as (Val.add 3 _ (.tmp 34) _ rfl (m.length : Int) 1 (by kernel_rfl) (by kernel_rfl) (by omega)) (congrArg (Value.int .i64) (by omega))) ?_
  simp only [List.set_cons_zero, List.set_cons_succ]
  refine sv 36 (.int .i64 ((kc : Nat) : Int)) (Val.asN (Val.remN 3 _ (.tmp 32) (.tmp 35) rfl .i64 cut (m.length + 1) (by kernel_rfl) (by kernel_rfl) (by omega)) hkc) ?_
  simp only [List.set_cons_zero, List.set_cons_succ]
  refine sv 12 (.int .i64 ((kc : Nat) : Int)) .of ?_
  simp only [List.set_cons_zero, List.set_cons_succ]
  refine wpList_nil ?_
  refine hK4 _ _ ?_
  refine wp_seq_k fun K5 hK5 => ?_
  refine cPlain ?_
  refine sv 38 (.agg (cellsOf .u8 (nn (dx)))) (Val.blk 37 _ rfl 0 32 (by kernel_rfl) b6 _ Try.underlying37 rfl (by kernel_rfl) (by (try simp only [nn_len, List.length_cons, List.length_nil, List.length_set, List.length_replicate]); try omega) _ (seg_all' _ (by (try simp only [nn_len, List.length_cons, List.length_nil, List.length_set, List.length_replicate]); try omega))) ?_
  simp only [List.set_cons_zero, List.set_cons_succ]
  refine sv 39 (.agg #[.int .i64 ((pk : Nat) : Int), .slice A1 m.length C1]) (Val.cel 66 _ rfl 0 2 (by kernel_rfl) b11 _ Try.underlying66 rfl (by kernel_rfl) (by simp) [.int .i64 ((pk : Nat) : Int), .slice A1 m.length C1] rfl) ?_
  simp only [List.set_cons_zero, List.set_cons_succ]
  refine xCall 40 43 #[.pointer (some ⟨w.heap.size, 0, none⟩), .agg (cellsOf .u8 (nn (dx))), .agg #[.int .i64 ((pk : Nat) : Int), .slice A1 m.length C1]] (by kernel_rfl) ?_
  refine (mclimb_any w.heap.size tab ht w5 b5 (dx) hx (pk) A1 C1 m D1 hm32 hm8 hpl).mono ?_
  rintro en w6 ⟨rfl, hb1⟩
  have e2 := belE0 hb1
  have ze2 := e2.size
  replace BL := BL.e0 e2
  replace D := D.e0 e2
  replace D1 := D1.e0 e2
  replace D2 := D2.e0 e2
  replace D3 := D3.e0 e2
  replace b5 := b5.e0 e2
  replace b6 := b6.e0 e2
  replace b11 := b11.e0 e2
  clear e2
  refine ⟨.tuple #[.agg (cellsOf .u8 (nn (mclimb tab dx pk m))), .int .i64 0], rfl, ?_⟩
  simp only [List.set_cons_zero, List.set_cons_succ]
  refine sv 37 (.tuple #[.agg (cellsOf .u8 (nn (mclimb tab dx pk m))), .int .i64 0]) .of ?_
  simp only [List.set_cons_zero, List.set_cons_succ]
  refine sv 41 (.agg (cellsOf .u8 (nn (mclimb tab dx pk m)))) .of ?_
  simp only [List.set_cons_zero, List.set_cons_succ]
  refine sv 42 (.int .i64 0) .of ?_
  simp only [List.set_cons_zero, List.set_cons_succ]
  refine xAlloc 13 37 ((nn (List.replicate 32 0)).map (Value.int .u8)) rfl (by kernel_rfl) ?_
  intro w7 n4
  have zn4 := n4.z
  have b13 := n4.c
  replace b13 : Blk .u8 w7 w6.heap.size 37 (nn (List.replicate 32 0)) := b13
  replace BL := BL.e0 n4.e
  replace D := D.e0 n4.e
  replace D1 := D1.e0 n4.e
  replace D2 := D2.e0 n4.e
  replace D3 := D3.e0 n4.e
  replace b5 := b5.e0 n4.e
  replace b6 := b6.e0 n4.e
  replace b11 := b11.e0 n4.e
  simp only [List.set_cons_zero, List.set_cons_succ]
  refine xStoreA 37 (.tmp 13) (.tmp 41) rfl .u8 w6.heap.size 37 (nn (List.replicate 32 0)) 0 (nn (mclimb tab dx pk m)) (by kernel_rfl) (by kernel_rfl) b13 (by rw [show (nn (mclimb tab dx pk m)).length = 32 by ((try simp only [nn_len, List.length_cons, List.length_nil, List.length_set, List.length_replicate]); try omega)]; kernel_rfl) (by (try simp only [nn_len, List.length_cons, List.length_nil, List.length_set, List.length_replicate]); try omega) (nn (mclimb tab dx pk m)) (over_whole _ _ (by (try simp only [nn_len, List.length_cons, List.length_nil, List.length_set, List.length_replicate]); try omega)) ?_
  intro w8 t2
  have zt2 := t2.z
  have BL_ := BL.ev t2.e (fun i h => show w.heap.size ≤ i by have h : i = w6.heap.size := h; omega)
  have D_ := D.ev t2.e (fun i hi => show ¬ (i = w6.heap.size) by have := hvl i hi; omega)
  have D1_ := D1.ev t2.e (fun i hi => show ¬ (i = w6.heap.size) by have := hvl1 i hi; omega)
  have D2_ := D2.ev t2.e (fun i hi => show ¬ (i = w6.heap.size) by have := hvl2 i hi; omega)
  have D3_ := D3.ev t2.e (fun i hi => show ¬ (i = w6.heap.size) by have := hvl3 i hi; omega)
  have b5_ := b5.ev t2.e (show ¬ (w.heap.size = w6.heap.size) by omega)
  have b6_ := b6.ev t2.e (show ¬ (w1.heap.size = w6.heap.size) by omega)
  have b11_ := b11.ev t2.e (show ¬ (w3.heap.size = w6.heap.size) by omega)
  replace BL := BL_; clear BL_
  replace D := D_; clear D_
  replace D1 := D1_; clear D1_
  replace D2 := D2_; clear D2_
  replace D3 := D3_; clear D3_
  replace b5 := b5_; clear b5_
  replace b6 := b6_; clear b6_
  replace b11 := b11_; clear b11_
  replace b13 : Blk .u8 w8 w6.heap.size 37 (nn (mclimb tab dx pk m)) := t2.c
  clear t2
  refine sv 14 (.int .i64 0) .of ?_
  simp only [List.set_cons_zero, List.set_cons_succ]
  refine wpList_nil ?_
  refine hK5 _ _ ?_
  refine wp_seq_k fun K6 hK6 => ?_
  have e3 := drew_e0 w8
  refine zg (fun w_ => Bl w.heap.size w w_ ∧ SE .u8 32 w_ (.slice A0 l.length C0) (nnd l) ∧ SE .u8 32 w_ (.slice A1 m.length C1) (nnd m) ∧ SE .u8 32 w_ (.slice A2 p.length C2) (nnd p) ∧ SE .u8 32 w_ (.slice A3 q.length C3) (nnd q) ∧ Blk .u32 w_ w.heap.size 26 (nn tab) ∧ Blk .u8 w_ w1.heap.size 37 (nn (dx)) ∧ Cel w_ w3.heap.size 66 [.int .i64 ((pk : Nat) : Int), .slice A1 m.length C1] ∧ Blk .u8 w_ w6.heap.size 37 (nn (mclimb tab dx pk m)) ∧ w8.heap.size ≤ w_.heap.size) (fun w_ => Bl w.heap.size w w_ ∧ SE .u8 32 w_ (.slice A0 l.length C0) (nnd l) ∧ SE .u8 32 w_ (.slice A1 m.length C1) (nnd m) ∧ SE .u8 32 w_ (.slice A2 p.length C2) (nnd p) ∧ SE .u8 32 w_ (.slice A3 q.length C3) (nnd q) ∧ Blk .u32 w_ w.heap.size 26 (nn tab) ∧ Blk .u8 w_ w1.heap.size 37 (nn (dx)) ∧ Cel w_ w3.heap.size 66 [.int .i64 ((pk : Nat) : Int), .slice A1 m.length C1] ∧ Blk .u8 w_ w6.heap.size 37 (nn (mclimb tab dx pk m)) ∧ w8.heap.size ≤ w_.heap.size) 100000 17 ⟨BL.e0 e3, D.e0 e3, D1.e0 e3, D2.e0 e3, D3.e0 e3, b5.e0 e3, b6.e0 e3, b11.e0 e3, b13.e0 e3, Nat.le_refl _⟩ ?_
  clear BL D D1 D2 D3 b5 b6 b11 b13
  clear e3
  intro w9
  rintro ⟨BL, D, D1, D2, D3, b5, b6, b11, b13, z1⟩
  refine zv 0 44 (.agg (cellsOf .u8 (nn (dx)))) (fun _ ⟨BL, D, D1, D2, D3, b5, b6, b11, b13, z1⟩ => Val.blk 37 _ rfl 0 32 (by kernel_rfl) b6 _ Try.underlying37 rfl (by kernel_rfl) (by (try simp only [nn_len, List.length_cons, List.length_nil, List.length_set, List.length_replicate]); try omega) _ (seg_all' _ (by (try simp only [nn_len, List.length_cons, List.length_nil, List.length_set, List.length_replicate]); try omega))) ⟨BL, D, D1, D2, D3, b5, b6, b11, b13, by omega⟩ ?_
  simp only [List.set_cons_zero, List.set_cons_succ]
  refine zv 1 45 (.pointer (some ⟨w3.heap.size, 0, none⟩)) (fun _ _ => .of) ⟨BL, D, D1, D2, D3, b5, b6, b11, b13, by omega⟩ ?_
  simp only [List.set_cons_zero, List.set_cons_succ]
  refine zv 2 46 (.int .i64 ((pk : Nat) : Int)) (fun _ ⟨BL, D, D1, D2, D3, b5, b6, b11, b13, z1⟩ => Val.cel1 3 _ rfl w3.heap.size 0 _ (by kernel_rfl) (fun _ => (by kernel_rfl)) b11 rfl) ⟨BL, D, D1, D2, D3, b5, b6, b11, b13, by omega⟩ ?_
  simp only [List.set_cons_zero, List.set_cons_succ]
  refine zv 3 47 (.int .i64 ((kc : Nat) : Int)) (fun _ _ => .of) ⟨BL, D, D1, D2, D3, b5, b6, b11, b13, by omega⟩ ?_
  simp only [List.set_cons_zero, List.set_cons_succ]
  refine zv 4 48 (.int .i64 ((2 ^ kc : Nat) : Int)) (fun _ ⟨BL, D, D1, D2, D3, b5, b6, b11, b13, z1⟩ => Val.shl1 3 _ _ (.tmp 47) rfl .i64 kc (by omega) (by kernel_rfl) (by kernel_rfl)) ⟨BL, D, D1, D2, D3, b5, b6, b11, b13, by omega⟩ ?_
  simp only [List.set_cons_zero, List.set_cons_succ]
  refine zv 5 49 (.int .i64 ((pk % (2 ^ kc) : Nat) : Int)) (fun _ ⟨BL, D, D1, D2, D3, b5, b6, b11, b13, z1⟩ => Val.remN 3 _ (.tmp 46) (.tmp 48) rfl .i64 pk (2 ^ kc) (by kernel_rfl) (by kernel_rfl) (by omega)) ⟨BL, D, D1, D2, D3, b5, b6, b11, b13, by omega⟩ ?_
  simp only [List.set_cons_zero, List.set_cons_succ]
  refine zv 6 50 (.slice A1 m.length C1) (fun _ _ => .of) ⟨BL, D, D1, D2, D3, b5, b6, b11, b13, by omega⟩ ?_
  simp only [List.set_cons_zero, List.set_cons_succ]
  refine zv 7 51 (.int .i64 ((kc : Nat) : Int)) (fun _ _ => .of) ⟨BL, D, D1, D2, D3, b5, b6, b11, b13, by omega⟩ ?_
  simp only [List.set_cons_zero, List.set_cons_succ]
  refine zv 8 52 (.slice A2 p.length C2) (fun _ ⟨BL, D, D1, D2, D3, b5, b6, b11, b13, z1⟩ => Val.as (Val.slcE 63 (.tmp 50) none (some (.tmp 51)) rfl (.slice A1 m.length C1) (by kernel_rfl) D1 0 kc (.inr ⟨rfl, rfl⟩) (.inl (by kernel_rfl)) (Nat.zero_le _) (by rw [nnd_len]; omega) Try.underlying63 (by kernel_rfl)) hk2) ⟨BL, D, D1, D2, D3, b5, b6, b11, b13, by omega⟩ ?_
  simp only [List.set_cons_zero, List.set_cons_succ]
  refine zv 9 53 (.agg #[.int .i64 ((pk % (2 ^ kc) : Nat) : Int), .slice A2 p.length C2]) (fun _ _ => .of) ⟨BL, D, D1, D2, D3, b5, b6, b11, b13, by omega⟩ ?_
  simp only [List.set_cons_zero, List.set_cons_succ]
  refine zo2 10 14 rfl rfl ?_ ?_
  · skip
    refine xCall 54 43 #[.pointer (some ⟨w.heap.size, 0, none⟩), .agg (cellsOf .u8 (nn (dx))), .agg #[.int .i64 ((pk % (2 ^ kc) : Nat) : Int), .slice A2 p.length C2]] (by kernel_rfl) ?_
    refine (mclimb_any w.heap.size tab ht w9 b5 (dx) hx (pk % 2 ^ kc) A2 C2 p D2 hp32 (by omega) hlt2).mono ?_
    rintro en w10 ⟨rfl, hb1⟩
    have e4 := belE0 hb1
    have ze4 := e4.size
    replace BL := BL.e0 e4
    replace D := D.e0 e4
    replace D1 := D1.e0 e4
    replace D2 := D2.e0 e4
    replace D3 := D3.e0 e4
    replace b5 := b5.e0 e4
    replace b6 := b6.e0 e4
    replace b11 := b11.e0 e4
    replace b13 := b13.e0 e4
    clear e4
    refine ⟨.tuple #[.agg (cellsOf .u8 (nn (mclimb tab dx (pk % 2 ^ kc) p))), .int .i64 0], rfl, ?_⟩
    refine ze 10 ⟨BL, D, D1, D2, D3, b5, b6, b11, b13, by omega⟩ ?_
    simp only [List.set_cons_zero, List.set_cons_succ]
    refine zv 11 43 (.tuple #[.agg (cellsOf .u8 (nn (mclimb tab dx (pk % 2 ^ kc) p))), .int .i64 0]) (fun _ _ => .of) ⟨BL, D, D1, D2, D3, b5, b6, b11, b13, by omega⟩ ?_
    simp only [List.set_cons_zero, List.set_cons_succ]
    refine zv 12 55 (.agg (cellsOf .u8 (nn (mclimb tab dx (pk % 2 ^ kc) p)))) (fun _ _ => .of) ⟨BL, D, D1, D2, D3, b5, b6, b11, b13, by omega⟩ ?_
    simp only [List.set_cons_zero, List.set_cons_succ]
    refine zv 13 56 (.int .i64 0) (fun _ _ => .of) ⟨BL, D, D1, D2, D3, b5, b6, b11, b13, by omega⟩ ?_
    simp only [List.set_cons_zero, List.set_cons_succ]
    refine zo1 14 rfl ?_
    refine xAlloc 15 37 ((nn (List.replicate 32 0)).map (Value.int .u8)) rfl (by kernel_rfl) ?_
    intro w11 n5
    have zn5 := n5.z
    have b15 := n5.c
    replace b15 : Blk .u8 w11 w10.heap.size 37 (nn (List.replicate 32 0)) := b15
    replace BL := BL.e0 n5.e
    replace D := D.e0 n5.e
    replace D1 := D1.e0 n5.e
    replace D2 := D2.e0 n5.e
    replace D3 := D3.e0 n5.e
    replace b5 := b5.e0 n5.e
    replace b6 := b6.e0 n5.e
    replace b11 := b11.e0 n5.e
    replace b13 := b13.e0 n5.e
    refine ze 14 ⟨BL, D, D1, D2, D3, b5, b6, b11, b13, by omega⟩ ?_
    simp only [List.set_cons_zero, List.set_cons_succ]
    refine zo1 15 rfl ?_
    refine xStoreA 37 (.tmp 15) (.tmp 55) rfl .u8 w10.heap.size 37 (nn (List.replicate 32 0)) 0 (nn (mclimb tab dx (pk % 2 ^ kc) p)) (by kernel_rfl) (by kernel_rfl) b15 (by rw [show (nn (mclimb tab dx (pk % 2 ^ kc) p)).length = 32 by ((try simp only [nn_len, List.length_cons, List.length_nil, List.length_set, List.length_replicate]); try omega)]; kernel_rfl) (by (try simp only [nn_len, List.length_cons, List.length_nil, List.length_set, List.length_replicate]); try omega) (nn (mclimb tab dx (pk % 2 ^ kc) p)) (over_whole _ _ (by (try simp only [nn_len, List.length_cons, List.length_nil, List.length_set, List.length_replicate]); try omega)) ?_
    intro w12 t3
    have zt3 := t3.z
    have BL_ := BL.ev t3.e (fun i h => show w.heap.size ≤ i by have h : i = w10.heap.size := h; omega)
    have D_ := D.ev t3.e (fun i hi => show ¬ (i = w10.heap.size) by have := hvl i hi; omega)
    have D1_ := D1.ev t3.e (fun i hi => show ¬ (i = w10.heap.size) by have := hvl1 i hi; omega)
    have D2_ := D2.ev t3.e (fun i hi => show ¬ (i = w10.heap.size) by have := hvl2 i hi; omega)
    have D3_ := D3.ev t3.e (fun i hi => show ¬ (i = w10.heap.size) by have := hvl3 i hi; omega)
    have b5_ := b5.ev t3.e (show ¬ (w.heap.size = w10.heap.size) by omega)
    have b6_ := b6.ev t3.e (show ¬ (w1.heap.size = w10.heap.size) by omega)
    have b11_ := b11.ev t3.e (show ¬ (w3.heap.size = w10.heap.size) by omega)
    have b13_ := b13.ev t3.e (show ¬ (w6.heap.size = w10.heap.size) by omega)
    replace BL := BL_; clear BL_
    replace D := D_; clear D_
    replace D1 := D1_; clear D1_
    replace D2 := D2_; clear D2_
    replace D3 := D3_; clear D3_
    replace b5 := b5_; clear b5_
    replace b6 := b6_; clear b6_
    replace b11 := b11_; clear b11_
    replace b13 := b13_; clear b13_
    replace b15 : Blk .u8 w12 w10.heap.size 37 (nn (mclimb tab dx (pk % 2 ^ kc) p)) := t3.c
    clear t3
    refine ze 15 ⟨BL, D, D1, D2, D3, b5, b6, b11, b13, by omega⟩ ?_
    refine zv 16 16 (.int .i64 0) (fun _ _ => .of) ⟨BL, D, D1, D2, D3, b5, b6, b11, b13, by omega⟩ ?_
    simp only [List.set_cons_zero, List.set_cons_succ]
    refine zd (by kernel_rfl) ?_ _
    refine hK6 _ _ ?_
    refine wp_seq_k fun K7 hK7 => ?_
    have e5 := drew_e0 w12
    refine zg (fun w_ => Bl w.heap.size w w_ ∧ SE .u8 32 w_ (.slice A0 l.length C0) (nnd l) ∧ SE .u8 32 w_ (.slice A1 m.length C1) (nnd m) ∧ SE .u8 32 w_ (.slice A2 p.length C2) (nnd p) ∧ SE .u8 32 w_ (.slice A3 q.length C3) (nnd q) ∧ Blk .u32 w_ w.heap.size 26 (nn tab) ∧ Blk .u8 w_ w1.heap.size 37 (nn (dx)) ∧ Cel w_ w3.heap.size 66 [.int .i64 ((pk : Nat) : Int), .slice A1 m.length C1] ∧ Blk .u8 w_ w6.heap.size 37 (nn (mclimb tab dx pk m)) ∧ Blk .u8 w_ w10.heap.size 37 (nn (mclimb tab dx (pk % 2 ^ kc) p)) ∧ w12.heap.size ≤ w_.heap.size) (fun w_ => Bl w.heap.size w w_ ∧ SE .u8 32 w_ (.slice A0 l.length C0) (nnd l) ∧ SE .u8 32 w_ (.slice A1 m.length C1) (nnd m) ∧ SE .u8 32 w_ (.slice A2 p.length C2) (nnd p) ∧ SE .u8 32 w_ (.slice A3 q.length C3) (nnd q) ∧ Blk .u32 w_ w.heap.size 26 (nn tab) ∧ Blk .u8 w_ w1.heap.size 37 (nn (dx)) ∧ Cel w_ w3.heap.size 66 [.int .i64 ((pk : Nat) : Int), .slice A1 m.length C1] ∧ Blk .u8 w_ w6.heap.size 37 (nn (mclimb tab dx pk m)) ∧ Blk .u8 w_ w10.heap.size 37 (nn (mclimb tab dx (pk % 2 ^ kc) p)) ∧ w12.heap.size ≤ w_.heap.size) 100000 16 ⟨BL.e0 e5, D.e0 e5, D1.e0 e5, D2.e0 e5, D3.e0 e5, b5.e0 e5, b6.e0 e5, b11.e0 e5, b13.e0 e5, b15.e0 e5, Nat.le_refl _⟩ ?_
    clear BL D D1 D2 D3 b5 b6 b11 b13 b15
    clear e5
    intro w13
    rintro ⟨BL, D, D1, D2, D3, b5, b6, b11, b13, b15, z2⟩
    refine zv 0 58 (.agg (cellsOf .u8 (nn (mclimb tab dx (pk % 2 ^ kc) p)))) (fun _ ⟨BL, D, D1, D2, D3, b5, b6, b11, b13, b15, z2⟩ => Val.blk 37 _ rfl 0 32 (by kernel_rfl) b15 _ Try.underlying37 rfl (by kernel_rfl) (by (try simp only [nn_len, List.length_cons, List.length_nil, List.length_set, List.length_replicate]); try omega) _ (seg_all' _ (by (try simp only [nn_len, List.length_cons, List.length_nil, List.length_set, List.length_replicate]); try omega))) ⟨BL, D, D1, D2, D3, b5, b6, b11, b13, b15, by omega⟩ ?_
    simp only [List.set_cons_zero, List.set_cons_succ]
    refine zv 1 59 (.pointer (some ⟨w3.heap.size, 0, none⟩)) (fun _ _ => .of) ⟨BL, D, D1, D2, D3, b5, b6, b11, b13, b15, by omega⟩ ?_
    simp only [List.set_cons_zero, List.set_cons_succ]
    refine zv 2 60 (.int .i64 ((pk : Nat) : Int)) (fun _ ⟨BL, D, D1, D2, D3, b5, b6, b11, b13, b15, z2⟩ => Val.cel1 3 _ rfl w3.heap.size 0 _ (by kernel_rfl) (fun _ => (by kernel_rfl)) b11 rfl) ⟨BL, D, D1, D2, D3, b5, b6, b11, b13, b15, by omega⟩ ?_
    simp only [List.set_cons_zero, List.set_cons_succ]
    refine zv 3 61 (.int .i64 ((kc : Nat) : Int)) (fun _ _ => .of) ⟨BL, D, D1, D2, D3, b5, b6, b11, b13, b15, by omega⟩ ?_
    simp only [List.set_cons_zero, List.set_cons_succ]
    refine zv 4 62 (.int .i64 ((pk / 2 ^ kc : Nat) : Int)) (fun _ ⟨BL, D, D1, D2, D3, b5, b6, b11, b13, b15, z2⟩ => Val.asN (Val.shrN 3 _ (.tmp 60) (.tmp 61) rfl .i64 .i64 pk kc (by kernel_rfl) (by kernel_rfl) (by simp only [IntKind.bits]; omega)) (Nat.shiftRight_eq_div_pow _ _)) ⟨BL, D, D1, D2, D3, b5, b6, b11, b13, b15, by omega⟩ ?_
    simp only [List.set_cons_zero, List.set_cons_succ]
    refine zv 5 63 (.slice A1 m.length C1) (fun _ _ => .of) ⟨BL, D, D1, D2, D3, b5, b6, b11, b13, b15, by omega⟩ ?_
    simp only [List.set_cons_zero, List.set_cons_succ]
    refine zv 6 64 (.int .i64 ((kc : Nat) : Int)) (fun _ _ => .of) ⟨BL, D, D1, D2, D3, b5, b6, b11, b13, b15, by omega⟩ ?_
    simp only [List.set_cons_zero, List.set_cons_succ]
    refine zv 7 65 (.slice A3 q.length C3) (fun _ ⟨BL, D, D1, D2, D3, b5, b6, b11, b13, b15, z2⟩ => Val.as (Val.slcE 63 (.tmp 63) (some (.tmp 64)) none rfl (.slice A1 m.length C1) (by kernel_rfl) D1 kc m.length (.inl (by kernel_rfl)) (.inr ⟨rfl, (nnd_len _).symm⟩) hkl (by rw [nnd_len]; omega) Try.underlying63 (by kernel_rfl)) hk3) ⟨BL, D, D1, D2, D3, b5, b6, b11, b13, b15, by omega⟩ ?_
    simp only [List.set_cons_zero, List.set_cons_succ]
    refine zv 8 66 (.agg #[.int .i64 ((pk / 2 ^ kc : Nat) : Int), .slice A3 q.length C3]) (fun _ _ => .of) ⟨BL, D, D1, D2, D3, b5, b6, b11, b13, b15, by omega⟩ ?_
    simp only [List.set_cons_zero, List.set_cons_succ]
    refine zo2 9 13 rfl rfl ?_ ?_
    · skip
      refine xCall 67 43 #[.pointer (some ⟨w.heap.size, 0, none⟩), .agg (cellsOf .u8 (nn (mclimb tab dx (pk % 2 ^ kc) p))), .agg #[.int .i64 ((pk / 2 ^ kc : Nat) : Int), .slice A3 q.length C3]] (by kernel_rfl) ?_
      refine (mclimb_any w.heap.size tab ht w13 b5 (mclimb tab dx (pk % 2 ^ kc) p) hzl (pk / 2 ^ kc) A3 C3 q D3 hq32 (by omega) hlt3).mono ?_
      rintro en w14 ⟨rfl, hb1⟩
      have e6 := belE0 hb1
      have ze6 := e6.size
      replace BL := BL.e0 e6
      replace D := D.e0 e6
      replace D1 := D1.e0 e6
      replace D2 := D2.e0 e6
      replace D3 := D3.e0 e6
      replace b5 := b5.e0 e6
      replace b6 := b6.e0 e6
      replace b11 := b11.e0 e6
      replace b13 := b13.e0 e6
      replace b15 := b15.e0 e6
      clear e6
      refine ⟨.tuple #[.agg (cellsOf .u8 (nn (mclimb tab (mclimb tab dx (pk % 2 ^ kc) p) (pk / 2 ^ kc) q))), .int .i64 0], rfl, ?_⟩
      refine ze 9 ⟨BL, D, D1, D2, D3, b5, b6, b11, b13, b15, by omega⟩ ?_
      simp only [List.set_cons_zero, List.set_cons_succ]
      refine zv 10 57 (.tuple #[.agg (cellsOf .u8 (nn (mclimb tab (mclimb tab dx (pk % 2 ^ kc) p) (pk / 2 ^ kc) q))), .int .i64 0]) (fun _ _ => .of) ⟨BL, D, D1, D2, D3, b5, b6, b11, b13, b15, by omega⟩ ?_
      simp only [List.set_cons_zero, List.set_cons_succ]
      refine zv 11 68 (.agg (cellsOf .u8 (nn (mclimb tab (mclimb tab dx (pk % 2 ^ kc) p) (pk / 2 ^ kc) q)))) (fun _ _ => .of) ⟨BL, D, D1, D2, D3, b5, b6, b11, b13, b15, by omega⟩ ?_
      simp only [List.set_cons_zero, List.set_cons_succ]
      refine zv 12 69 (.int .i64 0) (fun _ _ => .of) ⟨BL, D, D1, D2, D3, b5, b6, b11, b13, b15, by omega⟩ ?_
      simp only [List.set_cons_zero, List.set_cons_succ]
      refine zo1 13 rfl ?_
      refine xAlloc 17 37 ((nn (List.replicate 32 0)).map (Value.int .u8)) rfl (by kernel_rfl) ?_
      intro w15 n6
      have zn6 := n6.z
      have b17 := n6.c
      replace b17 : Blk .u8 w15 w14.heap.size 37 (nn (List.replicate 32 0)) := b17
      replace BL := BL.e0 n6.e
      replace D := D.e0 n6.e
      replace D1 := D1.e0 n6.e
      replace D2 := D2.e0 n6.e
      replace D3 := D3.e0 n6.e
      replace b5 := b5.e0 n6.e
      replace b6 := b6.e0 n6.e
      replace b11 := b11.e0 n6.e
      replace b13 := b13.e0 n6.e
      replace b15 := b15.e0 n6.e
      refine ze 13 ⟨BL, D, D1, D2, D3, b5, b6, b11, b13, b15, by omega⟩ ?_
      simp only [List.set_cons_zero, List.set_cons_succ]
      refine zo1 14 rfl ?_
      refine xStoreA 37 (.tmp 17) (.tmp 68) rfl .u8 w14.heap.size 37 (nn (List.replicate 32 0)) 0 (nn (mclimb tab (mclimb tab dx (pk % 2 ^ kc) p) (pk / 2 ^ kc) q)) (by kernel_rfl) (by kernel_rfl) b17 (by rw [show (nn (mclimb tab (mclimb tab dx (pk % 2 ^ kc) p) (pk / 2 ^ kc) q)).length = 32 by ((try simp only [nn_len, List.length_cons, List.length_nil, List.length_set, List.length_replicate]); try omega)]; kernel_rfl) (by (try simp only [nn_len, List.length_cons, List.length_nil, List.length_set, List.length_replicate]); try omega) (nn (mclimb tab (mclimb tab dx (pk % 2 ^ kc) p) (pk / 2 ^ kc) q)) (over_whole _ _ (by (try simp only [nn_len, List.length_cons, List.length_nil, List.length_set, List.length_replicate]); try omega)) ?_
      intro w16 t4
      have zt4 := t4.z
      have BL_ := BL.ev t4.e (fun i h => show w.heap.size ≤ i by have h : i = w14.heap.size := h; omega)
      have D_ := D.ev t4.e (fun i hi => show ¬ (i = w14.heap.size) by have := hvl i hi; omega)
      have D1_ := D1.ev t4.e (fun i hi => show ¬ (i = w14.heap.size) by have := hvl1 i hi; omega)
      have D2_ := D2.ev t4.e (fun i hi => show ¬ (i = w14.heap.size) by have := hvl2 i hi; omega)
      have D3_ := D3.ev t4.e (fun i hi => show ¬ (i = w14.heap.size) by have := hvl3 i hi; omega)
      have b5_ := b5.ev t4.e (show ¬ (w.heap.size = w14.heap.size) by omega)
      have b6_ := b6.ev t4.e (show ¬ (w1.heap.size = w14.heap.size) by omega)
      have b11_ := b11.ev t4.e (show ¬ (w3.heap.size = w14.heap.size) by omega)
      have b13_ := b13.ev t4.e (show ¬ (w6.heap.size = w14.heap.size) by omega)
      have b15_ := b15.ev t4.e (show ¬ (w10.heap.size = w14.heap.size) by omega)
      replace BL := BL_; clear BL_
      replace D := D_; clear D_
      replace D1 := D1_; clear D1_
      replace D2 := D2_; clear D2_
      replace D3 := D3_; clear D3_
      replace b5 := b5_; clear b5_
      replace b6 := b6_; clear b6_
      replace b11 := b11_; clear b11_
      replace b13 := b13_; clear b13_
      replace b15 := b15_; clear b15_
      replace b17 : Blk .u8 w16 w14.heap.size 37 (nn (mclimb tab (mclimb tab dx (pk % 2 ^ kc) p) (pk / 2 ^ kc) q)) := t4.c
      clear t4
      refine ze 14 ⟨BL, D, D1, D2, D3, b5, b6, b11, b13, b15, by omega⟩ ?_
      refine zv 15 18 (.int .i64 0) (fun _ _ => .of) ⟨BL, D, D1, D2, D3, b5, b6, b11, b13, b15, by omega⟩ ?_
      simp only [List.set_cons_zero, List.set_cons_succ]
      refine zd (by kernel_rfl) ?_ _
      refine hK7 _ _ ?_
      refine wp_seq_k fun K8 hK8 => ?_
      refine cPlain ?_
      refine sv 70 (.int .i64 0) .of ?_
      simp only [List.set_cons_zero, List.set_cons_succ]
      refine sv 71 (.int .i64 0) .of ?_
      simp only [List.set_cons_zero, List.set_cons_succ]
      refine sv 72 (.int .i64 (0 + 0)) (Val.add 67 _ (.tmp 70) (.tmp 71) rfl 0 0 (by kernel_rfl) (by kernel_rfl) (by omega)) ?_
      simp only [List.set_cons_zero, List.set_cons_succ]
      refine sv 73 (.int .i64 0) .of ?_
      simp only [List.set_cons_zero, List.set_cons_succ]
      refine sv 74 (.int .i64 ((0 + 0) + 0)) (Val.add 67 _ (.tmp 72) (.tmp 73) rfl (0 + 0) 0 (by kernel_rfl) (by kernel_rfl) (by omega)) ?_
      simp only [List.set_cons_zero, List.set_cons_succ]
      refine sv 75 (.bool true) .of ?_
      simp only [List.set_cons_zero, List.set_cons_succ]
      refine sv 76 (.bool true) .of ?_
      simp only [List.set_cons_zero, List.set_cons_succ]
      refine sv 77 (.agg (cellsOf .u8 (nn (mclimb tab dx pk m)))) (Val.blk 37 _ rfl 0 32 (by kernel_rfl) b13 _ Try.underlying37 rfl (by kernel_rfl) (by (try simp only [nn_len, List.length_cons, List.length_nil, List.length_set, List.length_replicate]); try omega) _ (seg_all' _ (by (try simp only [nn_len, List.length_cons, List.length_nil, List.length_set, List.length_replicate]); try omega))) ?_
      simp only [List.set_cons_zero, List.set_cons_succ]
      refine sv 78 (.agg (cellsOf .u8 (nn (mclimb tab (mclimb tab dx (pk % 2 ^ kc) p) (pk / 2 ^ kc) q)))) (Val.blk 37 _ rfl 0 32 (by kernel_rfl) b17 _ Try.underlying37 rfl (by kernel_rfl) (by (try simp only [nn_len, List.length_cons, List.length_nil, List.length_set, List.length_replicate]); try omega) _ (seg_all' _ (by (try simp only [nn_len, List.length_cons, List.length_nil, List.length_set, List.length_replicate]); try omega))) ?_
      simp only [List.set_cons_zero, List.set_cons_succ]
      refine sv 79 (.bool true) (Val.eqA .eql 37 _ (.tmp 77) (.tmp 78) rfl Try.underlying37 Try.underlying5 (by kernel_rfl) (by kernel_rfl) (nn (mclimb tab dx pk m)) (nn (mclimb tab (mclimb tab dx (pk % 2 ^ kc) p) (pk / 2 ^ kc) q)) (by kernel_rfl) (by kernel_rfl) (by rw [nn_len]; exact hyl) (by rw [nn_len]; exact hwl) (.inl rfl) true (by rw [← heq]; simp)) ?_
      simp only [List.set_cons_zero, List.set_cons_succ]
      refine sv 80 (.bool true) .of ?_
      simp only [List.set_cons_zero, List.set_cons_succ]
      refine sv 81 (.bool true) .of ?_
      simp only [List.set_cons_zero, List.set_cons_succ]
      refine xCall 82 41 #[] (by kernel_rfl) ?_
      refine (awake10 w16).mono ?_
      rintro en w17 ⟨rfl, hb1⟩
      have e7 := belE0 hb1
      have ze7 := e7.size
      replace BL := BL.e0 e7
      replace D := D.e0 e7
      replace D1 := D1.e0 e7
      replace D2 := D2.e0 e7
      replace D3 := D3.e0 e7
      replace b5 := b5.e0 e7
      replace b6 := b6.e0 e7
      replace b11 := b11.e0 e7
      replace b13 := b13.e0 e7
      replace b15 := b15.e0 e7
      replace b17 := b17.e0 e7
      clear e7
      refine ⟨.bool true, rfl, ?_⟩
      simp only [List.set_cons_zero, List.set_cons_succ]
      refine sv 83 (.bool true) .of ?_
      simp only [List.set_cons_zero, List.set_cons_succ]
      refine sv 10 (.bool true) .of ?_
      simp only [List.set_cons_zero, List.set_cons_succ]
      refine wpList_nil ?_
      refine hK8 _ _ ?_
      refine wp_ret ?_
      (try simp only [Exit.then, Exit.inBlock])
      refine bodyPost_ret (v := .bool true) rT rfl ?_
      exact ⟨rfl, BL.b⟩
    · skip
      refine xAlloc 17 37 ((nn (List.replicate 32 0)).map (Value.int .u8)) rfl (by kernel_rfl) ?_
      intro w18 n7
      have zn7 := n7.z
      have b17 := n7.c
      replace b17 : Blk .u8 w18 w13.heap.size 37 (nn (List.replicate 32 0)) := b17
      replace BL := BL.e0 n7.e
      replace D := D.e0 n7.e
      replace D1 := D1.e0 n7.e
      replace D2 := D2.e0 n7.e
      replace D3 := D3.e0 n7.e
      replace b5 := b5.e0 n7.e
      replace b6 := b6.e0 n7.e
      replace b11 := b11.e0 n7.e
      replace b13 := b13.e0 n7.e
      replace b15 := b15.e0 n7.e
      refine ze 13 ⟨BL, D, D1, D2, D3, b5, b6, b11, b13, b15, by omega⟩ ?_
      simp only [List.set_cons_zero, List.set_cons_succ]
      refine zo1 9 rfl ?_
      refine xCall 67 43 #[.pointer (some ⟨w.heap.size, 0, none⟩), .agg (cellsOf .u8 (nn (mclimb tab dx (pk % 2 ^ kc) p))), .agg #[.int .i64 ((pk / 2 ^ kc : Nat) : Int), .slice A3 q.length C3]] (by kernel_rfl) ?_
      refine (mclimb_any w.heap.size tab ht w18 b5 (mclimb tab dx (pk % 2 ^ kc) p) hzl (pk / 2 ^ kc) A3 C3 q D3 hq32 (by omega) hlt3).mono ?_
      rintro en w19 ⟨rfl, hb1⟩
      have e8 := belE0 hb1
      have ze8 := e8.size
      replace BL := BL.e0 e8
      replace D := D.e0 e8
      replace D1 := D1.e0 e8
      replace D2 := D2.e0 e8
      replace D3 := D3.e0 e8
      replace b5 := b5.e0 e8
      replace b6 := b6.e0 e8
      replace b11 := b11.e0 e8
      replace b13 := b13.e0 e8
      replace b15 := b15.e0 e8
      replace b17 := b17.e0 e8
      clear e8
      refine ⟨.tuple #[.agg (cellsOf .u8 (nn (mclimb tab (mclimb tab dx (pk % 2 ^ kc) p) (pk / 2 ^ kc) q))), .int .i64 0], rfl, ?_⟩
      refine ze 9 ⟨BL, D, D1, D2, D3, b5, b6, b11, b13, b15, by omega⟩ ?_
      simp only [List.set_cons_zero, List.set_cons_succ]
      refine zv 10 57 (.tuple #[.agg (cellsOf .u8 (nn (mclimb tab (mclimb tab dx (pk % 2 ^ kc) p) (pk / 2 ^ kc) q))), .int .i64 0]) (fun _ _ => .of) ⟨BL, D, D1, D2, D3, b5, b6, b11, b13, b15, by omega⟩ ?_
      simp only [List.set_cons_zero, List.set_cons_succ]
      refine zv 11 68 (.agg (cellsOf .u8 (nn (mclimb tab (mclimb tab dx (pk % 2 ^ kc) p) (pk / 2 ^ kc) q)))) (fun _ _ => .of) ⟨BL, D, D1, D2, D3, b5, b6, b11, b13, b15, by omega⟩ ?_
      simp only [List.set_cons_zero, List.set_cons_succ]
      refine zv 12 69 (.int .i64 0) (fun _ _ => .of) ⟨BL, D, D1, D2, D3, b5, b6, b11, b13, b15, by omega⟩ ?_
      simp only [List.set_cons_zero, List.set_cons_succ]
      refine zo1 14 rfl ?_
      refine xStoreA 37 (.tmp 17) (.tmp 68) rfl .u8 w13.heap.size 37 (nn (List.replicate 32 0)) 0 (nn (mclimb tab (mclimb tab dx (pk % 2 ^ kc) p) (pk / 2 ^ kc) q)) (by kernel_rfl) (by kernel_rfl) b17 (by rw [show (nn (mclimb tab (mclimb tab dx (pk % 2 ^ kc) p) (pk / 2 ^ kc) q)).length = 32 by ((try simp only [nn_len, List.length_cons, List.length_nil, List.length_set, List.length_replicate]); try omega)]; kernel_rfl) (by (try simp only [nn_len, List.length_cons, List.length_nil, List.length_set, List.length_replicate]); try omega) (nn (mclimb tab (mclimb tab dx (pk % 2 ^ kc) p) (pk / 2 ^ kc) q)) (over_whole _ _ (by (try simp only [nn_len, List.length_cons, List.length_nil, List.length_set, List.length_replicate]); try omega)) ?_
      intro w20 t5
      have zt5 := t5.z
      have BL_ := BL.ev t5.e (fun i h => show w.heap.size ≤ i by have h : i = w13.heap.size := h; omega)
      have D_ := D.ev t5.e (fun i hi => show ¬ (i = w13.heap.size) by have := hvl i hi; omega)
      have D1_ := D1.ev t5.e (fun i hi => show ¬ (i = w13.heap.size) by have := hvl1 i hi; omega)
      have D2_ := D2.ev t5.e (fun i hi => show ¬ (i = w13.heap.size) by have := hvl2 i hi; omega)
      have D3_ := D3.ev t5.e (fun i hi => show ¬ (i = w13.heap.size) by have := hvl3 i hi; omega)
      have b5_ := b5.ev t5.e (show ¬ (w.heap.size = w13.heap.size) by omega)
      have b6_ := b6.ev t5.e (show ¬ (w1.heap.size = w13.heap.size) by omega)
      have b11_ := b11.ev t5.e (show ¬ (w3.heap.size = w13.heap.size) by omega)
      have b13_ := b13.ev t5.e (show ¬ (w6.heap.size = w13.heap.size) by omega)
      have b15_ := b15.ev t5.e (show ¬ (w10.heap.size = w13.heap.size) by omega)
      replace BL := BL_; clear BL_
      replace D := D_; clear D_
      replace D1 := D1_; clear D1_
      replace D2 := D2_; clear D2_
      replace D3 := D3_; clear D3_
      replace b5 := b5_; clear b5_
      replace b6 := b6_; clear b6_
      replace b11 := b11_; clear b11_
      replace b13 := b13_; clear b13_
      replace b15 := b15_; clear b15_
      replace b17 : Blk .u8 w20 w13.heap.size 37 (nn (mclimb tab (mclimb tab dx (pk % 2 ^ kc) p) (pk / 2 ^ kc) q)) := t5.c
      clear t5
      refine ze 14 ⟨BL, D, D1, D2, D3, b5, b6, b11, b13, b15, by omega⟩ ?_
      refine zv 15 18 (.int .i64 0) (fun _ _ => .of) ⟨BL, D, D1, D2, D3, b5, b6, b11, b13, b15, by omega⟩ ?_
      simp only [List.set_cons_zero, List.set_cons_succ]
      refine zd (by kernel_rfl) ?_ _
      refine hK7 _ _ ?_
      refine wp_seq_k fun K9 hK9 => ?_
      refine cPlain ?_
      refine sv 70 (.int .i64 0) .of ?_
      simp only [List.set_cons_zero, List.set_cons_succ]
      refine sv 71 (.int .i64 0) .of ?_
      simp only [List.set_cons_zero, List.set_cons_succ]
      refine sv 72 (.int .i64 (0 + 0)) (Val.add 67 _ (.tmp 70) (.tmp 71) rfl 0 0 (by kernel_rfl) (by kernel_rfl) (by omega)) ?_
      simp only [List.set_cons_zero, List.set_cons_succ]
      refine sv 73 (.int .i64 0) .of ?_
      simp only [List.set_cons_zero, List.set_cons_succ]
      refine sv 74 (.int .i64 ((0 + 0) + 0)) (Val.add 67 _ (.tmp 72) (.tmp 73) rfl (0 + 0) 0 (by kernel_rfl) (by kernel_rfl) (by omega)) ?_
      simp only [List.set_cons_zero, List.set_cons_succ]
      refine sv 75 (.bool true) .of ?_
      simp only [List.set_cons_zero, List.set_cons_succ]
      refine sv 76 (.bool true) .of ?_
      simp only [List.set_cons_zero, List.set_cons_succ]
      refine sv 77 (.agg (cellsOf .u8 (nn (mclimb tab dx pk m)))) (Val.blk 37 _ rfl 0 32 (by kernel_rfl) b13 _ Try.underlying37 rfl (by kernel_rfl) (by (try simp only [nn_len, List.length_cons, List.length_nil, List.length_set, List.length_replicate]); try omega) _ (seg_all' _ (by (try simp only [nn_len, List.length_cons, List.length_nil, List.length_set, List.length_replicate]); try omega))) ?_
      simp only [List.set_cons_zero, List.set_cons_succ]
      refine sv 78 (.agg (cellsOf .u8 (nn (mclimb tab (mclimb tab dx (pk % 2 ^ kc) p) (pk / 2 ^ kc) q)))) (Val.blk 37 _ rfl 0 32 (by kernel_rfl) b17 _ Try.underlying37 rfl (by kernel_rfl) (by (try simp only [nn_len, List.length_cons, List.length_nil, List.length_set, List.length_replicate]); try omega) _ (seg_all' _ (by (try simp only [nn_len, List.length_cons, List.length_nil, List.length_set, List.length_replicate]); try omega))) ?_
      simp only [List.set_cons_zero, List.set_cons_succ]
      refine sv 79 (.bool true) (Val.eqA .eql 37 _ (.tmp 77) (.tmp 78) rfl Try.underlying37 Try.underlying5 (by kernel_rfl) (by kernel_rfl) (nn (mclimb tab dx pk m)) (nn (mclimb tab (mclimb tab dx (pk % 2 ^ kc) p) (pk / 2 ^ kc) q)) (by kernel_rfl) (by kernel_rfl) (by rw [nn_len]; exact hyl) (by rw [nn_len]; exact hwl) (.inl rfl) true (by rw [← heq]; simp)) ?_
      simp only [List.set_cons_zero, List.set_cons_succ]
      refine sv 80 (.bool true) .of ?_
      simp only [List.set_cons_zero, List.set_cons_succ]
      refine sv 81 (.bool true) .of ?_
      simp only [List.set_cons_zero, List.set_cons_succ]
      refine xCall 82 41 #[] (by kernel_rfl) ?_
      refine (awake10 w20).mono ?_
      rintro en w21 ⟨rfl, hb1⟩
      have e9 := belE0 hb1
      have ze9 := e9.size
      replace BL := BL.e0 e9
      replace D := D.e0 e9
      replace D1 := D1.e0 e9
      replace D2 := D2.e0 e9
      replace D3 := D3.e0 e9
      replace b5 := b5.e0 e9
      replace b6 := b6.e0 e9
      replace b11 := b11.e0 e9
      replace b13 := b13.e0 e9
      replace b15 := b15.e0 e9
      replace b17 := b17.e0 e9
      clear e9
      refine ⟨.bool true, rfl, ?_⟩
      simp only [List.set_cons_zero, List.set_cons_succ]
      refine sv 83 (.bool true) .of ?_
      simp only [List.set_cons_zero, List.set_cons_succ]
      refine sv 10 (.bool true) .of ?_
      simp only [List.set_cons_zero, List.set_cons_succ]
      refine wpList_nil ?_
      refine hK9 _ _ ?_
      refine wp_ret ?_
      (try simp only [Exit.then, Exit.inBlock])
      refine bodyPost_ret (v := .bool true) rT rfl ?_
      exact ⟨rfl, BL.b⟩
  · skip
    refine xAlloc 15 37 ((nn (List.replicate 32 0)).map (Value.int .u8)) rfl (by kernel_rfl) ?_
    intro w22 n8
    have zn8 := n8.z
    have b15 := n8.c
    replace b15 : Blk .u8 w22 w9.heap.size 37 (nn (List.replicate 32 0)) := b15
    replace BL := BL.e0 n8.e
    replace D := D.e0 n8.e
    replace D1 := D1.e0 n8.e
    replace D2 := D2.e0 n8.e
    replace D3 := D3.e0 n8.e
    replace b5 := b5.e0 n8.e
    replace b6 := b6.e0 n8.e
    replace b11 := b11.e0 n8.e
    replace b13 := b13.e0 n8.e
    refine ze 14 ⟨BL, D, D1, D2, D3, b5, b6, b11, b13, by omega⟩ ?_
    simp only [List.set_cons_zero, List.set_cons_succ]
    refine zo1 10 rfl ?_
    refine xCall 54 43 #[.pointer (some ⟨w.heap.size, 0, none⟩), .agg (cellsOf .u8 (nn (dx))), .agg #[.int .i64 ((pk % (2 ^ kc) : Nat) : Int), .slice A2 p.length C2]] (by kernel_rfl) ?_
    refine (mclimb_any w.heap.size tab ht w22 b5 (dx) hx (pk % 2 ^ kc) A2 C2 p D2 hp32 (by omega) hlt2).mono ?_
    rintro en w23 ⟨rfl, hb1⟩
    have e10 := belE0 hb1
    have ze10 := e10.size
    replace BL := BL.e0 e10
    replace D := D.e0 e10
    replace D1 := D1.e0 e10
    replace D2 := D2.e0 e10
    replace D3 := D3.e0 e10
    replace b5 := b5.e0 e10
    replace b6 := b6.e0 e10
    replace b11 := b11.e0 e10
    replace b13 := b13.e0 e10
    replace b15 := b15.e0 e10
    clear e10
    refine ⟨.tuple #[.agg (cellsOf .u8 (nn (mclimb tab dx (pk % 2 ^ kc) p))), .int .i64 0], rfl, ?_⟩
    refine ze 10 ⟨BL, D, D1, D2, D3, b5, b6, b11, b13, by omega⟩ ?_
    simp only [List.set_cons_zero, List.set_cons_succ]
    refine zv 11 43 (.tuple #[.agg (cellsOf .u8 (nn (mclimb tab dx (pk % 2 ^ kc) p))), .int .i64 0]) (fun _ _ => .of) ⟨BL, D, D1, D2, D3, b5, b6, b11, b13, by omega⟩ ?_
    simp only [List.set_cons_zero, List.set_cons_succ]
    refine zv 12 55 (.agg (cellsOf .u8 (nn (mclimb tab dx (pk % 2 ^ kc) p)))) (fun _ _ => .of) ⟨BL, D, D1, D2, D3, b5, b6, b11, b13, by omega⟩ ?_
    simp only [List.set_cons_zero, List.set_cons_succ]
    refine zv 13 56 (.int .i64 0) (fun _ _ => .of) ⟨BL, D, D1, D2, D3, b5, b6, b11, b13, by omega⟩ ?_
    simp only [List.set_cons_zero, List.set_cons_succ]
    refine zo1 15 rfl ?_
    refine xStoreA 37 (.tmp 15) (.tmp 55) rfl .u8 w9.heap.size 37 (nn (List.replicate 32 0)) 0 (nn (mclimb tab dx (pk % 2 ^ kc) p)) (by kernel_rfl) (by kernel_rfl) b15 (by rw [show (nn (mclimb tab dx (pk % 2 ^ kc) p)).length = 32 by ((try simp only [nn_len, List.length_cons, List.length_nil, List.length_set, List.length_replicate]); try omega)]; kernel_rfl) (by (try simp only [nn_len, List.length_cons, List.length_nil, List.length_set, List.length_replicate]); try omega) (nn (mclimb tab dx (pk % 2 ^ kc) p)) (over_whole _ _ (by (try simp only [nn_len, List.length_cons, List.length_nil, List.length_set, List.length_replicate]); try omega)) ?_
    intro w24 t6
    have zt6 := t6.z
    have BL_ := BL.ev t6.e (fun i h => show w.heap.size ≤ i by have h : i = w9.heap.size := h; omega)
    have D_ := D.ev t6.e (fun i hi => show ¬ (i = w9.heap.size) by have := hvl i hi; omega)
    have D1_ := D1.ev t6.e (fun i hi => show ¬ (i = w9.heap.size) by have := hvl1 i hi; omega)
    have D2_ := D2.ev t6.e (fun i hi => show ¬ (i = w9.heap.size) by have := hvl2 i hi; omega)
    have D3_ := D3.ev t6.e (fun i hi => show ¬ (i = w9.heap.size) by have := hvl3 i hi; omega)
    have b5_ := b5.ev t6.e (show ¬ (w.heap.size = w9.heap.size) by omega)
    have b6_ := b6.ev t6.e (show ¬ (w1.heap.size = w9.heap.size) by omega)
    have b11_ := b11.ev t6.e (show ¬ (w3.heap.size = w9.heap.size) by omega)
    have b13_ := b13.ev t6.e (show ¬ (w6.heap.size = w9.heap.size) by omega)
    replace BL := BL_; clear BL_
    replace D := D_; clear D_
    replace D1 := D1_; clear D1_
    replace D2 := D2_; clear D2_
    replace D3 := D3_; clear D3_
    replace b5 := b5_; clear b5_
    replace b6 := b6_; clear b6_
    replace b11 := b11_; clear b11_
    replace b13 := b13_; clear b13_
    replace b15 : Blk .u8 w24 w9.heap.size 37 (nn (mclimb tab dx (pk % 2 ^ kc) p)) := t6.c
    clear t6
    refine ze 15 ⟨BL, D, D1, D2, D3, b5, b6, b11, b13, by omega⟩ ?_
    refine zv 16 16 (.int .i64 0) (fun _ _ => .of) ⟨BL, D, D1, D2, D3, b5, b6, b11, b13, by omega⟩ ?_
    simp only [List.set_cons_zero, List.set_cons_succ]
    refine zd (by kernel_rfl) ?_ _
    refine hK6 _ _ ?_
    refine wp_seq_k fun K10 hK10 => ?_
    have e11 := drew_e0 w24
    refine zg (fun w_ => Bl w.heap.size w w_ ∧ SE .u8 32 w_ (.slice A0 l.length C0) (nnd l) ∧ SE .u8 32 w_ (.slice A1 m.length C1) (nnd m) ∧ SE .u8 32 w_ (.slice A2 p.length C2) (nnd p) ∧ SE .u8 32 w_ (.slice A3 q.length C3) (nnd q) ∧ Blk .u32 w_ w.heap.size 26 (nn tab) ∧ Blk .u8 w_ w1.heap.size 37 (nn (dx)) ∧ Cel w_ w3.heap.size 66 [.int .i64 ((pk : Nat) : Int), .slice A1 m.length C1] ∧ Blk .u8 w_ w6.heap.size 37 (nn (mclimb tab dx pk m)) ∧ Blk .u8 w_ w9.heap.size 37 (nn (mclimb tab dx (pk % 2 ^ kc) p)) ∧ w24.heap.size ≤ w_.heap.size) (fun w_ => Bl w.heap.size w w_ ∧ SE .u8 32 w_ (.slice A0 l.length C0) (nnd l) ∧ SE .u8 32 w_ (.slice A1 m.length C1) (nnd m) ∧ SE .u8 32 w_ (.slice A2 p.length C2) (nnd p) ∧ SE .u8 32 w_ (.slice A3 q.length C3) (nnd q) ∧ Blk .u32 w_ w.heap.size 26 (nn tab) ∧ Blk .u8 w_ w1.heap.size 37 (nn (dx)) ∧ Cel w_ w3.heap.size 66 [.int .i64 ((pk : Nat) : Int), .slice A1 m.length C1] ∧ Blk .u8 w_ w6.heap.size 37 (nn (mclimb tab dx pk m)) ∧ Blk .u8 w_ w9.heap.size 37 (nn (mclimb tab dx (pk % 2 ^ kc) p)) ∧ w24.heap.size ≤ w_.heap.size) 100000 16 ⟨BL.e0 e11, D.e0 e11, D1.e0 e11, D2.e0 e11, D3.e0 e11, b5.e0 e11, b6.e0 e11, b11.e0 e11, b13.e0 e11, b15.e0 e11, Nat.le_refl _⟩ ?_
    clear BL D D1 D2 D3 b5 b6 b11 b13 b15
    clear e11
    intro w25
    rintro ⟨BL, D, D1, D2, D3, b5, b6, b11, b13, b15, z3⟩
    refine zv 0 58 (.agg (cellsOf .u8 (nn (mclimb tab dx (pk % 2 ^ kc) p)))) (fun _ ⟨BL, D, D1, D2, D3, b5, b6, b11, b13, b15, z3⟩ => Val.blk 37 _ rfl 0 32 (by kernel_rfl) b15 _ Try.underlying37 rfl (by kernel_rfl) (by (try simp only [nn_len, List.length_cons, List.length_nil, List.length_set, List.length_replicate]); try omega) _ (seg_all' _ (by (try simp only [nn_len, List.length_cons, List.length_nil, List.length_set, List.length_replicate]); try omega))) ⟨BL, D, D1, D2, D3, b5, b6, b11, b13, b15, by omega⟩ ?_
    simp only [List.set_cons_zero, List.set_cons_succ]
    refine zv 1 59 (.pointer (some ⟨w3.heap.size, 0, none⟩)) (fun _ _ => .of) ⟨BL, D, D1, D2, D3, b5, b6, b11, b13, b15, by omega⟩ ?_
    simp only [List.set_cons_zero, List.set_cons_succ]
    refine zv 2 60 (.int .i64 ((pk : Nat) : Int)) (fun _ ⟨BL, D, D1, D2, D3, b5, b6, b11, b13, b15, z3⟩ => Val.cel1 3 _ rfl w3.heap.size 0 _ (by kernel_rfl) (fun _ => (by kernel_rfl)) b11 rfl) ⟨BL, D, D1, D2, D3, b5, b6, b11, b13, b15, by omega⟩ ?_
    simp only [List.set_cons_zero, List.set_cons_succ]
    refine zv 3 61 (.int .i64 ((kc : Nat) : Int)) (fun _ _ => .of) ⟨BL, D, D1, D2, D3, b5, b6, b11, b13, b15, by omega⟩ ?_
    simp only [List.set_cons_zero, List.set_cons_succ]
    refine zv 4 62 (.int .i64 ((pk / 2 ^ kc : Nat) : Int)) (fun _ ⟨BL, D, D1, D2, D3, b5, b6, b11, b13, b15, z3⟩ => Val.asN (Val.shrN 3 _ (.tmp 60) (.tmp 61) rfl .i64 .i64 pk kc (by kernel_rfl) (by kernel_rfl) (by simp only [IntKind.bits]; omega)) (Nat.shiftRight_eq_div_pow _ _)) ⟨BL, D, D1, D2, D3, b5, b6, b11, b13, b15, by omega⟩ ?_
    simp only [List.set_cons_zero, List.set_cons_succ]
    refine zv 5 63 (.slice A1 m.length C1) (fun _ _ => .of) ⟨BL, D, D1, D2, D3, b5, b6, b11, b13, b15, by omega⟩ ?_
    simp only [List.set_cons_zero, List.set_cons_succ]
    refine zv 6 64 (.int .i64 ((kc : Nat) : Int)) (fun _ _ => .of) ⟨BL, D, D1, D2, D3, b5, b6, b11, b13, b15, by omega⟩ ?_
    simp only [List.set_cons_zero, List.set_cons_succ]
    refine zv 7 65 (.slice A3 q.length C3) (fun _ ⟨BL, D, D1, D2, D3, b5, b6, b11, b13, b15, z3⟩ => Val.as (Val.slcE 63 (.tmp 63) (some (.tmp 64)) none rfl (.slice A1 m.length C1) (by kernel_rfl) D1 kc m.length (.inl (by kernel_rfl)) (.inr ⟨rfl, (nnd_len _).symm⟩) hkl (by rw [nnd_len]; omega) Try.underlying63 (by kernel_rfl)) hk3) ⟨BL, D, D1, D2, D3, b5, b6, b11, b13, b15, by omega⟩ ?_
    simp only [List.set_cons_zero, List.set_cons_succ]
    refine zv 8 66 (.agg #[.int .i64 ((pk / 2 ^ kc : Nat) : Int), .slice A3 q.length C3]) (fun _ _ => .of) ⟨BL, D, D1, D2, D3, b5, b6, b11, b13, b15, by omega⟩ ?_
    simp only [List.set_cons_zero, List.set_cons_succ]
    refine zo2 9 13 rfl rfl ?_ ?_
    · skip
      refine xCall 67 43 #[.pointer (some ⟨w.heap.size, 0, none⟩), .agg (cellsOf .u8 (nn (mclimb tab dx (pk % 2 ^ kc) p))), .agg #[.int .i64 ((pk / 2 ^ kc : Nat) : Int), .slice A3 q.length C3]] (by kernel_rfl) ?_
      refine (mclimb_any w.heap.size tab ht w25 b5 (mclimb tab dx (pk % 2 ^ kc) p) hzl (pk / 2 ^ kc) A3 C3 q D3 hq32 (by omega) hlt3).mono ?_
      rintro en w26 ⟨rfl, hb1⟩
      have e12 := belE0 hb1
      have ze12 := e12.size
      replace BL := BL.e0 e12
      replace D := D.e0 e12
      replace D1 := D1.e0 e12
      replace D2 := D2.e0 e12
      replace D3 := D3.e0 e12
      replace b5 := b5.e0 e12
      replace b6 := b6.e0 e12
      replace b11 := b11.e0 e12
      replace b13 := b13.e0 e12
      replace b15 := b15.e0 e12
      clear e12
      refine ⟨.tuple #[.agg (cellsOf .u8 (nn (mclimb tab (mclimb tab dx (pk % 2 ^ kc) p) (pk / 2 ^ kc) q))), .int .i64 0], rfl, ?_⟩
      refine ze 9 ⟨BL, D, D1, D2, D3, b5, b6, b11, b13, b15, by omega⟩ ?_
      simp only [List.set_cons_zero, List.set_cons_succ]
      refine zv 10 57 (.tuple #[.agg (cellsOf .u8 (nn (mclimb tab (mclimb tab dx (pk % 2 ^ kc) p) (pk / 2 ^ kc) q))), .int .i64 0]) (fun _ _ => .of) ⟨BL, D, D1, D2, D3, b5, b6, b11, b13, b15, by omega⟩ ?_
      simp only [List.set_cons_zero, List.set_cons_succ]
      refine zv 11 68 (.agg (cellsOf .u8 (nn (mclimb tab (mclimb tab dx (pk % 2 ^ kc) p) (pk / 2 ^ kc) q)))) (fun _ _ => .of) ⟨BL, D, D1, D2, D3, b5, b6, b11, b13, b15, by omega⟩ ?_
      simp only [List.set_cons_zero, List.set_cons_succ]
      refine zv 12 69 (.int .i64 0) (fun _ _ => .of) ⟨BL, D, D1, D2, D3, b5, b6, b11, b13, b15, by omega⟩ ?_
      simp only [List.set_cons_zero, List.set_cons_succ]
      refine zo1 13 rfl ?_
      refine xAlloc 17 37 ((nn (List.replicate 32 0)).map (Value.int .u8)) rfl (by kernel_rfl) ?_
      intro w27 n9
      have zn9 := n9.z
      have b17 := n9.c
      replace b17 : Blk .u8 w27 w26.heap.size 37 (nn (List.replicate 32 0)) := b17
      replace BL := BL.e0 n9.e
      replace D := D.e0 n9.e
      replace D1 := D1.e0 n9.e
      replace D2 := D2.e0 n9.e
      replace D3 := D3.e0 n9.e
      replace b5 := b5.e0 n9.e
      replace b6 := b6.e0 n9.e
      replace b11 := b11.e0 n9.e
      replace b13 := b13.e0 n9.e
      replace b15 := b15.e0 n9.e
      refine ze 13 ⟨BL, D, D1, D2, D3, b5, b6, b11, b13, b15, by omega⟩ ?_
      simp only [List.set_cons_zero, List.set_cons_succ]
      refine zo1 14 rfl ?_
      refine xStoreA 37 (.tmp 17) (.tmp 68) rfl .u8 w26.heap.size 37 (nn (List.replicate 32 0)) 0 (nn (mclimb tab (mclimb tab dx (pk % 2 ^ kc) p) (pk / 2 ^ kc) q)) (by kernel_rfl) (by kernel_rfl) b17 (by rw [show (nn (mclimb tab (mclimb tab dx (pk % 2 ^ kc) p) (pk / 2 ^ kc) q)).length = 32 by ((try simp only [nn_len, List.length_cons, List.length_nil, List.length_set, List.length_replicate]); try omega)]; kernel_rfl) (by (try simp only [nn_len, List.length_cons, List.length_nil, List.length_set, List.length_replicate]); try omega) (nn (mclimb tab (mclimb tab dx (pk % 2 ^ kc) p) (pk / 2 ^ kc) q)) (over_whole _ _ (by (try simp only [nn_len, List.length_cons, List.length_nil, List.length_set, List.length_replicate]); try omega)) ?_
      intro w28 t7
      have zt7 := t7.z
      have BL_ := BL.ev t7.e (fun i h => show w.heap.size ≤ i by have h : i = w26.heap.size := h; omega)
      have D_ := D.ev t7.e (fun i hi => show ¬ (i = w26.heap.size) by have := hvl i hi; omega)
      have D1_ := D1.ev t7.e (fun i hi => show ¬ (i = w26.heap.size) by have := hvl1 i hi; omega)
      have D2_ := D2.ev t7.e (fun i hi => show ¬ (i = w26.heap.size) by have := hvl2 i hi; omega)
      have D3_ := D3.ev t7.e (fun i hi => show ¬ (i = w26.heap.size) by have := hvl3 i hi; omega)
      have b5_ := b5.ev t7.e (show ¬ (w.heap.size = w26.heap.size) by omega)
      have b6_ := b6.ev t7.e (show ¬ (w1.heap.size = w26.heap.size) by omega)
      have b11_ := b11.ev t7.e (show ¬ (w3.heap.size = w26.heap.size) by omega)
      have b13_ := b13.ev t7.e (show ¬ (w6.heap.size = w26.heap.size) by omega)
      have b15_ := b15.ev t7.e (show ¬ (w9.heap.size = w26.heap.size) by omega)
      replace BL := BL_; clear BL_
      replace D := D_; clear D_
      replace D1 := D1_; clear D1_
      replace D2 := D2_; clear D2_
      replace D3 := D3_; clear D3_
      replace b5 := b5_; clear b5_
      replace b6 := b6_; clear b6_
      replace b11 := b11_; clear b11_
      replace b13 := b13_; clear b13_
      replace b15 := b15_; clear b15_
      replace b17 : Blk .u8 w28 w26.heap.size 37 (nn (mclimb tab (mclimb tab dx (pk % 2 ^ kc) p) (pk / 2 ^ kc) q)) := t7.c
      clear t7
      refine ze 14 ⟨BL, D, D1, D2, D3, b5, b6, b11, b13, b15, by omega⟩ ?_
      refine zv 15 18 (.int .i64 0) (fun _ _ => .of) ⟨BL, D, D1, D2, D3, b5, b6, b11, b13, b15, by omega⟩ ?_
      simp only [List.set_cons_zero, List.set_cons_succ]
      refine zd (by kernel_rfl) ?_ _
      refine hK10 _ _ ?_
      refine wp_seq_k fun K11 hK11 => ?_
      refine cPlain ?_
      refine sv 70 (.int .i64 0) .of ?_
      simp only [List.set_cons_zero, List.set_cons_succ]
      refine sv 71 (.int .i64 0) .of ?_
      simp only [List.set_cons_zero, List.set_cons_succ]
      refine sv 72 (.int .i64 (0 + 0)) (Val.add 67 _ (.tmp 70) (.tmp 71) rfl 0 0 (by kernel_rfl) (by kernel_rfl) (by omega)) ?_
      simp only [List.set_cons_zero, List.set_cons_succ]
      refine sv 73 (.int .i64 0) .of ?_
      simp only [List.set_cons_zero, List.set_cons_succ]
      refine sv 74 (.int .i64 ((0 + 0) + 0)) (Val.add 67 _ (.tmp 72) (.tmp 73) rfl (0 + 0) 0 (by kernel_rfl) (by kernel_rfl) (by omega)) ?_
      simp only [List.set_cons_zero, List.set_cons_succ]
      refine sv 75 (.bool true) .of ?_
      simp only [List.set_cons_zero, List.set_cons_succ]
      refine sv 76 (.bool true) .of ?_
      simp only [List.set_cons_zero, List.set_cons_succ]
      refine sv 77 (.agg (cellsOf .u8 (nn (mclimb tab dx pk m)))) (Val.blk 37 _ rfl 0 32 (by kernel_rfl) b13 _ Try.underlying37 rfl (by kernel_rfl) (by (try simp only [nn_len, List.length_cons, List.length_nil, List.length_set, List.length_replicate]); try omega) _ (seg_all' _ (by (try simp only [nn_len, List.length_cons, List.length_nil, List.length_set, List.length_replicate]); try omega))) ?_
      simp only [List.set_cons_zero, List.set_cons_succ]
      refine sv 78 (.agg (cellsOf .u8 (nn (mclimb tab (mclimb tab dx (pk % 2 ^ kc) p) (pk / 2 ^ kc) q)))) (Val.blk 37 _ rfl 0 32 (by kernel_rfl) b17 _ Try.underlying37 rfl (by kernel_rfl) (by (try simp only [nn_len, List.length_cons, List.length_nil, List.length_set, List.length_replicate]); try omega) _ (seg_all' _ (by (try simp only [nn_len, List.length_cons, List.length_nil, List.length_set, List.length_replicate]); try omega))) ?_
      simp only [List.set_cons_zero, List.set_cons_succ]
      refine sv 79 (.bool true) (Val.eqA .eql 37 _ (.tmp 77) (.tmp 78) rfl Try.underlying37 Try.underlying5 (by kernel_rfl) (by kernel_rfl) (nn (mclimb tab dx pk m)) (nn (mclimb tab (mclimb tab dx (pk % 2 ^ kc) p) (pk / 2 ^ kc) q)) (by kernel_rfl) (by kernel_rfl) (by rw [nn_len]; exact hyl) (by rw [nn_len]; exact hwl) (.inl rfl) true (by rw [← heq]; simp)) ?_
      simp only [List.set_cons_zero, List.set_cons_succ]
      refine sv 80 (.bool true) .of ?_
      simp only [List.set_cons_zero, List.set_cons_succ]
      refine sv 81 (.bool true) .of ?_
      simp only [List.set_cons_zero, List.set_cons_succ]
      refine xCall 82 41 #[] (by kernel_rfl) ?_
      refine (awake10 w28).mono ?_
      rintro en w29 ⟨rfl, hb1⟩
      have e13 := belE0 hb1
      have ze13 := e13.size
      replace BL := BL.e0 e13
      replace D := D.e0 e13
      replace D1 := D1.e0 e13
      replace D2 := D2.e0 e13
      replace D3 := D3.e0 e13
      replace b5 := b5.e0 e13
      replace b6 := b6.e0 e13
      replace b11 := b11.e0 e13
      replace b13 := b13.e0 e13
      replace b15 := b15.e0 e13
      replace b17 := b17.e0 e13
      clear e13
      refine ⟨.bool true, rfl, ?_⟩
      simp only [List.set_cons_zero, List.set_cons_succ]
      refine sv 83 (.bool true) .of ?_
      simp only [List.set_cons_zero, List.set_cons_succ]
      refine sv 10 (.bool true) .of ?_
      simp only [List.set_cons_zero, List.set_cons_succ]
      refine wpList_nil ?_
      refine hK11 _ _ ?_
      refine wp_ret ?_
      (try simp only [Exit.then, Exit.inBlock])
      refine bodyPost_ret (v := .bool true) rT rfl ?_
      exact ⟨rfl, BL.b⟩
    · skip
      refine xAlloc 17 37 ((nn (List.replicate 32 0)).map (Value.int .u8)) rfl (by kernel_rfl) ?_
      intro w30 n10
      have zn10 := n10.z
      have b17 := n10.c
      replace b17 : Blk .u8 w30 w25.heap.size 37 (nn (List.replicate 32 0)) := b17
      replace BL := BL.e0 n10.e
      replace D := D.e0 n10.e
      replace D1 := D1.e0 n10.e
      replace D2 := D2.e0 n10.e
      replace D3 := D3.e0 n10.e
      replace b5 := b5.e0 n10.e
      replace b6 := b6.e0 n10.e
      replace b11 := b11.e0 n10.e
      replace b13 := b13.e0 n10.e
      replace b15 := b15.e0 n10.e
      refine ze 13 ⟨BL, D, D1, D2, D3, b5, b6, b11, b13, b15, by omega⟩ ?_
      simp only [List.set_cons_zero, List.set_cons_succ]
      refine zo1 9 rfl ?_
      refine xCall 67 43 #[.pointer (some ⟨w.heap.size, 0, none⟩), .agg (cellsOf .u8 (nn (mclimb tab dx (pk % 2 ^ kc) p))), .agg #[.int .i64 ((pk / 2 ^ kc : Nat) : Int), .slice A3 q.length C3]] (by kernel_rfl) ?_
      refine (mclimb_any w.heap.size tab ht w30 b5 (mclimb tab dx (pk % 2 ^ kc) p) hzl (pk / 2 ^ kc) A3 C3 q D3 hq32 (by omega) hlt3).mono ?_
      rintro en w31 ⟨rfl, hb1⟩
      have e14 := belE0 hb1
      have ze14 := e14.size
      replace BL := BL.e0 e14
      replace D := D.e0 e14
      replace D1 := D1.e0 e14
      replace D2 := D2.e0 e14
      replace D3 := D3.e0 e14
      replace b5 := b5.e0 e14
      replace b6 := b6.e0 e14
      replace b11 := b11.e0 e14
      replace b13 := b13.e0 e14
      replace b15 := b15.e0 e14
      replace b17 := b17.e0 e14
      clear e14
      refine ⟨.tuple #[.agg (cellsOf .u8 (nn (mclimb tab (mclimb tab dx (pk % 2 ^ kc) p) (pk / 2 ^ kc) q))), .int .i64 0], rfl, ?_⟩
      refine ze 9 ⟨BL, D, D1, D2, D3, b5, b6, b11, b13, b15, by omega⟩ ?_
      simp only [List.set_cons_zero, List.set_cons_succ]
      refine zv 10 57 (.tuple #[.agg (cellsOf .u8 (nn (mclimb tab (mclimb tab dx (pk % 2 ^ kc) p) (pk / 2 ^ kc) q))), .int .i64 0]) (fun _ _ => .of) ⟨BL, D, D1, D2, D3, b5, b6, b11, b13, b15, by omega⟩ ?_
      simp only [List.set_cons_zero, List.set_cons_succ]
      refine zv 11 68 (.agg (cellsOf .u8 (nn (mclimb tab (mclimb tab dx (pk % 2 ^ kc) p) (pk / 2 ^ kc) q)))) (fun _ _ => .of) ⟨BL, D, D1, D2, D3, b5, b6, b11, b13, b15, by omega⟩ ?_
      simp only [List.set_cons_zero, List.set_cons_succ]
      refine zv 12 69 (.int .i64 0) (fun _ _ => .of) ⟨BL, D, D1, D2, D3, b5, b6, b11, b13, b15, by omega⟩ ?_
      simp only [List.set_cons_zero, List.set_cons_succ]
      refine zo1 14 rfl ?_
      refine xStoreA 37 (.tmp 17) (.tmp 68) rfl .u8 w25.heap.size 37 (nn (List.replicate 32 0)) 0 (nn (mclimb tab (mclimb tab dx (pk % 2 ^ kc) p) (pk / 2 ^ kc) q)) (by kernel_rfl) (by kernel_rfl) b17 (by rw [show (nn (mclimb tab (mclimb tab dx (pk % 2 ^ kc) p) (pk / 2 ^ kc) q)).length = 32 by ((try simp only [nn_len, List.length_cons, List.length_nil, List.length_set, List.length_replicate]); try omega)]; kernel_rfl) (by (try simp only [nn_len, List.length_cons, List.length_nil, List.length_set, List.length_replicate]); try omega) (nn (mclimb tab (mclimb tab dx (pk % 2 ^ kc) p) (pk / 2 ^ kc) q)) (over_whole _ _ (by (try simp only [nn_len, List.length_cons, List.length_nil, List.length_set, List.length_replicate]); try omega)) ?_
      intro w32 t8
      have zt8 := t8.z
      have BL_ := BL.ev t8.e (fun i h => show w.heap.size ≤ i by have h : i = w25.heap.size := h; omega)
      have D_ := D.ev t8.e (fun i hi => show ¬ (i = w25.heap.size) by have := hvl i hi; omega)
      have D1_ := D1.ev t8.e (fun i hi => show ¬ (i = w25.heap.size) by have := hvl1 i hi; omega)
      have D2_ := D2.ev t8.e (fun i hi => show ¬ (i = w25.heap.size) by have := hvl2 i hi; omega)
      have D3_ := D3.ev t8.e (fun i hi => show ¬ (i = w25.heap.size) by have := hvl3 i hi; omega)
      have b5_ := b5.ev t8.e (show ¬ (w.heap.size = w25.heap.size) by omega)
      have b6_ := b6.ev t8.e (show ¬ (w1.heap.size = w25.heap.size) by omega)
      have b11_ := b11.ev t8.e (show ¬ (w3.heap.size = w25.heap.size) by omega)
      have b13_ := b13.ev t8.e (show ¬ (w6.heap.size = w25.heap.size) by omega)
      have b15_ := b15.ev t8.e (show ¬ (w9.heap.size = w25.heap.size) by omega)
      replace BL := BL_; clear BL_
      replace D := D_; clear D_
      replace D1 := D1_; clear D1_
      replace D2 := D2_; clear D2_
      replace D3 := D3_; clear D3_
      replace b5 := b5_; clear b5_
      replace b6 := b6_; clear b6_
      replace b11 := b11_; clear b11_
      replace b13 := b13_; clear b13_
      replace b15 := b15_; clear b15_
      replace b17 : Blk .u8 w32 w25.heap.size 37 (nn (mclimb tab (mclimb tab dx (pk % 2 ^ kc) p) (pk / 2 ^ kc) q)) := t8.c
      clear t8
      refine ze 14 ⟨BL, D, D1, D2, D3, b5, b6, b11, b13, b15, by omega⟩ ?_
      refine zv 15 18 (.int .i64 0) (fun _ _ => .of) ⟨BL, D, D1, D2, D3, b5, b6, b11, b13, b15, by omega⟩ ?_
      simp only [List.set_cons_zero, List.set_cons_succ]
      refine zd (by kernel_rfl) ?_ _
      refine hK10 _ _ ?_
      refine wp_seq_k fun K12 hK12 => ?_
      refine cPlain ?_
      refine sv 70 (.int .i64 0) .of ?_
      simp only [List.set_cons_zero, List.set_cons_succ]
      refine sv 71 (.int .i64 0) .of ?_
      simp only [List.set_cons_zero, List.set_cons_succ]
      refine sv 72 (.int .i64 (0 + 0)) (Val.add 67 _ (.tmp 70) (.tmp 71) rfl 0 0 (by kernel_rfl) (by kernel_rfl) (by omega)) ?_
      simp only [List.set_cons_zero, List.set_cons_succ]
      refine sv 73 (.int .i64 0) .of ?_
      simp only [List.set_cons_zero, List.set_cons_succ]
      refine sv 74 (.int .i64 ((0 + 0) + 0)) (Val.add 67 _ (.tmp 72) (.tmp 73) rfl (0 + 0) 0 (by kernel_rfl) (by kernel_rfl) (by omega)) ?_
      simp only [List.set_cons_zero, List.set_cons_succ]
      refine sv 75 (.bool true) .of ?_
      simp only [List.set_cons_zero, List.set_cons_succ]
      refine sv 76 (.bool true) .of ?_
      simp only [List.set_cons_zero, List.set_cons_succ]
      refine sv 77 (.agg (cellsOf .u8 (nn (mclimb tab dx pk m)))) (Val.blk 37 _ rfl 0 32 (by kernel_rfl) b13 _ Try.underlying37 rfl (by kernel_rfl) (by (try simp only [nn_len, List.length_cons, List.length_nil, List.length_set, List.length_replicate]); try omega) _ (seg_all' _ (by (try simp only [nn_len, List.length_cons, List.length_nil, List.length_set, List.length_replicate]); try omega))) ?_
      simp only [List.set_cons_zero, List.set_cons_succ]
      refine sv 78 (.agg (cellsOf .u8 (nn (mclimb tab (mclimb tab dx (pk % 2 ^ kc) p) (pk / 2 ^ kc) q)))) (Val.blk 37 _ rfl 0 32 (by kernel_rfl) b17 _ Try.underlying37 rfl (by kernel_rfl) (by (try simp only [nn_len, List.length_cons, List.length_nil, List.length_set, List.length_replicate]); try omega) _ (seg_all' _ (by (try simp only [nn_len, List.length_cons, List.length_nil, List.length_set, List.length_replicate]); try omega))) ?_
      simp only [List.set_cons_zero, List.set_cons_succ]
      refine sv 79 (.bool true) (Val.eqA .eql 37 _ (.tmp 77) (.tmp 78) rfl Try.underlying37 Try.underlying5 (by kernel_rfl) (by kernel_rfl) (nn (mclimb tab dx pk m)) (nn (mclimb tab (mclimb tab dx (pk % 2 ^ kc) p) (pk / 2 ^ kc) q)) (by kernel_rfl) (by kernel_rfl) (by rw [nn_len]; exact hyl) (by rw [nn_len]; exact hwl) (.inl rfl) true (by rw [← heq]; simp)) ?_
      simp only [List.set_cons_zero, List.set_cons_succ]
      refine sv 80 (.bool true) .of ?_
      simp only [List.set_cons_zero, List.set_cons_succ]
      refine sv 81 (.bool true) .of ?_
      simp only [List.set_cons_zero, List.set_cons_succ]
      refine xCall 82 41 #[] (by kernel_rfl) ?_
      refine (awake10 w32).mono ?_
      rintro en w33 ⟨rfl, hb1⟩
      have e15 := belE0 hb1
      have ze15 := e15.size
      replace BL := BL.e0 e15
      replace D := D.e0 e15
      replace D1 := D1.e0 e15
      replace D2 := D2.e0 e15
      replace D3 := D3.e0 e15
      replace b5 := b5.e0 e15
      replace b6 := b6.e0 e15
      replace b11 := b11.e0 e15
      replace b13 := b13.e0 e15
      replace b15 := b15.e0 e15
      replace b17 := b17.e0 e15
      clear e15
      refine ⟨.bool true, rfl, ?_⟩
      simp only [List.set_cons_zero, List.set_cons_succ]
      refine sv 83 (.bool true) .of ?_
      simp only [List.set_cons_zero, List.set_cons_succ]
      refine sv 10 (.bool true) .of ?_
      simp only [List.set_cons_zero, List.set_cons_succ]
      refine wpList_nil ?_
      refine hK12 _ _ ?_
      refine wp_ret ?_
      (try simp only [Exit.then, Exit.inBlock])
      refine bodyPost_ret (v := .bool true) rT rfl ?_
      exact ⟨rfl, BL.b⟩

theorem merkleSteps_any (w : World) (x0 : List Value) (R0 : RInts .u32 72 w x0) (x1 : List Value) (R1 : RInts .u8 32 w x1) (v2 : Value) (es2 : List (List Int)) (D2 : SE .u8 32 w v2 es2) (w2 : ∀ y ∈ es2, ∀ n ∈ y, (Lit.int .u8 n).wf = true) (leaf : Int) (h3 : -9223372036854775808 ≤ leaf ∧ leaf ≤ 9223372036854775807) (t : Int) (h4 : 0 ≤ t ∧ t ≤ 255) :
    Calls Try.prog 7 #[.agg x0.toArray, .agg x1.toArray, v2, .int .i64 leaf, .int .u8 t] w fun e w' => e = .returned (.bool true) ∧ Below w.heap.size w w' := by
  obtain ⟨tab, ht, rfl, _⟩ := rints32 R0
  obtain ⟨dx, hx, rfl, _⟩ := rints8 R1
  obtain ⟨l, rfl, _⟩ := nnd_of w2
  obtain ⟨cut, rfl⟩ : ∃ c : Nat, t = (c : Int) := ⟨t.toNat, by omega⟩
  exact merkleSteps_walk tab ht w dx hx v2 l D2 leaf cut (by omega)
end Go.Proofs.Yteaijjefbadnbaa
