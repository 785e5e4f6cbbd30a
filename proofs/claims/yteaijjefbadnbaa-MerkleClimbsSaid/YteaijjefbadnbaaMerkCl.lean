/-
  MerkleClimbs: the walk.
-/
import Derived.Test.YteaijjefbadnbaaMerkA
import Derived.Test.YteaijjefbadnbaaNnB
namespace Go.Proofs.Yteaijjefbadnbaa
open Go.RowKit
set_option linter.unusedVariables false
set_option linter.unusedSimpArgs false
set_option maxRecDepth 100000
attribute [local irreducible] wpList Code.wp wpAnyZ taggedN mnode ofN textN growN

set_option maxHeartbeats 8000000 in
theorem merkleClimbs_walk (tab : List Nat) (ht : tab.length = 72) (w : World) (v : Value) (l : List (List Nat)) (D : SE .u8 32 w v (nnd l)) (hb : Nat) (hb8 : hb < 256) (leaf : Int) :
    Calls Try.prog 8 #[.agg (cellsOf .u32 (nn tab)), v, .int .u8 ((hb : Nat) : Int), .int .i64 leaf] w fun e w' => e = .returned (.bool true) ∧ Below w.heap.size w w' := by
  have BL := Bl.refl w
  have hvl := D.lt
  have hl32 := nnd_lens D.lens
  obtain ⟨H, hH⟩ : ∃ H, hb % 6 = H := ⟨_, rfl⟩
  have hH5 : H ≤ 5 := by omega
  have hpw : 2 ^ H ≤ 256 := Nat.pow_le_pow_right (by omega) (by omega : H ≤ 8)
  have hp1 : 0 < 2 ^ H := Nat.two_pow_pos _
  obtain ⟨es, hes⟩ : ∃ es, growN l (2 ^ H) = es := ⟨_, rfl⟩
  have hen : es.length = 2 ^ H := by rw [← hes, growN_len]
  have he32 : ∀ d ∈ es, d.length = 32 := by rw [← hes]; exact growN_lens hl32 _
  obtain ⟨kk, hkk⟩ : ∃ kk, pickN leaf (2 ^ H) = kk := ⟨_, rfl⟩
  have hkl := pickN_lt leaf hp1
  rw [hkk] at hkl
  have hrl := mroot_len tab H es hen he32
  have hdl : (es.getD kk []).length = 32 := fe_getDN he32 (by omega)
  have hpn := mpath_len tab H es kk
  have hR : mright H ((kk : Nat) : Int) = true := decide_eq_true ⟨by omega, by omega, by omega⟩
  go_enter Try.func8, Try.ntmps8
  refine wp_seq_k fun K1 hK1 => ?_
  refine cPlain ?_
  refine xBox 4 26 _ ((nn tab).map (Value.int .u32)) rfl (cells_toList _ _) ?_
  intro w1 n1
  have zn1 := n1.z
  have b4 := n1.c
  replace b4 : Blk .u32 w1 w.heap.size 26 (nn tab) := b4
  replace BL := BL.e0 n1.e
  replace D := D.e0 n1.e
  simp only [List.set_cons_zero, List.set_cons_succ]
  refine sv 8 (.bool false) .of ?_
  simp only [List.set_cons_zero, List.set_cons_succ]
  refine wpList_nil ?_
  refine hK1 _ _ ?_
  refine wp_seq_k fun K2 hK2 => ?_
  refine cPlain ?_
  refine sv 17 (v) .of ?_
  simp only [List.set_cons_zero, List.set_cons_succ]
  refine sv 18 (.int .u8 ((hb : Nat) : Int)) .of ?_
  simp only [List.set_cons_zero, List.set_cons_succ]
  refine xCall 19 44 #[v, .int .u8 ((hb : Nat) : Int)] (by kernel_rfl) ?_
  refine (grown_any v l hb hb8 w1 D).mono ?_
  rintro en w2 ⟨r, rfl, hG, hb1⟩
  rw [hH, hes] at hG
  obtain ⟨GA, GC, hr, hGc⟩ := hG.len
  rw [nnd_len, hen] at hr
  subst hr
  have e1 := belE0 hb1
  have ze1 := e1.size
  replace BL := BL.e0 e1
  replace D := D.e0 e1
  replace b4 := b4.e0 e1
  clear e1
  have G : OwnE 37 .u8 32 w1.heap.size w2 (.slice GA (2 ^ H) GC) (nnd es) := hG
  have lG_1 := G.ge
  refine ⟨.slice GA (2 ^ H) GC, rfl, ?_⟩
  simp only [List.set_cons_zero, List.set_cons_succ]
  refine sv 9 (.slice GA (2 ^ H) GC) .of ?_
  simp only [List.set_cons_zero, List.set_cons_succ]
  refine wpList_nil ?_
  refine hK2 _ _ ?_
  refine wp_seq_k fun K3 hK3 => ?_
  refine cPlain ?_
  refine sv 20 (.int .i64 leaf) .of ?_
  simp only [List.set_cons_zero, List.set_cons_succ]
  refine sv 21 (.slice GA (2 ^ H) GC) .of ?_
  simp only [List.set_cons_zero, List.set_cons_succ]
  refine sv 22 (.int .i64 ((2 ^ H) : Int)) .of ?_
  simp only [List.set_cons_zero, List.set_cons_succ]
  refine xCall 23 42 #[.int .i64 leaf, .int .i64 ((2 ^ H) : Int)] (by kernel_rfl) ?_
  refine (pickM_any leaf (2 ^ H) hp1 (by omega) w2).mono ?_
  rintro en w3 ⟨he, hw⟩
  rw [hkk] at he
  subst he
  have e2 : E0 w2 w3 := (hw ▸ Ev.refl _ _)
  have ze2 := e2.size
  replace BL := BL.e0 e2
  replace D := D.e0 e2
  replace b4 := b4.e0 e2
  replace G := G.e0 e2
  clear e2
  refine ⟨.int .i64 ((kk : Nat) : Int), rfl, ?_⟩
  simp only [List.set_cons_zero, List.set_cons_succ]
  refine sv 10 (.int .i64 ((kk : Nat) : Int)) .of ?_
  simp only [List.set_cons_zero, List.set_cons_succ]
  refine wpList_nil ?_
  refine hK3 _ _ ?_
  refine wp_seq_k fun K4 hK4 => ?_
  refine cPlain ?_
  refine sv 25 (.slice GA (2 ^ H) GC) .of ?_
  simp only [List.set_cons_zero, List.set_cons_succ]
  refine xCall 26 45 #[.pointer (some ⟨w.heap.size, 0, none⟩), .slice GA (2 ^ H) GC] (by kernel_rfl) ?_
  refine (mroot_any w.heap.size tab ht w3 b4 _ es G.se he32 H (by omega) hen).mono ?_
  rintro en w4 ⟨rfl, hb1⟩
  have e3 := belE0 hb1
  have ze3 := e3.size
  replace BL := BL.e0 e3
  replace D := D.e0 e3
  replace b4 := b4.e0 e3
  replace G := G.e0 e3
  clear e3
  refine ⟨.tuple #[.agg (cellsOf .u8 (nn (mroot tab H es))), .int .i64 0], rfl, ?_⟩
  simp only [List.set_cons_zero, List.set_cons_succ]
  refine sv 24 (.tuple #[.agg (cellsOf .u8 (nn (mroot tab H es))), .int .i64 0]) .of ?_
  simp only [List.set_cons_zero, List.set_cons_succ]
  refine sv 27 (.agg (cellsOf .u8 (nn (mroot tab H es)))) .of ?_
  simp only [List.set_cons_zero, List.set_cons_succ]
  refine sv 28 (.int .i64 0) .of ?_
  simp only [List.set_cons_zero, List.set_cons_succ]
  refine xAlloc 11 37 ((nn (List.replicate 32 0)).map (Value.int .u8)) rfl (by kernel_rfl) ?_
  intro w5 n2
  have zn2 := n2.z
  have b11 := n2.c
  replace b11 : Blk .u8 w5 w4.heap.size 37 (nn (List.replicate 32 0)) := b11
  replace BL := BL.e0 n2.e
  replace D := D.e0 n2.e
  replace b4 := b4.e0 n2.e
  replace G := G.e0 n2.e
  simp only [List.set_cons_zero, List.set_cons_succ]
  refine xStoreA 37 (.tmp 11) (.tmp 27) rfl .u8 w4.heap.size 37 (nn (List.replicate 32 0)) 0 (nn (mroot tab H es)) (by kernel_rfl) (by kernel_rfl) b11 (by rw [show (nn (mroot tab H es)).length = 32 by ((try simp only [nn_len, List.length_cons, List.length_nil, List.length_set, List.length_replicate]); try omega)]; kernel_rfl) (by (try simp only [nn_len, List.length_cons, List.length_nil, List.length_set, List.length_replicate]); try omega) (nn (mroot tab H es)) (over_whole _ _ (by (try simp only [nn_len, List.length_cons, List.length_nil, List.length_set, List.length_replicate]); try omega)) ?_
  intro w6 t1
  have zt1 := t1.z
  have BL_ := BL.ev t1.e (fun i h => show w.heap.size ≤ i by have h : i = w4.heap.size := h; omega)
  have D_ := D.ev t1.e (fun i hi => show ¬ (i = w4.heap.size) by have := hvl i hi; omega)
  have b4_ := b4.ev t1.e (show ¬ (w.heap.size = w4.heap.size) by omega)
  have G_ := G.ev t1.e (fun i hi => show ¬ (i = w4.heap.size) by have := lG_1 i hi; omega)
  replace BL := BL_; clear BL_
  replace D := D_; clear D_
  replace b4 := b4_; clear b4_
  replace G := G_; clear G_
  replace b11 : Blk .u8 w6 w4.heap.size 37 (nn (mroot tab H es)) := t1.c
  clear t1
  refine sv 12 (.int .i64 0) .of ?_
  simp only [List.set_cons_zero, List.set_cons_succ]
  refine wpList_nil ?_
  refine hK4 _ _ ?_
  refine wp_seq_k fun K5 hK5 => ?_
  refine cPlain ?_
  refine sv 30 (.slice GA (2 ^ H) GC) .of ?_
  simp only [List.set_cons_zero, List.set_cons_succ]
  refine sv 31 (.int .i64 ((kk : Nat) : Int)) .of ?_
  simp only [List.set_cons_zero, List.set_cons_succ]
  refine xCall 32 46 #[.pointer (some ⟨w.heap.size, 0, none⟩), .slice GA (2 ^ H) GC, .int .i64 ((kk : Nat) : Int)] (by kernel_rfl) ?_
  refine (mpath_any w.heap.size tab ht w6 b4 _ es G.se he32 H (by omega) hen kk hkl).mono ?_
  rintro en w7 ⟨pA, pN, pC, he, hBO, hb1⟩
  have hpN : pN = H := by have := hBO.se.cap.1; rw [nnd_len, hpn] at this; exact this
  rw [hpN] at he hBO
  clear hpN
  subst he
  have e4 := belE0 hb1
  have ze4 := e4.size
  replace BL := BL.e0 e4
  replace D := D.e0 e4
  replace b4 := b4.e0 e4
  replace G := G.e0 e4
  replace b11 := b11.e0 e4
  clear e4
  have PO : OwnE 37 .u8 32 w6.heap.size w7 (.slice pA H pC) (nnd (mpath tab H es kk)) := hBO
  have lPO_1 := PO.ge
  refine ⟨.tuple #[.agg #[.int .i64 ((kk : Nat) : Int), .slice pA H pC], .int .i64 0], rfl, ?_⟩
  simp only [List.set_cons_zero, List.set_cons_succ]
  refine sv 29 (.tuple #[.agg #[.int .i64 ((kk : Nat) : Int), .slice pA H pC], .int .i64 0]) .of ?_
  simp only [List.set_cons_zero, List.set_cons_succ]
  refine sv 33 (.agg #[.int .i64 ((kk : Nat) : Int), .slice pA H pC]) .of ?_
  simp only [List.set_cons_zero, List.set_cons_succ]
  refine sv 34 (.int .i64 0) .of ?_
  simp only [List.set_cons_zero, List.set_cons_succ]
  refine xAlloc 13 66 [.int .i64 0, .slice none 0 0] rfl (by kernel_rfl) ?_
  intro w8 n3
  have zn3 := n3.z
  have b13 := n3.c
  replace BL := BL.e0 n3.e
  replace D := D.e0 n3.e
  replace b4 := b4.e0 n3.e
  replace G := G.e0 n3.e
  replace b11 := b11.e0 n3.e
  replace PO := PO.e0 n3.e
  simp only [List.set_cons_zero, List.set_cons_succ]
  refine xStoreR 66 (.tmp 13) (.tmp 33) rfl w7.heap.size 66 [.int .i64 0, .slice none 0 0] 0 [.int .i64 ((kk : Nat) : Int), .slice pA H pC] (by kernel_rfl) (by kernel_rfl) b13 (by kernel_rfl) (by simp) rfl [.int .i64 ((kk : Nat) : Int), .slice pA H pC] rfl ?_
  intro w9 t2
  have zt2 := t2.z
  have BL_ := BL.ev t2.e (fun i h => show w.heap.size ≤ i by have h : i = w7.heap.size := h; omega)
  have D_ := D.ev t2.e (fun i hi => show ¬ (i = w7.heap.size) by have := hvl i hi; omega)
  have b4_ := b4.ev t2.e (show ¬ (w.heap.size = w7.heap.size) by omega)
  have G_ := G.ev t2.e (fun i hi => show ¬ (i = w7.heap.size) by have := lG_1 i hi; omega)
  have b11_ := b11.ev t2.e (show ¬ (w4.heap.size = w7.heap.size) by omega)
  have PO_ := PO.ev t2.e (fun i hi => show ¬ (i = w7.heap.size) by have := lPO_1 i hi; omega)
  replace BL := BL_; clear BL_
  replace D := D_; clear D_
  replace b4 := b4_; clear b4_
  replace G := G_; clear G_
  replace b11 := b11_; clear b11_
  replace PO := PO_; clear PO_
  replace b13 : Cel w9 w7.heap.size 66 [.int .i64 ((kk : Nat) : Int), .slice pA H pC] := t2.c
  clear t2
  refine sv 14 (.int .i64 0) .of ?_
  simp only [List.set_cons_zero, List.set_cons_succ]
  refine wpList_nil ?_
  refine hK5 _ _ ?_
  refine wp_seq_k fun K6 hK6 => ?_
  have e5 := drew_e0 w9
  refine zg (fun w_ => Bl w.heap.size w w_ ∧ SE .u8 32 w_ v (nnd l) ∧ Blk .u32 w_ w.heap.size 26 (nn tab) ∧ OwnE 37 .u8 32 w1.heap.size w_ (.slice GA (2 ^ H) GC) (nnd es) ∧ Blk .u8 w_ w4.heap.size 37 (nn (mroot tab H es)) ∧ OwnE 37 .u8 32 w6.heap.size w_ (.slice pA H pC) (nnd (mpath tab H es kk)) ∧ Cel w_ w7.heap.size 66 [.int .i64 ((kk : Nat) : Int), .slice pA H pC] ∧ w9.heap.size ≤ w_.heap.size) (fun w_ => Bl w.heap.size w w_ ∧ SE .u8 32 w_ v (nnd l) ∧ Blk .u32 w_ w.heap.size 26 (nn tab) ∧ OwnE 37 .u8 32 w1.heap.size w_ (.slice GA (2 ^ H) GC) (nnd es) ∧ Blk .u8 w_ w4.heap.size 37 (nn (mroot tab H es)) ∧ OwnE 37 .u8 32 w6.heap.size w_ (.slice pA H pC) (nnd (mpath tab H es kk)) ∧ Cel w_ w7.heap.size 66 [.int .i64 ((kk : Nat) : Int), .slice pA H pC] ∧ w9.heap.size ≤ w_.heap.size) 100000 12 ⟨BL.e0 e5, D.e0 e5, b4.e0 e5, G.e0 e5, b11.e0 e5, PO.e0 e5, b13.e0 e5, Nat.le_refl _⟩ ?_
  clear BL D b4 G b11 PO b13
  clear e5
  intro w10
  rintro ⟨BL, D, b4, G, b11, PO, b13, z1⟩
  refine zv 0 36 (.slice GA (2 ^ H) GC) (fun _ _ => .of) ⟨BL, D, b4, G, b11, PO, b13, by omega⟩ ?_
  simp only [List.set_cons_zero, List.set_cons_succ]
  refine zv 1 37 (.int .i64 ((kk : Nat) : Int)) (fun _ _ => .of) ⟨BL, D, b4, G, b11, PO, b13, by omega⟩ ?_
  simp only [List.set_cons_zero, List.set_cons_succ]
  refine zv 2 38 (elemE 32 (.slice GA (2 ^ H) GC) kk) (fun _ ⟨BL, D, b4, G, b11, PO, b13, z1⟩ => Val.ixE 63 (.tmp 36) (.tmp 37) rfl (.slice GA (2 ^ H) GC) kk (by kernel_rfl) (by kernel_rfl) G.se Try.underlying63 (by kernel_rfl) (by simp only [nnd_len]; omega)) ⟨BL, D, b4, G, b11, PO, b13, by omega⟩ ?_
  simp only [List.set_cons_zero, List.set_cons_succ]
  refine zv 3 39 (.agg (cellsOf .u8 (nn (es.getD kk [])))) (fun _ ⟨BL, D, b4, G, b11, PO, b13, z1⟩ => Val.ldGN 37 _ rfl (.slice GA (2 ^ H) GC) kk (by kernel_rfl) G.se _ Try.underlying37 rfl (by kernel_rfl) (by simp only [nnd_len]; omega)) ⟨BL, D, b4, G, b11, PO, b13, by omega⟩ ?_
  simp only [List.set_cons_zero, List.set_cons_succ]
  refine zv 4 40 (.agg #[.int .i64 ((kk : Nat) : Int), .slice pA H pC]) (fun _ ⟨BL, D, b4, G, b11, PO, b13, z1⟩ => Val.cel 66 _ rfl 0 2 (by kernel_rfl) b13 _ Try.underlying66 rfl (by kernel_rfl) (by simp) [.int .i64 ((kk : Nat) : Int), .slice pA H pC] rfl) ⟨BL, D, b4, G, b11, PO, b13, by omega⟩ ?_
  simp only [List.set_cons_zero, List.set_cons_succ]
  refine zo2 5 9 rfl rfl ?_ ?_
  · skip
    refine xCall 41 43 #[.pointer (some ⟨w.heap.size, 0, none⟩), .agg (cellsOf .u8 (nn (es.getD kk []))), .agg #[.int .i64 ((kk : Nat) : Int), .slice pA H pC]] (by kernel_rfl) ?_
    have hcp := mclimb_path tab H es kk hen hkl
    have hP2 : SE .u8 32 w10 (.slice pA (mpath tab H es kk).length pC) (nnd (mpath tab H es kk)) := by rw [hpn]; exact PO.se
    have hcc := mclimb_any w.heap.size tab ht w10 b4 (es.getD kk []) hdl kk pA pC (mpath tab H es kk) hP2 (mpath_lens tab H es kk hen hkl he32) (by omega) (by rw [hpn]; exact hkl)
    rw [hcp, hpn] at hcc
    refine (hcc).mono ?_
    rintro en w11 ⟨rfl, hb1⟩
    have e6 := belE0 hb1
    have ze6 := e6.size
    replace BL := BL.e0 e6
    replace D := D.e0 e6
    replace b4 := b4.e0 e6
    replace G := G.e0 e6
    replace b11 := b11.e0 e6
    replace PO := PO.e0 e6
    replace b13 := b13.e0 e6
    clear e6
    refine ⟨.tuple #[.agg (cellsOf .u8 (nn (mroot tab H es))), .int .i64 0], rfl, ?_⟩
    refine ze 5 ⟨BL, D, b4, G, b11, PO, b13, by omega⟩ ?_
    simp only [List.set_cons_zero, List.set_cons_succ]
    refine zv 6 35 (.tuple #[.agg (cellsOf .u8 (nn (mroot tab H es))), .int .i64 0]) (fun _ _ => .of) ⟨BL, D, b4, G, b11, PO, b13, by omega⟩ ?_
    simp only [List.set_cons_zero, List.set_cons_succ]
    refine zv 7 42 (.agg (cellsOf .u8 (nn (mroot tab H es)))) (fun _ _ => .of) ⟨BL, D, b4, G, b11, PO, b13, by omega⟩ ?_
    simp only [List.set_cons_zero, List.set_cons_succ]
    refine zv 8 43 (.int .i64 0) (fun _ _ => .of) ⟨BL, D, b4, G, b11, PO, b13, by omega⟩ ?_
    simp only [List.set_cons_zero, List.set_cons_succ]
    refine zo1 9 rfl ?_
    refine xAlloc 15 37 ((nn (List.replicate 32 0)).map (Value.int .u8)) rfl (by kernel_rfl) ?_
    intro w12 n4
    have zn4 := n4.z
    have b15 := n4.c
    replace b15 : Blk .u8 w12 w11.heap.size 37 (nn (List.replicate 32 0)) := b15
    replace BL := BL.e0 n4.e
    replace D := D.e0 n4.e
    replace b4 := b4.e0 n4.e
    replace G := G.e0 n4.e
    replace b11 := b11.e0 n4.e
    replace PO := PO.e0 n4.e
    replace b13 := b13.e0 n4.e
    refine ze 9 ⟨BL, D, b4, G, b11, PO, b13, by omega⟩ ?_
    simp only [List.set_cons_zero, List.set_cons_succ]
    refine zo1 10 rfl ?_
    refine xStoreA 37 (.tmp 15) (.tmp 42) rfl .u8 w11.heap.size 37 (nn (List.replicate 32 0)) 0 (nn (mroot tab H es)) (by kernel_rfl) (by kernel_rfl) b15 (by rw [show (nn (mroot tab H es)).length = 32 by ((try simp only [nn_len, List.length_cons, List.length_nil, List.length_set, List.length_replicate]); try omega)]; kernel_rfl) (by (try simp only [nn_len, List.length_cons, List.length_nil, List.length_set, List.length_replicate]); try omega) (nn (mroot tab H es)) (over_whole _ _ (by (try simp only [nn_len, List.length_cons, List.length_nil, List.length_set, List.length_replicate]); try omega)) ?_
    intro w13 t3
    have zt3 := t3.z
    have BL_ := BL.ev t3.e (fun i h => show w.heap.size ≤ i by have h : i = w11.heap.size := h; omega)
    have D_ := D.ev t3.e (fun i hi => show ¬ (i = w11.heap.size) by have := hvl i hi; omega)
    have b4_ := b4.ev t3.e (show ¬ (w.heap.size = w11.heap.size) by omega)
    have G_ := G.ev t3.e (fun i hi => show ¬ (i = w11.heap.size) by have := lG_1 i hi; omega)
    have b11_ := b11.ev t3.e (show ¬ (w4.heap.size = w11.heap.size) by omega)
    have PO_ := PO.ev t3.e (fun i hi => show ¬ (i = w11.heap.size) by have := lPO_1 i hi; omega)
    have b13_ := b13.ev t3.e (show ¬ (w7.heap.size = w11.heap.size) by omega)
    replace BL := BL_; clear BL_
    replace D := D_; clear D_
    replace b4 := b4_; clear b4_
    replace G := G_; clear G_
    replace b11 := b11_; clear b11_
    replace PO := PO_; clear PO_
    replace b13 := b13_; clear b13_
    replace b15 : Blk .u8 w13 w11.heap.size 37 (nn (mroot tab H es)) := t3.c
    clear t3
    refine ze 10 ⟨BL, D, b4, G, b11, PO, b13, by omega⟩ ?_
    refine zv 11 16 (.int .i64 0) (fun _ _ => .of) ⟨BL, D, b4, G, b11, PO, b13, by omega⟩ ?_
    simp only [List.set_cons_zero, List.set_cons_succ]
    refine zd (by kernel_rfl) ?_ _
    refine hK6 _ _ ?_
    refine wp_seq_k fun K7 hK7 => ?_
    refine cPlain ?_
    refine sv 44 (.int .i64 0) .of ?_
    simp only [List.set_cons_zero, List.set_cons_succ]
    refine sv 45 (.int .i64 0) .of ?_
    simp only [List.set_cons_zero, List.set_cons_succ]
    refine sv 46 (.int .i64 (0 + 0)) (Val.add 67 _ (.tmp 44) (.tmp 45) rfl 0 0 (by kernel_rfl) (by kernel_rfl) (by omega)) ?_
    simp only [List.set_cons_zero, List.set_cons_succ]
    refine sv 47 (.int .i64 0) .of ?_
    simp only [List.set_cons_zero, List.set_cons_succ]
    refine sv 48 (.int .i64 ((0 + 0) + 0)) (Val.add 67 _ (.tmp 46) (.tmp 47) rfl (0 + 0) 0 (by kernel_rfl) (by kernel_rfl) (by omega)) ?_
    simp only [List.set_cons_zero, List.set_cons_succ]
    refine sv 49 (.bool true) .of ?_
    simp only [List.set_cons_zero, List.set_cons_succ]
    refine sv 50 (.bool true) .of ?_
    simp only [List.set_cons_zero, List.set_cons_succ]
    refine sv 51 (.agg (cellsOf .u8 (nn (mroot tab H es)))) (Val.blk 37 _ rfl 0 32 (by kernel_rfl) b15 _ Try.underlying37 rfl (by kernel_rfl) (by (try simp only [nn_len, List.length_cons, List.length_nil, List.length_set, List.length_replicate]); try omega) _ (seg_all' _ (by (try simp only [nn_len, List.length_cons, List.length_nil, List.length_set, List.length_replicate]); try omega))) ?_
    simp only [List.set_cons_zero, List.set_cons_succ]
    refine sv 52 (.agg (cellsOf .u8 (nn (mroot tab H es)))) (Val.blk 37 _ rfl 0 32 (by kernel_rfl) b11 _ Try.underlying37 rfl (by kernel_rfl) (by (try simp only [nn_len, List.length_cons, List.length_nil, List.length_set, List.length_replicate]); try omega) _ (seg_all' _ (by (try simp only [nn_len, List.length_cons, List.length_nil, List.length_set, List.length_replicate]); try omega))) ?_
    simp only [List.set_cons_zero, List.set_cons_succ]
    refine sv 53 (.bool true) (Val.eqA .eql 37 _ (.tmp 51) (.tmp 52) rfl Try.underlying37 Try.underlying5 (by kernel_rfl) (by kernel_rfl) (nn (mroot tab H es)) (nn (mroot tab H es)) (by kernel_rfl) (by kernel_rfl) (by rw [nn_len]; exact hrl) (by rw [nn_len]; exact hrl) (.inl rfl) true (by simp)) ?_
    simp only [List.set_cons_zero, List.set_cons_succ]
    refine sv 54 (.bool true) .of ?_
    simp only [List.set_cons_zero, List.set_cons_succ]
    refine sv 55 (.bool true) .of ?_
    simp only [List.set_cons_zero, List.set_cons_succ]
    refine sv 56 (.agg #[.int .i64 ((kk : Nat) : Int), .slice pA H pC]) (Val.cel 66 _ rfl 0 2 (by kernel_rfl) b13 _ Try.underlying66 rfl (by kernel_rfl) (by simp) [.int .i64 ((kk : Nat) : Int), .slice pA H pC] rfl) ?_
    simp only [List.set_cons_zero, List.set_cons_succ]
    refine xCall 57 47 #[.agg #[.int .i64 ((kk : Nat) : Int), .slice pA H pC]] (by kernel_rfl) ?_
    refine (mright_any ((kk : Nat) : Int) pA H pC w13).mono ?_
    rintro en w14 ⟨he, hb1⟩
    rw [hR] at he
    subst he
    have e7 := belE0 hb1
    have ze7 := e7.size
    replace BL := BL.e0 e7
    replace D := D.e0 e7
    replace b4 := b4.e0 e7
    replace G := G.e0 e7
    replace b11 := b11.e0 e7
    replace PO := PO.e0 e7
    replace b13 := b13.e0 e7
    replace b15 := b15.e0 e7
    clear e7
    refine ⟨.bool true, rfl, ?_⟩
    simp only [List.set_cons_zero, List.set_cons_succ]
    refine sv 58 (.bool true) .of ?_
    simp only [List.set_cons_zero, List.set_cons_succ]
    refine sv 59 (.bool true) .of ?_
    simp only [List.set_cons_zero, List.set_cons_succ]
    refine sv 60 (.pointer (some ⟨w7.heap.size, 0, none⟩)) .of ?_
    simp only [List.set_cons_zero, List.set_cons_succ]
    refine sv 61 (.int .i64 ((kk : Nat) : Int)) (Val.cel1 3 _ rfl w7.heap.size 0 _ (by kernel_rfl) (fun _ => (by kernel_rfl)) b13 rfl) ?_
    simp only [List.set_cons_zero, List.set_cons_succ]
    refine sv 62 (.int .i64 ((kk : Nat) : Int)) .of ?_
    simp only [List.set_cons_zero, List.set_cons_succ]
    refine sv 63 (.bool true) (Val.cmp .eql 3 _ (.tmp 61) (.tmp 62) rfl .i64 ((kk : Nat) : Int) ((kk : Nat) : Int) (by kernel_rfl) (by kernel_rfl) (by simp) _ (by simp [cmpB])) ?_
    simp only [List.set_cons_zero, List.set_cons_succ]
    refine sv 64 (.bool true) .of ?_
    simp only [List.set_cons_zero, List.set_cons_succ]
    refine sv 65 (.bool true) .of ?_
    simp only [List.set_cons_zero, List.set_cons_succ]
    refine sv 66 (.pointer (some ⟨w7.heap.size, 1, none⟩)) .of ?_
    simp only [List.set_cons_zero, List.set_cons_succ]
    refine sv 67 (.slice pA H pC) (Val.cel1 63 _ rfl w7.heap.size 1 _ (by kernel_rfl) (fun _ => (by kernel_rfl)) b13 rfl) ?_
    simp only [List.set_cons_zero, List.set_cons_succ]
    refine sv 68 (.int .i64 (H : Int)) .of ?_
    simp only [List.set_cons_zero, List.set_cons_succ]
    refine sv 69 (.int .u8 ((hb : Nat) : Int)) .of ?_
    simp only [List.set_cons_zero, List.set_cons_succ]
    refine sv 70 (.int .u8 ((H : Nat) : Int)) (Val.asN (Val.remN 5 _ (.tmp 69) _ rfl .u8 hb 6 (by kernel_rfl) (by kernel_rfl) (by omega)) hH) ?_
    simp only [List.set_cons_zero, List.set_cons_succ]
    refine sv 71 (.int .i64 ((H : Nat) : Int)) (Val.conv64 5 3 (.tmp 70) rfl Try.underlying5 Try.underlying3 ((H : Nat) : Int) (by kernel_rfl) (by omega)) ?_
    simp only [List.set_cons_zero, List.set_cons_succ]
    refine sv 72 (.bool true) (Val.cmp .eql 3 _ (.tmp 68) (.tmp 71) rfl .i64 (H : Int) ((H : Nat) : Int) (by kernel_rfl) (by kernel_rfl) (by simp) _ (by simp [cmpB])) ?_
    simp only [List.set_cons_zero, List.set_cons_succ]
    refine sv 73 (.bool true) .of ?_
    simp only [List.set_cons_zero, List.set_cons_succ]
    refine sv 74 (.bool true) .of ?_
    simp only [List.set_cons_zero, List.set_cons_succ]
    refine xCall 75 41 #[] (by kernel_rfl) ?_
    refine (awake10 w14).mono ?_
    rintro en w15 ⟨rfl, hb1⟩
    have e8 := belE0 hb1
    have ze8 := e8.size
    replace BL := BL.e0 e8
    replace D := D.e0 e8
    replace b4 := b4.e0 e8
    replace G := G.e0 e8
    replace b11 := b11.e0 e8
    replace PO := PO.e0 e8
    replace b13 := b13.e0 e8
    replace b15 := b15.e0 e8
    clear e8
    refine ⟨.bool true, rfl, ?_⟩
    simp only [List.set_cons_zero, List.set_cons_succ]
    refine sv 76 (.bool true) .of ?_
    simp only [List.set_cons_zero, List.set_cons_succ]
    refine sv 8 (.bool true) .of ?_
    simp only [List.set_cons_zero, List.set_cons_succ]
    refine wpList_nil ?_
    refine hK7 _ _ ?_
    refine wp_ret ?_
    (try simp only [Exit.then, Exit.inBlock])
    refine bodyPost_ret (v := .bool true) rT rfl ?_
    exact ⟨rfl, BL.b⟩
  · skip
    refine xAlloc 15 37 ((nn (List.replicate 32 0)).map (Value.int .u8)) rfl (by kernel_rfl) ?_
    intro w16 n5
    have zn5 := n5.z
    have b15 := n5.c
    replace b15 : Blk .u8 w16 w10.heap.size 37 (nn (List.replicate 32 0)) := b15
    replace BL := BL.e0 n5.e
    replace D := D.e0 n5.e
    replace b4 := b4.e0 n5.e
    replace G := G.e0 n5.e
    replace b11 := b11.e0 n5.e
    replace PO := PO.e0 n5.e
    replace b13 := b13.e0 n5.e
    refine ze 9 ⟨BL, D, b4, G, b11, PO, b13, by omega⟩ ?_
    simp only [List.set_cons_zero, List.set_cons_succ]
    refine zo1 5 rfl ?_
    refine xCall 41 43 #[.pointer (some ⟨w.heap.size, 0, none⟩), .agg (cellsOf .u8 (nn (es.getD kk []))), .agg #[.int .i64 ((kk : Nat) : Int), .slice pA H pC]] (by kernel_rfl) ?_
    have hcp := mclimb_path tab H es kk hen hkl
    have hP2 : SE .u8 32 w16 (.slice pA (mpath tab H es kk).length pC) (nnd (mpath tab H es kk)) := by rw [hpn]; exact PO.se
    have hcc := mclimb_any w.heap.size tab ht w16 b4 (es.getD kk []) hdl kk pA pC (mpath tab H es kk) hP2 (mpath_lens tab H es kk hen hkl he32) (by omega) (by rw [hpn]; exact hkl)
    rw [hcp, hpn] at hcc
    refine (hcc).mono ?_
    rintro en w17 ⟨rfl, hb1⟩
    have e9 := belE0 hb1
    have ze9 := e9.size
    replace BL := BL.e0 e9
    replace D := D.e0 e9
    replace b4 := b4.e0 e9
    replace G := G.e0 e9
    replace b11 := b11.e0 e9
    replace PO := PO.e0 e9
    replace b13 := b13.e0 e9
    replace b15 := b15.e0 e9
    clear e9
    refine ⟨.tuple #[.agg (cellsOf .u8 (nn (mroot tab H es))), .int .i64 0], rfl, ?_⟩
    refine ze 5 ⟨BL, D, b4, G, b11, PO, b13, by omega⟩ ?_
    simp only [List.set_cons_zero, List.set_cons_succ]
    refine zv 6 35 (.tuple #[.agg (cellsOf .u8 (nn (mroot tab H es))), .int .i64 0]) (fun _ _ => .of) ⟨BL, D, b4, G, b11, PO, b13, by omega⟩ ?_
    simp only [List.set_cons_zero, List.set_cons_succ]
    refine zv 7 42 (.agg (cellsOf .u8 (nn (mroot tab H es)))) (fun _ _ => .of) ⟨BL, D, b4, G, b11, PO, b13, by omega⟩ ?_
    simp only [List.set_cons_zero, List.set_cons_succ]
    refine zv 8 43 (.int .i64 0) (fun _ _ => .of) ⟨BL, D, b4, G, b11, PO, b13, by omega⟩ ?_
    simp only [List.set_cons_zero, List.set_cons_succ]
    refine zo1 10 rfl ?_
    refine xStoreA 37 (.tmp 15) (.tmp 42) rfl .u8 w10.heap.size 37 (nn (List.replicate 32 0)) 0 (nn (mroot tab H es)) (by kernel_rfl) (by kernel_rfl) b15 (by rw [show (nn (mroot tab H es)).length = 32 by ((try simp only [nn_len, List.length_cons, List.length_nil, List.length_set, List.length_replicate]); try omega)]; kernel_rfl) (by (try simp only [nn_len, List.length_cons, List.length_nil, List.length_set, List.length_replicate]); try omega) (nn (mroot tab H es)) (over_whole _ _ (by (try simp only [nn_len, List.length_cons, List.length_nil, List.length_set, List.length_replicate]); try omega)) ?_
    intro w18 t4
    have zt4 := t4.z
    have BL_ := BL.ev t4.e (fun i h => show w.heap.size ≤ i by have h : i = w10.heap.size := h; omega)
    have D_ := D.ev t4.e (fun i hi => show ¬ (i = w10.heap.size) by have := hvl i hi; omega)
    have b4_ := b4.ev t4.e (show ¬ (w.heap.size = w10.heap.size) by omega)
    have G_ := G.ev t4.e (fun i hi => show ¬ (i = w10.heap.size) by have := lG_1 i hi; omega)
    have b11_ := b11.ev t4.e (show ¬ (w4.heap.size = w10.heap.size) by omega)
    have PO_ := PO.ev t4.e (fun i hi => show ¬ (i = w10.heap.size) by have := lPO_1 i hi; omega)
    have b13_ := b13.ev t4.e (show ¬ (w7.heap.size = w10.heap.size) by omega)
    replace BL := BL_; clear BL_
    replace D := D_; clear D_
    replace b4 := b4_; clear b4_
    replace G := G_; clear G_
    replace b11 := b11_; clear b11_
    replace PO := PO_; clear PO_
    replace b13 := b13_; clear b13_
    replace b15 : Blk .u8 w18 w10.heap.size 37 (nn (mroot tab H es)) := t4.c
    clear t4
    refine ze 10 ⟨BL, D, b4, G, b11, PO, b13, by omega⟩ ?_
    refine zv 11 16 (.int .i64 0) (fun _ _ => .of) ⟨BL, D, b4, G, b11, PO, b13, by omega⟩ ?_
    simp only [List.set_cons_zero, List.set_cons_succ]
    refine zd (by kernel_rfl) ?_ _
    refine hK6 _ _ ?_
    refine wp_seq_k fun K8 hK8 => ?_
    refine cPlain ?_
    refine sv 44 (.int .i64 0) .of ?_
    simp only [List.set_cons_zero, List.set_cons_succ]
    refine sv 45 (.int .i64 0) .of ?_
    simp only [List.set_cons_zero, List.set_cons_succ]
    refine sv 46 (.int .i64 (0 + 0)) (Val.add 67 _ (.tmp 44) (.tmp 45) rfl 0 0 (by kernel_rfl) (by kernel_rfl) (by omega)) ?_
    simp only [List.set_cons_zero, List.set_cons_succ]
    refine sv 47 (.int .i64 0) .of ?_
    simp only [List.set_cons_zero, List.set_cons_succ]
    refine sv 48 (.int .i64 ((0 + 0) + 0)) (Val.add 67 _ (.tmp 46) (.tmp 47) rfl (0 + 0) 0 (by kernel_rfl) (by kernel_rfl) (by omega)) ?_
    simp only [List.set_cons_zero, List.set_cons_succ]
    refine sv 49 (.bool true) .of ?_
    simp only [List.set_cons_zero, List.set_cons_succ]
    refine sv 50 (.bool true) .of ?_
    simp only [List.set_cons_zero, List.set_cons_succ]
    refine sv 51 (.agg (cellsOf .u8 (nn (mroot tab H es)))) (Val.blk 37 _ rfl 0 32 (by kernel_rfl) b15 _ Try.underlying37 rfl (by kernel_rfl) (by (try simp only [nn_len, List.length_cons, List.length_nil, List.length_set, List.length_replicate]); try omega) _ (seg_all' _ (by (try simp only [nn_len, List.length_cons, List.length_nil, List.length_set, List.length_replicate]); try omega))) ?_
    simp only [List.set_cons_zero, List.set_cons_succ]
    refine sv 52 (.agg (cellsOf .u8 (nn (mroot tab H es)))) (Val.blk 37 _ rfl 0 32 (by kernel_rfl) b11 _ Try.underlying37 rfl (by kernel_rfl) (by (try simp only [nn_len, List.length_cons, List.length_nil, List.length_set, List.length_replicate]); try omega) _ (seg_all' _ (by (try simp only [nn_len, List.length_cons, List.length_nil, List.length_set, List.length_replicate]); try omega))) ?_
    simp only [List.set_cons_zero, List.set_cons_succ]
    refine sv 53 (.bool true) (Val.eqA .eql 37 _ (.tmp 51) (.tmp 52) rfl Try.underlying37 Try.underlying5 (by kernel_rfl) (by kernel_rfl) (nn (mroot tab H es)) (nn (mroot tab H es)) (by kernel_rfl) (by kernel_rfl) (by rw [nn_len]; exact hrl) (by rw [nn_len]; exact hrl) (.inl rfl) true (by simp)) ?_
    simp only [List.set_cons_zero, List.set_cons_succ]
    refine sv 54 (.bool true) .of ?_
    simp only [List.set_cons_zero, List.set_cons_succ]
    refine sv 55 (.bool true) .of ?_
    simp only [List.set_cons_zero, List.set_cons_succ]
    refine sv 56 (.agg #[.int .i64 ((kk : Nat) : Int), .slice pA H pC]) (Val.cel 66 _ rfl 0 2 (by kernel_rfl) b13 _ Try.underlying66 rfl (by kernel_rfl) (by simp) [.int .i64 ((kk : Nat) : Int), .slice pA H pC] rfl) ?_
    simp only [List.set_cons_zero, List.set_cons_succ]
    refine xCall 57 47 #[.agg #[.int .i64 ((kk : Nat) : Int), .slice pA H pC]] (by kernel_rfl) ?_
    refine (mright_any ((kk : Nat) : Int) pA H pC w18).mono ?_
    rintro en w19 ⟨he, hb1⟩
    rw [hR] at he
    subst he
    have e10 := belE0 hb1
    have ze10 := e10.size
    replace BL := BL.e0 e10
    replace D := D.e0 e10
    replace b4 := b4.e0 e10
    replace G := G.e0 e10
    replace b11 := b11.e0 e10
    replace PO := PO.e0 e10
    replace b13 := b13.e0 e10
    replace b15 := b15.e0 e10
    clear e10
    refine ⟨.bool true, rfl, ?_⟩
    simp only [List.set_cons_zero, List.set_cons_succ]
    refine sv 58 (.bool true) .of ?_
    simp only [List.set_cons_zero, List.set_cons_succ]
    refine sv 59 (.bool true) .of ?_
    simp only [List.set_cons_zero, List.set_cons_succ]
    refine sv 60 (.pointer (some ⟨w7.heap.size, 0, none⟩)) .of ?_
    simp only [List.set_cons_zero, List.set_cons_succ]
    refine sv 61 (.int .i64 ((kk : Nat) : Int)) (Val.cel1 3 _ rfl w7.heap.size 0 _ (by kernel_rfl) (fun _ => (by kernel_rfl)) b13 rfl) ?_
    simp only [List.set_cons_zero, List.set_cons_succ]
    refine sv 62 (.int .i64 ((kk : Nat) : Int)) .of ?_
    simp only [List.set_cons_zero, List.set_cons_succ]
    refine sv 63 (.bool true) (Val.cmp .eql 3 _ (.tmp 61) (.tmp 62) rfl .i64 ((kk : Nat) : Int) ((kk : Nat) : Int) (by kernel_rfl) (by kernel_rfl) (by simp) _ (by simp [cmpB])) ?_
    simp only [List.set_cons_zero, List.set_cons_succ]
    refine sv 64 (.bool true) .of ?_
    simp only [List.set_cons_zero, List.set_cons_succ]
    refine sv 65 (.bool true) .of ?_
    simp only [List.set_cons_zero, List.set_cons_succ]
    refine sv 66 (.pointer (some ⟨w7.heap.size, 1, none⟩)) .of ?_
    simp only [List.set_cons_zero, List.set_cons_succ]
    refine sv 67 (.slice pA H pC) (Val.cel1 63 _ rfl w7.heap.size 1 _ (by kernel_rfl) (fun _ => (by kernel_rfl)) b13 rfl) ?_
    simp only [List.set_cons_zero, List.set_cons_succ]
    refine sv 68 (.int .i64 (H : Int)) .of ?_
    simp only [List.set_cons_zero, List.set_cons_succ]
    refine sv 69 (.int .u8 ((hb : Nat) : Int)) .of ?_
    simp only [List.set_cons_zero, List.set_cons_succ]
    refine sv 70 (.int .u8 ((H : Nat) : Int)) (Val.asN (Val.remN 5 _ (.tmp 69) _ rfl .u8 hb 6 (by kernel_rfl) (by kernel_rfl) (by omega)) hH) ?_
    simp only [List.set_cons_zero, List.set_cons_succ]
    refine sv 71 (.int .i64 ((H : Nat) : Int)) (Val.conv64 5 3 (.tmp 70) rfl Try.underlying5 Try.underlying3 ((H : Nat) : Int) (by kernel_rfl) (by omega)) ?_
    simp only [List.set_cons_zero, List.set_cons_succ]
    refine sv 72 (.bool true) (Val.cmp .eql 3 _ (.tmp 68) (.tmp 71) rfl .i64 (H : Int) ((H : Nat) : Int) (by kernel_rfl) (by kernel_rfl) (by simp) _ (by simp [cmpB])) ?_
    simp only [List.set_cons_zero, List.set_cons_succ]
    refine sv 73 (.bool true) .of ?_
    simp only [List.set_cons_zero, List.set_cons_succ]
    refine sv 74 (.bool true) .of ?_
    simp only [List.set_cons_zero, List.set_cons_succ]
    refine xCall 75 41 #[] (by kernel_rfl) ?_
    refine (awake10 w19).mono ?_
    rintro en w20 ⟨rfl, hb1⟩
    have e11 := belE0 hb1
    have ze11 := e11.size
    replace BL := BL.e0 e11
    replace D := D.e0 e11
    replace b4 := b4.e0 e11
    replace G := G.e0 e11
    replace b11 := b11.e0 e11
    replace PO := PO.e0 e11
    replace b13 := b13.e0 e11
    replace b15 := b15.e0 e11
    clear e11
    refine ⟨.bool true, rfl, ?_⟩
    simp only [List.set_cons_zero, List.set_cons_succ]
    refine sv 76 (.bool true) .of ?_
    simp only [List.set_cons_zero, List.set_cons_succ]
    refine sv 8 (.bool true) .of ?_
    simp only [List.set_cons_zero, List.set_cons_succ]
    refine wpList_nil ?_
    refine hK8 _ _ ?_
    refine wp_ret ?_
    (try simp only [Exit.then, Exit.inBlock])
    refine bodyPost_ret (v := .bool true) rT rfl ?_
    exact ⟨rfl, BL.b⟩

theorem merkleClimbs_any (w : World) (x0 : List Value) (R0 : RInts .u32 72 w x0) (v1 : Value) (es1 : List (List Int)) (D1 : SE .u8 32 w v1 es1) (w1 : ∀ y ∈ es1, ∀ n ∈ y, (Lit.int .u8 n).wf = true) (t : Int) (h2 : 0 ≤ t ∧ t ≤ 255) (leaf : Int) (h3 : -9223372036854775808 ≤ leaf ∧ leaf ≤ 9223372036854775807) :
    Calls Try.prog 8 #[.agg x0.toArray, v1, .int .u8 t, .int .i64 leaf] w fun e w' => e = .returned (.bool true) ∧ Below w.heap.size w w' := by
  obtain ⟨tab, ht, rfl, _⟩ := rints32 R0
  obtain ⟨l, rfl, _⟩ := nnd_of w1
  obtain ⟨c, rfl⟩ : ∃ c : Nat, t = (c : Int) := ⟨t.toNat, by omega⟩
  exact merkleClimbs_walk tab ht w v1 l D1 c (by omega) leaf
end Go.Proofs.Yteaijjefbadnbaa
