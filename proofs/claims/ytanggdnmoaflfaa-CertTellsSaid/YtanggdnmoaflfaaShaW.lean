/-
  sha.Write, sha.Sum, sha.Of.
-/
import Derived.Test.YtanggdnmoaflfaaShaG
namespace Go.Proofs.Ytanggdnmoaflfaa
open Go.RowKit
set_option linter.unusedVariables false
set_option linter.unusedSimpArgs false
set_option maxRecDepth 100000
attribute [local irreducible] wpList Code.wp wpAnyZ
theorem SV.ofCel {w : World} {g : Nat} {t : TypeId} {us : List Value} (h : Cel w g t us) {n : Nat} (hn : us.length = n) (hm : n ≤ maxLen) : SV w (.slice (some ⟨g, 0, none⟩) n n) us := by
  subst hn
  refine .inr ⟨g, 0, _, rfl, Nat.le_refl _, hm, h.lt, fun j hj => ?_⟩
  rw [Nat.zero_add]
  exact h.cell j _ (by rw [List.getD_eq_getElem?_getD, List.getElem?_eq_getElem hj]; rfl)
theorem SLs.pairW {k : IntKind} {B : Nat} {w : World} {u v : Value} {x y : List Int} (h : SL k w u x) (hl : ∀ g, u.ownBlock = some g → g < B) (h' : SL k w v y) (hl' : ∀ g, v.ownBlock = some g → g < B) : SLs k B w [u, v] [x, y] := ⟨⟨h, hl⟩, ⟨h', hl'⟩, trivial⟩
theorem rightN_iff {k : Nat} {n : Int} : rightN k n = true ↔ 0 ≤ n ∧ n ≤ 72057594037927936 ∧ (k : Int) = n % 64 := by unfold rightN; exact decide_eq_true_iff
theorem flat2 {α : Type} (a b : List α) : [a, b].flatten = a ++ b := by simp

theorem write_right' (T : Nat) (tab r ns : List Nat) (y0 y1 y2 y3 y4 y5 y6 y7 : Nat) (A A2 : Option Addr) (C C2 : Nat) (L : Int) (ht : tab.length = 72) (w : World) (TB : Blk .u32 w T 35 (nn tab)) (R : SL .u8 w (.slice A (nn r).length C) (nn r)) (D : SL .u8 w (.slice A2 (nn ns).length C2) (nn ns))
    (hR : rightN r.length L = true) (hl : r.length + ns.length ≤ 140737488355328) :
    Calls Try.prog 102 #[.pointer (some ⟨T, 0, none⟩), hashV [y0, y1, y2, y3, y4, y5, y6, y7] (.slice A (nn r).length C) L, .slice A2 (nn ns).length C2] w fun e w' => ∃ u, e = .returned (hashV (goB tab [y0, y1, y2, y3, y4, y5, y6, y7] (r ++ ns) ((r ++ ns).length / 64)) u (L + ns.length)) ∧ Own 5 .u8 w.heap.size w' u (nn ((r ++ ns).drop (64 * ((r ++ ns).length / 64)))) ∧ Below w.heap.size w w' := by
  have BL := Bl.refl w
  have hT := TB.lt
  have hrl := R.lt
  have hdl := D.lt
  have hR2 := rightN_iff.1 hR
  have hln := nn_len ns
  have hlr := nn_len r
  go_enter Try.func102, Try.ntmps102
  refine wp_seq_k fun K1 hK1 => ?_
  refine cPlain ?_
  refine xBox 4 142 _ [.int .u32 ((y0 : Nat) : Int), .int .u32 ((y1 : Nat) : Int), .int .u32 ((y2 : Nat) : Int), .int .u32 ((y3 : Nat) : Int), .int .u32 ((y4 : Nat) : Int), .int .u32 ((y5 : Nat) : Int), .int .u32 ((y6 : Nat) : Int), .int .u32 ((y7 : Nat) : Int), .slice A (nn r).length C, .int .i64 L] rfl (by kernel_rfl) ?_
  intro w1 n1
  have zn1 := n1.z
  have b4 := n1.c
  replace TB := TB.e0 n1.e
  replace BL := BL.e0 n1.e
  replace R := R.e0 n1.e
  replace D := D.e0 n1.e
  simp only [sZ, sS]
  refine xAlloc 6 142 [.int .u32 0, .int .u32 0, .int .u32 0, .int .u32 0, .int .u32 0, .int .u32 0, .int .u32 0, .int .u32 0, .slice none 0 0, .int .i64 0] rfl (by kernel_rfl) ?_
  intro w2 n2
  have zn2 := n2.z
  have b6 := n2.c
  replace TB := TB.e0 n2.e
  replace BL := BL.e0 n2.e
  replace R := R.e0 n2.e
  replace D := D.e0 n2.e
  replace b4 := b4.e0 n2.e
  simp only [sZ, sS]
  refine wpList_nil ?_
  refine hK1 _ _ ?_
  refine wp_seq_k fun K2 hK2 => ?_
  refine wp_seq_k fun K3 hK3 => ?_
  refine cPlain ?_
  refine sv 10 (.pointer (some ⟨T, 0, none⟩)) .of ?_
  simp only [sZ, sS]
  refine sv 11 (.bool false) .of ?_
  simp only [sZ, sS]
  refine sv 12 (.bool false) .of ?_
  simp only [sZ, sS]
  refine sv 13 (.agg #[.int .u32 ((y0 : Nat) : Int), .int .u32 ((y1 : Nat) : Int), .int .u32 ((y2 : Nat) : Int), .int .u32 ((y3 : Nat) : Int), .int .u32 ((y4 : Nat) : Int), .int .u32 ((y5 : Nat) : Int), .int .u32 ((y6 : Nat) : Int), .int .u32 ((y7 : Nat) : Int), .slice A (nn r).length C, .int .i64 L]) (Val.cel 142 _ rfl 0 10 (by kernel_rfl) b4 _ Try.underlying142 rfl (by kernel_rfl) (by simp) [.int .u32 ((y0 : Nat) : Int), .int .u32 ((y1 : Nat) : Int), .int .u32 ((y2 : Nat) : Int), .int .u32 ((y3 : Nat) : Int), .int .u32 ((y4 : Nat) : Int), .int .u32 ((y5 : Nat) : Int), .int .u32 ((y6 : Nat) : Int), .int .u32 ((y7 : Nat) : Int), .slice A (nn r).length C, .int .i64 L] rfl) ?_
  simp only [sZ, sS]
  refine xCall 14 110 #[.agg #[.int .u32 ((y0 : Nat) : Int), .int .u32 ((y1 : Nat) : Int), .int .u32 ((y2 : Nat) : Int), .int .u32 ((y3 : Nat) : Int), .int .u32 ((y4 : Nat) : Int), .int .u32 ((y5 : Nat) : Int), .int .u32 ((y6 : Nat) : Int), .int .u32 ((y7 : Nat) : Int), .slice A (nn r).length C, .int .i64 L]] (by kernel_rfl) ?_
  refine (right_any [y0, y1, y2, y3, y4, y5, y6, y7] rfl A (nn r).length C L w2).mono ?_
  rintro en w3 ⟨he, hb1⟩
  rw [hlr, hR] at he
  subst he
  have e1 := belE0 hb1
  have ze1 := e1.size
  replace TB := TB.e0 e1
  replace BL := BL.e0 e1
  replace R := R.e0 e1
  replace D := D.e0 e1
  replace b4 := b4.e0 e1
  replace b6 := b6.e0 e1
  clear e1
  refine ⟨.bool true, rfl, ?_⟩
  simp only [sZ, sS]
  refine sv 15 (.bool false) .of ?_
  simp only [sZ, sS]
  refine sv 16 (.bool false) .of ?_
  simp only [sZ, sS]
  refine wpList_nil ?_
  refine hK3 _ _ ?_
  refine cF ?_
  refine wp_skip ?_
  refine hK2 _ _ ?_
  refine wp_seq_k fun K4 hK4 => ?_
  refine cPlain ?_
  refine sv 18 (.pointer (some ⟨w.heap.size, 8, none⟩)) .of ?_
  simp only [sZ, sS]
  refine sv 19 (.slice A (nn r).length C) (Val.cel1 29 _ rfl w.heap.size 8 _ (by kernel_rfl) (fun _ => (by kernel_rfl)) b4 rfl) ?_
  simp only [sZ, sS]
  refine sv 20 (.slice A2 (nn ns).length C2) .of ?_
  simp only [sZ, sS]
  refine xLit 21 99 29 2 _ #[(0, .slice A (nn r).length C), (1, .slice A2 (nn ns).length C2)] [.slice A (nn r).length C, .slice A2 (nn ns).length C2] rfl (by kernel_rfl) (by kernel_rfl) ?_
  intro w4 n3
  have zn3 := n3.z
  have b21 := n3.c
  replace TB := TB.e0 n3.e
  replace BL := BL.e0 n3.e
  replace R := R.e0 n3.e
  replace D := D.e0 n3.e
  replace b4 := b4.e0 n3.e
  replace b6 := b6.e0 n3.e
  simp only [sZ, sS]
  refine xCall 22 112 #[.slice (some ⟨w3.heap.size, 0, none⟩) 2 2] (by kernel_rfl) ?_
  have hz1 := BL.z
  refine (concatB_any _ [.slice A (nn r).length C, .slice A2 (nn ns).length C2] [nn r, nn ns] w4 (SV.ofCel (n := 2) b21 rfl (by unfold maxLen; omega)) (SLs.pairW R (fun i hi => by have := hrl i hi; omega) D (fun i hi => by have := hdl i hi; omega)) (by rw [flat2, List.length_append]; omega)).mono ?_
  rintro en w5 ⟨v1, rfl, hO, hb1⟩
  have e2 := belE0 hb1
  have ze2 := e2.size
  replace TB := TB.e0 e2
  replace BL := BL.e0 e2
  replace R := R.e0 e2
  replace D := D.e0 e2
  replace b4 := b4.e0 e2
  replace b6 := b6.e0 e2
  replace b21 := b21.e0 e2
  clear e2
  have OA : Own 5 .u8 w4.heap.size w5 v1 (nn (r ++ ns)) := hO.cast (by rw [flat2, nn_app])
  have lOA_1 := OA.ge
  refine ⟨v1, rfl, ?_⟩
  simp only [sZ, sS]
  refine sv 7 (v1) .of ?_
  simp only [sZ, sS]
  refine wpList_nil ?_
  refine hK4 _ _ ?_
  refine wp_seq_k fun K5 hK5 => ?_
  refine cPlain ?_
  refine sv 24 (.pointer (some ⟨T, 0, none⟩)) .of ?_
  simp only [sZ, sS]
  refine sv 25 (.pointer (some ⟨w.heap.size, 0, none⟩)) .of ?_
  simp only [sZ, sS]
  refine sv 26 (.agg (cellsOf .u32 (nn [y0, y1, y2, y3, y4, y5, y6, y7]))) (Val.cel 32 _ rfl 0 8 (by kernel_rfl) b4 _ Try.underlying32 rfl (by kernel_rfl) (by simp) ((nn [y0, y1, y2, y3, y4, y5, y6, y7]).map (Value.int .u32)) rfl) ?_
  simp only [sZ, sS]
  refine sv 27 (v1) .of ?_
  simp only [sZ, sS]
  refine xCall 28 111 #[.pointer (some ⟨T, 0, none⟩), .agg (cellsOf .u32 (nn [y0, y1, y2, y3, y4, y5, y6, y7])), v1] (by kernel_rfl) ?_
  refine (blocks_any T tab [y0, y1, y2, y3, y4, y5, y6, y7] (r ++ ns) v1 ht rfl w5 TB OA.sl).mono ?_
  rintro en w6 ⟨u, he, ⟨hu1, hu2⟩, hb1⟩
  obtain ⟨q0, q1, q2, q3, q4, q5, q6, q7, hq⟩ := list8 (goB tab [y0, y1, y2, y3, y4, y5, y6, y7] (r ++ ns) ((r ++ ns).length / 64)) (goB_len _ _ _ rfl _)
  rw [hq] at he
  subst he
  have e3 := belE0 hb1
  have ze3 := e3.size
  replace TB := TB.e0 e3
  replace BL := BL.e0 e3
  replace R := R.e0 e3
  replace D := D.e0 e3
  replace b4 := b4.e0 e3
  replace b6 := b6.e0 e3
  replace b21 := b21.e0 e3
  replace OA := OA.e0 e3
  clear e3
  have U : SL .u8 w6 u (nn ((r ++ ns).drop (64 * ((r ++ ns).length / 64)))) := hu1
  refine ⟨.tuple #[.agg (cellsOf .u32 (nn [q0, q1, q2, q3, q4, q5, q6, q7])), u], rfl, ?_⟩
  simp only [sZ, sS]
  refine sv 23 (.tuple #[.agg (cellsOf .u32 (nn [q0, q1, q2, q3, q4, q5, q6, q7])), u]) .of ?_
  simp only [sZ, sS]
  refine sv 29 (.agg (cellsOf .u32 (nn [q0, q1, q2, q3, q4, q5, q6, q7]))) .of ?_
  simp only [sZ, sS]
  refine sv 30 (u) .of ?_
  simp only [sZ, sS]
  refine xAlloc 8 32 ((nn (List.replicate 8 0)).map (Value.int .u32)) rfl (by kernel_rfl) ?_
  intro w7 n4
  have zn4 := n4.z
  have b8 := n4.c
  replace b8 : Blk .u32 w7 w6.heap.size 32 (nn (List.replicate 8 0)) := b8
  replace TB := TB.e0 n4.e
  replace BL := BL.e0 n4.e
  replace R := R.e0 n4.e
  replace D := D.e0 n4.e
  replace b4 := b4.e0 n4.e
  replace b6 := b6.e0 n4.e
  replace b21 := b21.e0 n4.e
  replace OA := OA.e0 n4.e
  replace U := U.e0 n4.e
  simp only [sZ, sS]
  refine xStoreA 32 (.tmp 8) (.tmp 29) rfl .u32 w6.heap.size 32 (nn (List.replicate 8 0)) 0 (nn [q0, q1, q2, q3, q4, q5, q6, q7]) (by kernel_rfl) (by kernel_rfl) b8 (by rw [show (nn [q0, q1, q2, q3, q4, q5, q6, q7]).length = 8 by ((try simp only [nn_len, List.length_cons, List.length_nil, List.length_set, List.length_replicate]); try omega)]; kernel_rfl) (by (try simp only [nn_len, List.length_cons, List.length_nil, List.length_set, List.length_replicate]); try omega) (nn [q0, q1, q2, q3, q4, q5, q6, q7]) (over_whole _ _ (by (try simp only [nn_len, List.length_cons, List.length_nil, List.length_set, List.length_replicate]); try omega)) ?_
  intro w8 t1
  have zt1 := t1.z
  have TB_ := TB.ev t1.e (show ¬ (T = w6.heap.size) by omega)
  have BL_ := BL.ev t1.e (fun i h => show w.heap.size ≤ i by have h : i = w6.heap.size := h; omega)
  have R_ := R.ev t1.e (fun i hi => show ¬ (i = w6.heap.size) by have := hrl i hi; omega)
  have D_ := D.ev t1.e (fun i hi => show ¬ (i = w6.heap.size) by have := hdl i hi; omega)
  have b4_ := b4.ev t1.e (show ¬ (w.heap.size = w6.heap.size) by omega)
  have b6_ := b6.ev t1.e (show ¬ (w1.heap.size = w6.heap.size) by omega)
  have b21_ := b21.ev t1.e (show ¬ (w3.heap.size = w6.heap.size) by omega)
  have OA_ := OA.ev t1.e (fun i hi => show ¬ (i = w6.heap.size) by have := lOA_1 i hi; omega)
  have U_ := U.ev t1.e (fun i hi => show ¬ (i = w6.heap.size) by have := hu2 i hi; omega)
  replace TB := TB_; clear TB_
  replace BL := BL_; clear BL_
  replace R := R_; clear R_
  replace D := D_; clear D_
  replace b4 := b4_; clear b4_
  replace b6 := b6_; clear b6_
  replace b21 := b21_; clear b21_
  replace OA := OA_; clear OA_
  replace U := U_; clear U_
  replace b8 : Blk .u32 w8 w6.heap.size 32 (nn [q0, q1, q2, q3, q4, q5, q6, q7]) := t1.c
  clear t1
  refine sv 9 (u) .of ?_
  simp only [sZ, sS]
  refine wpList_nil ?_
  refine hK5 _ _ ?_
  refine wp_seq_k fun K6 hK6 => ?_
  have e4 := drew_e0 w8
  refine zg (fun w_ => Blk .u32 w_ T 35 (nn tab) ∧ Bl w.heap.size w w_ ∧ SL .u8 w_ (.slice A (nn r).length C) (nn r) ∧ SL .u8 w_ (.slice A2 (nn ns).length C2) (nn ns) ∧ Cel w_ w.heap.size 142 [.int .u32 ((y0 : Nat) : Int), .int .u32 ((y1 : Nat) : Int), .int .u32 ((y2 : Nat) : Int), .int .u32 ((y3 : Nat) : Int), .int .u32 ((y4 : Nat) : Int), .int .u32 ((y5 : Nat) : Int), .int .u32 ((y6 : Nat) : Int), .int .u32 ((y7 : Nat) : Int), .slice A (nn r).length C, .int .i64 L] ∧ Cel w_ w1.heap.size 142 [.int .u32 0, .int .u32 0, .int .u32 0, .int .u32 0, .int .u32 0, .int .u32 0, .int .u32 0, .int .u32 0, .slice none 0 0, .int .i64 0] ∧ Cel w_ w3.heap.size 29 [.slice A (nn r).length C, .slice A2 (nn ns).length C2] ∧ Own 5 .u8 w4.heap.size w_ v1 (nn (r ++ ns)) ∧ SL .u8 w_ u (nn ((r ++ ns).drop (64 * ((r ++ ns).length / 64)))) ∧ Blk .u32 w_ w6.heap.size 32 (nn [q0, q1, q2, q3, q4, q5, q6, q7]) ∧ w8.heap.size ≤ w_.heap.size) (fun w_ => Blk .u32 w_ T 35 (nn tab) ∧ Bl w.heap.size w w_ ∧ SL .u8 w_ (.slice A (nn r).length C) (nn r) ∧ SL .u8 w_ (.slice A2 (nn ns).length C2) (nn ns) ∧ Cel w_ w.heap.size 142 [.int .u32 ((y0 : Nat) : Int), .int .u32 ((y1 : Nat) : Int), .int .u32 ((y2 : Nat) : Int), .int .u32 ((y3 : Nat) : Int), .int .u32 ((y4 : Nat) : Int), .int .u32 ((y5 : Nat) : Int), .int .u32 ((y6 : Nat) : Int), .int .u32 ((y7 : Nat) : Int), .slice A (nn r).length C, .int .i64 L] ∧ Cel w_ w1.heap.size 142 [.int .u32 0, .int .u32 0, .int .u32 0, .int .u32 0, .int .u32 0, .int .u32 0, .int .u32 0, .int .u32 0, .slice none 0 0, .int .i64 0] ∧ Cel w_ w3.heap.size 29 [.slice A (nn r).length C, .slice A2 (nn ns).length C2] ∧ Own 5 .u8 w4.heap.size w_ v1 (nn (r ++ ns)) ∧ SL .u8 w_ u (nn ((r ++ ns).drop (64 * ((r ++ ns).length / 64)))) ∧ Blk .u32 w_ w6.heap.size 32 (nn [q0, q1, q2, q3, q4, q5, q6, q7]) ∧ w8.heap.size ≤ w_.heap.size) 9 10 ⟨TB.e0 e4, BL.e0 e4, R.e0 e4, D.e0 e4, b4.e0 e4, b6.e0 e4, b21.e0 e4, OA.e0 e4, U.e0 e4, b8.e0 e4, Nat.le_refl _⟩ ?_
  clear TB BL R D b4 b6 b21 OA U b8
  clear e4
  intro w9
  rintro ⟨TB, BL, R, D, b4, b6, b21, OA, U, b8, z1⟩
  refine zv 0 31 (.agg (cellsOf .u32 (nn [q0, q1, q2, q3, q4, q5, q6, q7]))) (fun _ ⟨TB, BL, R, D, b4, b6, b21, OA, U, b8, z1⟩ => Val.blk 32 _ rfl 0 8 (by kernel_rfl) b8 _ Try.underlying32 rfl (by kernel_rfl) (by (try simp only [nn_len, List.length_cons, List.length_nil, List.length_set, List.length_replicate]); try omega) _ (seg_all' _ (by (try simp only [nn_len, List.length_cons, List.length_nil, List.length_set, List.length_replicate]); try omega))) ⟨TB, BL, R, D, b4, b6, b21, OA, U, b8, by omega⟩ ?_
  simp only [sZ, sS]
  refine zv 1 32 (u) (fun _ _ => .of) ⟨TB, BL, R, D, b4, b6, b21, OA, U, b8, by omega⟩ ?_
  simp only [sZ, sS]
  refine zv 3 34 (.pointer (some ⟨w.heap.size, 9, none⟩)) (fun _ _ => .of) ⟨TB, BL, R, D, b4, b6, b21, OA, U, b8, by omega⟩ ?_
  simp only [sZ, sS]
  refine zv 4 35 (.int .i64 L) (fun _ ⟨TB, BL, R, D, b4, b6, b21, OA, U, b8, z1⟩ => Val.cel1 3 _ rfl w.heap.size 9 _ (by kernel_rfl) (fun _ => (by kernel_rfl)) b4 rfl) ⟨TB, BL, R, D, b4, b6, b21, OA, U, b8, by omega⟩ ?_
  simp only [sZ, sS]
  refine zv 5 36 (.slice A2 (nn ns).length C2) (fun _ _ => .of) ⟨TB, BL, R, D, b4, b6, b21, OA, U, b8, by omega⟩ ?_
  simp only [sZ, sS]
  refine zv 6 37 (.int .i64 ((nn ns).length : Int)) (fun _ _ => .of) ⟨TB, BL, R, D, b4, b6, b21, OA, U, b8, by omega⟩ ?_
  simp only [sZ, sS]
  refine zv 7 38 (.int .i64 (L + ((nn ns).length : Int))) (fun _ ⟨TB, BL, R, D, b4, b6, b21, OA, U, b8, z1⟩ => Val.add 3 _ (.tmp 35) (.tmp 37) rfl L ((nn ns).length : Int) (by kernel_rfl) (by kernel_rfl) (by omega)) ⟨TB, BL, R, D, b4, b6, b21, OA, U, b8, by omega⟩ ?_
  simp only [sZ, sS]
  refine zo1 2 rfl ?_
  refine xCall 33 84 #[u] (by kernel_rfl) ?_
  have hz2 := BL.z
  refine (cloneB_any u _ w9 U (by rw [nn_len, List.length_drop, List.length_append]; omega)).mono ?_
  rintro en w10 ⟨v2, he2, hO2, hb1⟩
  obtain ⟨A3, C3, hv2⟩ := hO2.len
  rw [hv2] at he2 hO2
  subst he2
  have e5 := belE0 hb1
  have ze5 := e5.size
  replace TB := TB.e0 e5
  replace BL := BL.e0 e5
  replace R := R.e0 e5
  replace D := D.e0 e5
  replace b4 := b4.e0 e5
  replace b6 := b6.e0 e5
  replace b21 := b21.e0 e5
  replace OA := OA.e0 e5
  replace U := U.e0 e5
  replace b8 := b8.e0 e5
  clear e5
  have OC : Own 5 .u8 w9.heap.size w10 (.slice A3 (nn ((r ++ ns).drop (64 * ((r ++ ns).length / 64)))).length C3) (nn ((r ++ ns).drop (64 * ((r ++ ns).length / 64)))) := hO2
  have lOC_1 := OC.ge
  refine ⟨.slice A3 (nn ((r ++ ns).drop (64 * ((r ++ ns).length / 64)))).length C3, rfl, ?_⟩
  refine ze 2 ⟨TB, BL, R, D, b4, b6, b21, OA, U, b8, by omega⟩ ?_
  simp only [sZ, sS]
  refine zv 8 39 (.agg #[.int .u32 ((q0 : Nat) : Int), .int .u32 ((q1 : Nat) : Int), .int .u32 ((q2 : Nat) : Int), .int .u32 ((q3 : Nat) : Int), .int .u32 ((q4 : Nat) : Int), .int .u32 ((q5 : Nat) : Int), .int .u32 ((q6 : Nat) : Int), .int .u32 ((q7 : Nat) : Int), .slice A3 (nn ((r ++ ns).drop (64 * ((r ++ ns).length / 64)))).length C3, .int .i64 (L + ((nn ns).length : Int))]) (fun _ _ => .of) ⟨TB, BL, R, D, b4, b6, b21, OA, U, b8, by omega⟩ ?_
  simp only [sZ, sS]
  refine zo1 9 rfl ?_
  refine xStoreR 142 (.tmp 6) (.tmp 39) rfl w1.heap.size 142 [.int .u32 0, .int .u32 0, .int .u32 0, .int .u32 0, .int .u32 0, .int .u32 0, .int .u32 0, .int .u32 0, .slice none 0 0, .int .i64 0] 0 [.int .u32 ((q0 : Nat) : Int), .int .u32 ((q1 : Nat) : Int), .int .u32 ((q2 : Nat) : Int), .int .u32 ((q3 : Nat) : Int), .int .u32 ((q4 : Nat) : Int), .int .u32 ((q5 : Nat) : Int), .int .u32 ((q6 : Nat) : Int), .int .u32 ((q7 : Nat) : Int), .slice A3 (nn ((r ++ ns).drop (64 * ((r ++ ns).length / 64)))).length C3, .int .i64 (L + ((nn ns).length : Int))] (by kernel_rfl) (by kernel_rfl) b6 (by kernel_rfl) (by simp) rfl [.int .u32 ((q0 : Nat) : Int), .int .u32 ((q1 : Nat) : Int), .int .u32 ((q2 : Nat) : Int), .int .u32 ((q3 : Nat) : Int), .int .u32 ((q4 : Nat) : Int), .int .u32 ((q5 : Nat) : Int), .int .u32 ((q6 : Nat) : Int), .int .u32 ((q7 : Nat) : Int), .slice A3 (nn ((r ++ ns).drop (64 * ((r ++ ns).length / 64)))).length C3, .int .i64 (L + ((nn ns).length : Int))] rfl ?_
  intro w11 t2
  have zt2 := t2.z
  have TB_ := TB.ev t2.e (show ¬ (T = w1.heap.size) by omega)
  have BL_ := BL.ev t2.e (fun i h => show w.heap.size ≤ i by have h : i = w1.heap.size := h; omega)
  have R_ := R.ev t2.e (fun i hi => show ¬ (i = w1.heap.size) by have := hrl i hi; omega)
  have D_ := D.ev t2.e (fun i hi => show ¬ (i = w1.heap.size) by have := hdl i hi; omega)
  have b4_ := b4.ev t2.e (show ¬ (w.heap.size = w1.heap.size) by omega)
  have b21_ := b21.ev t2.e (show ¬ (w3.heap.size = w1.heap.size) by omega)
  have b8_ := b8.ev t2.e (show ¬ (w6.heap.size = w1.heap.size) by omega)
  have OC_ := OC.ev t2.e (fun i hi => show ¬ (i = w1.heap.size) by have := lOC_1 i hi; omega)
  replace TB := TB_; clear TB_
  replace BL := BL_; clear BL_
  replace R := R_; clear R_
  replace D := D_; clear D_
  replace b4 := b4_; clear b4_
  replace b21 := b21_; clear b21_
  replace b8 := b8_; clear b8_
  replace OC := OC_; clear OC_
  replace b6 : Cel w11 w1.heap.size 142 [.int .u32 ((q0 : Nat) : Int), .int .u32 ((q1 : Nat) : Int), .int .u32 ((q2 : Nat) : Int), .int .u32 ((q3 : Nat) : Int), .int .u32 ((q4 : Nat) : Int), .int .u32 ((q5 : Nat) : Int), .int .u32 ((q6 : Nat) : Int), .int .u32 ((q7 : Nat) : Int), .slice A3 (nn ((r ++ ns).drop (64 * ((r ++ ns).length / 64)))).length C3, .int .i64 (L + ((nn ns).length : Int))] := t2.c
  clear t2
  refine zz 9 ?_
  refine zd (by kernel_rfl) ?_ _
  refine hK6 _ _ ?_
  refine wp_ret ?_
  (try simp only [Exit.then, Exit.inBlock])
  refine bodyPost_ret (rC rfl _ w1.heap.size _ _ (by kernel_rfl) b6 _ Try.underlying142 rfl (by kernel_rfl)) rfl ?_
  rw [hq]
  refine ⟨_, ?_, OC.mono (by omega), BL.b⟩
  rw [← hln]
  rfl

theorem write_wrong' (T : Nat) (tab r : List Nat) (y0 y1 y2 y3 y4 y5 y6 y7 : Nat) (bv : Value) (A : Option Addr) (C : Nat) (L : Int) (w : World) (TB : Blk .u32 w T 35 (nn tab)) 
    (hR : rightN r.length L = false) :
    Calls Try.prog 102 #[.pointer (some ⟨T, 0, none⟩), hashV [y0, y1, y2, y3, y4, y5, y6, y7] (.slice A (nn r).length C) L, bv] w fun e w' => e = .returned (hashV [y0, y1, y2, y3, y4, y5, y6, y7] (.slice A (nn r).length C) L) ∧ Below w.heap.size w w' := by
  have BL := Bl.refl w
  have hT := TB.lt
  have hlr := nn_len r
  go_enter Try.func102, Try.ntmps102
  refine wp_seq_k fun K1 hK1 => ?_
  refine cPlain ?_
  refine xBox 4 142 _ [.int .u32 ((y0 : Nat) : Int), .int .u32 ((y1 : Nat) : Int), .int .u32 ((y2 : Nat) : Int), .int .u32 ((y3 : Nat) : Int), .int .u32 ((y4 : Nat) : Int), .int .u32 ((y5 : Nat) : Int), .int .u32 ((y6 : Nat) : Int), .int .u32 ((y7 : Nat) : Int), .slice A (nn r).length C, .int .i64 L] rfl (by kernel_rfl) ?_
  intro w1 n1
  have zn1 := n1.z
  have b4 := n1.c
  replace TB := TB.e0 n1.e
  replace BL := BL.e0 n1.e
  simp only [sZ, sS]
  refine xAlloc 6 142 [.int .u32 0, .int .u32 0, .int .u32 0, .int .u32 0, .int .u32 0, .int .u32 0, .int .u32 0, .int .u32 0, .slice none 0 0, .int .i64 0] rfl (by kernel_rfl) ?_
  intro w2 n2
  have zn2 := n2.z
  have b6 := n2.c
  replace TB := TB.e0 n2.e
  replace BL := BL.e0 n2.e
  replace b4 := b4.e0 n2.e
  simp only [sZ, sS]
  refine wpList_nil ?_
  refine hK1 _ _ ?_
  refine wp_seq_k fun K2 hK2 => ?_
  refine wp_seq_k fun K3 hK3 => ?_
  refine cPlain ?_
  refine sv 10 (.pointer (some ⟨T, 0, none⟩)) .of ?_
  simp only [sZ, sS]
  refine sv 11 (.bool false) .of ?_
  simp only [sZ, sS]
  refine sv 12 (.bool false) .of ?_
  simp only [sZ, sS]
  refine sv 13 (.agg #[.int .u32 ((y0 : Nat) : Int), .int .u32 ((y1 : Nat) : Int), .int .u32 ((y2 : Nat) : Int), .int .u32 ((y3 : Nat) : Int), .int .u32 ((y4 : Nat) : Int), .int .u32 ((y5 : Nat) : Int), .int .u32 ((y6 : Nat) : Int), .int .u32 ((y7 : Nat) : Int), .slice A (nn r).length C, .int .i64 L]) (Val.cel 142 _ rfl 0 10 (by kernel_rfl) b4 _ Try.underlying142 rfl (by kernel_rfl) (by simp) [.int .u32 ((y0 : Nat) : Int), .int .u32 ((y1 : Nat) : Int), .int .u32 ((y2 : Nat) : Int), .int .u32 ((y3 : Nat) : Int), .int .u32 ((y4 : Nat) : Int), .int .u32 ((y5 : Nat) : Int), .int .u32 ((y6 : Nat) : Int), .int .u32 ((y7 : Nat) : Int), .slice A (nn r).length C, .int .i64 L] rfl) ?_
  simp only [sZ, sS]
  refine xCall 14 110 #[.agg #[.int .u32 ((y0 : Nat) : Int), .int .u32 ((y1 : Nat) : Int), .int .u32 ((y2 : Nat) : Int), .int .u32 ((y3 : Nat) : Int), .int .u32 ((y4 : Nat) : Int), .int .u32 ((y5 : Nat) : Int), .int .u32 ((y6 : Nat) : Int), .int .u32 ((y7 : Nat) : Int), .slice A (nn r).length C, .int .i64 L]] (by kernel_rfl) ?_
  refine (right_any [y0, y1, y2, y3, y4, y5, y6, y7] rfl A (nn r).length C L w2).mono ?_
  rintro en w3 ⟨he, hb1⟩
  rw [hlr, hR] at he
  subst he
  have e1 := belE0 hb1
  have ze1 := e1.size
  replace TB := TB.e0 e1
  replace BL := BL.e0 e1
  replace b4 := b4.e0 e1
  replace b6 := b6.e0 e1
  clear e1
  refine ⟨.bool false, rfl, ?_⟩
  simp only [sZ, sS]
  refine sv 15 (.bool true) .of ?_
  simp only [sZ, sS]
  refine sv 16 (.bool true) .of ?_
  simp only [sZ, sS]
  refine wpList_nil ?_
  refine hK3 _ _ ?_
  refine cT ?_
  refine wp_seq_k fun K4 hK4 => ?_
  refine cPlain ?_
  refine sv 17 (.agg #[.int .u32 ((y0 : Nat) : Int), .int .u32 ((y1 : Nat) : Int), .int .u32 ((y2 : Nat) : Int), .int .u32 ((y3 : Nat) : Int), .int .u32 ((y4 : Nat) : Int), .int .u32 ((y5 : Nat) : Int), .int .u32 ((y6 : Nat) : Int), .int .u32 ((y7 : Nat) : Int), .slice A (nn r).length C, .int .i64 L]) (Val.cel 142 _ rfl 0 10 (by kernel_rfl) b4 _ Try.underlying142 rfl (by kernel_rfl) (by simp) [.int .u32 ((y0 : Nat) : Int), .int .u32 ((y1 : Nat) : Int), .int .u32 ((y2 : Nat) : Int), .int .u32 ((y3 : Nat) : Int), .int .u32 ((y4 : Nat) : Int), .int .u32 ((y5 : Nat) : Int), .int .u32 ((y6 : Nat) : Int), .int .u32 ((y7 : Nat) : Int), .slice A (nn r).length C, .int .i64 L] rfl) ?_
  simp only [sZ, sS]
  refine xStoreR 142 (.tmp 6) (.tmp 17) rfl w1.heap.size 142 [.int .u32 0, .int .u32 0, .int .u32 0, .int .u32 0, .int .u32 0, .int .u32 0, .int .u32 0, .int .u32 0, .slice none 0 0, .int .i64 0] 0 [.int .u32 ((y0 : Nat) : Int), .int .u32 ((y1 : Nat) : Int), .int .u32 ((y2 : Nat) : Int), .int .u32 ((y3 : Nat) : Int), .int .u32 ((y4 : Nat) : Int), .int .u32 ((y5 : Nat) : Int), .int .u32 ((y6 : Nat) : Int), .int .u32 ((y7 : Nat) : Int), .slice A (nn r).length C, .int .i64 L] (by kernel_rfl) (by kernel_rfl) b6 (by kernel_rfl) (by simp) rfl [.int .u32 ((y0 : Nat) : Int), .int .u32 ((y1 : Nat) : Int), .int .u32 ((y2 : Nat) : Int), .int .u32 ((y3 : Nat) : Int), .int .u32 ((y4 : Nat) : Int), .int .u32 ((y5 : Nat) : Int), .int .u32 ((y6 : Nat) : Int), .int .u32 ((y7 : Nat) : Int), .slice A (nn r).length C, .int .i64 L] rfl ?_
  intro w4 t1
  have zt1 := t1.z
  have TB_ := TB.ev t1.e (show ¬ (T = w1.heap.size) by omega)
  have BL_ := BL.ev t1.e (fun i h => show w.heap.size ≤ i by have h : i = w1.heap.size := h; omega)
  have b4_ := b4.ev t1.e (show ¬ (w.heap.size = w1.heap.size) by omega)
  replace TB := TB_; clear TB_
  replace BL := BL_; clear BL_
  replace b4 := b4_; clear b4_
  replace b6 : Cel w4 w1.heap.size 142 [.int .u32 ((y0 : Nat) : Int), .int .u32 ((y1 : Nat) : Int), .int .u32 ((y2 : Nat) : Int), .int .u32 ((y3 : Nat) : Int), .int .u32 ((y4 : Nat) : Int), .int .u32 ((y5 : Nat) : Int), .int .u32 ((y6 : Nat) : Int), .int .u32 ((y7 : Nat) : Int), .slice A (nn r).length C, .int .i64 L] := t1.c
  clear t1
  refine wpList_nil ?_
  refine hK4 _ _ ?_
  refine wp_ret ?_
  (try simp only [Exit.then, Exit.inBlock])
  refine bodyPost_ret (rC rfl _ w1.heap.size _ _ (by kernel_rfl) b6 _ Try.underlying142 rfl (by kernel_rfl)) rfl ?_
  exact ⟨rfl, BL.b⟩

theorem write_right (T : Nat) (tab r ns s : List Nat) (hs : s.length = 8) (v bv : Value) (L : Int) (ht : tab.length = 72) (w : World) (TB : Blk .u32 w T 35 (nn tab)) (R : SL .u8 w v (nn r)) (D : SL .u8 w bv (nn ns))
    (hR : rightN r.length L = true) (hl : r.length + ns.length ≤ 140737488355328) :
    Calls Try.prog 102 #[.pointer (some ⟨T, 0, none⟩), hashV s v L, bv] w fun e w' => ∃ u, e = .returned (hashV (goB tab s (r ++ ns) ((r ++ ns).length / 64)) u (L + ns.length)) ∧ Own 5 .u8 w.heap.size w' u (nn ((r ++ ns).drop (64 * ((r ++ ns).length / 64)))) ∧ Below w.heap.size w w' := by
  obtain ⟨a, b, c, d, e, f, g, i, rfl⟩ := list8 s hs
  obtain ⟨A, C, rfl, _⟩ := R.len
  obtain ⟨A2, C2, rfl, _⟩ := D.len
  exact write_right' T tab r ns a b c d e f g i A A2 C C2 L ht w TB R D hR hl
theorem write_wrong (T : Nat) (tab r s : List Nat) (hs : s.length = 8) (v bv : Value) (L : Int) (w : World) (TB : Blk .u32 w T 35 (nn tab)) (R : SL .u8 w v (nn r)) (hR : rightN r.length L = false) :
    Calls Try.prog 102 #[.pointer (some ⟨T, 0, none⟩), hashV s v L, bv] w fun e w' => e = .returned (hashV s v L) ∧ Below w.heap.size w w' := by
  obtain ⟨a, b, c, d, e, f, g, i, rfl⟩ := list8 s hs
  obtain ⟨A, C, rfl, _⟩ := R.len
  exact write_wrong' T tab r a b c d e f g i bv A C L w TB hR
/-- The digest of a state. -/
def digE (S : List Nat) (i : Nat) : Nat := (S.getD (i / 4) 0 >>> (24 - i % 4 * 8)) % 256
def digN (S : List Nat) : Nat → List Nat
  | 0 => List.replicate 32 0
  | i + 1 => (digN S i).set i (digE S i)
theorem digN_len (S : List Nat) : ∀ i, (digN S i).length = 32
  | 0 => by simp [digN]
  | i + 1 => by simp [digN, digN_len S i]

theorem sum_right' (T : Nat) (tab r : List Nat) (y0 y1 y2 y3 y4 y5 y6 y7 : Nat) (A : Option Addr) (C : Nat) (m : Nat) (ht : tab.length = 72) (w : World) (TB : Blk .u32 w T 35 (nn tab)) (R : SL .u8 w (.slice A (nn r).length C) (nn r))
    (hR : rightN r.length (m : Int) = true) (ST : List Nat) (hST : goB tab [y0, y1, y2, y3, y4, y5, y6, y7] (r ++ padN m) ((r ++ padN m).length / 64) = ST) :
    Calls Try.prog 101 #[.pointer (some ⟨T, 0, none⟩), hashV [y0, y1, y2, y3, y4, y5, y6, y7] (.slice A (nn r).length C) (m : Int)] w fun e w' => e = .returned (.agg (cellsOf .u8 (nn (digN ST 32)))) ∧ Below w.heap.size w w' := by
  have BL := Bl.refl w
  have hT := TB.lt
  have hrl := R.lt
  have hR2 := rightN_iff.1 hR
  have hlr := nn_len r
  have hpl := padN_len m
  have hpn := nn_len (padN m)
  have hSL : ST.length = 8 := by rw [← hST]; exact goB_len _ _ _ rfl _
  go_enter Try.func101, Try.ntmps101
  refine wp_seq_k fun K1 hK1 => ?_
  refine cPlain ?_
  refine xBox 3 142 _ [.int .u32 ((y0 : Nat) : Int), .int .u32 ((y1 : Nat) : Int), .int .u32 ((y2 : Nat) : Int), .int .u32 ((y3 : Nat) : Int), .int .u32 ((y4 : Nat) : Int), .int .u32 ((y5 : Nat) : Int), .int .u32 ((y6 : Nat) : Int), .int .u32 ((y7 : Nat) : Int), .slice A (nn r).length C, .int .i64 (m : Int)] rfl (by kernel_rfl) ?_
  intro w1 n1
  have zn1 := n1.z
  have b3 := n1.c
  replace TB := TB.e0 n1.e
  replace BL := BL.e0 n1.e
  replace R := R.e0 n1.e
  simp only [sZ, sS]
  refine xAlloc 4 23 ((nn (List.replicate 32 0)).map (Value.int .u8)) rfl (by kernel_rfl) ?_
  intro w2 n2
  have zn2 := n2.z
  have b4 := n2.c
  replace b4 : Blk .u8 w2 w1.heap.size 23 (nn (List.replicate 32 0)) := b4
  replace TB := TB.e0 n2.e
  replace BL := BL.e0 n2.e
  replace R := R.e0 n2.e
  replace b3 := b3.e0 n2.e
  simp only [sZ, sS]
  refine wpList_nil ?_
  refine hK1 _ _ ?_
  refine wp_seq_k fun K2 hK2 => ?_
  refine cPlain ?_
  refine xAlloc 5 23 ((nn (List.replicate 32 0)).map (Value.int .u8)) rfl (by kernel_rfl) ?_
  intro w3 n3
  have zn3 := n3.z
  have b5 := n3.c
  replace b5 : Blk .u8 w3 w2.heap.size 23 (nn (List.replicate 32 0)) := b5
  replace TB := TB.e0 n3.e
  replace BL := BL.e0 n3.e
  replace R := R.e0 n3.e
  replace b3 := b3.e0 n3.e
  replace b4 := b4.e0 n3.e
  simp only [sZ, sS]
  refine wpList_nil ?_
  refine hK2 _ _ ?_
  refine wp_seq_k fun K3 hK3 => ?_
  refine wp_seq_k fun K4 hK4 => ?_
  refine cPlain ?_
  refine sv 9 (.pointer (some ⟨T, 0, none⟩)) .of ?_
  simp only [sZ, sS]
  refine sv 10 (.bool false) .of ?_
  simp only [sZ, sS]
  refine sv 11 (.bool false) .of ?_
  simp only [sZ, sS]
  refine sv 12 (.agg #[.int .u32 ((y0 : Nat) : Int), .int .u32 ((y1 : Nat) : Int), .int .u32 ((y2 : Nat) : Int), .int .u32 ((y3 : Nat) : Int), .int .u32 ((y4 : Nat) : Int), .int .u32 ((y5 : Nat) : Int), .int .u32 ((y6 : Nat) : Int), .int .u32 ((y7 : Nat) : Int), .slice A (nn r).length C, .int .i64 (m : Int)]) (Val.cel 142 _ rfl 0 10 (by kernel_rfl) b3 _ Try.underlying142 rfl (by kernel_rfl) (by simp) [.int .u32 ((y0 : Nat) : Int), .int .u32 ((y1 : Nat) : Int), .int .u32 ((y2 : Nat) : Int), .int .u32 ((y3 : Nat) : Int), .int .u32 ((y4 : Nat) : Int), .int .u32 ((y5 : Nat) : Int), .int .u32 ((y6 : Nat) : Int), .int .u32 ((y7 : Nat) : Int), .slice A (nn r).length C, .int .i64 (m : Int)] rfl) ?_
  simp only [sZ, sS]
  refine xCall 13 110 #[.agg #[.int .u32 ((y0 : Nat) : Int), .int .u32 ((y1 : Nat) : Int), .int .u32 ((y2 : Nat) : Int), .int .u32 ((y3 : Nat) : Int), .int .u32 ((y4 : Nat) : Int), .int .u32 ((y5 : Nat) : Int), .int .u32 ((y6 : Nat) : Int), .int .u32 ((y7 : Nat) : Int), .slice A (nn r).length C, .int .i64 (m : Int)]] (by kernel_rfl) ?_
  refine (right_any [y0, y1, y2, y3, y4, y5, y6, y7] rfl A (nn r).length C (m : Int) w3).mono ?_
  rintro en w4 ⟨he, hb1⟩
  rw [hlr, hR] at he
  subst he
  have e1 := belE0 hb1
  have ze1 := e1.size
  replace TB := TB.e0 e1
  replace BL := BL.e0 e1
  replace R := R.e0 e1
  replace b3 := b3.e0 e1
  replace b4 := b4.e0 e1
  replace b5 := b5.e0 e1
  clear e1
  refine ⟨.bool true, rfl, ?_⟩
  simp only [sZ, sS]
  refine sv 14 (.bool false) .of ?_
  simp only [sZ, sS]
  refine sv 15 (.bool false) .of ?_
  simp only [sZ, sS]
  refine wpList_nil ?_
  refine hK4 _ _ ?_
  refine cF ?_
  refine wp_skip ?_
  refine hK3 _ _ ?_
  refine wp_seq_k fun K5 hK5 => ?_
  have e2 := drew_e0 w4
  refine zg (fun w_ => Blk .u32 w_ T 35 (nn tab) ∧ Bl w.heap.size w w_ ∧ SL .u8 w_ (.slice A (nn r).length C) (nn r) ∧ Cel w_ w.heap.size 142 [.int .u32 ((y0 : Nat) : Int), .int .u32 ((y1 : Nat) : Int), .int .u32 ((y2 : Nat) : Int), .int .u32 ((y3 : Nat) : Int), .int .u32 ((y4 : Nat) : Int), .int .u32 ((y5 : Nat) : Int), .int .u32 ((y6 : Nat) : Int), .int .u32 ((y7 : Nat) : Int), .slice A (nn r).length C, .int .i64 (m : Int)] ∧ Blk .u8 w_ w1.heap.size 23 (nn (List.replicate 32 0)) ∧ Blk .u8 w_ w2.heap.size 23 (nn (List.replicate 32 0)) ∧ w4.heap.size ≤ w_.heap.size) (fun w_ => Blk .u32 w_ T 35 (nn tab) ∧ Bl w.heap.size w w_ ∧ SL .u8 w_ (.slice A (nn r).length C) (nn r) ∧ Cel w_ w.heap.size 142 [.int .u32 ((y0 : Nat) : Int), .int .u32 ((y1 : Nat) : Int), .int .u32 ((y2 : Nat) : Int), .int .u32 ((y3 : Nat) : Int), .int .u32 ((y4 : Nat) : Int), .int .u32 ((y5 : Nat) : Int), .int .u32 ((y6 : Nat) : Int), .int .u32 ((y7 : Nat) : Int), .slice A (nn r).length C, .int .i64 (m : Int)] ∧ Blk .u8 w_ w1.heap.size 23 (nn (List.replicate 32 0)) ∧ Blk .u8 w_ w2.heap.size 23 (nn (List.replicate 32 0)) ∧ w4.heap.size ≤ w_.heap.size) 100000 17 ⟨TB.e0 e2, BL.e0 e2, R.e0 e2, b3.e0 e2, b4.e0 e2, b5.e0 e2, Nat.le_refl _⟩ ?_
  clear TB BL R b3 b4 b5
  clear e2
  intro w5
  rintro ⟨TB, BL, R, b3, b4, b5, z1⟩
  refine zv 0 18 (.pointer (some ⟨T, 0, none⟩)) (fun _ _ => .of) ⟨TB, BL, R, b3, b4, b5, by omega⟩ ?_
  simp only [sZ, sS]
  refine zv 1 19 (.pointer (some ⟨w.heap.size, 0, none⟩)) (fun _ _ => .of) ⟨TB, BL, R, b3, b4, b5, by omega⟩ ?_
  simp only [sZ, sS]
  refine zv 2 20 (.agg (cellsOf .u32 (nn [y0, y1, y2, y3, y4, y5, y6, y7]))) (fun _ ⟨TB, BL, R, b3, b4, b5, z1⟩ => Val.cel 32 _ rfl 0 8 (by kernel_rfl) b3 _ Try.underlying32 rfl (by kernel_rfl) (by simp) ((nn [y0, y1, y2, y3, y4, y5, y6, y7]).map (Value.int .u32)) rfl) ⟨TB, BL, R, b3, b4, b5, by omega⟩ ?_
  simp only [sZ, sS]
  refine zv 3 21 (.pointer (some ⟨w.heap.size, 8, none⟩)) (fun _ _ => .of) ⟨TB, BL, R, b3, b4, b5, by omega⟩ ?_
  simp only [sZ, sS]
  refine zv 4 22 (.slice A (nn r).length C) (fun _ ⟨TB, BL, R, b3, b4, b5, z1⟩ => Val.cel1 29 _ rfl w.heap.size 8 _ (by kernel_rfl) (fun _ => (by kernel_rfl)) b3 rfl) ⟨TB, BL, R, b3, b4, b5, by omega⟩ ?_
  simp only [sZ, sS]
  refine zv 5 23 (.pointer (some ⟨w.heap.size, 9, none⟩)) (fun _ _ => .of) ⟨TB, BL, R, b3, b4, b5, by omega⟩ ?_
  simp only [sZ, sS]
  refine zv 6 24 (.int .i64 (m : Int)) (fun _ ⟨TB, BL, R, b3, b4, b5, z1⟩ => Val.cel1 3 _ rfl w.heap.size 9 _ (by kernel_rfl) (fun _ => (by kernel_rfl)) b3 rfl) ⟨TB, BL, R, b3, b4, b5, by omega⟩ ?_
  simp only [sZ, sS]
  refine zo2 7 14 rfl rfl ?_ ?_
  · skip
    refine xCall 25 113 #[.int .i64 (m : Int)] (by kernel_rfl) ?_
    refine (pad_nat m w5).mono ?_
    rintro en w6 ⟨v0, he0, hO0, hb1⟩
    obtain ⟨A2, C2, hv0⟩ := hO0.len
    rw [hv0] at he0 hO0
    subst he0
    have e3 := belE0 hb1
    have ze3 := e3.size
    replace TB := TB.e0 e3
    replace BL := BL.e0 e3
    replace R := R.e0 e3
    replace b3 := b3.e0 e3
    replace b4 := b4.e0 e3
    replace b5 := b5.e0 e3
    clear e3
    have OP : Own 5 .u8 w5.heap.size w6 (.slice A2 (nn (padN m)).length C2) (nn (padN m)) := hO0
    have lOP_1 := OP.ge
    refine ⟨.slice A2 (nn (padN m)).length C2, rfl, ?_⟩
    refine ze 7 ⟨TB, BL, R, b3, b4, b5, by omega⟩ ?_
    simp only [sZ, sS]
    refine zo2 8 14 rfl rfl ?_ ?_
    · skip
      refine xLit 26 99 29 2 _ #[(0, .slice A (nn r).length C), (1, .slice A2 (nn (padN m)).length C2)] [.slice A (nn r).length C, .slice A2 (nn (padN m)).length C2] rfl (by kernel_rfl) (by kernel_rfl) ?_
      intro w7 n4
      have zn4 := n4.z
      have b26 := n4.c
      replace TB := TB.e0 n4.e
      replace BL := BL.e0 n4.e
      replace R := R.e0 n4.e
      replace b3 := b3.e0 n4.e
      replace b4 := b4.e0 n4.e
      replace b5 := b5.e0 n4.e
      replace OP := OP.e0 n4.e
      refine ze 8 ⟨TB, BL, R, b3, b4, b5, by omega⟩ ?_
      simp only [sZ, sS]
      refine zo2 9 14 rfl rfl ?_ ?_
      · skip
        refine xCall 27 112 #[.slice (some ⟨w6.heap.size, 0, none⟩) 2 2] (by kernel_rfl) ?_
        refine (concatB_any _ [.slice A (nn r).length C, .slice A2 (nn (padN m)).length C2] [nn r, nn (padN m)] w7 (SV.ofCel (n := 2) b26 rfl (by unfold maxLen; omega)) (SLs.pairW R (fun i hi => by have := hrl i hi; omega) OP.sl (fun i hi => (OP.ge i hi).2)) (by rw [flat2, List.length_append]; omega)).mono ?_
        rintro en w8 ⟨v1, rfl, hO, hb1⟩
        have e4 := belE0 hb1
        have ze4 := e4.size
        replace TB := TB.e0 e4
        replace BL := BL.e0 e4
        replace R := R.e0 e4
        replace b3 := b3.e0 e4
        replace b4 := b4.e0 e4
        replace b5 := b5.e0 e4
        replace OP := OP.e0 e4
        replace b26 := b26.e0 e4
        clear e4
        have OA : Own 5 .u8 w7.heap.size w8 v1 (nn (r ++ padN m)) := hO.cast (by rw [flat2, nn_app])
        have lOA_1 := OA.ge
        refine ⟨v1, rfl, ?_⟩
        refine ze 9 ⟨TB, BL, R, b3, b4, b5, by omega⟩ ?_
        simp only [sZ, sS]
        refine zo2 10 14 rfl rfl ?_ ?_
        · skip
          refine xCall 28 111 #[.pointer (some ⟨T, 0, none⟩), .agg (cellsOf .u32 (nn [y0, y1, y2, y3, y4, y5, y6, y7])), v1] (by kernel_rfl) ?_
          refine (blocks_any T tab [y0, y1, y2, y3, y4, y5, y6, y7] (r ++ padN m) v1 ht rfl w8 TB OA.sl).mono ?_
          rintro en w9 ⟨u, he, ⟨hu1, hu2⟩, hb1⟩
          rw [hST] at he
          subst he
          clear hu1 hu2
          have e5 := belE0 hb1
          have ze5 := e5.size
          replace TB := TB.e0 e5
          replace BL := BL.e0 e5
          replace R := R.e0 e5
          replace b3 := b3.e0 e5
          replace b4 := b4.e0 e5
          replace b5 := b5.e0 e5
          replace OP := OP.e0 e5
          replace b26 := b26.e0 e5
          replace OA := OA.e0 e5
          clear e5
          refine ⟨.tuple #[.agg (cellsOf .u32 (nn ST)), u], rfl, ?_⟩
          refine ze 10 ⟨TB, BL, R, b3, b4, b5, by omega⟩ ?_
          simp only [sZ, sS]
          refine zv 11 17 (.tuple #[.agg (cellsOf .u32 (nn ST)), u]) (fun _ _ => .of) ⟨TB, BL, R, b3, b4, b5, by omega⟩ ?_
          simp only [sZ, sS]
          refine zv 12 29 (.agg (cellsOf .u32 (nn ST))) (fun _ _ => .of) ⟨TB, BL, R, b3, b4, b5, by omega⟩ ?_
          simp only [sZ, sS]
          refine zv 13 30 (u) (fun _ _ => .of) ⟨TB, BL, R, b3, b4, b5, by omega⟩ ?_
          simp only [sZ, sS]
          refine zo1 14 rfl ?_
          refine xAlloc 6 32 ((nn (List.replicate 8 0)).map (Value.int .u32)) rfl (by kernel_rfl) ?_
          intro w10 n5
          have zn5 := n5.z
          have b6 := n5.c
          replace b6 : Blk .u32 w10 w9.heap.size 32 (nn (List.replicate 8 0)) := b6
          replace TB := TB.e0 n5.e
          replace BL := BL.e0 n5.e
          replace R := R.e0 n5.e
          replace b3 := b3.e0 n5.e
          replace b4 := b4.e0 n5.e
          replace b5 := b5.e0 n5.e
          replace OP := OP.e0 n5.e
          replace b26 := b26.e0 n5.e
          replace OA := OA.e0 n5.e
          refine ze 14 ⟨TB, BL, R, b3, b4, b5, by omega⟩ ?_
          simp only [sZ, sS]
          refine zo1 15 rfl ?_
          refine xStoreA 32 (.tmp 6) (.tmp 29) rfl .u32 w9.heap.size 32 (nn (List.replicate 8 0)) 0 (nn ST) (by kernel_rfl) (by kernel_rfl) b6 (by rw [show (nn ST).length = 8 by ((try simp only [nn_len, List.length_cons, List.length_nil, List.length_set, List.length_replicate]); try omega)]; kernel_rfl) (by (try simp only [nn_len, List.length_cons, List.length_nil, List.length_set, List.length_replicate]); try omega) (nn ST) (over_whole _ _ (by (try simp only [nn_len, List.length_cons, List.length_nil, List.length_set, List.length_replicate]); try omega)) ?_
          intro w11 t1
          have zt1 := t1.z
          have TB_ := TB.ev t1.e (show ¬ (T = w9.heap.size) by omega)
          have BL_ := BL.ev t1.e (fun i h => show w.heap.size ≤ i by have h : i = w9.heap.size := h; omega)
          have R_ := R.ev t1.e (fun i hi => show ¬ (i = w9.heap.size) by have := hrl i hi; omega)
          have b3_ := b3.ev t1.e (show ¬ (w.heap.size = w9.heap.size) by omega)
          have b4_ := b4.ev t1.e (show ¬ (w1.heap.size = w9.heap.size) by omega)
          have b5_ := b5.ev t1.e (show ¬ (w2.heap.size = w9.heap.size) by omega)
          have OP_ := OP.ev t1.e (fun i hi => show ¬ (i = w9.heap.size) by have := lOP_1 i hi; omega)
          have b26_ := b26.ev t1.e (show ¬ (w6.heap.size = w9.heap.size) by omega)
          have OA_ := OA.ev t1.e (fun i hi => show ¬ (i = w9.heap.size) by have := lOA_1 i hi; omega)
          replace TB := TB_; clear TB_
          replace BL := BL_; clear BL_
          replace R := R_; clear R_
          replace b3 := b3_; clear b3_
          replace b4 := b4_; clear b4_
          replace b5 := b5_; clear b5_
          replace OP := OP_; clear OP_
          replace b26 := b26_; clear b26_
          replace OA := OA_; clear OA_
          replace b6 : Blk .u32 w11 w9.heap.size 32 (nn ST) := t1.c
          clear t1
          refine ze 15 ⟨TB, BL, R, b3, b4, b5, by omega⟩ ?_
          refine zv 16 7 (u) (fun _ _ => .of) ⟨TB, BL, R, b3, b4, b5, by omega⟩ ?_
          simp only [sZ, sS]
          refine zd (by kernel_rfl) ?_ _
          refine hK5 _ _ ?_
          refine wp_seq_k fun K6 hK6 => ?_
          refine wp_seq_k fun K7 hK7 => ?_
          refine cPlain ?_
          refine sv 31 (.int .i64 0) .of ?_
          simp only [sZ, sS]
          refine wpList_nil ?_
          refine hK7 _ _ ?_
          refine wp_block ?_
          refine cLoop (fun N_ A_ w_ => ∃ (i : Nat) (O : List Nat), (N_ = 32 - i ∧ (i ≤ 32) ∧ (O = digN ST i) ∧ (O.length = 32) ∧ (∃ s1 : Nat → Value, A_ = ⟨[.pointer (some ⟨T, 0, none⟩), .agg #[.int .u32 ((y0 : Nat) : Int), .int .u32 ((y1 : Nat) : Int), .int .u32 ((y2 : Nat) : Int), .int .u32 ((y3 : Nat) : Int), .int .u32 ((y4 : Nat) : Int), .int .u32 ((y5 : Nat) : Int), .int .u32 ((y6 : Nat) : Int), .int .u32 ((y7 : Nat) : Int), .slice A (nn r).length C, .int .i64 (m : Int)], undef, .pointer (some ⟨w.heap.size, 0, none⟩), .pointer (some ⟨w1.heap.size, 0, none⟩), .pointer (some ⟨w2.heap.size, 0, none⟩), .pointer (some ⟨w9.heap.size, 0, none⟩), u, (s1 8), .pointer (some ⟨T, 0, none⟩), .bool false, .bool false, .agg #[.int .u32 ((y0 : Nat) : Int), .int .u32 ((y1 : Nat) : Int), .int .u32 ((y2 : Nat) : Int), .int .u32 ((y3 : Nat) : Int), .int .u32 ((y4 : Nat) : Int), .int .u32 ((y5 : Nat) : Int), .int .u32 ((y6 : Nat) : Int), .int .u32 ((y7 : Nat) : Int), .slice A (nn r).length C, .int .i64 (m : Int)], .bool true, .bool false, .bool false, undef, .tuple #[.agg (cellsOf .u32 (nn ST)), u], .pointer (some ⟨T, 0, none⟩), .pointer (some ⟨w.heap.size, 0, none⟩), .agg (cellsOf .u32 (nn [y0, y1, y2, y3, y4, y5, y6, y7])), .pointer (some ⟨w.heap.size, 8, none⟩), .slice A (nn r).length C, .pointer (some ⟨w.heap.size, 9, none⟩), .int .i64 (m : Int), .slice A2 (nn (padN m)).length C2, .slice (some ⟨w6.heap.size, 0, none⟩) 2 2, v1, .tuple #[.agg (cellsOf .u32 (nn ST)), u], .agg (cellsOf .u32 (nn ST)), u, .int .i64 (i : Int), (s1 32), (s1 33), (s1 34), (s1 35), (s1 36), (s1 37), (s1 38), (s1 39), (s1 40), (s1 41), (s1 42), (s1 43), (s1 44), (s1 45), (s1 46), undef].toArray, []⟩) ∧ Blk .u32 w_ T 35 (nn tab) ∧ Bl w.heap.size w w_ ∧ SL .u8 w_ (.slice A (nn r).length C) (nn r) ∧ Cel w_ w.heap.size 142 [.int .u32 ((y0 : Nat) : Int), .int .u32 ((y1 : Nat) : Int), .int .u32 ((y2 : Nat) : Int), .int .u32 ((y3 : Nat) : Int), .int .u32 ((y4 : Nat) : Int), .int .u32 ((y5 : Nat) : Int), .int .u32 ((y6 : Nat) : Int), .int .u32 ((y7 : Nat) : Int), .slice A (nn r).length C, .int .i64 (m : Int)] ∧ Blk .u8 w_ w1.heap.size 23 (nn (List.replicate 32 0)) ∧ Blk .u8 w_ w2.heap.size 23 (nn O) ∧ Own 5 .u8 w5.heap.size w_ (.slice A2 (nn (padN m)).length C2) (nn (padN m)) ∧ Cel w_ w6.heap.size 29 [.slice A (nn r).length C, .slice A2 (nn (padN m)).length C2] ∧ Own 5 .u8 w7.heap.size w_ v1 (nn (r ++ padN m)) ∧ Blk .u32 w_ w9.heap.size 32 (nn ST) ∧ w11.heap.size ≤ w_.heap.size)) _ ⟨0, (List.replicate 32 0), rfl, by omega, rfl, by simp, cutE, TB, BL, R, b3, b4, b5, OP, b26, OA, b6, Nat.le_refl _⟩ ?_
          clear TB BL R b3 b4 b5 OP b26 OA b6
          rintro n_ a_ wl0 ⟨i, O, rfl, hc0_0, hc0_1, hc0_2, ⟨s1, rfl⟩, TB, BL, R, b3, b4, b5, OP, b26, OA, b6, zl0⟩
          have lOP_2 := OP.ge
          have lOA_2 := OA.ge
          refine wp_seq_k fun K8 hK8 => ?_
          refine cPlain ?_
          refine sv 32 (.bool (decide ((i : Int) < 32))) (Val.cmp .lss 3 _ (.tmp 31) _ rfl .i64 (i : Int) 32 (by kernel_rfl) (by kernel_rfl) (by simp) _ rfl) ?_
          simp only [sZ, sS]
          refine wpList_nil ?_
          refine hK8 _ _ ?_
          refine wp_seq_k fun K9 hK9 => ?_
          refine cDec ((i : Int) < 32) (by kernel_rfl) (fun c32 => ?_) (fun c32 => ?_)
          · skip
            refine wp_skip ?_
            refine hK9 _ _ ?_
            refine wp_seq_k fun K10 hK10 => ?_
            refine wp_block ?_
            refine wp_seq_k fun K11 hK11 => ?_
            refine cPlain ?_
            refine sv 33 (.int .i64 (i : Int)) .of ?_
            simp only [sZ, sS]
            refine sv 8 (.int .i64 (i : Int)) .of ?_
            simp only [sZ, sS]
            refine wpList_nil ?_
            refine hK11 _ _ ?_
            refine cPlain ?_
            refine sv 34 (.int .i64 (i : Int)) .of ?_
            simp only [sZ, sS]
            refine sv 35 (.int .i64 (i : Int)) .of ?_
            simp only [sZ, sS]
            refine sv 36 (.int .i64 ((i / 4 : Nat) : Int)) (Val.as (Val.quoI 3 _ (.tmp 35) _ rfl i 4 (by kernel_rfl) (by kernel_rfl) (by omega) (by omega)) (congrArg (Value.int .i64) (by omega))) ?_
            simp only [sZ, sS]
            refine sv 37 (.pointer (some ⟨w9.heap.size, (i / 4), none⟩)) (Val.idxA01 32 (.tmp 6) (.tmp 36) rfl w9.heap.size (i / 4) (by kernel_rfl) (by kernel_rfl) Try.underlying32 (by kernel_rfl) (by omega)) ?_
            simp only [sZ, sS]
            refine sv 38 (.int .u32 ((ST.getD (i / 4) 0 : Nat) : Int)) (Val.nblk1 31 _ rfl w9.heap.size (i / 4) (by kernel_rfl) (fun _ => (by kernel_rfl)) b6 (by omega)) ?_
            simp only [sZ, sS]
            refine sv 39 (.int .i64 (i : Int)) .of ?_
            simp only [sZ, sS]
            refine sv 40 (.int .i64 ((i % 4 : Nat) : Int)) (Val.as (Val.remN 3 _ (.tmp 39) _ rfl .i64 i 4 (by kernel_rfl) (by kernel_rfl) (by omega)) (congrArg (Value.int .i64) (by omega))) ?_
            simp only [sZ, sS]
            refine sv 41 (.int .i64 ((i % 4 * 8 : Nat) : Int)) (Val.as (Val.mul 3 _ (.tmp 40) _ rfl ((i % 4 : Nat) : Int) 8 (by kernel_rfl) (by kernel_rfl) (by omega)) (congrArg (Value.int .i64) (by omega))) ?_
            simp only [sZ, sS]
            refine sv 42 (.int .i64 ((24 - i % 4 * 8 : Nat) : Int)) (Val.as (Val.sub 3 _ _ (.tmp 41) rfl 24 ((i % 4 * 8 : Nat) : Int) (by kernel_rfl) (by kernel_rfl) (by omega)) (congrArg (Value.int .i64) (by omega))) ?_
            simp only [sZ, sS]
            refine sv 43 (.int .u32 (((ST.getD (i / 4) 0) >>> (24 - i % 4 * 8) : Nat) : Int)) (Val.shrN 31 _ (.tmp 38) (.tmp 42) rfl .u32 .i64 (ST.getD (i / 4) 0) (24 - i % 4 * 8) (by kernel_rfl) (by kernel_rfl) (by simp only [IntKind.bits]; omega)) ?_
            simp only [sZ, sS]
            refine sv 44 (.int .u8 ((((ST.getD (i / 4) 0) >>> (24 - i % 4 * 8)) % 256 : Nat) : Int)) (Val.convN 31 5 (.tmp 43) rfl .u8 ((ST.getD (i / 4) 0) >>> (24 - i % 4 * 8)) 256 Try.underlying31 Try.underlying5 (by kernel_rfl)) ?_
            simp only [sZ, sS]
            refine sv 45 (.pointer (some ⟨w2.heap.size, i, none⟩)) (Val.idxA01 23 (.tmp 5) (.tmp 34) rfl w2.heap.size i (by kernel_rfl) (by kernel_rfl) Try.underlying23 (by kernel_rfl) (by omega)) ?_
            simp only [sZ, sS]
            refine xStoreNN 5 (.tmp 45) (.tmp 44) rfl .u8 w2.heap.size 23 O i (((ST.getD (i / 4) 0) >>> (24 - i % 4 * 8)) % 256) (by kernel_rfl) (by kernel_rfl) b5 (by kernel_rfl) (by omega) ?_
            intro w12 t2
            have zt2 := t2.z
            have TB_ := TB.ev t2.e (show ¬ (T = w2.heap.size) by omega)
            have BL_ := BL.ev t2.e (fun i h => show w.heap.size ≤ i by have h : i = w2.heap.size := h; omega)
            have R_ := R.ev t2.e (fun i hi => show ¬ (i = w2.heap.size) by have := hrl i hi; omega)
            have b3_ := b3.ev t2.e (show ¬ (w.heap.size = w2.heap.size) by omega)
            have b4_ := b4.ev t2.e (show ¬ (w1.heap.size = w2.heap.size) by omega)
            have OP_ := OP.ev t2.e (fun i hi => show ¬ (i = w2.heap.size) by have := lOP_2 i hi; omega)
            have b26_ := b26.ev t2.e (show ¬ (w6.heap.size = w2.heap.size) by omega)
            have OA_ := OA.ev t2.e (fun i hi => show ¬ (i = w2.heap.size) by have := lOA_2 i hi; omega)
            have b6_ := b6.ev t2.e (show ¬ (w9.heap.size = w2.heap.size) by omega)
            replace TB := TB_; clear TB_
            replace BL := BL_; clear BL_
            replace R := R_; clear R_
            replace b3 := b3_; clear b3_
            replace b4 := b4_; clear b4_
            replace OP := OP_; clear OP_
            replace b26 := b26_; clear b26_
            replace OA := OA_; clear OA_
            replace b6 := b6_; clear b6_
            replace b5 : Blk .u8 w12 w2.heap.size 23 (nn (O.set i (((ST.getD (i / 4) 0) >>> (24 - i % 4 * 8)) % 256))) := t2.c
            clear t2
            refine wpList_nil ?_
            refine hK10 _ _ ?_
            refine cPlain ?_
            refine sv 46 (.int .i64 ((i : Int) + 1)) (Val.add 3 _ (.tmp 31) _ rfl (i : Int) 1 (by kernel_rfl) (by kernel_rfl) (by omega)) ?_
            simp only [sZ, sS]
            refine sv 31 (.int .i64 ((i : Int) + 1)) .of ?_
            simp only [sZ, sS]
            refine wpList_nil ?_
            refine ⟨_, ?_, i + 1, (O.set i (((ST.getD (i / 4) 0) >>> (24 - i % 4 * 8)) % 256)), rfl, by omega, by rw [hc0_1]; rfl, by simp [hc0_2], cutE, TB, BL, R, b3, b4, b5, OP, b26, OA, b6, by omega⟩
            omega
          · skip
            have hi32 : i = 32 := by omega
            rw [hi32] at hc0_1
            refine wp_exit ?_
            simp only [Exit.then, Exit.inBlock, ↓reduceIte, Nat.reduceEqDiff]
            refine hK6 _ _ ?_
            refine wp_seq_k fun K12 hK12 => ?_
            refine cPlain ?_
            refine sv 47 (.agg (cellsOf .u8 (nn O))) (Val.blk 23 _ rfl 0 32 (by kernel_rfl) b5 _ Try.underlying23 rfl (by kernel_rfl) (by (try simp only [nn_len, List.length_cons, List.length_nil, List.length_set, List.length_replicate]); try omega) _ (seg_all' _ (by (try simp only [nn_len, List.length_cons, List.length_nil, List.length_set, List.length_replicate]); try omega))) ?_
            simp only [sZ, sS]
            refine xStoreA 23 (.tmp 4) (.tmp 47) rfl .u8 w1.heap.size 23 (nn (List.replicate 32 0)) 0 (nn O) (by kernel_rfl) (by kernel_rfl) b4 (by rw [show (nn O).length = 32 by ((try simp only [nn_len, List.length_cons, List.length_nil, List.length_set, List.length_replicate]); try omega)]; kernel_rfl) (by (try simp only [nn_len, List.length_cons, List.length_nil, List.length_set, List.length_replicate]); try omega) (nn O) (over_whole _ _ (by (try simp only [nn_len, List.length_cons, List.length_nil, List.length_set, List.length_replicate]); try omega)) ?_
            intro w13 t3
            have zt3 := t3.z
            have TB_ := TB.ev t3.e (show ¬ (T = w1.heap.size) by omega)
            have BL_ := BL.ev t3.e (fun i h => show w.heap.size ≤ i by have h : i = w1.heap.size := h; omega)
            have R_ := R.ev t3.e (fun i hi => show ¬ (i = w1.heap.size) by have := hrl i hi; omega)
            have b3_ := b3.ev t3.e (show ¬ (w.heap.size = w1.heap.size) by omega)
            have b5_ := b5.ev t3.e (show ¬ (w2.heap.size = w1.heap.size) by omega)
            have OP_ := OP.ev t3.e (fun i hi => show ¬ (i = w1.heap.size) by have := lOP_2 i hi; omega)
            have b26_ := b26.ev t3.e (show ¬ (w6.heap.size = w1.heap.size) by omega)
            have OA_ := OA.ev t3.e (fun i hi => show ¬ (i = w1.heap.size) by have := lOA_2 i hi; omega)
            have b6_ := b6.ev t3.e (show ¬ (w9.heap.size = w1.heap.size) by omega)
            replace TB := TB_; clear TB_
            replace BL := BL_; clear BL_
            replace R := R_; clear R_
            replace b3 := b3_; clear b3_
            replace b5 := b5_; clear b5_
            replace OP := OP_; clear OP_
            replace b26 := b26_; clear b26_
            replace OA := OA_; clear OA_
            replace b6 := b6_; clear b6_
            replace b4 : Blk .u8 w13 w1.heap.size 23 (nn O) := t3.c
            clear t3
            refine wpList_nil ?_
            refine hK12 _ _ ?_
            refine wp_ret ?_
            (try simp only [Exit.then, Exit.inBlock])
            refine bodyPost_ret (rC rfl _ w1.heap.size _ _ (by kernel_rfl) b4.cel _ Try.underlying23 rfl (by rw [List.length_map, show (nn O).length = 32 by ((try simp only [nn_len, List.length_cons, List.length_nil, List.length_set, List.length_replicate]); try omega)]; kernel_rfl)) rfl ?_
            rw [← hc0_1]
            exact ⟨rfl, BL.b⟩
        · skip
          refine xAlloc 6 32 ((nn (List.replicate 8 0)).map (Value.int .u32)) rfl (by kernel_rfl) ?_
          intro w14 n6
          have zn6 := n6.z
          have b6 := n6.c
          replace b6 : Blk .u32 w14 w8.heap.size 32 (nn (List.replicate 8 0)) := b6
          replace TB := TB.e0 n6.e
          replace BL := BL.e0 n6.e
          replace R := R.e0 n6.e
          replace b3 := b3.e0 n6.e
          replace b4 := b4.e0 n6.e
          replace b5 := b5.e0 n6.e
          replace OP := OP.e0 n6.e
          replace b26 := b26.e0 n6.e
          replace OA := OA.e0 n6.e
          refine ze 14 ⟨TB, BL, R, b3, b4, b5, by omega⟩ ?_
          simp only [sZ, sS]
          refine zo1 10 rfl ?_
          refine xCall 28 111 #[.pointer (some ⟨T, 0, none⟩), .agg (cellsOf .u32 (nn [y0, y1, y2, y3, y4, y5, y6, y7])), v1] (by kernel_rfl) ?_
          refine (blocks_any T tab [y0, y1, y2, y3, y4, y5, y6, y7] (r ++ padN m) v1 ht rfl w14 TB OA.sl).mono ?_
          rintro en w15 ⟨u, he, ⟨hu1, hu2⟩, hb1⟩
          rw [hST] at he
          subst he
          clear hu1 hu2
          have e6 := belE0 hb1
          have ze6 := e6.size
          replace TB := TB.e0 e6
          replace BL := BL.e0 e6
          replace R := R.e0 e6
          replace b3 := b3.e0 e6
          replace b4 := b4.e0 e6
          replace b5 := b5.e0 e6
          replace OP := OP.e0 e6
          replace b26 := b26.e0 e6
          replace OA := OA.e0 e6
          replace b6 := b6.e0 e6
          clear e6
          refine ⟨.tuple #[.agg (cellsOf .u32 (nn ST)), u], rfl, ?_⟩
          refine ze 10 ⟨TB, BL, R, b3, b4, b5, by omega⟩ ?_
          simp only [sZ, sS]
          refine zv 11 17 (.tuple #[.agg (cellsOf .u32 (nn ST)), u]) (fun _ _ => .of) ⟨TB, BL, R, b3, b4, b5, by omega⟩ ?_
          simp only [sZ, sS]
          refine zv 12 29 (.agg (cellsOf .u32 (nn ST))) (fun _ _ => .of) ⟨TB, BL, R, b3, b4, b5, by omega⟩ ?_
          simp only [sZ, sS]
          refine zv 13 30 (u) (fun _ _ => .of) ⟨TB, BL, R, b3, b4, b5, by omega⟩ ?_
          simp only [sZ, sS]
          refine zo1 15 rfl ?_
          refine xStoreA 32 (.tmp 6) (.tmp 29) rfl .u32 w8.heap.size 32 (nn (List.replicate 8 0)) 0 (nn ST) (by kernel_rfl) (by kernel_rfl) b6 (by rw [show (nn ST).length = 8 by ((try simp only [nn_len, List.length_cons, List.length_nil, List.length_set, List.length_replicate]); try omega)]; kernel_rfl) (by (try simp only [nn_len, List.length_cons, List.length_nil, List.length_set, List.length_replicate]); try omega) (nn ST) (over_whole _ _ (by (try simp only [nn_len, List.length_cons, List.length_nil, List.length_set, List.length_replicate]); try omega)) ?_
          intro w16 t4
          have zt4 := t4.z
          have TB_ := TB.ev t4.e (show ¬ (T = w8.heap.size) by omega)
          have BL_ := BL.ev t4.e (fun i h => show w.heap.size ≤ i by have h : i = w8.heap.size := h; omega)
          have R_ := R.ev t4.e (fun i hi => show ¬ (i = w8.heap.size) by have := hrl i hi; omega)
          have b3_ := b3.ev t4.e (show ¬ (w.heap.size = w8.heap.size) by omega)
          have b4_ := b4.ev t4.e (show ¬ (w1.heap.size = w8.heap.size) by omega)
          have b5_ := b5.ev t4.e (show ¬ (w2.heap.size = w8.heap.size) by omega)
          have OP_ := OP.ev t4.e (fun i hi => show ¬ (i = w8.heap.size) by have := lOP_1 i hi; omega)
          have b26_ := b26.ev t4.e (show ¬ (w6.heap.size = w8.heap.size) by omega)
          have OA_ := OA.ev t4.e (fun i hi => show ¬ (i = w8.heap.size) by have := lOA_1 i hi; omega)
          replace TB := TB_; clear TB_
          replace BL := BL_; clear BL_
          replace R := R_; clear R_
          replace b3 := b3_; clear b3_
          replace b4 := b4_; clear b4_
          replace b5 := b5_; clear b5_
          replace OP := OP_; clear OP_
          replace b26 := b26_; clear b26_
          replace OA := OA_; clear OA_
          replace b6 : Blk .u32 w16 w8.heap.size 32 (nn ST) := t4.c
          clear t4
          refine ze 15 ⟨TB, BL, R, b3, b4, b5, by omega⟩ ?_
          refine zv 16 7 (u) (fun _ _ => .of) ⟨TB, BL, R, b3, b4, b5, by omega⟩ ?_
          simp only [sZ, sS]
          refine zd (by kernel_rfl) ?_ _
          refine hK5 _ _ ?_
          refine wp_seq_k fun K13 hK13 => ?_
          refine wp_seq_k fun K14 hK14 => ?_
          refine cPlain ?_
          refine sv 31 (.int .i64 0) .of ?_
          simp only [sZ, sS]
          refine wpList_nil ?_
          refine hK14 _ _ ?_
          refine wp_block ?_
          refine cLoop (fun N_ A_ w_ => ∃ (i : Nat) (O : List Nat), (N_ = 32 - i ∧ (i ≤ 32) ∧ (O = digN ST i) ∧ (O.length = 32) ∧ (∃ s2 : Nat → Value, A_ = ⟨[.pointer (some ⟨T, 0, none⟩), .agg #[.int .u32 ((y0 : Nat) : Int), .int .u32 ((y1 : Nat) : Int), .int .u32 ((y2 : Nat) : Int), .int .u32 ((y3 : Nat) : Int), .int .u32 ((y4 : Nat) : Int), .int .u32 ((y5 : Nat) : Int), .int .u32 ((y6 : Nat) : Int), .int .u32 ((y7 : Nat) : Int), .slice A (nn r).length C, .int .i64 (m : Int)], undef, .pointer (some ⟨w.heap.size, 0, none⟩), .pointer (some ⟨w1.heap.size, 0, none⟩), .pointer (some ⟨w2.heap.size, 0, none⟩), .pointer (some ⟨w8.heap.size, 0, none⟩), u, (s2 8), .pointer (some ⟨T, 0, none⟩), .bool false, .bool false, .agg #[.int .u32 ((y0 : Nat) : Int), .int .u32 ((y1 : Nat) : Int), .int .u32 ((y2 : Nat) : Int), .int .u32 ((y3 : Nat) : Int), .int .u32 ((y4 : Nat) : Int), .int .u32 ((y5 : Nat) : Int), .int .u32 ((y6 : Nat) : Int), .int .u32 ((y7 : Nat) : Int), .slice A (nn r).length C, .int .i64 (m : Int)], .bool true, .bool false, .bool false, undef, .tuple #[.agg (cellsOf .u32 (nn ST)), u], .pointer (some ⟨T, 0, none⟩), .pointer (some ⟨w.heap.size, 0, none⟩), .agg (cellsOf .u32 (nn [y0, y1, y2, y3, y4, y5, y6, y7])), .pointer (some ⟨w.heap.size, 8, none⟩), .slice A (nn r).length C, .pointer (some ⟨w.heap.size, 9, none⟩), .int .i64 (m : Int), .slice A2 (nn (padN m)).length C2, .slice (some ⟨w6.heap.size, 0, none⟩) 2 2, v1, .tuple #[.agg (cellsOf .u32 (nn ST)), u], .agg (cellsOf .u32 (nn ST)), u, .int .i64 (i : Int), (s2 32), (s2 33), (s2 34), (s2 35), (s2 36), (s2 37), (s2 38), (s2 39), (s2 40), (s2 41), (s2 42), (s2 43), (s2 44), (s2 45), (s2 46), undef].toArray, []⟩) ∧ Blk .u32 w_ T 35 (nn tab) ∧ Bl w.heap.size w w_ ∧ SL .u8 w_ (.slice A (nn r).length C) (nn r) ∧ Cel w_ w.heap.size 142 [.int .u32 ((y0 : Nat) : Int), .int .u32 ((y1 : Nat) : Int), .int .u32 ((y2 : Nat) : Int), .int .u32 ((y3 : Nat) : Int), .int .u32 ((y4 : Nat) : Int), .int .u32 ((y5 : Nat) : Int), .int .u32 ((y6 : Nat) : Int), .int .u32 ((y7 : Nat) : Int), .slice A (nn r).length C, .int .i64 (m : Int)] ∧ Blk .u8 w_ w1.heap.size 23 (nn (List.replicate 32 0)) ∧ Blk .u8 w_ w2.heap.size 23 (nn O) ∧ Own 5 .u8 w5.heap.size w_ (.slice A2 (nn (padN m)).length C2) (nn (padN m)) ∧ Cel w_ w6.heap.size 29 [.slice A (nn r).length C, .slice A2 (nn (padN m)).length C2] ∧ Own 5 .u8 w7.heap.size w_ v1 (nn (r ++ padN m)) ∧ Blk .u32 w_ w8.heap.size 32 (nn ST) ∧ w16.heap.size ≤ w_.heap.size)) _ ⟨0, (List.replicate 32 0), rfl, by omega, rfl, by simp, cutE, TB, BL, R, b3, b4, b5, OP, b26, OA, b6, Nat.le_refl _⟩ ?_
          clear TB BL R b3 b4 b5 OP b26 OA b6
          rintro n_ a_ wl0 ⟨i, O, rfl, hc0_0, hc0_1, hc0_2, ⟨s2, rfl⟩, TB, BL, R, b3, b4, b5, OP, b26, OA, b6, zl0⟩
          have lOP_3 := OP.ge
          have lOA_3 := OA.ge
          refine wp_seq_k fun K15 hK15 => ?_
          refine cPlain ?_
          refine sv 32 (.bool (decide ((i : Int) < 32))) (Val.cmp .lss 3 _ (.tmp 31) _ rfl .i64 (i : Int) 32 (by kernel_rfl) (by kernel_rfl) (by simp) _ rfl) ?_
          simp only [sZ, sS]
          refine wpList_nil ?_
          refine hK15 _ _ ?_
          refine wp_seq_k fun K16 hK16 => ?_
          refine cDec ((i : Int) < 32) (by kernel_rfl) (fun c32 => ?_) (fun c32 => ?_)
          · skip
            refine wp_skip ?_
            refine hK16 _ _ ?_
            refine wp_seq_k fun K17 hK17 => ?_
            refine wp_block ?_
            refine wp_seq_k fun K18 hK18 => ?_
            refine cPlain ?_
            refine sv 33 (.int .i64 (i : Int)) .of ?_
            simp only [sZ, sS]
            refine sv 8 (.int .i64 (i : Int)) .of ?_
            simp only [sZ, sS]
            refine wpList_nil ?_
            refine hK18 _ _ ?_
            refine cPlain ?_
            refine sv 34 (.int .i64 (i : Int)) .of ?_
            simp only [sZ, sS]
            refine sv 35 (.int .i64 (i : Int)) .of ?_
            simp only [sZ, sS]
            refine sv 36 (.int .i64 ((i / 4 : Nat) : Int)) (Val.as (Val.quoI 3 _ (.tmp 35) _ rfl i 4 (by kernel_rfl) (by kernel_rfl) (by omega) (by omega)) (congrArg (Value.int .i64) (by omega))) ?_
            simp only [sZ, sS]
            refine sv 37 (.pointer (some ⟨w8.heap.size, (i / 4), none⟩)) (Val.idxA01 32 (.tmp 6) (.tmp 36) rfl w8.heap.size (i / 4) (by kernel_rfl) (by kernel_rfl) Try.underlying32 (by kernel_rfl) (by omega)) ?_
            simp only [sZ, sS]
            refine sv 38 (.int .u32 ((ST.getD (i / 4) 0 : Nat) : Int)) (Val.nblk1 31 _ rfl w8.heap.size (i / 4) (by kernel_rfl) (fun _ => (by kernel_rfl)) b6 (by omega)) ?_
            simp only [sZ, sS]
            refine sv 39 (.int .i64 (i : Int)) .of ?_
            simp only [sZ, sS]
            refine sv 40 (.int .i64 ((i % 4 : Nat) : Int)) (Val.as (Val.remN 3 _ (.tmp 39) _ rfl .i64 i 4 (by kernel_rfl) (by kernel_rfl) (by omega)) (congrArg (Value.int .i64) (by omega))) ?_
            simp only [sZ, sS]
            refine sv 41 (.int .i64 ((i % 4 * 8 : Nat) : Int)) (Val.as (Val.mul 3 _ (.tmp 40) _ rfl ((i % 4 : Nat) : Int) 8 (by kernel_rfl) (by kernel_rfl) (by omega)) (congrArg (Value.int .i64) (by omega))) ?_
            simp only [sZ, sS]
            refine sv 42 (.int .i64 ((24 - i % 4 * 8 : Nat) : Int)) (Val.as (Val.sub 3 _ _ (.tmp 41) rfl 24 ((i % 4 * 8 : Nat) : Int) (by kernel_rfl) (by kernel_rfl) (by omega)) (congrArg (Value.int .i64) (by omega))) ?_
            simp only [sZ, sS]
            refine sv 43 (.int .u32 (((ST.getD (i / 4) 0) >>> (24 - i % 4 * 8) : Nat) : Int)) (Val.shrN 31 _ (.tmp 38) (.tmp 42) rfl .u32 .i64 (ST.getD (i / 4) 0) (24 - i % 4 * 8) (by kernel_rfl) (by kernel_rfl) (by simp only [IntKind.bits]; omega)) ?_
            simp only [sZ, sS]
            refine sv 44 (.int .u8 ((((ST.getD (i / 4) 0) >>> (24 - i % 4 * 8)) % 256 : Nat) : Int)) (Val.convN 31 5 (.tmp 43) rfl .u8 ((ST.getD (i / 4) 0) >>> (24 - i % 4 * 8)) 256 Try.underlying31 Try.underlying5 (by kernel_rfl)) ?_
            simp only [sZ, sS]
            refine sv 45 (.pointer (some ⟨w2.heap.size, i, none⟩)) (Val.idxA01 23 (.tmp 5) (.tmp 34) rfl w2.heap.size i (by kernel_rfl) (by kernel_rfl) Try.underlying23 (by kernel_rfl) (by omega)) ?_
            simp only [sZ, sS]
            refine xStoreNN 5 (.tmp 45) (.tmp 44) rfl .u8 w2.heap.size 23 O i (((ST.getD (i / 4) 0) >>> (24 - i % 4 * 8)) % 256) (by kernel_rfl) (by kernel_rfl) b5 (by kernel_rfl) (by omega) ?_
            intro w17 t5
            have zt5 := t5.z
            have TB_ := TB.ev t5.e (show ¬ (T = w2.heap.size) by omega)
            have BL_ := BL.ev t5.e (fun i h => show w.heap.size ≤ i by have h : i = w2.heap.size := h; omega)
            have R_ := R.ev t5.e (fun i hi => show ¬ (i = w2.heap.size) by have := hrl i hi; omega)
            have b3_ := b3.ev t5.e (show ¬ (w.heap.size = w2.heap.size) by omega)
            have b4_ := b4.ev t5.e (show ¬ (w1.heap.size = w2.heap.size) by omega)
            have OP_ := OP.ev t5.e (fun i hi => show ¬ (i = w2.heap.size) by have := lOP_3 i hi; omega)
            have b26_ := b26.ev t5.e (show ¬ (w6.heap.size = w2.heap.size) by omega)
            have OA_ := OA.ev t5.e (fun i hi => show ¬ (i = w2.heap.size) by have := lOA_3 i hi; omega)
            have b6_ := b6.ev t5.e (show ¬ (w8.heap.size = w2.heap.size) by omega)
            replace TB := TB_; clear TB_
            replace BL := BL_; clear BL_
            replace R := R_; clear R_
            replace b3 := b3_; clear b3_
            replace b4 := b4_; clear b4_
            replace OP := OP_; clear OP_
            replace b26 := b26_; clear b26_
            replace OA := OA_; clear OA_
            replace b6 := b6_; clear b6_
            replace b5 : Blk .u8 w17 w2.heap.size 23 (nn (O.set i (((ST.getD (i / 4) 0) >>> (24 - i % 4 * 8)) % 256))) := t5.c
            clear t5
            refine wpList_nil ?_
            refine hK17 _ _ ?_
            refine cPlain ?_
            refine sv 46 (.int .i64 ((i : Int) + 1)) (Val.add 3 _ (.tmp 31) _ rfl (i : Int) 1 (by kernel_rfl) (by kernel_rfl) (by omega)) ?_
            simp only [sZ, sS]
            refine sv 31 (.int .i64 ((i : Int) + 1)) .of ?_
            simp only [sZ, sS]
            refine wpList_nil ?_
            refine ⟨_, ?_, i + 1, (O.set i (((ST.getD (i / 4) 0) >>> (24 - i % 4 * 8)) % 256)), rfl, by omega, by rw [hc0_1]; rfl, by simp [hc0_2], cutE, TB, BL, R, b3, b4, b5, OP, b26, OA, b6, by omega⟩
            omega
          · skip
            have hi32 : i = 32 := by omega
            rw [hi32] at hc0_1
            refine wp_exit ?_
            simp only [Exit.then, Exit.inBlock, ↓reduceIte, Nat.reduceEqDiff]
            refine hK13 _ _ ?_
            refine wp_seq_k fun K19 hK19 => ?_
            refine cPlain ?_
            refine sv 47 (.agg (cellsOf .u8 (nn O))) (Val.blk 23 _ rfl 0 32 (by kernel_rfl) b5 _ Try.underlying23 rfl (by kernel_rfl) (by (try simp only [nn_len, List.length_cons, List.length_nil, List.length_set, List.length_replicate]); try omega) _ (seg_all' _ (by (try simp only [nn_len, List.length_cons, List.length_nil, List.length_set, List.length_replicate]); try omega))) ?_
            simp only [sZ, sS]
            refine xStoreA 23 (.tmp 4) (.tmp 47) rfl .u8 w1.heap.size 23 (nn (List.replicate 32 0)) 0 (nn O) (by kernel_rfl) (by kernel_rfl) b4 (by rw [show (nn O).length = 32 by ((try simp only [nn_len, List.length_cons, List.length_nil, List.length_set, List.length_replicate]); try omega)]; kernel_rfl) (by (try simp only [nn_len, List.length_cons, List.length_nil, List.length_set, List.length_replicate]); try omega) (nn O) (over_whole _ _ (by (try simp only [nn_len, List.length_cons, List.length_nil, List.length_set, List.length_replicate]); try omega)) ?_
            intro w18 t6
            have zt6 := t6.z
            have TB_ := TB.ev t6.e (show ¬ (T = w1.heap.size) by omega)
            have BL_ := BL.ev t6.e (fun i h => show w.heap.size ≤ i by have h : i = w1.heap.size := h; omega)
            have R_ := R.ev t6.e (fun i hi => show ¬ (i = w1.heap.size) by have := hrl i hi; omega)
            have b3_ := b3.ev t6.e (show ¬ (w.heap.size = w1.heap.size) by omega)
            have b5_ := b5.ev t6.e (show ¬ (w2.heap.size = w1.heap.size) by omega)
            have OP_ := OP.ev t6.e (fun i hi => show ¬ (i = w1.heap.size) by have := lOP_3 i hi; omega)
            have b26_ := b26.ev t6.e (show ¬ (w6.heap.size = w1.heap.size) by omega)
            have OA_ := OA.ev t6.e (fun i hi => show ¬ (i = w1.heap.size) by have := lOA_3 i hi; omega)
            have b6_ := b6.ev t6.e (show ¬ (w8.heap.size = w1.heap.size) by omega)
            replace TB := TB_; clear TB_
            replace BL := BL_; clear BL_
            replace R := R_; clear R_
            replace b3 := b3_; clear b3_
            replace b5 := b5_; clear b5_
            replace OP := OP_; clear OP_
            replace b26 := b26_; clear b26_
            replace OA := OA_; clear OA_
            replace b6 := b6_; clear b6_
            replace b4 : Blk .u8 w18 w1.heap.size 23 (nn O) := t6.c
            clear t6
            refine wpList_nil ?_
            refine hK19 _ _ ?_
            refine wp_ret ?_
            (try simp only [Exit.then, Exit.inBlock])
            refine bodyPost_ret (rC rfl _ w1.heap.size _ _ (by kernel_rfl) b4.cel _ Try.underlying23 rfl (by rw [List.length_map, show (nn O).length = 32 by ((try simp only [nn_len, List.length_cons, List.length_nil, List.length_set, List.length_replicate]); try omega)]; kernel_rfl)) rfl ?_
            rw [← hc0_1]
            exact ⟨rfl, BL.b⟩
      · skip
        refine xAlloc 6 32 ((nn (List.replicate 8 0)).map (Value.int .u32)) rfl (by kernel_rfl) ?_
        intro w19 n7
        have zn7 := n7.z
        have b6 := n7.c
        replace b6 : Blk .u32 w19 w7.heap.size 32 (nn (List.replicate 8 0)) := b6
        replace TB := TB.e0 n7.e
        replace BL := BL.e0 n7.e
        replace R := R.e0 n7.e
        replace b3 := b3.e0 n7.e
        replace b4 := b4.e0 n7.e
        replace b5 := b5.e0 n7.e
        replace OP := OP.e0 n7.e
        replace b26 := b26.e0 n7.e
        refine ze 14 ⟨TB, BL, R, b3, b4, b5, by omega⟩ ?_
        simp only [sZ, sS]
        refine zo1 9 rfl ?_
        refine xCall 27 112 #[.slice (some ⟨w6.heap.size, 0, none⟩) 2 2] (by kernel_rfl) ?_
        refine (concatB_any _ [.slice A (nn r).length C, .slice A2 (nn (padN m)).length C2] [nn r, nn (padN m)] w19 (SV.ofCel (n := 2) b26 rfl (by unfold maxLen; omega)) (SLs.pairW R (fun i hi => by have := hrl i hi; omega) OP.sl (fun i hi => (OP.ge i hi).2)) (by rw [flat2, List.length_append]; omega)).mono ?_
        rintro en w20 ⟨v1, rfl, hO, hb1⟩
        have e7 := belE0 hb1
        have ze7 := e7.size
        replace TB := TB.e0 e7
        replace BL := BL.e0 e7
        replace R := R.e0 e7
        replace b3 := b3.e0 e7
        replace b4 := b4.e0 e7
        replace b5 := b5.e0 e7
        replace OP := OP.e0 e7
        replace b26 := b26.e0 e7
        replace b6 := b6.e0 e7
        clear e7
        have OA : Own 5 .u8 w19.heap.size w20 v1 (nn (r ++ padN m)) := hO.cast (by rw [flat2, nn_app])
        have lOA_4 := OA.ge
        refine ⟨v1, rfl, ?_⟩
        refine ze 9 ⟨TB, BL, R, b3, b4, b5, by omega⟩ ?_
        simp only [sZ, sS]
        refine zo1 10 rfl ?_
        refine xCall 28 111 #[.pointer (some ⟨T, 0, none⟩), .agg (cellsOf .u32 (nn [y0, y1, y2, y3, y4, y5, y6, y7])), v1] (by kernel_rfl) ?_
        refine (blocks_any T tab [y0, y1, y2, y3, y4, y5, y6, y7] (r ++ padN m) v1 ht rfl w20 TB OA.sl).mono ?_
        rintro en w21 ⟨u, he, ⟨hu1, hu2⟩, hb1⟩
        rw [hST] at he
        subst he
        clear hu1 hu2
        have e8 := belE0 hb1
        have ze8 := e8.size
        replace TB := TB.e0 e8
        replace BL := BL.e0 e8
        replace R := R.e0 e8
        replace b3 := b3.e0 e8
        replace b4 := b4.e0 e8
        replace b5 := b5.e0 e8
        replace OP := OP.e0 e8
        replace b26 := b26.e0 e8
        replace b6 := b6.e0 e8
        replace OA := OA.e0 e8
        clear e8
        refine ⟨.tuple #[.agg (cellsOf .u32 (nn ST)), u], rfl, ?_⟩
        refine ze 10 ⟨TB, BL, R, b3, b4, b5, by omega⟩ ?_
        simp only [sZ, sS]
        refine zv 11 17 (.tuple #[.agg (cellsOf .u32 (nn ST)), u]) (fun _ _ => .of) ⟨TB, BL, R, b3, b4, b5, by omega⟩ ?_
        simp only [sZ, sS]
        refine zv 12 29 (.agg (cellsOf .u32 (nn ST))) (fun _ _ => .of) ⟨TB, BL, R, b3, b4, b5, by omega⟩ ?_
        simp only [sZ, sS]
        refine zv 13 30 (u) (fun _ _ => .of) ⟨TB, BL, R, b3, b4, b5, by omega⟩ ?_
        simp only [sZ, sS]
        refine zo1 15 rfl ?_
        refine xStoreA 32 (.tmp 6) (.tmp 29) rfl .u32 w7.heap.size 32 (nn (List.replicate 8 0)) 0 (nn ST) (by kernel_rfl) (by kernel_rfl) b6 (by rw [show (nn ST).length = 8 by ((try simp only [nn_len, List.length_cons, List.length_nil, List.length_set, List.length_replicate]); try omega)]; kernel_rfl) (by (try simp only [nn_len, List.length_cons, List.length_nil, List.length_set, List.length_replicate]); try omega) (nn ST) (over_whole _ _ (by (try simp only [nn_len, List.length_cons, List.length_nil, List.length_set, List.length_replicate]); try omega)) ?_
        intro w22 t7
        have zt7 := t7.z
        have TB_ := TB.ev t7.e (show ¬ (T = w7.heap.size) by omega)
        have BL_ := BL.ev t7.e (fun i h => show w.heap.size ≤ i by have h : i = w7.heap.size := h; omega)
        have R_ := R.ev t7.e (fun i hi => show ¬ (i = w7.heap.size) by have := hrl i hi; omega)
        have b3_ := b3.ev t7.e (show ¬ (w.heap.size = w7.heap.size) by omega)
        have b4_ := b4.ev t7.e (show ¬ (w1.heap.size = w7.heap.size) by omega)
        have b5_ := b5.ev t7.e (show ¬ (w2.heap.size = w7.heap.size) by omega)
        have OP_ := OP.ev t7.e (fun i hi => show ¬ (i = w7.heap.size) by have := lOP_1 i hi; omega)
        have b26_ := b26.ev t7.e (show ¬ (w6.heap.size = w7.heap.size) by omega)
        have OA_ := OA.ev t7.e (fun i hi => show ¬ (i = w7.heap.size) by have := lOA_4 i hi; omega)
        replace TB := TB_; clear TB_
        replace BL := BL_; clear BL_
        replace R := R_; clear R_
        replace b3 := b3_; clear b3_
        replace b4 := b4_; clear b4_
        replace b5 := b5_; clear b5_
        replace OP := OP_; clear OP_
        replace b26 := b26_; clear b26_
        replace OA := OA_; clear OA_
        replace b6 : Blk .u32 w22 w7.heap.size 32 (nn ST) := t7.c
        clear t7
        refine ze 15 ⟨TB, BL, R, b3, b4, b5, by omega⟩ ?_
        refine zv 16 7 (u) (fun _ _ => .of) ⟨TB, BL, R, b3, b4, b5, by omega⟩ ?_
        simp only [sZ, sS]
        refine zd (by kernel_rfl) ?_ _
        refine hK5 _ _ ?_
        refine wp_seq_k fun K20 hK20 => ?_
        refine wp_seq_k fun K21 hK21 => ?_
        refine cPlain ?_
        refine sv 31 (.int .i64 0) .of ?_
        simp only [sZ, sS]
        refine wpList_nil ?_
        refine hK21 _ _ ?_
        refine wp_block ?_
        refine cLoop (fun N_ A_ w_ => ∃ (i : Nat) (O : List Nat), (N_ = 32 - i ∧ (i ≤ 32) ∧ (O = digN ST i) ∧ (O.length = 32) ∧ (∃ s3 : Nat → Value, A_ = ⟨[.pointer (some ⟨T, 0, none⟩), .agg #[.int .u32 ((y0 : Nat) : Int), .int .u32 ((y1 : Nat) : Int), .int .u32 ((y2 : Nat) : Int), .int .u32 ((y3 : Nat) : Int), .int .u32 ((y4 : Nat) : Int), .int .u32 ((y5 : Nat) : Int), .int .u32 ((y6 : Nat) : Int), .int .u32 ((y7 : Nat) : Int), .slice A (nn r).length C, .int .i64 (m : Int)], undef, .pointer (some ⟨w.heap.size, 0, none⟩), .pointer (some ⟨w1.heap.size, 0, none⟩), .pointer (some ⟨w2.heap.size, 0, none⟩), .pointer (some ⟨w7.heap.size, 0, none⟩), u, (s3 8), .pointer (some ⟨T, 0, none⟩), .bool false, .bool false, .agg #[.int .u32 ((y0 : Nat) : Int), .int .u32 ((y1 : Nat) : Int), .int .u32 ((y2 : Nat) : Int), .int .u32 ((y3 : Nat) : Int), .int .u32 ((y4 : Nat) : Int), .int .u32 ((y5 : Nat) : Int), .int .u32 ((y6 : Nat) : Int), .int .u32 ((y7 : Nat) : Int), .slice A (nn r).length C, .int .i64 (m : Int)], .bool true, .bool false, .bool false, undef, .tuple #[.agg (cellsOf .u32 (nn ST)), u], .pointer (some ⟨T, 0, none⟩), .pointer (some ⟨w.heap.size, 0, none⟩), .agg (cellsOf .u32 (nn [y0, y1, y2, y3, y4, y5, y6, y7])), .pointer (some ⟨w.heap.size, 8, none⟩), .slice A (nn r).length C, .pointer (some ⟨w.heap.size, 9, none⟩), .int .i64 (m : Int), .slice A2 (nn (padN m)).length C2, .slice (some ⟨w6.heap.size, 0, none⟩) 2 2, v1, .tuple #[.agg (cellsOf .u32 (nn ST)), u], .agg (cellsOf .u32 (nn ST)), u, .int .i64 (i : Int), (s3 32), (s3 33), (s3 34), (s3 35), (s3 36), (s3 37), (s3 38), (s3 39), (s3 40), (s3 41), (s3 42), (s3 43), (s3 44), (s3 45), (s3 46), undef].toArray, []⟩) ∧ Blk .u32 w_ T 35 (nn tab) ∧ Bl w.heap.size w w_ ∧ SL .u8 w_ (.slice A (nn r).length C) (nn r) ∧ Cel w_ w.heap.size 142 [.int .u32 ((y0 : Nat) : Int), .int .u32 ((y1 : Nat) : Int), .int .u32 ((y2 : Nat) : Int), .int .u32 ((y3 : Nat) : Int), .int .u32 ((y4 : Nat) : Int), .int .u32 ((y5 : Nat) : Int), .int .u32 ((y6 : Nat) : Int), .int .u32 ((y7 : Nat) : Int), .slice A (nn r).length C, .int .i64 (m : Int)] ∧ Blk .u8 w_ w1.heap.size 23 (nn (List.replicate 32 0)) ∧ Blk .u8 w_ w2.heap.size 23 (nn O) ∧ Own 5 .u8 w5.heap.size w_ (.slice A2 (nn (padN m)).length C2) (nn (padN m)) ∧ Cel w_ w6.heap.size 29 [.slice A (nn r).length C, .slice A2 (nn (padN m)).length C2] ∧ Blk .u32 w_ w7.heap.size 32 (nn ST) ∧ Own 5 .u8 w19.heap.size w_ v1 (nn (r ++ padN m)) ∧ w22.heap.size ≤ w_.heap.size)) _ ⟨0, (List.replicate 32 0), rfl, by omega, rfl, by simp, cutE, TB, BL, R, b3, b4, b5, OP, b26, b6, OA, Nat.le_refl _⟩ ?_
        clear TB BL R b3 b4 b5 OP b26 b6 OA
        rintro n_ a_ wl0 ⟨i, O, rfl, hc0_0, hc0_1, hc0_2, ⟨s3, rfl⟩, TB, BL, R, b3, b4, b5, OP, b26, b6, OA, zl0⟩
        have lOP_4 := OP.ge
        have lOA_5 := OA.ge
        refine wp_seq_k fun K22 hK22 => ?_
        refine cPlain ?_
        refine sv 32 (.bool (decide ((i : Int) < 32))) (Val.cmp .lss 3 _ (.tmp 31) _ rfl .i64 (i : Int) 32 (by kernel_rfl) (by kernel_rfl) (by simp) _ rfl) ?_
        simp only [sZ, sS]
        refine wpList_nil ?_
        refine hK22 _ _ ?_
        refine wp_seq_k fun K23 hK23 => ?_
        refine cDec ((i : Int) < 32) (by kernel_rfl) (fun c32 => ?_) (fun c32 => ?_)
        · skip
          refine wp_skip ?_
          refine hK23 _ _ ?_
          refine wp_seq_k fun K24 hK24 => ?_
          refine wp_block ?_
          refine wp_seq_k fun K25 hK25 => ?_
          refine cPlain ?_
          refine sv 33 (.int .i64 (i : Int)) .of ?_
          simp only [sZ, sS]
          refine sv 8 (.int .i64 (i : Int)) .of ?_
          simp only [sZ, sS]
          refine wpList_nil ?_
          refine hK25 _ _ ?_
          refine cPlain ?_
          refine sv 34 (.int .i64 (i : Int)) .of ?_
          simp only [sZ, sS]
          refine sv 35 (.int .i64 (i : Int)) .of ?_
          simp only [sZ, sS]
          refine sv 36 (.int .i64 ((i / 4 : Nat) : Int)) (Val.as (Val.quoI 3 _ (.tmp 35) _ rfl i 4 (by kernel_rfl) (by kernel_rfl) (by omega) (by omega)) (congrArg (Value.int .i64) (by omega))) ?_
          simp only [sZ, sS]
          refine sv 37 (.pointer (some ⟨w7.heap.size, (i / 4), none⟩)) (Val.idxA01 32 (.tmp 6) (.tmp 36) rfl w7.heap.size (i / 4) (by kernel_rfl) (by kernel_rfl) Try.underlying32 (by kernel_rfl) (by omega)) ?_
          simp only [sZ, sS]
          refine sv 38 (.int .u32 ((ST.getD (i / 4) 0 : Nat) : Int)) (Val.nblk1 31 _ rfl w7.heap.size (i / 4) (by kernel_rfl) (fun _ => (by kernel_rfl)) b6 (by omega)) ?_
          simp only [sZ, sS]
          refine sv 39 (.int .i64 (i : Int)) .of ?_
          simp only [sZ, sS]
          refine sv 40 (.int .i64 ((i % 4 : Nat) : Int)) (Val.as (Val.remN 3 _ (.tmp 39) _ rfl .i64 i 4 (by kernel_rfl) (by kernel_rfl) (by omega)) (congrArg (Value.int .i64) (by omega))) ?_
          simp only [sZ, sS]
          refine sv 41 (.int .i64 ((i % 4 * 8 : Nat) : Int)) (Val.as (Val.mul 3 _ (.tmp 40) _ rfl ((i % 4 : Nat) : Int) 8 (by kernel_rfl) (by kernel_rfl) (by omega)) (congrArg (Value.int .i64) (by omega))) ?_
          simp only [sZ, sS]
          refine sv 42 (.int .i64 ((24 - i % 4 * 8 : Nat) : Int)) (Val.as (Val.sub 3 _ _ (.tmp 41) rfl 24 ((i % 4 * 8 : Nat) : Int) (by kernel_rfl) (by kernel_rfl) (by omega)) (congrArg (Value.int .i64) (by omega))) ?_
          simp only [sZ, sS]
          refine sv 43 (.int .u32 (((ST.getD (i / 4) 0) >>> (24 - i % 4 * 8) : Nat) : Int)) (Val.shrN 31 _ (.tmp 38) (.tmp 42) rfl .u32 .i64 (ST.getD (i / 4) 0) (24 - i % 4 * 8) (by kernel_rfl) (by kernel_rfl) (by simp only [IntKind.bits]; omega)) ?_
          simp only [sZ, sS]
          refine sv 44 (.int .u8 ((((ST.getD (i / 4) 0) >>> (24 - i % 4 * 8)) % 256 : Nat) : Int)) (Val.convN 31 5 (.tmp 43) rfl .u8 ((ST.getD (i / 4) 0) >>> (24 - i % 4 * 8)) 256 Try.underlying31 Try.underlying5 (by kernel_rfl)) ?_
          simp only [sZ, sS]
          refine sv 45 (.pointer (some ⟨w2.heap.size, i, none⟩)) (Val.idxA01 23 (.tmp 5) (.tmp 34) rfl w2.heap.size i (by kernel_rfl) (by kernel_rfl) Try.underlying23 (by kernel_rfl) (by omega)) ?_
          simp only [sZ, sS]
          refine xStoreNN 5 (.tmp 45) (.tmp 44) rfl .u8 w2.heap.size 23 O i (((ST.getD (i / 4) 0) >>> (24 - i % 4 * 8)) % 256) (by kernel_rfl) (by kernel_rfl) b5 (by kernel_rfl) (by omega) ?_
          intro w23 t8
          have zt8 := t8.z
          have TB_ := TB.ev t8.e (show ¬ (T = w2.heap.size) by omega)
          have BL_ := BL.ev t8.e (fun i h => show w.heap.size ≤ i by have h : i = w2.heap.size := h; omega)
          have R_ := R.ev t8.e (fun i hi => show ¬ (i = w2.heap.size) by have := hrl i hi; omega)
          have b3_ := b3.ev t8.e (show ¬ (w.heap.size = w2.heap.size) by omega)
          have b4_ := b4.ev t8.e (show ¬ (w1.heap.size = w2.heap.size) by omega)
          have OP_ := OP.ev t8.e (fun i hi => show ¬ (i = w2.heap.size) by have := lOP_4 i hi; omega)
          have b26_ := b26.ev t8.e (show ¬ (w6.heap.size = w2.heap.size) by omega)
          have b6_ := b6.ev t8.e (show ¬ (w7.heap.size = w2.heap.size) by omega)
          have OA_ := OA.ev t8.e (fun i hi => show ¬ (i = w2.heap.size) by have := lOA_5 i hi; omega)
          replace TB := TB_; clear TB_
          replace BL := BL_; clear BL_
          replace R := R_; clear R_
          replace b3 := b3_; clear b3_
          replace b4 := b4_; clear b4_
          replace OP := OP_; clear OP_
          replace b26 := b26_; clear b26_
          replace b6 := b6_; clear b6_
          replace OA := OA_; clear OA_
          replace b5 : Blk .u8 w23 w2.heap.size 23 (nn (O.set i (((ST.getD (i / 4) 0) >>> (24 - i % 4 * 8)) % 256))) := t8.c
          clear t8
          refine wpList_nil ?_
          refine hK24 _ _ ?_
          refine cPlain ?_
          refine sv 46 (.int .i64 ((i : Int) + 1)) (Val.add 3 _ (.tmp 31) _ rfl (i : Int) 1 (by kernel_rfl) (by kernel_rfl) (by omega)) ?_
          simp only [sZ, sS]
          refine sv 31 (.int .i64 ((i : Int) + 1)) .of ?_
          simp only [sZ, sS]
          refine wpList_nil ?_
          refine ⟨_, ?_, i + 1, (O.set i (((ST.getD (i / 4) 0) >>> (24 - i % 4 * 8)) % 256)), rfl, by omega, by rw [hc0_1]; rfl, by simp [hc0_2], cutE, TB, BL, R, b3, b4, b5, OP, b26, b6, OA, by omega⟩
          omega
        · skip
          have hi32 : i = 32 := by omega
          rw [hi32] at hc0_1
          refine wp_exit ?_
          simp only [Exit.then, Exit.inBlock, ↓reduceIte, Nat.reduceEqDiff]
          refine hK20 _ _ ?_
          refine wp_seq_k fun K26 hK26 => ?_
          refine cPlain ?_
          refine sv 47 (.agg (cellsOf .u8 (nn O))) (Val.blk 23 _ rfl 0 32 (by kernel_rfl) b5 _ Try.underlying23 rfl (by kernel_rfl) (by (try simp only [nn_len, List.length_cons, List.length_nil, List.length_set, List.length_replicate]); try omega) _ (seg_all' _ (by (try simp only [nn_len, List.length_cons, List.length_nil, List.length_set, List.length_replicate]); try omega))) ?_
          simp only [sZ, sS]
          refine xStoreA 23 (.tmp 4) (.tmp 47) rfl .u8 w1.heap.size 23 (nn (List.replicate 32 0)) 0 (nn O) (by kernel_rfl) (by kernel_rfl) b4 (by rw [show (nn O).length = 32 by ((try simp only [nn_len, List.length_cons, List.length_nil, List.length_set, List.length_replicate]); try omega)]; kernel_rfl) (by (try simp only [nn_len, List.length_cons, List.length_nil, List.length_set, List.length_replicate]); try omega) (nn O) (over_whole _ _ (by (try simp only [nn_len, List.length_cons, List.length_nil, List.length_set, List.length_replicate]); try omega)) ?_
          intro w24 t9
          have zt9 := t9.z
          have TB_ := TB.ev t9.e (show ¬ (T = w1.heap.size) by omega)
          have BL_ := BL.ev t9.e (fun i h => show w.heap.size ≤ i by have h : i = w1.heap.size := h; omega)
          have R_ := R.ev t9.e (fun i hi => show ¬ (i = w1.heap.size) by have := hrl i hi; omega)
          have b3_ := b3.ev t9.e (show ¬ (w.heap.size = w1.heap.size) by omega)
          have b5_ := b5.ev t9.e (show ¬ (w2.heap.size = w1.heap.size) by omega)
          have OP_ := OP.ev t9.e (fun i hi => show ¬ (i = w1.heap.size) by have := lOP_4 i hi; omega)
          have b26_ := b26.ev t9.e (show ¬ (w6.heap.size = w1.heap.size) by omega)
          have b6_ := b6.ev t9.e (show ¬ (w7.heap.size = w1.heap.size) by omega)
          have OA_ := OA.ev t9.e (fun i hi => show ¬ (i = w1.heap.size) by have := lOA_5 i hi; omega)
          replace TB := TB_; clear TB_
          replace BL := BL_; clear BL_
          replace R := R_; clear R_
          replace b3 := b3_; clear b3_
          replace b5 := b5_; clear b5_
          replace OP := OP_; clear OP_
          replace b26 := b26_; clear b26_
          replace b6 := b6_; clear b6_
          replace OA := OA_; clear OA_
          replace b4 : Blk .u8 w24 w1.heap.size 23 (nn O) := t9.c
          clear t9
          refine wpList_nil ?_
          refine hK26 _ _ ?_
          refine wp_ret ?_
          (try simp only [Exit.then, Exit.inBlock])
          refine bodyPost_ret (rC rfl _ w1.heap.size _ _ (by kernel_rfl) b4.cel _ Try.underlying23 rfl (by rw [List.length_map, show (nn O).length = 32 by ((try simp only [nn_len, List.length_cons, List.length_nil, List.length_set, List.length_replicate]); try omega)]; kernel_rfl)) rfl ?_
          rw [← hc0_1]
          exact ⟨rfl, BL.b⟩
    · skip
      refine xAlloc 6 32 ((nn (List.replicate 8 0)).map (Value.int .u32)) rfl (by kernel_rfl) ?_
      intro w25 n8
      have zn8 := n8.z
      have b6 := n8.c
      replace b6 : Blk .u32 w25 w6.heap.size 32 (nn (List.replicate 8 0)) := b6
      replace TB := TB.e0 n8.e
      replace BL := BL.e0 n8.e
      replace R := R.e0 n8.e
      replace b3 := b3.e0 n8.e
      replace b4 := b4.e0 n8.e
      replace b5 := b5.e0 n8.e
      replace OP := OP.e0 n8.e
      refine ze 14 ⟨TB, BL, R, b3, b4, b5, by omega⟩ ?_
      simp only [sZ, sS]
      refine zo1 8 rfl ?_
      refine xLit 26 99 29 2 _ #[(0, .slice A (nn r).length C), (1, .slice A2 (nn (padN m)).length C2)] [.slice A (nn r).length C, .slice A2 (nn (padN m)).length C2] rfl (by kernel_rfl) (by kernel_rfl) ?_
      intro w26 n9
      have zn9 := n9.z
      have b26 := n9.c
      replace TB := TB.e0 n9.e
      replace BL := BL.e0 n9.e
      replace R := R.e0 n9.e
      replace b3 := b3.e0 n9.e
      replace b4 := b4.e0 n9.e
      replace b5 := b5.e0 n9.e
      replace OP := OP.e0 n9.e
      replace b6 := b6.e0 n9.e
      refine ze 8 ⟨TB, BL, R, b3, b4, b5, by omega⟩ ?_
      simp only [sZ, sS]
      refine zo1 9 rfl ?_
      refine xCall 27 112 #[.slice (some ⟨w25.heap.size, 0, none⟩) 2 2] (by kernel_rfl) ?_
      refine (concatB_any _ [.slice A (nn r).length C, .slice A2 (nn (padN m)).length C2] [nn r, nn (padN m)] w26 (SV.ofCel (n := 2) b26 rfl (by unfold maxLen; omega)) (SLs.pairW R (fun i hi => by have := hrl i hi; omega) OP.sl (fun i hi => (OP.ge i hi).2)) (by rw [flat2, List.length_append]; omega)).mono ?_
      rintro en w27 ⟨v1, rfl, hO, hb1⟩
      have e9 := belE0 hb1
      have ze9 := e9.size
      replace TB := TB.e0 e9
      replace BL := BL.e0 e9
      replace R := R.e0 e9
      replace b3 := b3.e0 e9
      replace b4 := b4.e0 e9
      replace b5 := b5.e0 e9
      replace OP := OP.e0 e9
      replace b6 := b6.e0 e9
      replace b26 := b26.e0 e9
      clear e9
      have OA : Own 5 .u8 w26.heap.size w27 v1 (nn (r ++ padN m)) := hO.cast (by rw [flat2, nn_app])
      have lOA_6 := OA.ge
      refine ⟨v1, rfl, ?_⟩
      refine ze 9 ⟨TB, BL, R, b3, b4, b5, by omega⟩ ?_
      simp only [sZ, sS]
      refine zo1 10 rfl ?_
      refine xCall 28 111 #[.pointer (some ⟨T, 0, none⟩), .agg (cellsOf .u32 (nn [y0, y1, y2, y3, y4, y5, y6, y7])), v1] (by kernel_rfl) ?_
      refine (blocks_any T tab [y0, y1, y2, y3, y4, y5, y6, y7] (r ++ padN m) v1 ht rfl w27 TB OA.sl).mono ?_
      rintro en w28 ⟨u, he, ⟨hu1, hu2⟩, hb1⟩
      rw [hST] at he
      subst he
      clear hu1 hu2
      have e10 := belE0 hb1
      have ze10 := e10.size
      replace TB := TB.e0 e10
      replace BL := BL.e0 e10
      replace R := R.e0 e10
      replace b3 := b3.e0 e10
      replace b4 := b4.e0 e10
      replace b5 := b5.e0 e10
      replace OP := OP.e0 e10
      replace b6 := b6.e0 e10
      replace b26 := b26.e0 e10
      replace OA := OA.e0 e10
      clear e10
      refine ⟨.tuple #[.agg (cellsOf .u32 (nn ST)), u], rfl, ?_⟩
      refine ze 10 ⟨TB, BL, R, b3, b4, b5, by omega⟩ ?_
      simp only [sZ, sS]
      refine zv 11 17 (.tuple #[.agg (cellsOf .u32 (nn ST)), u]) (fun _ _ => .of) ⟨TB, BL, R, b3, b4, b5, by omega⟩ ?_
      simp only [sZ, sS]
      refine zv 12 29 (.agg (cellsOf .u32 (nn ST))) (fun _ _ => .of) ⟨TB, BL, R, b3, b4, b5, by omega⟩ ?_
      simp only [sZ, sS]
      refine zv 13 30 (u) (fun _ _ => .of) ⟨TB, BL, R, b3, b4, b5, by omega⟩ ?_
      simp only [sZ, sS]
      refine zo1 15 rfl ?_
      refine xStoreA 32 (.tmp 6) (.tmp 29) rfl .u32 w6.heap.size 32 (nn (List.replicate 8 0)) 0 (nn ST) (by kernel_rfl) (by kernel_rfl) b6 (by rw [show (nn ST).length = 8 by ((try simp only [nn_len, List.length_cons, List.length_nil, List.length_set, List.length_replicate]); try omega)]; kernel_rfl) (by (try simp only [nn_len, List.length_cons, List.length_nil, List.length_set, List.length_replicate]); try omega) (nn ST) (over_whole _ _ (by (try simp only [nn_len, List.length_cons, List.length_nil, List.length_set, List.length_replicate]); try omega)) ?_
      intro w29 t10
      have zt10 := t10.z
      have TB_ := TB.ev t10.e (show ¬ (T = w6.heap.size) by omega)
      have BL_ := BL.ev t10.e (fun i h => show w.heap.size ≤ i by have h : i = w6.heap.size := h; omega)
      have R_ := R.ev t10.e (fun i hi => show ¬ (i = w6.heap.size) by have := hrl i hi; omega)
      have b3_ := b3.ev t10.e (show ¬ (w.heap.size = w6.heap.size) by omega)
      have b4_ := b4.ev t10.e (show ¬ (w1.heap.size = w6.heap.size) by omega)
      have b5_ := b5.ev t10.e (show ¬ (w2.heap.size = w6.heap.size) by omega)
      have OP_ := OP.ev t10.e (fun i hi => show ¬ (i = w6.heap.size) by have := lOP_1 i hi; omega)
      have b26_ := b26.ev t10.e (show ¬ (w25.heap.size = w6.heap.size) by omega)
      have OA_ := OA.ev t10.e (fun i hi => show ¬ (i = w6.heap.size) by have := lOA_6 i hi; omega)
      replace TB := TB_; clear TB_
      replace BL := BL_; clear BL_
      replace R := R_; clear R_
      replace b3 := b3_; clear b3_
      replace b4 := b4_; clear b4_
      replace b5 := b5_; clear b5_
      replace OP := OP_; clear OP_
      replace b26 := b26_; clear b26_
      replace OA := OA_; clear OA_
      replace b6 : Blk .u32 w29 w6.heap.size 32 (nn ST) := t10.c
      clear t10
      refine ze 15 ⟨TB, BL, R, b3, b4, b5, by omega⟩ ?_
      refine zv 16 7 (u) (fun _ _ => .of) ⟨TB, BL, R, b3, b4, b5, by omega⟩ ?_
      simp only [sZ, sS]
      refine zd (by kernel_rfl) ?_ _
      refine hK5 _ _ ?_
      refine wp_seq_k fun K27 hK27 => ?_
      refine wp_seq_k fun K28 hK28 => ?_
      refine cPlain ?_
      refine sv 31 (.int .i64 0) .of ?_
      simp only [sZ, sS]
      refine wpList_nil ?_
      refine hK28 _ _ ?_
      refine wp_block ?_
      refine cLoop (fun N_ A_ w_ => ∃ (i : Nat) (O : List Nat), (N_ = 32 - i ∧ (i ≤ 32) ∧ (O = digN ST i) ∧ (O.length = 32) ∧ (∃ s4 : Nat → Value, A_ = ⟨[.pointer (some ⟨T, 0, none⟩), .agg #[.int .u32 ((y0 : Nat) : Int), .int .u32 ((y1 : Nat) : Int), .int .u32 ((y2 : Nat) : Int), .int .u32 ((y3 : Nat) : Int), .int .u32 ((y4 : Nat) : Int), .int .u32 ((y5 : Nat) : Int), .int .u32 ((y6 : Nat) : Int), .int .u32 ((y7 : Nat) : Int), .slice A (nn r).length C, .int .i64 (m : Int)], undef, .pointer (some ⟨w.heap.size, 0, none⟩), .pointer (some ⟨w1.heap.size, 0, none⟩), .pointer (some ⟨w2.heap.size, 0, none⟩), .pointer (some ⟨w6.heap.size, 0, none⟩), u, (s4 8), .pointer (some ⟨T, 0, none⟩), .bool false, .bool false, .agg #[.int .u32 ((y0 : Nat) : Int), .int .u32 ((y1 : Nat) : Int), .int .u32 ((y2 : Nat) : Int), .int .u32 ((y3 : Nat) : Int), .int .u32 ((y4 : Nat) : Int), .int .u32 ((y5 : Nat) : Int), .int .u32 ((y6 : Nat) : Int), .int .u32 ((y7 : Nat) : Int), .slice A (nn r).length C, .int .i64 (m : Int)], .bool true, .bool false, .bool false, undef, .tuple #[.agg (cellsOf .u32 (nn ST)), u], .pointer (some ⟨T, 0, none⟩), .pointer (some ⟨w.heap.size, 0, none⟩), .agg (cellsOf .u32 (nn [y0, y1, y2, y3, y4, y5, y6, y7])), .pointer (some ⟨w.heap.size, 8, none⟩), .slice A (nn r).length C, .pointer (some ⟨w.heap.size, 9, none⟩), .int .i64 (m : Int), .slice A2 (nn (padN m)).length C2, .slice (some ⟨w25.heap.size, 0, none⟩) 2 2, v1, .tuple #[.agg (cellsOf .u32 (nn ST)), u], .agg (cellsOf .u32 (nn ST)), u, .int .i64 (i : Int), (s4 32), (s4 33), (s4 34), (s4 35), (s4 36), (s4 37), (s4 38), (s4 39), (s4 40), (s4 41), (s4 42), (s4 43), (s4 44), (s4 45), (s4 46), undef].toArray, []⟩) ∧ Blk .u32 w_ T 35 (nn tab) ∧ Bl w.heap.size w w_ ∧ SL .u8 w_ (.slice A (nn r).length C) (nn r) ∧ Cel w_ w.heap.size 142 [.int .u32 ((y0 : Nat) : Int), .int .u32 ((y1 : Nat) : Int), .int .u32 ((y2 : Nat) : Int), .int .u32 ((y3 : Nat) : Int), .int .u32 ((y4 : Nat) : Int), .int .u32 ((y5 : Nat) : Int), .int .u32 ((y6 : Nat) : Int), .int .u32 ((y7 : Nat) : Int), .slice A (nn r).length C, .int .i64 (m : Int)] ∧ Blk .u8 w_ w1.heap.size 23 (nn (List.replicate 32 0)) ∧ Blk .u8 w_ w2.heap.size 23 (nn O) ∧ Own 5 .u8 w5.heap.size w_ (.slice A2 (nn (padN m)).length C2) (nn (padN m)) ∧ Blk .u32 w_ w6.heap.size 32 (nn ST) ∧ Cel w_ w25.heap.size 29 [.slice A (nn r).length C, .slice A2 (nn (padN m)).length C2] ∧ Own 5 .u8 w26.heap.size w_ v1 (nn (r ++ padN m)) ∧ w29.heap.size ≤ w_.heap.size)) _ ⟨0, (List.replicate 32 0), rfl, by omega, rfl, by simp, cutE, TB, BL, R, b3, b4, b5, OP, b6, b26, OA, Nat.le_refl _⟩ ?_
      clear TB BL R b3 b4 b5 OP b6 b26 OA
      rintro n_ a_ wl0 ⟨i, O, rfl, hc0_0, hc0_1, hc0_2, ⟨s4, rfl⟩, TB, BL, R, b3, b4, b5, OP, b6, b26, OA, zl0⟩
      have lOP_5 := OP.ge
      have lOA_7 := OA.ge
      refine wp_seq_k fun K29 hK29 => ?_
      refine cPlain ?_
      refine sv 32 (.bool (decide ((i : Int) < 32))) (Val.cmp .lss 3 _ (.tmp 31) _ rfl .i64 (i : Int) 32 (by kernel_rfl) (by kernel_rfl) (by simp) _ rfl) ?_
      simp only [sZ, sS]
      refine wpList_nil ?_
      refine hK29 _ _ ?_
      refine wp_seq_k fun K30 hK30 => ?_
      refine cDec ((i : Int) < 32) (by kernel_rfl) (fun c32 => ?_) (fun c32 => ?_)
      · skip
        refine wp_skip ?_
        refine hK30 _ _ ?_
        refine wp_seq_k fun K31 hK31 => ?_
        refine wp_block ?_
        refine wp_seq_k fun K32 hK32 => ?_
        refine cPlain ?_
        refine sv 33 (.int .i64 (i : Int)) .of ?_
        simp only [sZ, sS]
        refine sv 8 (.int .i64 (i : Int)) .of ?_
        simp only [sZ, sS]
        refine wpList_nil ?_
        refine hK32 _ _ ?_
        refine cPlain ?_
        refine sv 34 (.int .i64 (i : Int)) .of ?_
        simp only [sZ, sS]
        refine sv 35 (.int .i64 (i : Int)) .of ?_
        simp only [sZ, sS]
        refine sv 36 (.int .i64 ((i / 4 : Nat) : Int)) (Val.as (Val.quoI 3 _ (.tmp 35) _ rfl i 4 (by kernel_rfl) (by kernel_rfl) (by omega) (by omega)) (congrArg (Value.int .i64) (by omega))) ?_
        simp only [sZ, sS]
        refine sv 37 (.pointer (some ⟨w6.heap.size, (i / 4), none⟩)) (Val.idxA01 32 (.tmp 6) (.tmp 36) rfl w6.heap.size (i / 4) (by kernel_rfl) (by kernel_rfl) Try.underlying32 (by kernel_rfl) (by omega)) ?_
        simp only [sZ, sS]
        refine sv 38 (.int .u32 ((ST.getD (i / 4) 0 : Nat) : Int)) (Val.nblk1 31 _ rfl w6.heap.size (i / 4) (by kernel_rfl) (fun _ => (by kernel_rfl)) b6 (by omega)) ?_
        simp only [sZ, sS]
        refine sv 39 (.int .i64 (i : Int)) .of ?_
        simp only [sZ, sS]
        refine sv 40 (.int .i64 ((i % 4 : Nat) : Int)) (Val.as (Val.remN 3 _ (.tmp 39) _ rfl .i64 i 4 (by kernel_rfl) (by kernel_rfl) (by omega)) (congrArg (Value.int .i64) (by omega))) ?_
        simp only [sZ, sS]
        refine sv 41 (.int .i64 ((i % 4 * 8 : Nat) : Int)) (Val.as (Val.mul 3 _ (.tmp 40) _ rfl ((i % 4 : Nat) : Int) 8 (by kernel_rfl) (by kernel_rfl) (by omega)) (congrArg (Value.int .i64) (by omega))) ?_
        simp only [sZ, sS]
        refine sv 42 (.int .i64 ((24 - i % 4 * 8 : Nat) : Int)) (Val.as (Val.sub 3 _ _ (.tmp 41) rfl 24 ((i % 4 * 8 : Nat) : Int) (by kernel_rfl) (by kernel_rfl) (by omega)) (congrArg (Value.int .i64) (by omega))) ?_
        simp only [sZ, sS]
        refine sv 43 (.int .u32 (((ST.getD (i / 4) 0) >>> (24 - i % 4 * 8) : Nat) : Int)) (Val.shrN 31 _ (.tmp 38) (.tmp 42) rfl .u32 .i64 (ST.getD (i / 4) 0) (24 - i % 4 * 8) (by kernel_rfl) (by kernel_rfl) (by simp only [IntKind.bits]; omega)) ?_
        simp only [sZ, sS]
        refine sv 44 (.int .u8 ((((ST.getD (i / 4) 0) >>> (24 - i % 4 * 8)) % 256 : Nat) : Int)) (Val.convN 31 5 (.tmp 43) rfl .u8 ((ST.getD (i / 4) 0) >>> (24 - i % 4 * 8)) 256 Try.underlying31 Try.underlying5 (by kernel_rfl)) ?_
        simp only [sZ, sS]
        refine sv 45 (.pointer (some ⟨w2.heap.size, i, none⟩)) (Val.idxA01 23 (.tmp 5) (.tmp 34) rfl w2.heap.size i (by kernel_rfl) (by kernel_rfl) Try.underlying23 (by kernel_rfl) (by omega)) ?_
        simp only [sZ, sS]
        refine xStoreNN 5 (.tmp 45) (.tmp 44) rfl .u8 w2.heap.size 23 O i (((ST.getD (i / 4) 0) >>> (24 - i % 4 * 8)) % 256) (by kernel_rfl) (by kernel_rfl) b5 (by kernel_rfl) (by omega) ?_
        intro w30 t11
        have zt11 := t11.z
        have TB_ := TB.ev t11.e (show ¬ (T = w2.heap.size) by omega)
        have BL_ := BL.ev t11.e (fun i h => show w.heap.size ≤ i by have h : i = w2.heap.size := h; omega)
        have R_ := R.ev t11.e (fun i hi => show ¬ (i = w2.heap.size) by have := hrl i hi; omega)
        have b3_ := b3.ev t11.e (show ¬ (w.heap.size = w2.heap.size) by omega)
        have b4_ := b4.ev t11.e (show ¬ (w1.heap.size = w2.heap.size) by omega)
        have OP_ := OP.ev t11.e (fun i hi => show ¬ (i = w2.heap.size) by have := lOP_5 i hi; omega)
        have b6_ := b6.ev t11.e (show ¬ (w6.heap.size = w2.heap.size) by omega)
        have b26_ := b26.ev t11.e (show ¬ (w25.heap.size = w2.heap.size) by omega)
        have OA_ := OA.ev t11.e (fun i hi => show ¬ (i = w2.heap.size) by have := lOA_7 i hi; omega)
        replace TB := TB_; clear TB_
        replace BL := BL_; clear BL_
        replace R := R_; clear R_
        replace b3 := b3_; clear b3_
        replace b4 := b4_; clear b4_
        replace OP := OP_; clear OP_
        replace b6 := b6_; clear b6_
        replace b26 := b26_; clear b26_
        replace OA := OA_; clear OA_
        replace b5 : Blk .u8 w30 w2.heap.size 23 (nn (O.set i (((ST.getD (i / 4) 0) >>> (24 - i % 4 * 8)) % 256))) := t11.c
        clear t11
        refine wpList_nil ?_
        refine hK31 _ _ ?_
        refine cPlain ?_
        refine sv 46 (.int .i64 ((i : Int) + 1)) (Val.add 3 _ (.tmp 31) _ rfl (i : Int) 1 (by kernel_rfl) (by kernel_rfl) (by omega)) ?_
        simp only [sZ, sS]
        refine sv 31 (.int .i64 ((i : Int) + 1)) .of ?_
        simp only [sZ, sS]
        refine wpList_nil ?_
        refine ⟨_, ?_, i + 1, (O.set i (((ST.getD (i / 4) 0) >>> (24 - i % 4 * 8)) % 256)), rfl, by omega, by rw [hc0_1]; rfl, by simp [hc0_2], cutE, TB, BL, R, b3, b4, b5, OP, b6, b26, OA, by omega⟩
        omega
      · skip
        have hi32 : i = 32 := by omega
        rw [hi32] at hc0_1
        refine wp_exit ?_
        simp only [Exit.then, Exit.inBlock, ↓reduceIte, Nat.reduceEqDiff]
        refine hK27 _ _ ?_
        refine wp_seq_k fun K33 hK33 => ?_
        refine cPlain ?_
        refine sv 47 (.agg (cellsOf .u8 (nn O))) (Val.blk 23 _ rfl 0 32 (by kernel_rfl) b5 _ Try.underlying23 rfl (by kernel_rfl) (by (try simp only [nn_len, List.length_cons, List.length_nil, List.length_set, List.length_replicate]); try omega) _ (seg_all' _ (by (try simp only [nn_len, List.length_cons, List.length_nil, List.length_set, List.length_replicate]); try omega))) ?_
        simp only [sZ, sS]
        refine xStoreA 23 (.tmp 4) (.tmp 47) rfl .u8 w1.heap.size 23 (nn (List.replicate 32 0)) 0 (nn O) (by kernel_rfl) (by kernel_rfl) b4 (by rw [show (nn O).length = 32 by ((try simp only [nn_len, List.length_cons, List.length_nil, List.length_set, List.length_replicate]); try omega)]; kernel_rfl) (by (try simp only [nn_len, List.length_cons, List.length_nil, List.length_set, List.length_replicate]); try omega) (nn O) (over_whole _ _ (by (try simp only [nn_len, List.length_cons, List.length_nil, List.length_set, List.length_replicate]); try omega)) ?_
        intro w31 t12
        have zt12 := t12.z
        have TB_ := TB.ev t12.e (show ¬ (T = w1.heap.size) by omega)
        have BL_ := BL.ev t12.e (fun i h => show w.heap.size ≤ i by have h : i = w1.heap.size := h; omega)
        have R_ := R.ev t12.e (fun i hi => show ¬ (i = w1.heap.size) by have := hrl i hi; omega)
        have b3_ := b3.ev t12.e (show ¬ (w.heap.size = w1.heap.size) by omega)
        have b5_ := b5.ev t12.e (show ¬ (w2.heap.size = w1.heap.size) by omega)
        have OP_ := OP.ev t12.e (fun i hi => show ¬ (i = w1.heap.size) by have := lOP_5 i hi; omega)
        have b6_ := b6.ev t12.e (show ¬ (w6.heap.size = w1.heap.size) by omega)
        have b26_ := b26.ev t12.e (show ¬ (w25.heap.size = w1.heap.size) by omega)
        have OA_ := OA.ev t12.e (fun i hi => show ¬ (i = w1.heap.size) by have := lOA_7 i hi; omega)
        replace TB := TB_; clear TB_
        replace BL := BL_; clear BL_
        replace R := R_; clear R_
        replace b3 := b3_; clear b3_
        replace b5 := b5_; clear b5_
        replace OP := OP_; clear OP_
        replace b6 := b6_; clear b6_
        replace b26 := b26_; clear b26_
        replace OA := OA_; clear OA_
        replace b4 : Blk .u8 w31 w1.heap.size 23 (nn O) := t12.c
        clear t12
        refine wpList_nil ?_
        refine hK33 _ _ ?_
        refine wp_ret ?_
        (try simp only [Exit.then, Exit.inBlock])
        refine bodyPost_ret (rC rfl _ w1.heap.size _ _ (by kernel_rfl) b4.cel _ Try.underlying23 rfl (by rw [List.length_map, show (nn O).length = 32 by ((try simp only [nn_len, List.length_cons, List.length_nil, List.length_set, List.length_replicate]); try omega)]; kernel_rfl)) rfl ?_
        rw [← hc0_1]
        exact ⟨rfl, BL.b⟩
  · skip
    refine xAlloc 6 32 ((nn (List.replicate 8 0)).map (Value.int .u32)) rfl (by kernel_rfl) ?_
    intro w32 n10
    have zn10 := n10.z
    have b6 := n10.c
    replace b6 : Blk .u32 w32 w5.heap.size 32 (nn (List.replicate 8 0)) := b6
    replace TB := TB.e0 n10.e
    replace BL := BL.e0 n10.e
    replace R := R.e0 n10.e
    replace b3 := b3.e0 n10.e
    replace b4 := b4.e0 n10.e
    replace b5 := b5.e0 n10.e
    refine ze 14 ⟨TB, BL, R, b3, b4, b5, by omega⟩ ?_
    simp only [sZ, sS]
    refine zo1 7 rfl ?_
    refine xCall 25 113 #[.int .i64 (m : Int)] (by kernel_rfl) ?_
    refine (pad_nat m w32).mono ?_
    rintro en w33 ⟨v0, he0, hO0, hb1⟩
    obtain ⟨A2, C2, hv0⟩ := hO0.len
    rw [hv0] at he0 hO0
    subst he0
    have e11 := belE0 hb1
    have ze11 := e11.size
    replace TB := TB.e0 e11
    replace BL := BL.e0 e11
    replace R := R.e0 e11
    replace b3 := b3.e0 e11
    replace b4 := b4.e0 e11
    replace b5 := b5.e0 e11
    replace b6 := b6.e0 e11
    clear e11
    have OP : Own 5 .u8 w32.heap.size w33 (.slice A2 (nn (padN m)).length C2) (nn (padN m)) := hO0
    have lOP_6 := OP.ge
    refine ⟨.slice A2 (nn (padN m)).length C2, rfl, ?_⟩
    refine ze 7 ⟨TB, BL, R, b3, b4, b5, by omega⟩ ?_
    simp only [sZ, sS]
    refine zo1 8 rfl ?_
    refine xLit 26 99 29 2 _ #[(0, .slice A (nn r).length C), (1, .slice A2 (nn (padN m)).length C2)] [.slice A (nn r).length C, .slice A2 (nn (padN m)).length C2] rfl (by kernel_rfl) (by kernel_rfl) ?_
    intro w34 n11
    have zn11 := n11.z
    have b26 := n11.c
    replace TB := TB.e0 n11.e
    replace BL := BL.e0 n11.e
    replace R := R.e0 n11.e
    replace b3 := b3.e0 n11.e
    replace b4 := b4.e0 n11.e
    replace b5 := b5.e0 n11.e
    replace b6 := b6.e0 n11.e
    replace OP := OP.e0 n11.e
    refine ze 8 ⟨TB, BL, R, b3, b4, b5, by omega⟩ ?_
    simp only [sZ, sS]
    refine zo1 9 rfl ?_
    refine xCall 27 112 #[.slice (some ⟨w33.heap.size, 0, none⟩) 2 2] (by kernel_rfl) ?_
    refine (concatB_any _ [.slice A (nn r).length C, .slice A2 (nn (padN m)).length C2] [nn r, nn (padN m)] w34 (SV.ofCel (n := 2) b26 rfl (by unfold maxLen; omega)) (SLs.pairW R (fun i hi => by have := hrl i hi; omega) OP.sl (fun i hi => (OP.ge i hi).2)) (by rw [flat2, List.length_append]; omega)).mono ?_
    rintro en w35 ⟨v1, rfl, hO, hb1⟩
    have e12 := belE0 hb1
    have ze12 := e12.size
    replace TB := TB.e0 e12
    replace BL := BL.e0 e12
    replace R := R.e0 e12
    replace b3 := b3.e0 e12
    replace b4 := b4.e0 e12
    replace b5 := b5.e0 e12
    replace b6 := b6.e0 e12
    replace OP := OP.e0 e12
    replace b26 := b26.e0 e12
    clear e12
    have OA : Own 5 .u8 w34.heap.size w35 v1 (nn (r ++ padN m)) := hO.cast (by rw [flat2, nn_app])
    have lOA_8 := OA.ge
    refine ⟨v1, rfl, ?_⟩
    refine ze 9 ⟨TB, BL, R, b3, b4, b5, by omega⟩ ?_
    simp only [sZ, sS]
    refine zo1 10 rfl ?_
    refine xCall 28 111 #[.pointer (some ⟨T, 0, none⟩), .agg (cellsOf .u32 (nn [y0, y1, y2, y3, y4, y5, y6, y7])), v1] (by kernel_rfl) ?_
    refine (blocks_any T tab [y0, y1, y2, y3, y4, y5, y6, y7] (r ++ padN m) v1 ht rfl w35 TB OA.sl).mono ?_
    rintro en w36 ⟨u, he, ⟨hu1, hu2⟩, hb1⟩
    rw [hST] at he
    subst he
    clear hu1 hu2
    have e13 := belE0 hb1
    have ze13 := e13.size
    replace TB := TB.e0 e13
    replace BL := BL.e0 e13
    replace R := R.e0 e13
    replace b3 := b3.e0 e13
    replace b4 := b4.e0 e13
    replace b5 := b5.e0 e13
    replace b6 := b6.e0 e13
    replace OP := OP.e0 e13
    replace b26 := b26.e0 e13
    replace OA := OA.e0 e13
    clear e13
    refine ⟨.tuple #[.agg (cellsOf .u32 (nn ST)), u], rfl, ?_⟩
    refine ze 10 ⟨TB, BL, R, b3, b4, b5, by omega⟩ ?_
    simp only [sZ, sS]
    refine zv 11 17 (.tuple #[.agg (cellsOf .u32 (nn ST)), u]) (fun _ _ => .of) ⟨TB, BL, R, b3, b4, b5, by omega⟩ ?_
    simp only [sZ, sS]
    refine zv 12 29 (.agg (cellsOf .u32 (nn ST))) (fun _ _ => .of) ⟨TB, BL, R, b3, b4, b5, by omega⟩ ?_
    simp only [sZ, sS]
    refine zv 13 30 (u) (fun _ _ => .of) ⟨TB, BL, R, b3, b4, b5, by omega⟩ ?_
    simp only [sZ, sS]
    refine zo1 15 rfl ?_
    refine xStoreA 32 (.tmp 6) (.tmp 29) rfl .u32 w5.heap.size 32 (nn (List.replicate 8 0)) 0 (nn ST) (by kernel_rfl) (by kernel_rfl) b6 (by rw [show (nn ST).length = 8 by ((try simp only [nn_len, List.length_cons, List.length_nil, List.length_set, List.length_replicate]); try omega)]; kernel_rfl) (by (try simp only [nn_len, List.length_cons, List.length_nil, List.length_set, List.length_replicate]); try omega) (nn ST) (over_whole _ _ (by (try simp only [nn_len, List.length_cons, List.length_nil, List.length_set, List.length_replicate]); try omega)) ?_
    intro w37 t13
    have zt13 := t13.z
    have TB_ := TB.ev t13.e (show ¬ (T = w5.heap.size) by omega)
    have BL_ := BL.ev t13.e (fun i h => show w.heap.size ≤ i by have h : i = w5.heap.size := h; omega)
    have R_ := R.ev t13.e (fun i hi => show ¬ (i = w5.heap.size) by have := hrl i hi; omega)
    have b3_ := b3.ev t13.e (show ¬ (w.heap.size = w5.heap.size) by omega)
    have b4_ := b4.ev t13.e (show ¬ (w1.heap.size = w5.heap.size) by omega)
    have b5_ := b5.ev t13.e (show ¬ (w2.heap.size = w5.heap.size) by omega)
    have OP_ := OP.ev t13.e (fun i hi => show ¬ (i = w5.heap.size) by have := lOP_6 i hi; omega)
    have b26_ := b26.ev t13.e (show ¬ (w33.heap.size = w5.heap.size) by omega)
    have OA_ := OA.ev t13.e (fun i hi => show ¬ (i = w5.heap.size) by have := lOA_8 i hi; omega)
    replace TB := TB_; clear TB_
    replace BL := BL_; clear BL_
    replace R := R_; clear R_
    replace b3 := b3_; clear b3_
    replace b4 := b4_; clear b4_
    replace b5 := b5_; clear b5_
    replace OP := OP_; clear OP_
    replace b26 := b26_; clear b26_
    replace OA := OA_; clear OA_
    replace b6 : Blk .u32 w37 w5.heap.size 32 (nn ST) := t13.c
    clear t13
    refine ze 15 ⟨TB, BL, R, b3, b4, b5, by omega⟩ ?_
    refine zv 16 7 (u) (fun _ _ => .of) ⟨TB, BL, R, b3, b4, b5, by omega⟩ ?_
    simp only [sZ, sS]
    refine zd (by kernel_rfl) ?_ _
    refine hK5 _ _ ?_
    refine wp_seq_k fun K34 hK34 => ?_
    refine wp_seq_k fun K35 hK35 => ?_
    refine cPlain ?_
    refine sv 31 (.int .i64 0) .of ?_
    simp only [sZ, sS]
    refine wpList_nil ?_
    refine hK35 _ _ ?_
    refine wp_block ?_
    refine cLoop (fun N_ A_ w_ => ∃ (i : Nat) (O : List Nat), (N_ = 32 - i ∧ (i ≤ 32) ∧ (O = digN ST i) ∧ (O.length = 32) ∧ (∃ s5 : Nat → Value, A_ = ⟨[.pointer (some ⟨T, 0, none⟩), .agg #[.int .u32 ((y0 : Nat) : Int), .int .u32 ((y1 : Nat) : Int), .int .u32 ((y2 : Nat) : Int), .int .u32 ((y3 : Nat) : Int), .int .u32 ((y4 : Nat) : Int), .int .u32 ((y5 : Nat) : Int), .int .u32 ((y6 : Nat) : Int), .int .u32 ((y7 : Nat) : Int), .slice A (nn r).length C, .int .i64 (m : Int)], undef, .pointer (some ⟨w.heap.size, 0, none⟩), .pointer (some ⟨w1.heap.size, 0, none⟩), .pointer (some ⟨w2.heap.size, 0, none⟩), .pointer (some ⟨w5.heap.size, 0, none⟩), u, (s5 8), .pointer (some ⟨T, 0, none⟩), .bool false, .bool false, .agg #[.int .u32 ((y0 : Nat) : Int), .int .u32 ((y1 : Nat) : Int), .int .u32 ((y2 : Nat) : Int), .int .u32 ((y3 : Nat) : Int), .int .u32 ((y4 : Nat) : Int), .int .u32 ((y5 : Nat) : Int), .int .u32 ((y6 : Nat) : Int), .int .u32 ((y7 : Nat) : Int), .slice A (nn r).length C, .int .i64 (m : Int)], .bool true, .bool false, .bool false, undef, .tuple #[.agg (cellsOf .u32 (nn ST)), u], .pointer (some ⟨T, 0, none⟩), .pointer (some ⟨w.heap.size, 0, none⟩), .agg (cellsOf .u32 (nn [y0, y1, y2, y3, y4, y5, y6, y7])), .pointer (some ⟨w.heap.size, 8, none⟩), .slice A (nn r).length C, .pointer (some ⟨w.heap.size, 9, none⟩), .int .i64 (m : Int), .slice A2 (nn (padN m)).length C2, .slice (some ⟨w33.heap.size, 0, none⟩) 2 2, v1, .tuple #[.agg (cellsOf .u32 (nn ST)), u], .agg (cellsOf .u32 (nn ST)), u, .int .i64 (i : Int), (s5 32), (s5 33), (s5 34), (s5 35), (s5 36), (s5 37), (s5 38), (s5 39), (s5 40), (s5 41), (s5 42), (s5 43), (s5 44), (s5 45), (s5 46), undef].toArray, []⟩) ∧ Blk .u32 w_ T 35 (nn tab) ∧ Bl w.heap.size w w_ ∧ SL .u8 w_ (.slice A (nn r).length C) (nn r) ∧ Cel w_ w.heap.size 142 [.int .u32 ((y0 : Nat) : Int), .int .u32 ((y1 : Nat) : Int), .int .u32 ((y2 : Nat) : Int), .int .u32 ((y3 : Nat) : Int), .int .u32 ((y4 : Nat) : Int), .int .u32 ((y5 : Nat) : Int), .int .u32 ((y6 : Nat) : Int), .int .u32 ((y7 : Nat) : Int), .slice A (nn r).length C, .int .i64 (m : Int)] ∧ Blk .u8 w_ w1.heap.size 23 (nn (List.replicate 32 0)) ∧ Blk .u8 w_ w2.heap.size 23 (nn O) ∧ Blk .u32 w_ w5.heap.size 32 (nn ST) ∧ Own 5 .u8 w32.heap.size w_ (.slice A2 (nn (padN m)).length C2) (nn (padN m)) ∧ Cel w_ w33.heap.size 29 [.slice A (nn r).length C, .slice A2 (nn (padN m)).length C2] ∧ Own 5 .u8 w34.heap.size w_ v1 (nn (r ++ padN m)) ∧ w37.heap.size ≤ w_.heap.size)) _ ⟨0, (List.replicate 32 0), rfl, by omega, rfl, by simp, cutE, TB, BL, R, b3, b4, b5, b6, OP, b26, OA, Nat.le_refl _⟩ ?_
    clear TB BL R b3 b4 b5 b6 OP b26 OA
    rintro n_ a_ wl0 ⟨i, O, rfl, hc0_0, hc0_1, hc0_2, ⟨s5, rfl⟩, TB, BL, R, b3, b4, b5, b6, OP, b26, OA, zl0⟩
    have lOP_7 := OP.ge
    have lOA_9 := OA.ge
    refine wp_seq_k fun K36 hK36 => ?_
    refine cPlain ?_
    refine sv 32 (.bool (decide ((i : Int) < 32))) (Val.cmp .lss 3 _ (.tmp 31) _ rfl .i64 (i : Int) 32 (by kernel_rfl) (by kernel_rfl) (by simp) _ rfl) ?_
    simp only [sZ, sS]
    refine wpList_nil ?_
    refine hK36 _ _ ?_
    refine wp_seq_k fun K37 hK37 => ?_
    refine cDec ((i : Int) < 32) (by kernel_rfl) (fun c32 => ?_) (fun c32 => ?_)
    · skip
      refine wp_skip ?_
      refine hK37 _ _ ?_
      refine wp_seq_k fun K38 hK38 => ?_
      refine wp_block ?_
      refine wp_seq_k fun K39 hK39 => ?_
      refine cPlain ?_
      refine sv 33 (.int .i64 (i : Int)) .of ?_
      simp only [sZ, sS]
      refine sv 8 (.int .i64 (i : Int)) .of ?_
      simp only [sZ, sS]
      refine wpList_nil ?_
      refine hK39 _ _ ?_
      refine cPlain ?_
      refine sv 34 (.int .i64 (i : Int)) .of ?_
      simp only [sZ, sS]
      refine sv 35 (.int .i64 (i : Int)) .of ?_
      simp only [sZ, sS]
      refine sv 36 (.int .i64 ((i / 4 : Nat) : Int)) (Val.as (Val.quoI 3 _ (.tmp 35) _ rfl i 4 (by kernel_rfl) (by kernel_rfl) (by omega) (by omega)) (congrArg (Value.int .i64) (by omega))) ?_
      simp only [sZ, sS]
      refine sv 37 (.pointer (some ⟨w5.heap.size, (i / 4), none⟩)) (Val.idxA01 32 (.tmp 6) (.tmp 36) rfl w5.heap.size (i / 4) (by kernel_rfl) (by kernel_rfl) Try.underlying32 (by kernel_rfl) (by omega)) ?_
      simp only [sZ, sS]
      refine sv 38 (.int .u32 ((ST.getD (i / 4) 0 : Nat) : Int)) (Val.nblk1 31 _ rfl w5.heap.size (i / 4) (by kernel_rfl) (fun _ => (by kernel_rfl)) b6 (by omega)) ?_
      simp only [sZ, sS]
      refine sv 39 (.int .i64 (i : Int)) .of ?_
      simp only [sZ, sS]
      refine sv 40 (.int .i64 ((i % 4 : Nat) : Int)) (Val.as (Val.remN 3 _ (.tmp 39) _ rfl .i64 i 4 (by kernel_rfl) (by kernel_rfl) (by omega)) (congrArg (Value.int .i64) (by omega))) ?_
      simp only [sZ, sS]
      refine sv 41 (.int .i64 ((i % 4 * 8 : Nat) : Int)) (Val.as (Val.mul 3 _ (.tmp 40) _ rfl ((i % 4 : Nat) : Int) 8 (by kernel_rfl) (by kernel_rfl) (by omega)) (congrArg (Value.int .i64) (by omega))) ?_
      simp only [sZ, sS]
      refine sv 42 (.int .i64 ((24 - i % 4 * 8 : Nat) : Int)) (Val.as (Val.sub 3 _ _ (.tmp 41) rfl 24 ((i % 4 * 8 : Nat) : Int) (by kernel_rfl) (by kernel_rfl) (by omega)) (congrArg (Value.int .i64) (by omega))) ?_
      simp only [sZ, sS]
      refine sv 43 (.int .u32 (((ST.getD (i / 4) 0) >>> (24 - i % 4 * 8) : Nat) : Int)) (Val.shrN 31 _ (.tmp 38) (.tmp 42) rfl .u32 .i64 (ST.getD (i / 4) 0) (24 - i % 4 * 8) (by kernel_rfl) (by kernel_rfl) (by simp only [IntKind.bits]; omega)) ?_
      simp only [sZ, sS]
      refine sv 44 (.int .u8 ((((ST.getD (i / 4) 0) >>> (24 - i % 4 * 8)) % 256 : Nat) : Int)) (Val.convN 31 5 (.tmp 43) rfl .u8 ((ST.getD (i / 4) 0) >>> (24 - i % 4 * 8)) 256 Try.underlying31 Try.underlying5 (by kernel_rfl)) ?_
      simp only [sZ, sS]
      refine sv 45 (.pointer (some ⟨w2.heap.size, i, none⟩)) (Val.idxA01 23 (.tmp 5) (.tmp 34) rfl w2.heap.size i (by kernel_rfl) (by kernel_rfl) Try.underlying23 (by kernel_rfl) (by omega)) ?_
      simp only [sZ, sS]
      refine xStoreNN 5 (.tmp 45) (.tmp 44) rfl .u8 w2.heap.size 23 O i (((ST.getD (i / 4) 0) >>> (24 - i % 4 * 8)) % 256) (by kernel_rfl) (by kernel_rfl) b5 (by kernel_rfl) (by omega) ?_
      intro w38 t14
      have zt14 := t14.z
      have TB_ := TB.ev t14.e (show ¬ (T = w2.heap.size) by omega)
      have BL_ := BL.ev t14.e (fun i h => show w.heap.size ≤ i by have h : i = w2.heap.size := h; omega)
      have R_ := R.ev t14.e (fun i hi => show ¬ (i = w2.heap.size) by have := hrl i hi; omega)
      have b3_ := b3.ev t14.e (show ¬ (w.heap.size = w2.heap.size) by omega)
      have b4_ := b4.ev t14.e (show ¬ (w1.heap.size = w2.heap.size) by omega)
      have b6_ := b6.ev t14.e (show ¬ (w5.heap.size = w2.heap.size) by omega)
      have OP_ := OP.ev t14.e (fun i hi => show ¬ (i = w2.heap.size) by have := lOP_7 i hi; omega)
      have b26_ := b26.ev t14.e (show ¬ (w33.heap.size = w2.heap.size) by omega)
      have OA_ := OA.ev t14.e (fun i hi => show ¬ (i = w2.heap.size) by have := lOA_9 i hi; omega)
      replace TB := TB_; clear TB_
      replace BL := BL_; clear BL_
      replace R := R_; clear R_
      replace b3 := b3_; clear b3_
      replace b4 := b4_; clear b4_
      replace b6 := b6_; clear b6_
      replace OP := OP_; clear OP_
      replace b26 := b26_; clear b26_
      replace OA := OA_; clear OA_
      replace b5 : Blk .u8 w38 w2.heap.size 23 (nn (O.set i (((ST.getD (i / 4) 0) >>> (24 - i % 4 * 8)) % 256))) := t14.c
      clear t14
      refine wpList_nil ?_
      refine hK38 _ _ ?_
      refine cPlain ?_
      refine sv 46 (.int .i64 ((i : Int) + 1)) (Val.add 3 _ (.tmp 31) _ rfl (i : Int) 1 (by kernel_rfl) (by kernel_rfl) (by omega)) ?_
      simp only [sZ, sS]
      refine sv 31 (.int .i64 ((i : Int) + 1)) .of ?_
      simp only [sZ, sS]
      refine wpList_nil ?_
      refine ⟨_, ?_, i + 1, (O.set i (((ST.getD (i / 4) 0) >>> (24 - i % 4 * 8)) % 256)), rfl, by omega, by rw [hc0_1]; rfl, by simp [hc0_2], cutE, TB, BL, R, b3, b4, b5, b6, OP, b26, OA, by omega⟩
      omega
    · skip
      have hi32 : i = 32 := by omega
      rw [hi32] at hc0_1
      refine wp_exit ?_
      simp only [Exit.then, Exit.inBlock, ↓reduceIte, Nat.reduceEqDiff]
      refine hK34 _ _ ?_
      refine wp_seq_k fun K40 hK40 => ?_
      refine cPlain ?_
      refine sv 47 (.agg (cellsOf .u8 (nn O))) (Val.blk 23 _ rfl 0 32 (by kernel_rfl) b5 _ Try.underlying23 rfl (by kernel_rfl) (by (try simp only [nn_len, List.length_cons, List.length_nil, List.length_set, List.length_replicate]); try omega) _ (seg_all' _ (by (try simp only [nn_len, List.length_cons, List.length_nil, List.length_set, List.length_replicate]); try omega))) ?_
      simp only [sZ, sS]
      refine xStoreA 23 (.tmp 4) (.tmp 47) rfl .u8 w1.heap.size 23 (nn (List.replicate 32 0)) 0 (nn O) (by kernel_rfl) (by kernel_rfl) b4 (by rw [show (nn O).length = 32 by ((try simp only [nn_len, List.length_cons, List.length_nil, List.length_set, List.length_replicate]); try omega)]; kernel_rfl) (by (try simp only [nn_len, List.length_cons, List.length_nil, List.length_set, List.length_replicate]); try omega) (nn O) (over_whole _ _ (by (try simp only [nn_len, List.length_cons, List.length_nil, List.length_set, List.length_replicate]); try omega)) ?_
      intro w39 t15
      have zt15 := t15.z
      have TB_ := TB.ev t15.e (show ¬ (T = w1.heap.size) by omega)
      have BL_ := BL.ev t15.e (fun i h => show w.heap.size ≤ i by have h : i = w1.heap.size := h; omega)
      have R_ := R.ev t15.e (fun i hi => show ¬ (i = w1.heap.size) by have := hrl i hi; omega)
      have b3_ := b3.ev t15.e (show ¬ (w.heap.size = w1.heap.size) by omega)
      have b5_ := b5.ev t15.e (show ¬ (w2.heap.size = w1.heap.size) by omega)
      have b6_ := b6.ev t15.e (show ¬ (w5.heap.size = w1.heap.size) by omega)
      have OP_ := OP.ev t15.e (fun i hi => show ¬ (i = w1.heap.size) by have := lOP_7 i hi; omega)
      have b26_ := b26.ev t15.e (show ¬ (w33.heap.size = w1.heap.size) by omega)
      have OA_ := OA.ev t15.e (fun i hi => show ¬ (i = w1.heap.size) by have := lOA_9 i hi; omega)
      replace TB := TB_; clear TB_
      replace BL := BL_; clear BL_
      replace R := R_; clear R_
      replace b3 := b3_; clear b3_
      replace b5 := b5_; clear b5_
      replace b6 := b6_; clear b6_
      replace OP := OP_; clear OP_
      replace b26 := b26_; clear b26_
      replace OA := OA_; clear OA_
      replace b4 : Blk .u8 w39 w1.heap.size 23 (nn O) := t15.c
      clear t15
      refine wpList_nil ?_
      refine hK40 _ _ ?_
      refine wp_ret ?_
      (try simp only [Exit.then, Exit.inBlock])
      refine bodyPost_ret (rC rfl _ w1.heap.size _ _ (by kernel_rfl) b4.cel _ Try.underlying23 rfl (by rw [List.length_map, show (nn O).length = 32 by ((try simp only [nn_len, List.length_cons, List.length_nil, List.length_set, List.length_replicate]); try omega)]; kernel_rfl)) rfl ?_
      rw [← hc0_1]
      exact ⟨rfl, BL.b⟩

theorem sum_wrong' (T : Nat) (tab r : List Nat) (y0 y1 y2 y3 y4 y5 y6 y7 : Nat) (A : Option Addr) (C : Nat) (L : Int) (w : World) (TB : Blk .u32 w T 35 (nn tab)) 
    (hR : rightN r.length L = false) :
    Calls Try.prog 101 #[.pointer (some ⟨T, 0, none⟩), hashV [y0, y1, y2, y3, y4, y5, y6, y7] (.slice A (nn r).length C) L] w fun e w' => e = .returned (.agg (cellsOf .u8 (nn (List.replicate 32 0)))) ∧ Below w.heap.size w w' := by
  have BL := Bl.refl w
  have hT := TB.lt
  have hlr := nn_len r
  go_enter Try.func101, Try.ntmps101
  refine wp_seq_k fun K1 hK1 => ?_
  refine cPlain ?_
  refine xBox 3 142 _ [.int .u32 ((y0 : Nat) : Int), .int .u32 ((y1 : Nat) : Int), .int .u32 ((y2 : Nat) : Int), .int .u32 ((y3 : Nat) : Int), .int .u32 ((y4 : Nat) : Int), .int .u32 ((y5 : Nat) : Int), .int .u32 ((y6 : Nat) : Int), .int .u32 ((y7 : Nat) : Int), .slice A (nn r).length C, .int .i64 L] rfl (by kernel_rfl) ?_
  intro w1 n1
  have zn1 := n1.z
  have b3 := n1.c
  replace TB := TB.e0 n1.e
  replace BL := BL.e0 n1.e
  simp only [sZ, sS]
  refine xAlloc 4 23 ((nn (List.replicate 32 0)).map (Value.int .u8)) rfl (by kernel_rfl) ?_
  intro w2 n2
  have zn2 := n2.z
  have b4 := n2.c
  replace b4 : Blk .u8 w2 w1.heap.size 23 (nn (List.replicate 32 0)) := b4
  replace TB := TB.e0 n2.e
  replace BL := BL.e0 n2.e
  replace b3 := b3.e0 n2.e
  simp only [sZ, sS]
  refine wpList_nil ?_
  refine hK1 _ _ ?_
  refine wp_seq_k fun K2 hK2 => ?_
  refine cPlain ?_
  refine xAlloc 5 23 ((nn (List.replicate 32 0)).map (Value.int .u8)) rfl (by kernel_rfl) ?_
  intro w3 n3
  have zn3 := n3.z
  have b5 := n3.c
  replace b5 : Blk .u8 w3 w2.heap.size 23 (nn (List.replicate 32 0)) := b5
  replace TB := TB.e0 n3.e
  replace BL := BL.e0 n3.e
  replace b3 := b3.e0 n3.e
  replace b4 := b4.e0 n3.e
  simp only [sZ, sS]
  refine wpList_nil ?_
  refine hK2 _ _ ?_
  refine wp_seq_k fun K3 hK3 => ?_
  refine wp_seq_k fun K4 hK4 => ?_
  refine cPlain ?_
  refine sv 9 (.pointer (some ⟨T, 0, none⟩)) .of ?_
  simp only [sZ, sS]
  refine sv 10 (.bool false) .of ?_
  simp only [sZ, sS]
  refine sv 11 (.bool false) .of ?_
  simp only [sZ, sS]
  refine sv 12 (.agg #[.int .u32 ((y0 : Nat) : Int), .int .u32 ((y1 : Nat) : Int), .int .u32 ((y2 : Nat) : Int), .int .u32 ((y3 : Nat) : Int), .int .u32 ((y4 : Nat) : Int), .int .u32 ((y5 : Nat) : Int), .int .u32 ((y6 : Nat) : Int), .int .u32 ((y7 : Nat) : Int), .slice A (nn r).length C, .int .i64 L]) (Val.cel 142 _ rfl 0 10 (by kernel_rfl) b3 _ Try.underlying142 rfl (by kernel_rfl) (by simp) [.int .u32 ((y0 : Nat) : Int), .int .u32 ((y1 : Nat) : Int), .int .u32 ((y2 : Nat) : Int), .int .u32 ((y3 : Nat) : Int), .int .u32 ((y4 : Nat) : Int), .int .u32 ((y5 : Nat) : Int), .int .u32 ((y6 : Nat) : Int), .int .u32 ((y7 : Nat) : Int), .slice A (nn r).length C, .int .i64 L] rfl) ?_
  simp only [sZ, sS]
  refine xCall 13 110 #[.agg #[.int .u32 ((y0 : Nat) : Int), .int .u32 ((y1 : Nat) : Int), .int .u32 ((y2 : Nat) : Int), .int .u32 ((y3 : Nat) : Int), .int .u32 ((y4 : Nat) : Int), .int .u32 ((y5 : Nat) : Int), .int .u32 ((y6 : Nat) : Int), .int .u32 ((y7 : Nat) : Int), .slice A (nn r).length C, .int .i64 L]] (by kernel_rfl) ?_
  refine (right_any [y0, y1, y2, y3, y4, y5, y6, y7] rfl A (nn r).length C L w3).mono ?_
  rintro en w4 ⟨he, hb1⟩
  rw [hlr, hR] at he
  subst he
  have e1 := belE0 hb1
  have ze1 := e1.size
  replace TB := TB.e0 e1
  replace BL := BL.e0 e1
  replace b3 := b3.e0 e1
  replace b4 := b4.e0 e1
  replace b5 := b5.e0 e1
  clear e1
  refine ⟨.bool false, rfl, ?_⟩
  simp only [sZ, sS]
  refine sv 14 (.bool true) .of ?_
  simp only [sZ, sS]
  refine sv 15 (.bool true) .of ?_
  simp only [sZ, sS]
  refine wpList_nil ?_
  refine hK4 _ _ ?_
  refine cT ?_
  refine wp_seq_k fun K5 hK5 => ?_
  refine cPlain ?_
  refine sv 16 (.agg (cellsOf .u8 (nn (List.replicate 32 0)))) (Val.blk 23 _ rfl 0 32 (by kernel_rfl) b5 _ Try.underlying23 rfl (by kernel_rfl) (by (try simp only [nn_len, List.length_cons, List.length_nil, List.length_set, List.length_replicate]); try omega) _ (seg_all' _ (by (try simp only [nn_len, List.length_cons, List.length_nil, List.length_set, List.length_replicate]); try omega))) ?_
  simp only [sZ, sS]
  refine xStoreA 23 (.tmp 4) (.tmp 16) rfl .u8 w1.heap.size 23 (nn (List.replicate 32 0)) 0 (nn (List.replicate 32 0)) (by kernel_rfl) (by kernel_rfl) b4 (by rw [show (nn (List.replicate 32 0)).length = 32 by ((try simp only [nn_len, List.length_cons, List.length_nil, List.length_set, List.length_replicate]); try omega)]; kernel_rfl) (by (try simp only [nn_len, List.length_cons, List.length_nil, List.length_set, List.length_replicate]); try omega) (nn (List.replicate 32 0)) (over_whole _ _ (by (try simp only [nn_len, List.length_cons, List.length_nil, List.length_set, List.length_replicate]); try omega)) ?_
  intro w5 t1
  have zt1 := t1.z
  have TB_ := TB.ev t1.e (show ¬ (T = w1.heap.size) by omega)
  have BL_ := BL.ev t1.e (fun i h => show w.heap.size ≤ i by have h : i = w1.heap.size := h; omega)
  have b3_ := b3.ev t1.e (show ¬ (w.heap.size = w1.heap.size) by omega)
  have b5_ := b5.ev t1.e (show ¬ (w2.heap.size = w1.heap.size) by omega)
  replace TB := TB_; clear TB_
  replace BL := BL_; clear BL_
  replace b3 := b3_; clear b3_
  replace b5 := b5_; clear b5_
  replace b4 : Blk .u8 w5 w1.heap.size 23 (nn (List.replicate 32 0)) := t1.c
  clear t1
  refine wpList_nil ?_
  refine hK5 _ _ ?_
  refine wp_ret ?_
  (try simp only [Exit.then, Exit.inBlock])
  refine bodyPost_ret (rC rfl _ w1.heap.size _ _ (by kernel_rfl) b4.cel _ Try.underlying23 rfl (by rw [List.length_map, show (nn (List.replicate 32 0)).length = 32 by ((try simp only [nn_len, List.length_cons, List.length_nil, List.length_set, List.length_replicate]); try omega)]; kernel_rfl)) rfl ?_
  exact ⟨rfl, BL.b⟩

theorem sum_right (T : Nat) (tab r s : List Nat) (hs : s.length = 8) (v : Value) (L : Int) (ht : tab.length = 72) (w : World) (TB : Blk .u32 w T 35 (nn tab)) (R : SL .u8 w v (nn r)) (hR : rightN r.length L = true) :
    Calls Try.prog 101 #[.pointer (some ⟨T, 0, none⟩), hashV s v L] w fun e w' => e = .returned (.agg (cellsOf .u8 (nn (digN (goB tab s (r ++ padN L.toNat) ((r ++ padN L.toNat).length / 64)) 32)))) ∧ Below w.heap.size w w' := by
  obtain ⟨a, b, c, d, e, f, g, i, rfl⟩ := list8 s hs
  obtain ⟨A, C, rfl, _⟩ := R.len
  obtain ⟨m, rfl⟩ := Int.eq_ofNat_of_zero_le (rightN_iff.1 hR).1
  exact sum_right' T tab r a b c d e f g i A C m ht w TB R hR _ rfl
/-- A hasher goes on: state, bytes held, how many there were. -/
abbrev Hash := List Nat × List Nat × Int
def writeN (tab : List Nat) (h : Hash) (bs : List Nat) : Hash :=
  if rightN h.2.1.length h.2.2 = true then (goB tab h.1 (h.2.1 ++ bs) ((h.2.1 ++ bs).length / 64), (h.2.1 ++ bs).drop (64 * ((h.2.1 ++ bs).length / 64)), h.2.2 + bs.length) else h
def sumN (tab : List Nat) (h : Hash) : List Nat :=
  if rightN h.2.1.length h.2.2 = true then digN (goB tab h.1 (h.2.1 ++ padN h.2.2.toNat) ((h.2.1 ++ padN h.2.2.toNat).length / 64)) 32 else List.replicate 32 0
def newN (tab : List Nat) : Hash := (tab.take 8, [], 0)
def ofN (tab bs : List Nat) : List Nat := sumN tab (writeN tab (newN tab) bs)
theorem writeN_right (tab : List Nat) (h : Hash) (bs : List Nat) (hR : rightN h.2.1.length h.2.2 = true) : writeN tab h bs = (goB tab h.1 (h.2.1 ++ bs) ((h.2.1 ++ bs).length / 64), (h.2.1 ++ bs).drop (64 * ((h.2.1 ++ bs).length / 64)), h.2.2 + bs.length) := by unfold writeN; rw [if_pos hR]
theorem writeN_wrong (tab : List Nat) (h : Hash) (bs : List Nat) (hR : rightN h.2.1.length h.2.2 = false) : writeN tab h bs = h := by unfold writeN; rw [if_neg (by simp [hR])]
theorem sumN_right (tab : List Nat) (h : Hash) (hR : rightN h.2.1.length h.2.2 = true) : sumN tab h = digN (goB tab h.1 (h.2.1 ++ padN h.2.2.toNat) ((h.2.1 ++ padN h.2.2.toNat).length / 64)) 32 := by unfold sumN; rw [if_pos hR]
theorem sumN_wrong (tab : List Nat) (h : Hash) (hR : rightN h.2.1.length h.2.2 = false) : sumN tab h = List.replicate 32 0 := by unfold sumN; rw [if_neg (by simp [hR])]
theorem writeN_len (tab : List Nat) (h : Hash) (bs : List Nat) (hs : h.1.length = 8) : (writeN tab h bs).1.length = 8 := by
  unfold writeN; split
  · exact goB_len _ _ _ hs _
  · exact hs
theorem sumN_len (tab : List Nat) (h : Hash) : (sumN tab h).length = 32 := by
  unfold sumN; split
  · exact digN_len _ _
  · simp
/-- sha.Write, any hasher -/
theorem write_any (T : Nat) (tab : List Nat) (h : Hash) (bs : List Nat) (hs : h.1.length = 8) (v bv : Value) (ht : tab.length = 72) (w : World) (TB : Blk .u32 w T 35 (nn tab)) (R : SL .u8 w v (nn h.2.1)) (D : SL .u8 w bv (nn bs))
    (hl : h.2.1.length + bs.length ≤ 140737488355328) :
    Calls Try.prog 102 #[.pointer (some ⟨T, 0, none⟩), hashV h.1 v h.2.2, bv] w fun e w' => ∃ u, e = .returned (hashV (writeN tab h bs).1 u (writeN tab h bs).2.2) ∧ SL .u8 w' u (nn (writeN tab h bs).2.1) ∧ Below w.heap.size w w' ∧ (rightN h.2.1.length h.2.2 = true → Own 5 .u8 w.heap.size w' u (nn (writeN tab h bs).2.1)) := by
  cases hR : rightN h.2.1.length h.2.2
  · refine (write_wrong T tab h.2.1 h.1 hs v bv h.2.2 w TB R hR).mono ?_
    rintro e w' ⟨rfl, hb⟩
    rw [writeN_wrong tab h bs hR]
    exact ⟨v, rfl, R.below hb, hb, fun h => by cases h⟩
  · refine (write_right T tab h.2.1 bs h.1 hs v bv h.2.2 ht w TB R D hR hl).mono ?_
    rintro e w' ⟨u, rfl, hO, hb⟩
    rw [writeN_right tab h bs hR]
    exact ⟨u, rfl, hO.sl, hb, fun _ => hO⟩
/-- sha.Sum, any hasher -/
theorem sum_any (T : Nat) (tab : List Nat) (h : Hash) (hs : h.1.length = 8) (v : Value) (ht : tab.length = 72) (w : World) (TB : Blk .u32 w T 35 (nn tab)) (R : SL .u8 w v (nn h.2.1)) :
    Calls Try.prog 101 #[.pointer (some ⟨T, 0, none⟩), hashV h.1 v h.2.2] w fun e w' => e = .returned (.agg (cellsOf .u8 (nn (sumN tab h)))) ∧ Below w.heap.size w w' := by
  cases hR : rightN h.2.1.length h.2.2
  · rw [sumN_wrong tab h hR]
    obtain ⟨s, r, n⟩ := h
    obtain ⟨a, b, c, d, e, f, g, i, rfl⟩ := list8 s hs
    obtain ⟨A, C, rfl, _⟩ := R.len
    exact sum_wrong' T tab r a b c d e f g i A C n w TB hR
  · rw [sumN_right tab h hR]
    exact sum_right T tab h.2.1 h.1 hs v h.2.2 ht w TB R hR
/-- sha.Of -/
theorem of_any (T : Nat) (tab bs : List Nat) (bv : Value) (ht : tab.length = 72) (w : World) (TB : Blk .u32 w T 35 (nn tab)) (D : SL .u8 w bv (nn bs)) (hl : bs.length ≤ 140737488355328) :
    Calls Try.prog 80 #[.pointer (some ⟨T, 0, none⟩), bv] w fun e w' => e = .returned (.agg (cellsOf .u8 (nn (ofN tab bs)))) ∧ Below w.heap.size w w' := by
  have BL := Bl.refl w
  have hT := TB.lt
  have hdl := D.lt
  have h0 : (newN tab).1.length = 8 := by unfold newN; rw [List.length_take]; omega
  have h1 := writeN_len tab (newN tab) bs h0
  have h2 : (ofN tab bs).length = 32 := sumN_len _ _
  go_enter Try.func80, Try.ntmps80
  refine wp_seq_k fun K1 hK1 => ?_
  refine cPlain ?_
  refine xAlloc 4 23 ((nn (List.replicate 32 0)).map (Value.int .u8)) rfl (by kernel_rfl) ?_
  intro w1 n1
  have zn1 := n1.z
  have b4 := n1.c
  replace b4 : Blk .u8 w1 w.heap.size 23 (nn (List.replicate 32 0)) := b4
  replace TB := TB.e0 n1.e
  replace BL := BL.e0 n1.e
  replace D := D.e0 n1.e
  simp only [sZ, sS]
  refine wpList_nil ?_
  refine hK1 _ _ ?_
  refine wp_seq_k fun K2 hK2 => ?_
  refine cPlain ?_
  refine sv 5 (.pointer (some ⟨T, 0, none⟩)) .of ?_
  simp only [sZ, sS]
  refine sv 6 (.pointer (some ⟨T, 0, none⟩)) .of ?_
  simp only [sZ, sS]
  refine sv 7 (.pointer (some ⟨T, 0, none⟩)) .of ?_
  simp only [sZ, sS]
  refine xCall 8 103 #[.pointer (some ⟨T, 0, none⟩)] (by kernel_rfl) ?_
  refine (new_any T tab ht w1 TB).mono ?_
  rintro en w2 ⟨rfl, hb1⟩
  have e1 := belE0 hb1
  have ze1 := e1.size
  replace TB := TB.e0 e1
  replace BL := BL.e0 e1
  replace D := D.e0 e1
  replace b4 := b4.e0 e1
  clear e1
  refine ⟨hashV (newN tab).1 (.slice none 0 0) (newN tab).2.2, rfl, ?_⟩
  simp only [sZ, sS]
  refine sv 9 (bv) .of ?_
  simp only [sZ, sS]
  refine xCall 10 102 #[.pointer (some ⟨T, 0, none⟩), hashV (newN tab).1 (.slice none 0 0) (newN tab).2.2, bv] (by kernel_rfl) ?_
  refine (write_any T tab (newN tab) bs h0 (.slice none 0 0) bv ht w2 TB (SL.nil _ _) D (by show 0 + _ ≤ _; omega)).mono ?_
  rintro en w3 ⟨u, rfl, hU, hb1, _⟩
  have hul := hU.lt
  have e2 := belE0 hb1
  have ze2 := e2.size
  replace TB := TB.e0 e2
  replace BL := BL.e0 e2
  replace D := D.e0 e2
  replace b4 := b4.e0 e2
  clear e2
  have U : SL .u8 w3 u (nn (writeN tab (newN tab) bs).2.1) := hU
  refine ⟨hashV (writeN tab (newN tab) bs).1 u (writeN tab (newN tab) bs).2.2, rfl, ?_⟩
  simp only [sZ, sS]
  refine xCall 11 101 #[.pointer (some ⟨T, 0, none⟩), hashV (writeN tab (newN tab) bs).1 u (writeN tab (newN tab) bs).2.2] (by kernel_rfl) ?_
  refine (sum_any T tab (writeN tab (newN tab) bs) h1 u ht w3 TB U).mono ?_
  rintro en w4 ⟨rfl, hb1⟩
  have e3 := belE0 hb1
  have ze3 := e3.size
  replace TB := TB.e0 e3
  replace BL := BL.e0 e3
  replace D := D.e0 e3
  replace b4 := b4.e0 e3
  replace U := U.e0 e3
  clear e3
  refine ⟨.agg (cellsOf .u8 (nn (ofN tab bs))), rfl, ?_⟩
  simp only [sZ, sS]
  refine xStoreA 23 (.tmp 4) (.tmp 11) rfl .u8 w.heap.size 23 (nn (List.replicate 32 0)) 0 (nn (ofN tab bs)) (by kernel_rfl) (by kernel_rfl) b4 (by rw [show (nn (ofN tab bs)).length = 32 by ((try simp only [nn_len, List.length_cons, List.length_nil, List.length_set, List.length_replicate]); try omega)]; kernel_rfl) (by (try simp only [nn_len, List.length_cons, List.length_nil, List.length_set, List.length_replicate]); try omega) (nn (ofN tab bs)) (over_whole _ _ (by (try simp only [nn_len, List.length_cons, List.length_nil, List.length_set, List.length_replicate]); try omega)) ?_
  intro w5 t1
  have zt1 := t1.z
  have TB_ := TB.ev t1.e (show ¬ (T = w.heap.size) by omega)
  have BL_ := BL.ev t1.e (fun i h => show w.heap.size ≤ i by have h : i = w.heap.size := h; omega)
  have D_ := D.ev t1.e (fun i hi => show ¬ (i = w.heap.size) by have := hdl i hi; omega)
  replace TB := TB_; clear TB_
  replace BL := BL_; clear BL_
  replace D := D_; clear D_
  replace b4 : Blk .u8 w5 w.heap.size 23 (nn (ofN tab bs)) := t1.c
  clear t1
  refine wpList_nil ?_
  refine hK2 _ _ ?_
  refine wp_ret ?_
  (try simp only [Exit.then, Exit.inBlock])
  refine bodyPost_ret (rC rfl _ w.heap.size _ _ (by kernel_rfl) b4.cel _ Try.underlying23 rfl (by rw [List.length_map, show (nn (ofN tab bs)).length = 32 by ((try simp only [nn_len, List.length_cons, List.length_nil, List.length_set, List.length_replicate]); try omega)]; kernel_rfl)) rfl ?_
  exact ⟨rfl, BL.b⟩

end Go.Proofs.Ytanggdnmoaflfaa
