/-
  ref02: Sum, Of.
-/
import Derived.Test.YtanggdnmoaflfaaRef2H
namespace Go.Proofs.Ytanggdnmoaflfaa
open Go.RowKit
set_option linter.unusedVariables false
set_option linter.unusedSimpArgs false
set_option maxRecDepth 100000
attribute [local irreducible] wpList Code.wp wpAnyZ
theorem rwrite_any (tab : List Nat) (h : Hash) (bs : List Nat) (hs : h.1.length = 8) (v bv : Value) (ht : tab.length = 72) (h32 : ∀ x ∈ h.1, x < 4294967296) (hr8 : ∀ x ∈ h.2.1, x < 256) (hb8 : ∀ x ∈ bs, x < 256) (w : World) (R : SL .u8 w v (nn h.2.1)) (D : SL .u8 w bv (nn bs)) (hl : bs.length ≤ 1000000000000) :
    Calls Try.prog 106 #[.agg (cellsOf .u32 (nn tab)), hashV h.1 v h.2.2, bv] w fun e w' => ∃ u, e = .returned (hashV (writeN tab h bs).1 u (writeN tab h bs).2.2) ∧ SL .u8 w' u (nn (writeN tab h bs).2.1) ∧ Below w.heap.size w w' := by
  obtain ⟨s, r, L⟩ := h
  obtain ⟨a, b, c, d, e, f, g, i, rfl⟩ := list8 s hs
  obtain ⟨A, C, rfl, _⟩ := R.len
  simp only [nn_len] at R ⊢
  cases hR : rightN r.length L
  · rw [writeN_wrong tab _ bs hR]
    refine (rwrite_wrong' tab r a b c d e f g i A C L bv w hR R).mono ?_
    rintro en w' ⟨rfl, hb⟩
    exact ⟨_, rfl, R.below (hb.mono (Nat.le_refl _)), hb⟩
  · rw [writeN_right tab _ bs hR]
    refine (rwrite_right' tab r bs a b c d e f g i A C L bv ht w hR h32 hr8 hb8 R D hl).mono ?_
    rintro en w' ⟨u, rfl, hO, hb⟩
    exact ⟨u, rfl, hO.sl, hb⟩
theorem writeN_lt {tab : List Nat} {h : Hash} (bs : List Nat) (hs : h.1.length = 8) (h32 : ∀ x ∈ h.1, x < 4294967296) : ∀ x ∈ (writeN tab h bs).1, x < 4294967296 := by
  unfold writeN; split
  · exact goB_lt _ hs h32 _
  · exact h32
theorem writeN_b {tab : List Nat} {h : Hash} {bs : List Nat} (hr : ∀ x ∈ h.2.1, x < 256) (hb : ∀ x ∈ bs, x < 256) : ∀ x ∈ (writeN tab h bs).2.1, x < 256 := by
  unfold writeN; split
  · intro x hx
    rcases List.mem_append.1 (List.mem_of_mem_drop hx) with h' | h'
    · exact hr x h'
    · exact hb x h'
  · exact hr
theorem digN_at (S : List Nat) : ∀ i, i ≤ 32 → ∀ j, j < i → (digN S i).getD j 0 = digE S j
  | 0, _, j, hj => by omega
  | i + 1, hi, j, hj => by
    show ((digN S i).set i (digE S i)).getD j 0 = _
    rw [getD_set _ _ _ _ (by rw [digN_len]; omega)]
    split
    · rename_i h; rw [h]
    · exact digN_at S i (by omega) j (by omega)
theorem dig_ext {S O : List Nat} (hl : O.length = 32) (h : ∀ j, j < 32 → O.getD j 0 = digE S j) : O = digN S 32 := by
  apply List.ext_getElem (by rw [hl, digN_len])
  intro j h1 h2
  have e1 := h j (by omega)
  have e2 := digN_at S 32 (Nat.le_refl _) j (by omega)
  rw [List.getD_eq_getElem?_getD, List.getElem?_eq_getElem h1, Option.getD_some] at e1
  rw [List.getD_eq_getElem?_getD, List.getElem?_eq_getElem h2, Option.getD_some] at e2
  rw [e1, e2]
theorem digE_at (S : List Nat) (i t : Nat) (ht : t < 4) : digE S (4 * i + (3 - t)) = ((S.getD i 0 / 256 ^ t) % 256) % 256 := by
  unfold digE
  rw [show (4 * i + (3 - t)) / 4 = i by omega, show 24 - (4 * i + (3 - t)) % 4 * 8 = 8 * t by omega, Nat.shiftRight_eq_div_pow, Nat.pow_mul, Nat.mod_mod]
theorem hash_at (q0 q1 q2 q3 q4 q5 q6 q7 : Nat) (x y : Value) (i : Nat) (hi : i < 8) : ([.int .u32 ((q0 : Nat) : Int), .int .u32 ((q1 : Nat) : Int), .int .u32 ((q2 : Nat) : Int), .int .u32 ((q3 : Nat) : Int), .int .u32 ((q4 : Nat) : Int), .int .u32 ((q5 : Nat) : Int), .int .u32 ((q6 : Nat) : Int), .int .u32 ((q7 : Nat) : Int), x, y] : List Value)[i]? = some (.int .u32 (([q0, q1, q2, q3, q4, q5, q6, q7].getD i 0 : Nat) : Int)) := by
  match i, hi with
  | 0, _ => rfl
  | 1, _ => rfl
  | 2, _ => rfl
  | 3, _ => rfl
  | 4, _ => rfl
  | 5, _ => rfl
  | 6, _ => rfl
  | 7, _ => rfl
theorem padN_b2 (n : Nat) : ∀ x ∈ padN n, x < 256 := by
  intro x hx
  unfold padN padZ at hx
  rcases List.mem_append.1 hx with h | h
  · rcases List.mem_cons.1 h with h | h
    · omega
    · have := List.eq_of_mem_replicate h; omega
  · obtain ⟨i, _, rfl⟩ := List.mem_map.1 h
    exact Nat.mod_lt _ (by decide)

attribute [local irreducible] blockN goB padN rightN digE digN
set_option maxHeartbeats 4000000 in
theorem rsum_wrong' (tab r : List Nat) (s0_ s1_ s2_ s3_ s4_ s5_ s6_ s7_ : Nat) (A : Option Addr) (C : Nat) (L : Int) (w : World) (hR : rightN r.length L = false) (R : SL .u8 w (.slice A r.length C) (nn r)) :
    Calls Try.prog 105 #[.agg (cellsOf .u32 (nn tab)), hashV [s0_, s1_, s2_, s3_, s4_, s5_, s6_, s7_] (.slice A r.length C) L] w fun e w' => e = .returned (.agg (cellsOf .u8 (nn (List.replicate 32 0)))) ∧ Below w.heap.size w w' := by
  have BL := Bl.refl w
  go_enter Try.func105, Try.ntmps105
  refine wp_seq_k fun K1 hK1 => ?_
  refine cPlain ?_
  refine xBox 2 35 _ ((nn tab).map (Value.int .u32)) rfl (cells_toList _ _) ?_
  intro w1 n1
  have zn1 := n1.z
  have b2 := n1.c
  replace b2 : Blk .u32 w1 w.heap.size 35 (nn tab) := b2
  replace BL := BL.e0 n1.e
  simp only [sZ, sS]
  refine xBox 3 142 _ [.int .u32 ((s0_ : Nat) : Int), .int .u32 ((s1_ : Nat) : Int), .int .u32 ((s2_ : Nat) : Int), .int .u32 ((s3_ : Nat) : Int), .int .u32 ((s4_ : Nat) : Int), .int .u32 ((s5_ : Nat) : Int), .int .u32 ((s6_ : Nat) : Int), .int .u32 ((s7_ : Nat) : Int), .slice A r.length C, .int .i64 L] rfl (by kernel_rfl) ?_
  intro w2 n2
  have zn2 := n2.z
  have b3 := n2.c
  replace BL := BL.e0 n2.e
  replace b2 := b2.e0 n2.e
  simp only [sZ, sS]
  refine xAlloc 4 23 ((nn (List.replicate 32 0)).map (Value.int .u8)) rfl (by kernel_rfl) ?_
  intro w3 n3
  have zn3 := n3.z
  have b4 := n3.c
  replace b4 : Blk .u8 w3 w2.heap.size 23 (nn (List.replicate 32 0)) := b4
  replace BL := BL.e0 n3.e
  replace b2 := b2.e0 n3.e
  replace b3 := b3.e0 n3.e
  simp only [sZ, sS]
  refine wpList_nil ?_
  refine hK1 _ _ ?_
  refine wp_seq_k fun K2 hK2 => ?_
  refine cPlain ?_
  refine xAlloc 5 23 ((nn (List.replicate 32 0)).map (Value.int .u8)) rfl (by kernel_rfl) ?_
  intro w4 n4
  have zn4 := n4.z
  have b5 := n4.c
  replace b5 : Blk .u8 w4 w3.heap.size 23 (nn (List.replicate 32 0)) := b5
  replace BL := BL.e0 n4.e
  replace b2 := b2.e0 n4.e
  replace b3 := b3.e0 n4.e
  replace b4 := b4.e0 n4.e
  simp only [sZ, sS]
  refine wpList_nil ?_
  refine hK2 _ _ ?_
  refine wp_seq_k fun K3 hK3 => ?_
  refine wp_seq_k fun K4 hK4 => ?_
  refine cPlain ?_
  refine sv 10 (.agg #[.int .u32 ((s0_ : Nat) : Int), .int .u32 ((s1_ : Nat) : Int), .int .u32 ((s2_ : Nat) : Int), .int .u32 ((s3_ : Nat) : Int), .int .u32 ((s4_ : Nat) : Int), .int .u32 ((s5_ : Nat) : Int), .int .u32 ((s6_ : Nat) : Int), .int .u32 ((s7_ : Nat) : Int), .slice A r.length C, .int .i64 L]) (Val.cel 142 _ rfl 0 10 (by kernel_rfl) b3 _ Try.underlying142 rfl (by kernel_rfl) (by simp) [.int .u32 ((s0_ : Nat) : Int), .int .u32 ((s1_ : Nat) : Int), .int .u32 ((s2_ : Nat) : Int), .int .u32 ((s3_ : Nat) : Int), .int .u32 ((s4_ : Nat) : Int), .int .u32 ((s5_ : Nat) : Int), .int .u32 ((s6_ : Nat) : Int), .int .u32 ((s7_ : Nat) : Int), .slice A r.length C, .int .i64 L] rfl) ?_
  simp only [sZ, sS]
  refine xCall 11 114 #[.agg #[.int .u32 ((s0_ : Nat) : Int), .int .u32 ((s1_ : Nat) : Int), .int .u32 ((s2_ : Nat) : Int), .int .u32 ((s3_ : Nat) : Int), .int .u32 ((s4_ : Nat) : Int), .int .u32 ((s5_ : Nat) : Int), .int .u32 ((s6_ : Nat) : Int), .int .u32 ((s7_ : Nat) : Int), .slice A r.length C, .int .i64 L]] (by kernel_rfl) ?_
  refine (rright_any [s0_, s1_, s2_, s3_, s4_, s5_, s6_, s7_] rfl A r.length C L w4).mono ?_
  rintro en w5 ⟨he, hb1⟩
  rw [hR] at he
  subst he
  have e1 := belE0 hb1
  have ze1 := e1.size
  replace BL := BL.e0 e1
  replace b2 := b2.e0 e1
  replace b3 := b3.e0 e1
  replace b4 := b4.e0 e1
  replace b5 := b5.e0 e1
  clear e1
  refine ⟨.bool false, rfl, ?_⟩
  simp only [sZ, sS]
  refine sv 12 (.bool true) .of ?_
  simp only [sZ, sS]
  refine wpList_nil ?_
  refine hK4 _ _ ?_
  refine cT ?_
  refine wp_seq_k fun K5 hK5 => ?_
  refine cPlain ?_
  refine sv 13 (.agg (cellsOf .u8 (nn (List.replicate 32 0)))) (Val.blk 23 _ rfl 0 32 (by kernel_rfl) b5 _ Try.underlying23 rfl (by kernel_rfl) (by (try simp only [nn_len, List.length_cons, List.length_nil, List.length_set, List.length_replicate]); try omega) _ (seg_all' _ (by (try simp only [nn_len, List.length_cons, List.length_nil, List.length_set, List.length_replicate]); try omega))) ?_
  simp only [sZ, sS]
  refine xStoreA 23 (.tmp 4) (.tmp 13) rfl .u8 w2.heap.size 23 (nn (List.replicate 32 0)) 0 (nn (List.replicate 32 0)) (by kernel_rfl) (by kernel_rfl) b4 (by rw [show (nn (List.replicate 32 0)).length = 32 by ((try simp only [nn_len, List.length_cons, List.length_nil, List.length_set, List.length_replicate]); try omega)]; kernel_rfl) (by (try simp only [nn_len, List.length_cons, List.length_nil, List.length_set, List.length_replicate]); try omega) (nn (List.replicate 32 0)) (over_whole _ _ (by (try simp only [nn_len, List.length_cons, List.length_nil, List.length_set, List.length_replicate]); try omega)) ?_
  intro w6 t1
  have zt1 := t1.z
  have BL_ := BL.ev t1.e (fun i h => show w.heap.size ≤ i by have h : i = w2.heap.size := h; omega)
  have b2_ := b2.ev t1.e (show ¬ (w.heap.size = w2.heap.size) by omega)
  have b3_ := b3.ev t1.e (show ¬ (w1.heap.size = w2.heap.size) by omega)
  have b5_ := b5.ev t1.e (show ¬ (w3.heap.size = w2.heap.size) by omega)
  replace BL := BL_; clear BL_
  replace b2 := b2_; clear b2_
  replace b3 := b3_; clear b3_
  replace b5 := b5_; clear b5_
  replace b4 : Blk .u8 w6 w2.heap.size 23 (nn (List.replicate 32 0)) := t1.c
  clear t1
  refine wpList_nil ?_
  refine hK5 _ _ ?_
  refine wp_ret ?_
  (try simp only [Exit.then, Exit.inBlock])
  refine bodyPost_ret (rC rfl _ w2.heap.size _ _ (by kernel_rfl) b4.cel _ Try.underlying23 rfl (by rw [List.length_map, show (nn (List.replicate 32 0)).length = 32 by ((try simp only [nn_len, List.length_cons, List.length_nil, List.length_set, List.length_replicate]); try omega)]; kernel_rfl)) rfl ?_
  exact ⟨rfl, BL.b⟩

set_option maxHeartbeats 4000000 in
theorem rsum_right' (tab r : List Nat) (s0_ s1_ s2_ s3_ s4_ s5_ s6_ s7_ : Nat) (A : Option Addr) (C : Nat) (m : Nat) (ht : tab.length = 72) (w : World) (hR : rightN r.length (m : Int) = true) (h32 : ∀ x ∈ [s0_, s1_, s2_, s3_, s4_, s5_, s6_, s7_], x < 4294967296) (hr8 : ∀ x ∈ r, x < 256) (R : SL .u8 w (.slice A r.length C) (nn r)) (ST : List Nat) (hST : goB tab [s0_, s1_, s2_, s3_, s4_, s5_, s6_, s7_] (r ++ padN m) ((r ++ padN m).length / 64) = ST) :
    Calls Try.prog 105 #[.agg (cellsOf .u32 (nn tab)), hashV [s0_, s1_, s2_, s3_, s4_, s5_, s6_, s7_] (.slice A r.length C) (m : Int)] w fun e w' => e = .returned (.agg (cellsOf .u8 (nn (digN ST 32)))) ∧ Below w.heap.size w w' := by
  have BL := Bl.refl w
  have hrl := R.lt
  have hR2 := rightN_iff.1 hR
  have hpl := padN_len m
  have hST8 : ST.length = 8 := by rw [← hST]; exact goB_len _ _ _ rfl _
  have hST32 : ∀ x ∈ ST, x < 4294967296 := by rw [← hST]; exact goB_lt _ rfl h32 _
  obtain ⟨q0, q1, q2, q3, q4, q5, q6, q7, hq⟩ := list8 ST hST8
  have hwl : (r ++ padN m).drop (64 * ((r ++ padN m).length / 64)) = [] := by
    apply List.drop_of_length_le
    rw [List.length_append, hpl]
    omega
  go_enter Try.func105, Try.ntmps105
  refine wp_seq_k fun K1 hK1 => ?_
  refine cPlain ?_
  refine xBox 2 35 _ ((nn tab).map (Value.int .u32)) rfl (cells_toList _ _) ?_
  intro w1 n1
  have zn1 := n1.z
  have b2 := n1.c
  replace b2 : Blk .u32 w1 w.heap.size 35 (nn tab) := b2
  replace BL := BL.e0 n1.e
  replace R := R.e0 n1.e
  simp only [sZ, sS]
  refine xBox 3 142 _ [.int .u32 ((s0_ : Nat) : Int), .int .u32 ((s1_ : Nat) : Int), .int .u32 ((s2_ : Nat) : Int), .int .u32 ((s3_ : Nat) : Int), .int .u32 ((s4_ : Nat) : Int), .int .u32 ((s5_ : Nat) : Int), .int .u32 ((s6_ : Nat) : Int), .int .u32 ((s7_ : Nat) : Int), .slice A r.length C, .int .i64 (m : Int)] rfl (by kernel_rfl) ?_
  intro w2 n2
  have zn2 := n2.z
  have b3 := n2.c
  replace BL := BL.e0 n2.e
  replace R := R.e0 n2.e
  replace b2 := b2.e0 n2.e
  simp only [sZ, sS]
  refine xAlloc 4 23 ((nn (List.replicate 32 0)).map (Value.int .u8)) rfl (by kernel_rfl) ?_
  intro w3 n3
  have zn3 := n3.z
  have b4 := n3.c
  replace b4 : Blk .u8 w3 w2.heap.size 23 (nn (List.replicate 32 0)) := b4
  replace BL := BL.e0 n3.e
  replace R := R.e0 n3.e
  replace b2 := b2.e0 n3.e
  replace b3 := b3.e0 n3.e
  simp only [sZ, sS]
  refine wpList_nil ?_
  refine hK1 _ _ ?_
  refine wp_seq_k fun K2 hK2 => ?_
  refine cPlain ?_
  refine xAlloc 5 23 ((nn (List.replicate 32 0)).map (Value.int .u8)) rfl (by kernel_rfl) ?_
  intro w4 n4
  have zn4 := n4.z
  have b5 := n4.c
  replace b5 : Blk .u8 w4 w3.heap.size 23 (nn (List.replicate 32 0)) := b5
  replace BL := BL.e0 n4.e
  replace R := R.e0 n4.e
  replace b2 := b2.e0 n4.e
  replace b3 := b3.e0 n4.e
  replace b4 := b4.e0 n4.e
  simp only [sZ, sS]
  refine wpList_nil ?_
  refine hK2 _ _ ?_
  refine wp_seq_k fun K3 hK3 => ?_
  refine wp_seq_k fun K4 hK4 => ?_
  refine cPlain ?_
  refine sv 10 (.agg #[.int .u32 ((s0_ : Nat) : Int), .int .u32 ((s1_ : Nat) : Int), .int .u32 ((s2_ : Nat) : Int), .int .u32 ((s3_ : Nat) : Int), .int .u32 ((s4_ : Nat) : Int), .int .u32 ((s5_ : Nat) : Int), .int .u32 ((s6_ : Nat) : Int), .int .u32 ((s7_ : Nat) : Int), .slice A r.length C, .int .i64 (m : Int)]) (Val.cel 142 _ rfl 0 10 (by kernel_rfl) b3 _ Try.underlying142 rfl (by kernel_rfl) (by simp) [.int .u32 ((s0_ : Nat) : Int), .int .u32 ((s1_ : Nat) : Int), .int .u32 ((s2_ : Nat) : Int), .int .u32 ((s3_ : Nat) : Int), .int .u32 ((s4_ : Nat) : Int), .int .u32 ((s5_ : Nat) : Int), .int .u32 ((s6_ : Nat) : Int), .int .u32 ((s7_ : Nat) : Int), .slice A r.length C, .int .i64 (m : Int)] rfl) ?_
  simp only [sZ, sS]
  refine xCall 11 114 #[.agg #[.int .u32 ((s0_ : Nat) : Int), .int .u32 ((s1_ : Nat) : Int), .int .u32 ((s2_ : Nat) : Int), .int .u32 ((s3_ : Nat) : Int), .int .u32 ((s4_ : Nat) : Int), .int .u32 ((s5_ : Nat) : Int), .int .u32 ((s6_ : Nat) : Int), .int .u32 ((s7_ : Nat) : Int), .slice A r.length C, .int .i64 (m : Int)]] (by kernel_rfl) ?_
  refine (rright_any [s0_, s1_, s2_, s3_, s4_, s5_, s6_, s7_] rfl A r.length C (m : Int) w4).mono ?_
  rintro en w5 ⟨he, hb1⟩
  rw [hR] at he
  subst he
  have e1 := belE0 hb1
  have ze1 := e1.size
  replace BL := BL.e0 e1
  replace R := R.e0 e1
  replace b2 := b2.e0 e1
  replace b3 := b3.e0 e1
  replace b4 := b4.e0 e1
  replace b5 := b5.e0 e1
  clear e1
  refine ⟨.bool true, rfl, ?_⟩
  simp only [sZ, sS]
  refine sv 12 (.bool false) .of ?_
  simp only [sZ, sS]
  refine wpList_nil ?_
  refine hK4 _ _ ?_
  refine cF ?_
  refine wp_skip ?_
  refine hK3 _ _ ?_
  refine cCut (fun A_ w_ => ∃ (g6 : Nat) (A2 : Option Addr) (C2 : Nat), ((w4.heap.size ≤ g6) ∧ (∃ s1 : Nat → Value, A_ = ⟨[.agg (cellsOf .u32 (nn tab)), .agg #[.int .u32 ((s0_ : Nat) : Int), .int .u32 ((s1_ : Nat) : Int), .int .u32 ((s2_ : Nat) : Int), .int .u32 ((s3_ : Nat) : Int), .int .u32 ((s4_ : Nat) : Int), .int .u32 ((s5_ : Nat) : Int), .int .u32 ((s6_ : Nat) : Int), .int .u32 ((s7_ : Nat) : Int), .slice A r.length C, .int .i64 (m : Int)], .pointer (some ⟨w.heap.size, 0, none⟩), .pointer (some ⟨w1.heap.size, 0, none⟩), .pointer (some ⟨w2.heap.size, 0, none⟩), .pointer (some ⟨w3.heap.size, 0, none⟩), .pointer (some ⟨g6, 0, none⟩), undef, undef, undef, .agg #[.int .u32 ((s0_ : Nat) : Int), .int .u32 ((s1_ : Nat) : Int), .int .u32 ((s2_ : Nat) : Int), .int .u32 ((s3_ : Nat) : Int), .int .u32 ((s4_ : Nat) : Int), .int .u32 ((s5_ : Nat) : Int), .int .u32 ((s6_ : Nat) : Int), .int .u32 ((s7_ : Nat) : Int), .slice A r.length C, .int .i64 (m : Int)], .bool true, .bool false, undef, (s1 14), (s1 15), (s1 16), (s1 17), (s1 18), (s1 19), undef, undef, undef, undef, undef, undef, undef, undef, undef, undef, undef, undef, undef, undef, undef, undef, undef, undef, undef, undef, undef, undef, undef].toArray, []⟩) ∧ Bl w.heap.size w w_ ∧ Blk .u32 w_ w.heap.size 35 (nn tab) ∧ Cel w_ w1.heap.size 142 [.int .u32 ((s0_ : Nat) : Int), .int .u32 ((s1_ : Nat) : Int), .int .u32 ((s2_ : Nat) : Int), .int .u32 ((s3_ : Nat) : Int), .int .u32 ((s4_ : Nat) : Int), .int .u32 ((s5_ : Nat) : Int), .int .u32 ((s6_ : Nat) : Int), .int .u32 ((s7_ : Nat) : Int), .slice A r.length C, .int .i64 (m : Int)] ∧ Blk .u8 w_ w2.heap.size 23 (nn (List.replicate 32 0)) ∧ Blk .u8 w_ w3.heap.size 23 (nn (List.replicate 32 0)) ∧ Cel w_ g6 142 [.int .u32 ((q0 : Nat) : Int), .int .u32 ((q1 : Nat) : Int), .int .u32 ((q2 : Nat) : Int), .int .u32 ((q3 : Nat) : Int), .int .u32 ((q4 : Nat) : Int), .int .u32 ((q5 : Nat) : Int), .int .u32 ((q6 : Nat) : Int), .int .u32 ((q7 : Nat) : Int), .slice A2 0 C2, .int .i64 ((m : Int) + (((padN m).length : Nat) : Int))] ∧ w5.heap.size ≤ w_.heap.size)) ?_ ?_
  · skip
    have e2 := drew_e0 w5
    refine zg (fun w_ => Bl w.heap.size w w_ ∧ SL .u8 w_ (.slice A r.length C) (nn r) ∧ Blk .u32 w_ w.heap.size 35 (nn tab) ∧ Cel w_ w1.heap.size 142 [.int .u32 ((s0_ : Nat) : Int), .int .u32 ((s1_ : Nat) : Int), .int .u32 ((s2_ : Nat) : Int), .int .u32 ((s3_ : Nat) : Int), .int .u32 ((s4_ : Nat) : Int), .int .u32 ((s5_ : Nat) : Int), .int .u32 ((s6_ : Nat) : Int), .int .u32 ((s7_ : Nat) : Int), .slice A r.length C, .int .i64 (m : Int)] ∧ Blk .u8 w_ w2.heap.size 23 (nn (List.replicate 32 0)) ∧ Blk .u8 w_ w3.heap.size 23 (nn (List.replicate 32 0)) ∧ w5.heap.size ≤ w_.heap.size) (fun w_ => Bl w.heap.size w w_ ∧ SL .u8 w_ (.slice A r.length C) (nn r) ∧ Blk .u32 w_ w.heap.size 35 (nn tab) ∧ Cel w_ w1.heap.size 142 [.int .u32 ((s0_ : Nat) : Int), .int .u32 ((s1_ : Nat) : Int), .int .u32 ((s2_ : Nat) : Int), .int .u32 ((s3_ : Nat) : Int), .int .u32 ((s4_ : Nat) : Int), .int .u32 ((s5_ : Nat) : Int), .int .u32 ((s6_ : Nat) : Int), .int .u32 ((s7_ : Nat) : Int), .slice A r.length C, .int .i64 (m : Int)] ∧ Blk .u8 w_ w2.heap.size 23 (nn (List.replicate 32 0)) ∧ Blk .u8 w_ w3.heap.size 23 (nn (List.replicate 32 0)) ∧ w5.heap.size ≤ w_.heap.size) 7 8 ⟨BL.e0 e2, R.e0 e2, b2.e0 e2, b3.e0 e2, b4.e0 e2, b5.e0 e2, Nat.le_refl _⟩ ?_
    clear BL R b2 b3 b4 b5
    clear e2
    intro w6
    rintro ⟨BL, R, b2, b3, b4, b5, z1⟩
    refine zv 0 14 (.agg (cellsOf .u32 (nn tab))) (fun _ ⟨BL, R, b2, b3, b4, b5, z1⟩ => Val.blk 35 _ rfl 0 72 (by kernel_rfl) b2 _ Try.underlying35 rfl (by kernel_rfl) (by (try simp only [nn_len, List.length_cons, List.length_nil, List.length_set, List.length_replicate]); try omega) _ (seg_all' _ (by (try simp only [nn_len, List.length_cons, List.length_nil, List.length_set, List.length_replicate]); try omega))) ⟨BL, R, b2, b3, b4, b5, by omega⟩ ?_
    simp only [sZ, sS]
    refine zv 1 15 (.agg #[.int .u32 ((s0_ : Nat) : Int), .int .u32 ((s1_ : Nat) : Int), .int .u32 ((s2_ : Nat) : Int), .int .u32 ((s3_ : Nat) : Int), .int .u32 ((s4_ : Nat) : Int), .int .u32 ((s5_ : Nat) : Int), .int .u32 ((s6_ : Nat) : Int), .int .u32 ((s7_ : Nat) : Int), .slice A r.length C, .int .i64 (m : Int)]) (fun _ ⟨BL, R, b2, b3, b4, b5, z1⟩ => Val.cel 142 _ rfl 0 10 (by kernel_rfl) b3 _ Try.underlying142 rfl (by kernel_rfl) (by simp) [.int .u32 ((s0_ : Nat) : Int), .int .u32 ((s1_ : Nat) : Int), .int .u32 ((s2_ : Nat) : Int), .int .u32 ((s3_ : Nat) : Int), .int .u32 ((s4_ : Nat) : Int), .int .u32 ((s5_ : Nat) : Int), .int .u32 ((s6_ : Nat) : Int), .int .u32 ((s7_ : Nat) : Int), .slice A r.length C, .int .i64 (m : Int)] rfl) ⟨BL, R, b2, b3, b4, b5, by omega⟩ ?_
    simp only [sZ, sS]
    refine zv 2 16 (.pointer (some ⟨w1.heap.size, 9, none⟩)) (fun _ _ => .of) ⟨BL, R, b2, b3, b4, b5, by omega⟩ ?_
    simp only [sZ, sS]
    refine zv 3 17 (.int .i64 (m : Int)) (fun _ ⟨BL, R, b2, b3, b4, b5, z1⟩ => Val.cel1 3 _ rfl w1.heap.size 9 _ (by kernel_rfl) (fun _ => (by kernel_rfl)) b3 rfl) ⟨BL, R, b2, b3, b4, b5, by omega⟩ ?_
    simp only [sZ, sS]
    refine zo2 4 6 rfl rfl ?_ ?_
    · skip
      refine xCall 18 115 #[.int .i64 (m : Int)] (by kernel_rfl) ?_
      refine (rpad_nat m w6).mono ?_
      rintro en w7 ⟨u, rfl, hO, hb1⟩
      have e3 := belE0 hb1
      have ze3 := e3.size
      replace BL := BL.e0 e3
      replace R := R.e0 e3
      replace b2 := b2.e0 e3
      replace b3 := b3.e0 e3
      replace b4 := b4.e0 e3
      replace b5 := b5.e0 e3
      clear e3
      have P : Own 5 .u8 w6.heap.size w7 u (nn (padN m)) := hO
      have lP_1 := P.ge
      refine ⟨u, rfl, ?_⟩
      refine ze 4 ⟨BL, R, b2, b3, b4, b5, by omega⟩ ?_
      simp only [sZ, sS]
      refine zo2 5 6 rfl rfl ?_ ?_
      · skip
        refine xCall 19 106 #[.agg (cellsOf .u32 (nn tab)), .agg #[.int .u32 ((s0_ : Nat) : Int), .int .u32 ((s1_ : Nat) : Int), .int .u32 ((s2_ : Nat) : Int), .int .u32 ((s3_ : Nat) : Int), .int .u32 ((s4_ : Nat) : Int), .int .u32 ((s5_ : Nat) : Int), .int .u32 ((s6_ : Nat) : Int), .int .u32 ((s7_ : Nat) : Int), .slice A r.length C, .int .i64 (m : Int)], u] (by kernel_rfl) ?_
        refine (rwrite_right' tab r (padN m) s0_ s1_ s2_ s3_ s4_ s5_ s6_ s7_ A C (m : Int) u ht w7 hR h32 hr8 (padN_b2 m) R P.sl (by omega)).mono ?_
        rintro en w8 ⟨u2, he, hO2, hb1⟩
        obtain ⟨A2, C2, hu2⟩ := hO2.len
        rw [hwl] at hu2
        rw [hST, hq] at he
        rw [hu2] at he hO2
        subst he
        have e4 := belE0 hb1
        have ze4 := e4.size
        replace BL := BL.e0 e4
        replace R := R.e0 e4
        replace b2 := b2.e0 e4
        replace b3 := b3.e0 e4
        replace b4 := b4.e0 e4
        replace b5 := b5.e0 e4
        replace P := P.e0 e4
        clear e4
        have W2 : Own 5 .u8 w7.heap.size w8 (.slice A2 0 C2) (nn []) := (hO2.cast (by rw [hwl]))
        have lW2_1 := W2.ge
        refine ⟨.agg #[.int .u32 ((q0 : Nat) : Int), .int .u32 ((q1 : Nat) : Int), .int .u32 ((q2 : Nat) : Int), .int .u32 ((q3 : Nat) : Int), .int .u32 ((q4 : Nat) : Int), .int .u32 ((q5 : Nat) : Int), .int .u32 ((q6 : Nat) : Int), .int .u32 ((q7 : Nat) : Int), .slice A2 0 C2, .int .i64 ((m : Int) + (((padN m).length : Nat) : Int))], rfl, ?_⟩
        refine ze 5 ⟨BL, R, b2, b3, b4, b5, by omega⟩ ?_
        simp only [sZ, sS]
        refine zo1 6 rfl ?_
        refine xAlloc 6 142 [.int .u32 0, .int .u32 0, .int .u32 0, .int .u32 0, .int .u32 0, .int .u32 0, .int .u32 0, .int .u32 0, .slice none 0 0, .int .i64 0] rfl (by kernel_rfl) ?_
        intro w9 n5
        have zn5 := n5.z
        have b6 := n5.c
        replace BL := BL.e0 n5.e
        replace R := R.e0 n5.e
        replace b2 := b2.e0 n5.e
        replace b3 := b3.e0 n5.e
        replace b4 := b4.e0 n5.e
        replace b5 := b5.e0 n5.e
        replace P := P.e0 n5.e
        replace W2 := W2.e0 n5.e
        refine ze 6 ⟨BL, R, b2, b3, b4, b5, by omega⟩ ?_
        simp only [sZ, sS]
        refine zo1 7 rfl ?_
        refine xStoreR 142 (.tmp 6) (.tmp 19) rfl w8.heap.size 142 [.int .u32 0, .int .u32 0, .int .u32 0, .int .u32 0, .int .u32 0, .int .u32 0, .int .u32 0, .int .u32 0, .slice none 0 0, .int .i64 0] 0 [.int .u32 ((q0 : Nat) : Int), .int .u32 ((q1 : Nat) : Int), .int .u32 ((q2 : Nat) : Int), .int .u32 ((q3 : Nat) : Int), .int .u32 ((q4 : Nat) : Int), .int .u32 ((q5 : Nat) : Int), .int .u32 ((q6 : Nat) : Int), .int .u32 ((q7 : Nat) : Int), .slice A2 0 C2, .int .i64 ((m : Int) + (((padN m).length : Nat) : Int))] (by kernel_rfl) (by kernel_rfl) b6 (by kernel_rfl) (by simp) rfl [.int .u32 ((q0 : Nat) : Int), .int .u32 ((q1 : Nat) : Int), .int .u32 ((q2 : Nat) : Int), .int .u32 ((q3 : Nat) : Int), .int .u32 ((q4 : Nat) : Int), .int .u32 ((q5 : Nat) : Int), .int .u32 ((q6 : Nat) : Int), .int .u32 ((q7 : Nat) : Int), .slice A2 0 C2, .int .i64 ((m : Int) + (((padN m).length : Nat) : Int))] rfl ?_
        intro w10 t1
        have zt1 := t1.z
        have BL_ := BL.ev t1.e (fun i h => show w.heap.size ≤ i by have h : i = w8.heap.size := h; omega)
        have R_ := R.ev t1.e (fun i hi => show ¬ (i = w8.heap.size) by have := hrl i hi; omega)
        have b2_ := b2.ev t1.e (show ¬ (w.heap.size = w8.heap.size) by omega)
        have b3_ := b3.ev t1.e (show ¬ (w1.heap.size = w8.heap.size) by omega)
        have b4_ := b4.ev t1.e (show ¬ (w2.heap.size = w8.heap.size) by omega)
        have b5_ := b5.ev t1.e (show ¬ (w3.heap.size = w8.heap.size) by omega)
        have W2_ := W2.ev t1.e (fun i hi => show ¬ (i = w8.heap.size) by have := lW2_1 i hi; omega)
        replace BL := BL_; clear BL_
        replace R := R_; clear R_
        replace b2 := b2_; clear b2_
        replace b3 := b3_; clear b3_
        replace b4 := b4_; clear b4_
        replace b5 := b5_; clear b5_
        replace W2 := W2_; clear W2_
        replace b6 : Cel w10 w8.heap.size 142 [.int .u32 ((q0 : Nat) : Int), .int .u32 ((q1 : Nat) : Int), .int .u32 ((q2 : Nat) : Int), .int .u32 ((q3 : Nat) : Int), .int .u32 ((q4 : Nat) : Int), .int .u32 ((q5 : Nat) : Int), .int .u32 ((q6 : Nat) : Int), .int .u32 ((q7 : Nat) : Int), .slice A2 0 C2, .int .i64 ((m : Int) + (((padN m).length : Nat) : Int))] := t1.c
        clear t1
        refine zz 7 ?_
        refine zd (by kernel_rfl) ?_ _
        exact ⟨w8.heap.size, A2, C2, by omega, cutE, BL, b2, b3, b4, b5, b6, by omega⟩
      · skip
        refine xAlloc 6 142 [.int .u32 0, .int .u32 0, .int .u32 0, .int .u32 0, .int .u32 0, .int .u32 0, .int .u32 0, .int .u32 0, .slice none 0 0, .int .i64 0] rfl (by kernel_rfl) ?_
        intro w11 n6
        have zn6 := n6.z
        have b6 := n6.c
        replace BL := BL.e0 n6.e
        replace R := R.e0 n6.e
        replace b2 := b2.e0 n6.e
        replace b3 := b3.e0 n6.e
        replace b4 := b4.e0 n6.e
        replace b5 := b5.e0 n6.e
        replace P := P.e0 n6.e
        refine ze 6 ⟨BL, R, b2, b3, b4, b5, by omega⟩ ?_
        simp only [sZ, sS]
        refine zo1 5 rfl ?_
        refine xCall 19 106 #[.agg (cellsOf .u32 (nn tab)), .agg #[.int .u32 ((s0_ : Nat) : Int), .int .u32 ((s1_ : Nat) : Int), .int .u32 ((s2_ : Nat) : Int), .int .u32 ((s3_ : Nat) : Int), .int .u32 ((s4_ : Nat) : Int), .int .u32 ((s5_ : Nat) : Int), .int .u32 ((s6_ : Nat) : Int), .int .u32 ((s7_ : Nat) : Int), .slice A r.length C, .int .i64 (m : Int)], u] (by kernel_rfl) ?_
        refine (rwrite_right' tab r (padN m) s0_ s1_ s2_ s3_ s4_ s5_ s6_ s7_ A C (m : Int) u ht w11 hR h32 hr8 (padN_b2 m) R P.sl (by omega)).mono ?_
        rintro en w12 ⟨u2, he, hO2, hb1⟩
        obtain ⟨A2, C2, hu2⟩ := hO2.len
        rw [hwl] at hu2
        rw [hST, hq] at he
        rw [hu2] at he hO2
        subst he
        have e5 := belE0 hb1
        have ze5 := e5.size
        replace BL := BL.e0 e5
        replace R := R.e0 e5
        replace b2 := b2.e0 e5
        replace b3 := b3.e0 e5
        replace b4 := b4.e0 e5
        replace b5 := b5.e0 e5
        replace P := P.e0 e5
        replace b6 := b6.e0 e5
        clear e5
        have W2 : Own 5 .u8 w11.heap.size w12 (.slice A2 0 C2) (nn []) := (hO2.cast (by rw [hwl]))
        have lW2_2 := W2.ge
        refine ⟨.agg #[.int .u32 ((q0 : Nat) : Int), .int .u32 ((q1 : Nat) : Int), .int .u32 ((q2 : Nat) : Int), .int .u32 ((q3 : Nat) : Int), .int .u32 ((q4 : Nat) : Int), .int .u32 ((q5 : Nat) : Int), .int .u32 ((q6 : Nat) : Int), .int .u32 ((q7 : Nat) : Int), .slice A2 0 C2, .int .i64 ((m : Int) + (((padN m).length : Nat) : Int))], rfl, ?_⟩
        refine ze 5 ⟨BL, R, b2, b3, b4, b5, by omega⟩ ?_
        simp only [sZ, sS]
        refine zo1 7 rfl ?_
        refine xStoreR 142 (.tmp 6) (.tmp 19) rfl w7.heap.size 142 [.int .u32 0, .int .u32 0, .int .u32 0, .int .u32 0, .int .u32 0, .int .u32 0, .int .u32 0, .int .u32 0, .slice none 0 0, .int .i64 0] 0 [.int .u32 ((q0 : Nat) : Int), .int .u32 ((q1 : Nat) : Int), .int .u32 ((q2 : Nat) : Int), .int .u32 ((q3 : Nat) : Int), .int .u32 ((q4 : Nat) : Int), .int .u32 ((q5 : Nat) : Int), .int .u32 ((q6 : Nat) : Int), .int .u32 ((q7 : Nat) : Int), .slice A2 0 C2, .int .i64 ((m : Int) + (((padN m).length : Nat) : Int))] (by kernel_rfl) (by kernel_rfl) b6 (by kernel_rfl) (by simp) rfl [.int .u32 ((q0 : Nat) : Int), .int .u32 ((q1 : Nat) : Int), .int .u32 ((q2 : Nat) : Int), .int .u32 ((q3 : Nat) : Int), .int .u32 ((q4 : Nat) : Int), .int .u32 ((q5 : Nat) : Int), .int .u32 ((q6 : Nat) : Int), .int .u32 ((q7 : Nat) : Int), .slice A2 0 C2, .int .i64 ((m : Int) + (((padN m).length : Nat) : Int))] rfl ?_
        intro w13 t2
        have zt2 := t2.z
        have BL_ := BL.ev t2.e (fun i h => show w.heap.size ≤ i by have h : i = w7.heap.size := h; omega)
        have R_ := R.ev t2.e (fun i hi => show ¬ (i = w7.heap.size) by have := hrl i hi; omega)
        have b2_ := b2.ev t2.e (show ¬ (w.heap.size = w7.heap.size) by omega)
        have b3_ := b3.ev t2.e (show ¬ (w1.heap.size = w7.heap.size) by omega)
        have b4_ := b4.ev t2.e (show ¬ (w2.heap.size = w7.heap.size) by omega)
        have b5_ := b5.ev t2.e (show ¬ (w3.heap.size = w7.heap.size) by omega)
        have W2_ := W2.ev t2.e (fun i hi => show ¬ (i = w7.heap.size) by have := lW2_2 i hi; omega)
        replace BL := BL_; clear BL_
        replace R := R_; clear R_
        replace b2 := b2_; clear b2_
        replace b3 := b3_; clear b3_
        replace b4 := b4_; clear b4_
        replace b5 := b5_; clear b5_
        replace W2 := W2_; clear W2_
        replace b6 : Cel w13 w7.heap.size 142 [.int .u32 ((q0 : Nat) : Int), .int .u32 ((q1 : Nat) : Int), .int .u32 ((q2 : Nat) : Int), .int .u32 ((q3 : Nat) : Int), .int .u32 ((q4 : Nat) : Int), .int .u32 ((q5 : Nat) : Int), .int .u32 ((q6 : Nat) : Int), .int .u32 ((q7 : Nat) : Int), .slice A2 0 C2, .int .i64 ((m : Int) + (((padN m).length : Nat) : Int))] := t2.c
        clear t2
        refine zz 7 ?_
        refine zd (by kernel_rfl) ?_ _
        exact ⟨w7.heap.size, A2, C2, by omega, cutE, BL, b2, b3, b4, b5, b6, by omega⟩
    · skip
      refine xAlloc 6 142 [.int .u32 0, .int .u32 0, .int .u32 0, .int .u32 0, .int .u32 0, .int .u32 0, .int .u32 0, .int .u32 0, .slice none 0 0, .int .i64 0] rfl (by kernel_rfl) ?_
      intro w14 n7
      have zn7 := n7.z
      have b6 := n7.c
      replace BL := BL.e0 n7.e
      replace R := R.e0 n7.e
      replace b2 := b2.e0 n7.e
      replace b3 := b3.e0 n7.e
      replace b4 := b4.e0 n7.e
      replace b5 := b5.e0 n7.e
      refine ze 6 ⟨BL, R, b2, b3, b4, b5, by omega⟩ ?_
      simp only [sZ, sS]
      refine zo1 4 rfl ?_
      refine xCall 18 115 #[.int .i64 (m : Int)] (by kernel_rfl) ?_
      refine (rpad_nat m w14).mono ?_
      rintro en w15 ⟨u, rfl, hO, hb1⟩
      have e6 := belE0 hb1
      have ze6 := e6.size
      replace BL := BL.e0 e6
      replace R := R.e0 e6
      replace b2 := b2.e0 e6
      replace b3 := b3.e0 e6
      replace b4 := b4.e0 e6
      replace b5 := b5.e0 e6
      replace b6 := b6.e0 e6
      clear e6
      have P : Own 5 .u8 w14.heap.size w15 u (nn (padN m)) := hO
      have lP_2 := P.ge
      refine ⟨u, rfl, ?_⟩
      refine ze 4 ⟨BL, R, b2, b3, b4, b5, by omega⟩ ?_
      simp only [sZ, sS]
      refine zo1 5 rfl ?_
      refine xCall 19 106 #[.agg (cellsOf .u32 (nn tab)), .agg #[.int .u32 ((s0_ : Nat) : Int), .int .u32 ((s1_ : Nat) : Int), .int .u32 ((s2_ : Nat) : Int), .int .u32 ((s3_ : Nat) : Int), .int .u32 ((s4_ : Nat) : Int), .int .u32 ((s5_ : Nat) : Int), .int .u32 ((s6_ : Nat) : Int), .int .u32 ((s7_ : Nat) : Int), .slice A r.length C, .int .i64 (m : Int)], u] (by kernel_rfl) ?_
      refine (rwrite_right' tab r (padN m) s0_ s1_ s2_ s3_ s4_ s5_ s6_ s7_ A C (m : Int) u ht w15 hR h32 hr8 (padN_b2 m) R P.sl (by omega)).mono ?_
      rintro en w16 ⟨u2, he, hO2, hb1⟩
      obtain ⟨A2, C2, hu2⟩ := hO2.len
      rw [hwl] at hu2
      rw [hST, hq] at he
      rw [hu2] at he hO2
      subst he
      have e7 := belE0 hb1
      have ze7 := e7.size
      replace BL := BL.e0 e7
      replace R := R.e0 e7
      replace b2 := b2.e0 e7
      replace b3 := b3.e0 e7
      replace b4 := b4.e0 e7
      replace b5 := b5.e0 e7
      replace b6 := b6.e0 e7
      replace P := P.e0 e7
      clear e7
      have W2 : Own 5 .u8 w15.heap.size w16 (.slice A2 0 C2) (nn []) := (hO2.cast (by rw [hwl]))
      have lW2_3 := W2.ge
      refine ⟨.agg #[.int .u32 ((q0 : Nat) : Int), .int .u32 ((q1 : Nat) : Int), .int .u32 ((q2 : Nat) : Int), .int .u32 ((q3 : Nat) : Int), .int .u32 ((q4 : Nat) : Int), .int .u32 ((q5 : Nat) : Int), .int .u32 ((q6 : Nat) : Int), .int .u32 ((q7 : Nat) : Int), .slice A2 0 C2, .int .i64 ((m : Int) + (((padN m).length : Nat) : Int))], rfl, ?_⟩
      refine ze 5 ⟨BL, R, b2, b3, b4, b5, by omega⟩ ?_
      simp only [sZ, sS]
      refine zo1 7 rfl ?_
      refine xStoreR 142 (.tmp 6) (.tmp 19) rfl w6.heap.size 142 [.int .u32 0, .int .u32 0, .int .u32 0, .int .u32 0, .int .u32 0, .int .u32 0, .int .u32 0, .int .u32 0, .slice none 0 0, .int .i64 0] 0 [.int .u32 ((q0 : Nat) : Int), .int .u32 ((q1 : Nat) : Int), .int .u32 ((q2 : Nat) : Int), .int .u32 ((q3 : Nat) : Int), .int .u32 ((q4 : Nat) : Int), .int .u32 ((q5 : Nat) : Int), .int .u32 ((q6 : Nat) : Int), .int .u32 ((q7 : Nat) : Int), .slice A2 0 C2, .int .i64 ((m : Int) + (((padN m).length : Nat) : Int))] (by kernel_rfl) (by kernel_rfl) b6 (by kernel_rfl) (by simp) rfl [.int .u32 ((q0 : Nat) : Int), .int .u32 ((q1 : Nat) : Int), .int .u32 ((q2 : Nat) : Int), .int .u32 ((q3 : Nat) : Int), .int .u32 ((q4 : Nat) : Int), .int .u32 ((q5 : Nat) : Int), .int .u32 ((q6 : Nat) : Int), .int .u32 ((q7 : Nat) : Int), .slice A2 0 C2, .int .i64 ((m : Int) + (((padN m).length : Nat) : Int))] rfl ?_
      intro w17 t3
      have zt3 := t3.z
      have BL_ := BL.ev t3.e (fun i h => show w.heap.size ≤ i by have h : i = w6.heap.size := h; omega)
      have R_ := R.ev t3.e (fun i hi => show ¬ (i = w6.heap.size) by have := hrl i hi; omega)
      have b2_ := b2.ev t3.e (show ¬ (w.heap.size = w6.heap.size) by omega)
      have b3_ := b3.ev t3.e (show ¬ (w1.heap.size = w6.heap.size) by omega)
      have b4_ := b4.ev t3.e (show ¬ (w2.heap.size = w6.heap.size) by omega)
      have b5_ := b5.ev t3.e (show ¬ (w3.heap.size = w6.heap.size) by omega)
      have W2_ := W2.ev t3.e (fun i hi => show ¬ (i = w6.heap.size) by have := lW2_3 i hi; omega)
      replace BL := BL_; clear BL_
      replace R := R_; clear R_
      replace b2 := b2_; clear b2_
      replace b3 := b3_; clear b3_
      replace b4 := b4_; clear b4_
      replace b5 := b5_; clear b5_
      replace W2 := W2_; clear W2_
      replace b6 : Cel w17 w6.heap.size 142 [.int .u32 ((q0 : Nat) : Int), .int .u32 ((q1 : Nat) : Int), .int .u32 ((q2 : Nat) : Int), .int .u32 ((q3 : Nat) : Int), .int .u32 ((q4 : Nat) : Int), .int .u32 ((q5 : Nat) : Int), .int .u32 ((q6 : Nat) : Int), .int .u32 ((q7 : Nat) : Int), .slice A2 0 C2, .int .i64 ((m : Int) + (((padN m).length : Nat) : Int))] := t3.c
      clear t3
      refine zz 7 ?_
      refine zd (by kernel_rfl) ?_ _
      exact ⟨w6.heap.size, A2, C2, by omega, cutE, BL, b2, b3, b4, b5, b6, by omega⟩
  · skip
    clear BL R b2 b3 b4 b5
    rintro a_ wJ1 ⟨g6, A2, C2, hJ1_0, ⟨s1, rfl⟩, BL, b2, b3, b4, b5, b6, zJ1⟩
    have hg6 := b6.lt
    refine wp_seq_k fun K5 hK5 => ?_
    refine wp_seq_k fun K6 hK6 => ?_
    refine cPlain ?_
    refine sv 7 (.int .i64 0) .of ?_
    simp only [sZ, sS]
    refine wpList_nil ?_
    refine hK6 _ _ ?_
    refine wp_block ?_
    refine cLoop (fun N_ A_ w_ => ∃ (i : Nat) (O : List Nat), (N_ = 8 - i ∧ (i ≤ 8) ∧ (O.length = 32) ∧ (∀ j, j < 4 * i → O.getD j 0 = digE ST j) ∧ (∃ s2 : Nat → Value, A_ = ⟨[.agg (cellsOf .u32 (nn tab)), .agg #[.int .u32 ((s0_ : Nat) : Int), .int .u32 ((s1_ : Nat) : Int), .int .u32 ((s2_ : Nat) : Int), .int .u32 ((s3_ : Nat) : Int), .int .u32 ((s4_ : Nat) : Int), .int .u32 ((s5_ : Nat) : Int), .int .u32 ((s6_ : Nat) : Int), .int .u32 ((s7_ : Nat) : Int), .slice A r.length C, .int .i64 (m : Int)], .pointer (some ⟨w.heap.size, 0, none⟩), .pointer (some ⟨w1.heap.size, 0, none⟩), .pointer (some ⟨w2.heap.size, 0, none⟩), .pointer (some ⟨w3.heap.size, 0, none⟩), .pointer (some ⟨g6, 0, none⟩), .int .i64 ((i : Nat) : Int), (s2 8), (s2 9), .agg #[.int .u32 ((s0_ : Nat) : Int), .int .u32 ((s1_ : Nat) : Int), .int .u32 ((s2_ : Nat) : Int), .int .u32 ((s3_ : Nat) : Int), .int .u32 ((s4_ : Nat) : Int), .int .u32 ((s5_ : Nat) : Int), .int .u32 ((s6_ : Nat) : Int), .int .u32 ((s7_ : Nat) : Int), .slice A r.length C, .int .i64 (m : Int)], .bool true, .bool false, undef, (s1 14), (s1 15), (s1 16), (s1 17), (s1 18), (s1 19), (s2 20), (s2 21), (s2 22), (s2 23), (s2 24), (s2 25), (s2 26), (s2 27), (s2 28), (s2 29), (s2 30), (s2 31), (s2 32), (s2 33), (s2 34), (s2 35), (s2 36), (s2 37), (s2 38), (s2 39), (s2 40), (s2 41), undef].toArray, []⟩) ∧ Bl w.heap.size w w_ ∧ Blk .u32 w_ w.heap.size 35 (nn tab) ∧ Cel w_ w1.heap.size 142 [.int .u32 ((s0_ : Nat) : Int), .int .u32 ((s1_ : Nat) : Int), .int .u32 ((s2_ : Nat) : Int), .int .u32 ((s3_ : Nat) : Int), .int .u32 ((s4_ : Nat) : Int), .int .u32 ((s5_ : Nat) : Int), .int .u32 ((s6_ : Nat) : Int), .int .u32 ((s7_ : Nat) : Int), .slice A r.length C, .int .i64 (m : Int)] ∧ Blk .u8 w_ w2.heap.size 23 (nn (List.replicate 32 0)) ∧ Blk .u8 w_ w3.heap.size 23 (nn O) ∧ Cel w_ g6 142 [.int .u32 ((q0 : Nat) : Int), .int .u32 ((q1 : Nat) : Int), .int .u32 ((q2 : Nat) : Int), .int .u32 ((q3 : Nat) : Int), .int .u32 ((q4 : Nat) : Int), .int .u32 ((q5 : Nat) : Int), .int .u32 ((q6 : Nat) : Int), .int .u32 ((q7 : Nat) : Int), .slice A2 0 C2, .int .i64 ((m : Int) + (((padN m).length : Nat) : Int))] ∧ wJ1.heap.size ≤ w_.heap.size)) _ ⟨0, List.replicate 32 0, rfl, (Nat.zero_le _), (by simp), (fun j hj => by omega), cutE, BL, b2, b3, b4, b5, b6, Nat.le_refl _⟩ ?_
    clear BL b2 b3 b4 b5 b6
    rintro n_ a_ wl0 ⟨i, O, rfl, hc0_0, hc0_1, hc0_2, ⟨s2, rfl⟩, BL, b2, b3, b4, b5, b6, zl0⟩
    refine wp_seq_k fun K7 hK7 => ?_
    refine wp_seq_k fun K8 hK8 => ?_
    refine cPlain ?_
    refine sv 20 (.int .i64 ((i : Nat) : Int)) .of ?_
    simp only [sZ, sS]
    refine sv 21 (.bool (decide (((i : Nat) : Int) < 8))) (Val.cmp .lss 3 _ (.tmp 20) _ rfl .i64 ((i : Nat) : Int) 8 (by kernel_rfl) (by kernel_rfl) (by simp) _ rfl) ?_
    simp only [sZ, sS]
    refine wpList_nil ?_
    refine hK8 _ _ ?_
    refine cDec (((i : Nat) : Int) < 8) (by kernel_rfl) (fun c21 => ?_) (fun c21 => ?_)
    · skip
      refine wp_skip ?_
      refine hK7 _ _ ?_
      refine wp_seq_k fun K9 hK9 => ?_
      refine wp_block ?_
      refine wp_seq_k fun K10 hK10 => ?_
      refine cPlain ?_
      refine sv 24 (.int .i64 ((i : Nat) : Int)) .of ?_
      simp only [sZ, sS]
      refine sv 25 (.pointer (some ⟨g6, 0, none⟩)) .of ?_
      simp only [sZ, sS]
      refine sv 26 (.pointer (some ⟨g6, i, none⟩)) (Val.idxA01 32 (.tmp 25) (.tmp 24) rfl g6 i (by kernel_rfl) (by kernel_rfl) Try.underlying32 (by kernel_rfl) (by omega)) ?_
      simp only [sZ, sS]
      refine sv 27 (.int .u32 ((ST.getD i 0 : Nat) : Int)) (Val.cell 31 _ rfl g6 i _ (by kernel_rfl) (fun _ => by kernel_rfl) (b6.cell i _ (by rw [hq]; exact hash_at _ _ _ _ _ _ _ _ _ _ i (by omega)))) ?_
      simp only [sZ, sS]
      refine sv 8 (.int .u32 ((ST.getD i 0 : Nat) : Int)) .of ?_
      simp only [sZ, sS]
      refine wpList_nil ?_
      refine hK10 _ _ ?_
      refine wp_seq_k fun K11 hK11 => ?_
      refine cPlain ?_
      refine sv 9 (.int .i64 3) .of ?_
      simp only [sZ, sS]
      refine wpList_nil ?_
      refine hK11 _ _ ?_
      refine wp_block ?_
      refine cLoop (fun N_ A_ w_ => ∃ (t c : Nat) (X : List Nat), (N_ = 4 - t ∧ (t ≤ 4) ∧ (c = ST.getD i 0 / 256 ^ t) ∧ (X.length = 32) ∧ (∀ j, j < 4 * i → X.getD j 0 = digE ST j) ∧ (∀ j, 4 * i + (4 - t) ≤ j → j < 4 * i + 4 → X.getD j 0 = digE ST j) ∧ (c < 4294967296) ∧ (∃ s3 : Nat → Value, A_ = ⟨[.agg (cellsOf .u32 (nn tab)), .agg #[.int .u32 ((s0_ : Nat) : Int), .int .u32 ((s1_ : Nat) : Int), .int .u32 ((s2_ : Nat) : Int), .int .u32 ((s3_ : Nat) : Int), .int .u32 ((s4_ : Nat) : Int), .int .u32 ((s5_ : Nat) : Int), .int .u32 ((s6_ : Nat) : Int), .int .u32 ((s7_ : Nat) : Int), .slice A r.length C, .int .i64 (m : Int)], .pointer (some ⟨w.heap.size, 0, none⟩), .pointer (some ⟨w1.heap.size, 0, none⟩), .pointer (some ⟨w2.heap.size, 0, none⟩), .pointer (some ⟨w3.heap.size, 0, none⟩), .pointer (some ⟨g6, 0, none⟩), .int .i64 ((i : Nat) : Int), .int .u32 ((c : Nat) : Int), .int .i64 (3 - (t : Int)), .agg #[.int .u32 ((s0_ : Nat) : Int), .int .u32 ((s1_ : Nat) : Int), .int .u32 ((s2_ : Nat) : Int), .int .u32 ((s3_ : Nat) : Int), .int .u32 ((s4_ : Nat) : Int), .int .u32 ((s5_ : Nat) : Int), .int .u32 ((s6_ : Nat) : Int), .int .u32 ((s7_ : Nat) : Int), .slice A r.length C, .int .i64 (m : Int)], .bool true, .bool false, undef, (s1 14), (s1 15), (s1 16), (s1 17), (s1 18), (s1 19), .int .i64 ((i : Nat) : Int), .bool (decide (((i : Nat) : Int) < 8)), (s2 22), (s2 23), .int .i64 ((i : Nat) : Int), .pointer (some ⟨g6, 0, none⟩), .pointer (some ⟨g6, i, none⟩), .int .u32 ((ST.getD i 0 : Nat) : Int), (s3 28), (s3 29), (s3 30), (s3 31), (s3 32), (s3 33), (s3 34), (s3 35), (s3 36), (s3 37), (s3 38), (s3 39), (s3 40), (s3 41), undef].toArray, []⟩) ∧ Bl w.heap.size w w_ ∧ Blk .u32 w_ w.heap.size 35 (nn tab) ∧ Cel w_ w1.heap.size 142 [.int .u32 ((s0_ : Nat) : Int), .int .u32 ((s1_ : Nat) : Int), .int .u32 ((s2_ : Nat) : Int), .int .u32 ((s3_ : Nat) : Int), .int .u32 ((s4_ : Nat) : Int), .int .u32 ((s5_ : Nat) : Int), .int .u32 ((s6_ : Nat) : Int), .int .u32 ((s7_ : Nat) : Int), .slice A r.length C, .int .i64 (m : Int)] ∧ Blk .u8 w_ w2.heap.size 23 (nn (List.replicate 32 0)) ∧ Blk .u8 w_ w3.heap.size 23 (nn X) ∧ Cel w_ g6 142 [.int .u32 ((q0 : Nat) : Int), .int .u32 ((q1 : Nat) : Int), .int .u32 ((q2 : Nat) : Int), .int .u32 ((q3 : Nat) : Int), .int .u32 ((q4 : Nat) : Int), .int .u32 ((q5 : Nat) : Int), .int .u32 ((q6 : Nat) : Int), .int .u32 ((q7 : Nat) : Int), .slice A2 0 C2, .int .i64 ((m : Int) + (((padN m).length : Nat) : Int))] ∧ wl0.heap.size ≤ w_.heap.size)) _ ⟨0, ST.getD i 0, O, rfl, (Nat.zero_le _), (by simp), hc0_1, hc0_2, (fun j h1 h2 => by omega), (getD_32 hST32 i), cutE, BL, b2, b3, b4, b5, b6, Nat.le_refl _⟩ ?_
      clear BL b2 b3 b4 b5 b6
      rintro n_ a_ wl1 ⟨t, c, X, rfl, hc1_0, hc1_1, hc1_2, hc1_3, hc1_4, hc1_5, ⟨s3, rfl⟩, BL, b2, b3, b4, b5, b6, zl1⟩
      refine wp_seq_k fun K12 hK12 => ?_
      refine wp_seq_k fun K13 hK13 => ?_
      refine cPlain ?_
      refine sv 28 (.int .i64 (3 - (t : Int))) .of ?_
      simp only [sZ, sS]
      refine sv 29 (.bool (decide (0 ≤ (3 - (t : Int))))) (Val.cmp .geq 3 _ (.tmp 28) _ rfl .i64 (3 - (t : Int)) 0 (by kernel_rfl) (by kernel_rfl) (by simp) _ rfl) ?_
      simp only [sZ, sS]
      refine wpList_nil ?_
      refine hK13 _ _ ?_
      refine cDec (0 ≤ (3 - (t : Int))) (by kernel_rfl) (fun c29 => ?_) (fun c29 => ?_)
      · skip
        refine wp_skip ?_
        refine hK12 _ _ ?_
        refine wp_seq_k fun K14 hK14 => ?_
        refine wp_block ?_
        refine wp_seq_k fun K15 hK15 => ?_
        refine cPlain ?_
        refine sv 32 (.int .i64 ((i : Nat) : Int)) .of ?_
        simp only [sZ, sS]
        refine sv 33 (.int .i64 ((4 * i : Nat) : Int)) (Val.as (Val.mul 3 _ _ (.tmp 32) rfl 4 ((i : Nat) : Int) (by kernel_rfl) (by kernel_rfl) (by omega)) (congrArg (Value.int .i64) (by omega))) ?_
        simp only [sZ, sS]
        refine sv 34 (.int .i64 (3 - (t : Int))) .of ?_
        simp only [sZ, sS]
        refine sv 35 (.int .i64 ((4 * i + (3 - t) : Nat) : Int)) (Val.as (Val.add 3 _ (.tmp 33) (.tmp 34) rfl ((4 * i : Nat) : Int) (3 - (t : Int)) (by kernel_rfl) (by kernel_rfl) (by omega)) (congrArg (Value.int .i64) (by omega))) ?_
        simp only [sZ, sS]
        refine sv 36 (.int .u32 ((c : Nat) : Int)) .of ?_
        simp only [sZ, sS]
        refine sv 37 (.int .u32 ((c % 256 : Nat) : Int)) (Val.remN 31 _ (.tmp 36) _ rfl .u32 c 256 (by kernel_rfl) (by kernel_rfl) (by omega)) ?_
        simp only [sZ, sS]
        refine sv 38 (.int .u8 (((c % 256) % 256 : Nat) : Int)) (Val.convN 31 5 (.tmp 37) rfl .u8 (c % 256) 256 Try.underlying31 Try.underlying5 (by kernel_rfl)) ?_
        simp only [sZ, sS]
        refine sv 39 (.pointer (some ⟨w3.heap.size, (4 * i + (3 - t)), none⟩)) (Val.idxA01 23 (.tmp 5) (.tmp 35) rfl w3.heap.size (4 * i + (3 - t)) (by kernel_rfl) (by kernel_rfl) Try.underlying23 (by kernel_rfl) (by omega)) ?_
        simp only [sZ, sS]
        refine xStoreNN 5 (.tmp 39) (.tmp 38) rfl .u8 w3.heap.size 23 X (4 * i + (3 - t)) ((c % 256) % 256) (by kernel_rfl) (by kernel_rfl) b5 (by kernel_rfl) (by omega) ?_
        intro w18 t4
        have zt4 := t4.z
        have BL_ := BL.ev t4.e (fun i h => show w.heap.size ≤ i by have h : i = w3.heap.size := h; omega)
        have b2_ := b2.ev t4.e (show ¬ (w.heap.size = w3.heap.size) by omega)
        have b3_ := b3.ev t4.e (show ¬ (w1.heap.size = w3.heap.size) by omega)
        have b4_ := b4.ev t4.e (show ¬ (w2.heap.size = w3.heap.size) by omega)
        have b6_ := b6.ev t4.e (show ¬ (g6 = w3.heap.size) by omega)
        replace BL := BL_; clear BL_
        replace b2 := b2_; clear b2_
        replace b3 := b3_; clear b3_
        replace b4 := b4_; clear b4_
        replace b6 := b6_; clear b6_
        replace b5 : Blk .u8 w18 w3.heap.size 23 (nn (X.set (4 * i + (3 - t)) ((c % 256) % 256))) := t4.c
        clear t4
        refine wpList_nil ?_
        refine hK15 _ _ ?_
        refine cPlain ?_
        refine sv 40 (.int .u32 ((c : Nat) : Int)) .of ?_
        simp only [sZ, sS]
        refine sv 41 (.int .u32 ((c / 256 : Nat) : Int)) (Val.asN (Val.quoN 31 _ (.tmp 40) _ rfl .u32 c 256 4294967296 (by kernel_rfl) (by kernel_rfl) (by omega)) (by omega)) ?_
        simp only [sZ, sS]
        refine sv 8 (.int .u32 ((c / 256 : Nat) : Int)) .of ?_
        simp only [sZ, sS]
        refine wpList_nil ?_
        refine hK14 _ _ ?_
        refine cPlain ?_
        refine sv 30 (.int .i64 (3 - (t : Int))) .of ?_
        simp only [sZ, sS]
        refine sv 31 (.int .i64 (3 - ((t + 1 : Nat) : Int))) (Val.as (Val.sub 3 _ (.tmp 30) _ rfl (3 - (t : Int)) 1 (by kernel_rfl) (by kernel_rfl) (by omega)) (congrArg (Value.int .i64) (by omega))) ?_
        simp only [sZ, sS]
        refine sv 9 (.int .i64 (3 - ((t + 1 : Nat) : Int))) .of ?_
        simp only [sZ, sS]
        refine wpList_nil ?_
        refine ⟨_, ?_, t + 1, c / 256, (X.set (4 * i + (3 - t)) ((c % 256) % 256)), rfl, (by omega), (by rw [hc1_1, div_next]), (by rw [List.length_set]; exact hc1_2), (fun j hj => by rw [getD_set _ _ _ _ (by omega), if_neg (by omega)]; exact hc1_3 j hj), (fun j h1 h2 => by rw [getD_set _ _ _ _ (by omega)]; split; (rename_i hh; rw [← hh, digE_at _ _ _ (by omega), hc1_1]); exact hc1_4 j (by omega) h2), (by omega), cutE, BL, b2, b3, b4, b5, b6, by omega⟩
        omega
      · skip
        refine wp_exit ?_
        simp only [Exit.then, Exit.inBlock, ↓reduceIte, Nat.reduceEqDiff]
        refine hK9 _ _ ?_
        refine cPlain ?_
        refine sv 22 (.int .i64 ((i : Nat) : Int)) .of ?_
        simp only [sZ, sS]
        refine sv 23 (.int .i64 (((i : Nat) : Int) + 1)) (Val.add 3 _ (.tmp 22) _ rfl ((i : Nat) : Int) 1 (by kernel_rfl) (by kernel_rfl) (by omega)) ?_
        simp only [sZ, sS]
        refine sv 7 (.int .i64 (((i : Nat) : Int) + 1)) .of ?_
        simp only [sZ, sS]
        refine wpList_nil ?_
        refine ⟨_, ?_, i + 1, X, rfl, (by omega), hc1_2, (fun j hj => by rcases (by omega : j < 4 * i ∨ 4 * i + 4 - 4 ≤ j) with h | h; exact hc1_3 j (by omega); exact hc1_4 j (by omega) (by omega)), cutE, BL, b2, b3, b4, b5, b6, by omega⟩
        omega
    · skip
      have hfin := dig_ext (S := ST) hc0_1 (fun j hj => hc0_2 j (by omega))
      have hi8 : i = 8 := by omega
      refine wp_exit ?_
      simp only [Exit.then, Exit.inBlock, ↓reduceIte, Nat.reduceEqDiff]
      refine hK5 _ _ ?_
      refine wp_seq_k fun K16 hK16 => ?_
      refine cPlain ?_
      refine sv 42 (.agg (cellsOf .u8 (nn O))) (Val.blk 23 _ rfl 0 32 (by kernel_rfl) b5 _ Try.underlying23 rfl (by kernel_rfl) (by (try simp only [nn_len, List.length_cons, List.length_nil, List.length_set, List.length_replicate]); try omega) _ (seg_all' _ (by (try simp only [nn_len, List.length_cons, List.length_nil, List.length_set, List.length_replicate]); try omega))) ?_
      simp only [sZ, sS]
      refine xStoreA 23 (.tmp 4) (.tmp 42) rfl .u8 w2.heap.size 23 (nn (List.replicate 32 0)) 0 (nn O) (by kernel_rfl) (by kernel_rfl) b4 (by rw [show (nn O).length = 32 by ((try simp only [nn_len, List.length_cons, List.length_nil, List.length_set, List.length_replicate]); try omega)]; kernel_rfl) (by (try simp only [nn_len, List.length_cons, List.length_nil, List.length_set, List.length_replicate]); try omega) (nn O) (over_whole _ _ (by (try simp only [nn_len, List.length_cons, List.length_nil, List.length_set, List.length_replicate]); try omega)) ?_
      intro w19 t5
      have zt5 := t5.z
      have BL_ := BL.ev t5.e (fun i h => show w.heap.size ≤ i by have h : i = w2.heap.size := h; omega)
      have b2_ := b2.ev t5.e (show ¬ (w.heap.size = w2.heap.size) by omega)
      have b3_ := b3.ev t5.e (show ¬ (w1.heap.size = w2.heap.size) by omega)
      have b5_ := b5.ev t5.e (show ¬ (w3.heap.size = w2.heap.size) by omega)
      have b6_ := b6.ev t5.e (show ¬ (g6 = w2.heap.size) by omega)
      replace BL := BL_; clear BL_
      replace b2 := b2_; clear b2_
      replace b3 := b3_; clear b3_
      replace b5 := b5_; clear b5_
      replace b6 := b6_; clear b6_
      replace b4 : Blk .u8 w19 w2.heap.size 23 (nn O) := t5.c
      clear t5
      refine wpList_nil ?_
      refine hK16 _ _ ?_
      refine wp_ret ?_
      (try simp only [Exit.then, Exit.inBlock])
      refine bodyPost_ret (rC rfl _ w2.heap.size _ _ (by kernel_rfl) b4.cel _ Try.underlying23 rfl (by rw [List.length_map, show (nn O).length = 32 by ((try simp only [nn_len, List.length_cons, List.length_nil, List.length_set, List.length_replicate]); try omega)]; kernel_rfl)) rfl ?_
      rw [← hfin]
      exact ⟨rfl, BL.b⟩

/-- ref02.Sum -/
theorem rsum_any (tab : List Nat) (h : Hash) (hs : h.1.length = 8) (v : Value) (ht : tab.length = 72) (h32 : ∀ x ∈ h.1, x < 4294967296) (hr8 : ∀ x ∈ h.2.1, x < 256) (w : World) (R : SL .u8 w v (nn h.2.1)) :
    Calls Try.prog 105 #[.agg (cellsOf .u32 (nn tab)), hashV h.1 v h.2.2] w fun e w' => e = .returned (.agg (cellsOf .u8 (nn (sumN tab h)))) ∧ Below w.heap.size w w' := by
  obtain ⟨s, r, L⟩ := h
  obtain ⟨a, b, c, d, e, f, g, i, rfl⟩ := list8 s hs
  obtain ⟨A, C, rfl, _⟩ := R.len
  simp only [nn_len] at R ⊢
  cases hR : rightN r.length L
  · rw [sumN_wrong tab _ hR]
    exact rsum_wrong' tab r a b c d e f g i A C L w hR R
  · have h0 := (rightN_iff.1 hR).1
    obtain ⟨m, rfl⟩ := Int.eq_ofNat_of_zero_le h0
    rw [sumN_right tab _ hR]
    exact rsum_right' tab r a b c d e f g i A C m ht w hR h32 hr8 R _ rfl
set_option maxHeartbeats 4000000 in
theorem rof_any (tab bs : List Nat) (bv : Value) (ht : tab.length = 72) (h32 : ∀ x ∈ tab, x < 4294967296) (hb8 : ∀ x ∈ bs, x < 256) (w : World) (D : SL .u8 w bv (nn bs)) (hl : bs.length ≤ 1000000000000) :
    Calls Try.prog 82 #[.agg (cellsOf .u32 (nn tab)), bv] w fun e w' => e = .returned (.agg (cellsOf .u8 (nn (ofN tab bs)))) ∧ Below w.heap.size w w' := by
  have BL := Bl.refl w
  have hdl := D.lt
  have hsl := ofN_32 tab bs
  have h8 : (tab.take 8).length = 8 := by rw [List.length_take]; omega
  obtain ⟨q0, q1, q2, q3, q4, q5, q6, q7, hq⟩ := list8 (tab.take 8) h8
  have hseg : seg 0 8 (nn tab) = nn [q0, q1, q2, q3, q4, q5, q6, q7] := by rw [← hq, nn_take]; rfl
  have hq32 : ∀ x ∈ [q0, q1, q2, q3, q4, q5, q6, q7], x < 4294967296 := by rw [← hq]; exact fun x hx => h32 x (List.mem_of_mem_take hx)
  obtain ⟨X, hX⟩ : ∃ X, writeN tab ([q0, q1, q2, q3, q4, q5, q6, q7], [], 0) bs = X := ⟨_, rfl⟩
  have hof : ofN tab bs = sumN tab X := by rw [← hX, ← hq]; rfl
  have hX8 : X.1.length = 8 := by rw [← hX]; exact writeN_len _ _ _ rfl
  have hX32 : ∀ x ∈ X.1, x < 4294967296 := by rw [← hX]; exact writeN_lt bs rfl hq32
  have hXb : ∀ x ∈ X.2.1, x < 256 := by rw [← hX]; exact writeN_b (fun x hx => by cases hx) hb8
  rw [hof] at hsl ⊢
  go_enter Try.func82, Try.ntmps82
  refine wp_seq_k fun K1 hK1 => ?_
  refine cPlain ?_
  refine xBox 2 35 _ ((nn tab).map (Value.int .u32)) rfl (cells_toList _ _) ?_
  intro w1 n1
  have zn1 := n1.z
  have b2 := n1.c
  replace b2 : Blk .u32 w1 w.heap.size 35 (nn tab) := b2
  replace BL := BL.e0 n1.e
  replace D := D.e0 n1.e
  simp only [sZ, sS]
  refine xAlloc 4 23 ((nn (List.replicate 32 0)).map (Value.int .u8)) rfl (by kernel_rfl) ?_
  intro w2 n2
  have zn2 := n2.z
  have b4 := n2.c
  replace b4 : Blk .u8 w2 w1.heap.size 23 (nn (List.replicate 32 0)) := b4
  replace BL := BL.e0 n2.e
  replace D := D.e0 n2.e
  replace b2 := b2.e0 n2.e
  simp only [sZ, sS]
  refine wpList_nil ?_
  refine hK1 _ _ ?_
  refine wp_seq_k fun K2 hK2 => ?_
  have e1 := drew_e0 w2
  refine zg (fun w_ => Bl w.heap.size w w_ ∧ SL .u8 w_ bv (nn bs) ∧ Blk .u32 w_ w.heap.size 35 (nn tab) ∧ Blk .u8 w_ w1.heap.size 23 (nn (List.replicate 32 0)) ∧ w2.heap.size ≤ w_.heap.size) (fun w_ => Bl w.heap.size w w_ ∧ SL .u8 w_ bv (nn bs) ∧ Blk .u32 w_ w.heap.size 35 (nn tab) ∧ Blk .u8 w_ w1.heap.size 23 (nn (List.replicate 32 0)) ∧ w2.heap.size ≤ w_.heap.size) 8 9 ⟨BL.e0 e1, D.e0 e1, b2.e0 e1, b4.e0 e1, Nat.le_refl _⟩ ?_
  clear BL D b2 b4
  clear e1
  intro w3
  rintro ⟨BL, D, b2, b4, z1⟩
  refine zv 0 5 (.agg (cellsOf .u32 (nn tab))) (fun _ ⟨BL, D, b2, b4, z1⟩ => Val.blk 35 _ rfl 0 72 (by kernel_rfl) b2 _ Try.underlying35 rfl (by kernel_rfl) (by (try simp only [nn_len, List.length_cons, List.length_nil, List.length_set, List.length_replicate]); try omega) _ (seg_all' _ (by (try simp only [nn_len, List.length_cons, List.length_nil, List.length_set, List.length_replicate]); try omega))) ⟨BL, D, b2, b4, by omega⟩ ?_
  simp only [sZ, sS]
  refine zv 1 6 (.agg (cellsOf .u32 (nn tab))) (fun _ ⟨BL, D, b2, b4, z1⟩ => Val.blk 35 _ rfl 0 72 (by kernel_rfl) b2 _ Try.underlying35 rfl (by kernel_rfl) (by (try simp only [nn_len, List.length_cons, List.length_nil, List.length_set, List.length_replicate]); try omega) _ (seg_all' _ (by (try simp only [nn_len, List.length_cons, List.length_nil, List.length_set, List.length_replicate]); try omega))) ⟨BL, D, b2, b4, by omega⟩ ?_
  simp only [sZ, sS]
  refine zv 2 7 (.pointer (some ⟨w.heap.size, 0, none⟩)) (fun _ _ => .of) ⟨BL, D, b2, b4, by omega⟩ ?_
  simp only [sZ, sS]
  refine zv 3 8 (.agg (cellsOf .u32 (nn [q0, q1, q2, q3, q4, q5, q6, q7]))) (fun _ ⟨BL, D, b2, b4, z1⟩ => Val.blk 32 _ rfl 0 8 (by kernel_rfl) b2 _ Try.underlying32 rfl (by kernel_rfl) (by rw [nn_len]; omega) _ hseg) ⟨BL, D, b2, b4, by omega⟩ ?_
  simp only [sZ, sS]
  refine zv 4 9 (.agg #[.int .u32 ((q0 : Nat) : Int), .int .u32 ((q1 : Nat) : Int), .int .u32 ((q2 : Nat) : Int), .int .u32 ((q3 : Nat) : Int), .int .u32 ((q4 : Nat) : Int), .int .u32 ((q5 : Nat) : Int), .int .u32 ((q6 : Nat) : Int), .int .u32 ((q7 : Nat) : Int), .slice none 0 0, .int .i64 0]) (fun _ _ => .of) ⟨BL, D, b2, b4, by omega⟩ ?_
  simp only [sZ, sS]
  refine zv 5 10 (bv) (fun _ _ => .of) ⟨BL, D, b2, b4, by omega⟩ ?_
  simp only [sZ, sS]
  refine zo1 6 rfl ?_
  refine xCall 11 106 #[.agg (cellsOf .u32 (nn tab)), .agg #[.int .u32 ((q0 : Nat) : Int), .int .u32 ((q1 : Nat) : Int), .int .u32 ((q2 : Nat) : Int), .int .u32 ((q3 : Nat) : Int), .int .u32 ((q4 : Nat) : Int), .int .u32 ((q5 : Nat) : Int), .int .u32 ((q6 : Nat) : Int), .int .u32 ((q7 : Nat) : Int), .slice none 0 0, .int .i64 0], bv] (by kernel_rfl) ?_
  refine (rwrite_any tab ([q0, q1, q2, q3, q4, q5, q6, q7], [], 0) bs rfl (.slice none 0 0) bv ht hq32 (fun x hx => by cases hx) hb8 w3 (SL.nil _ _) D hl).mono ?_
  rintro en w4 ⟨u, he, hU, hb1⟩
  rw [hX] at he hU
  subst he
  have hul := hU.lt
  have e2 := belE0 hb1
  have ze2 := e2.size
  replace BL := BL.e0 e2
  replace D := D.e0 e2
  replace b2 := b2.e0 e2
  replace b4 := b4.e0 e2
  clear e2
  have U : SL .u8 w4 u (nn X.2.1) := hU
  refine ⟨hashV X.1 u X.2.2, rfl, ?_⟩
  refine ze 6 ⟨BL, D, b2, b4, by omega⟩ ?_
  simp only [sZ, sS]
  refine zo1 7 rfl ?_
  refine xCall 12 105 #[.agg (cellsOf .u32 (nn tab)), hashV X.1 u X.2.2] (by kernel_rfl) ?_
  refine (rsum_any tab X hX8 u ht hX32 hXb w4 U).mono ?_
  rintro en w5 ⟨rfl, hb1⟩
  have e3 := belE0 hb1
  have ze3 := e3.size
  replace BL := BL.e0 e3
  replace D := D.e0 e3
  replace b2 := b2.e0 e3
  replace b4 := b4.e0 e3
  replace U := U.e0 e3
  clear e3
  refine ⟨.agg (cellsOf .u8 (nn (sumN tab X))), rfl, ?_⟩
  refine ze 7 ⟨BL, D, b2, b4, by omega⟩ ?_
  simp only [sZ, sS]
  refine zo1 8 rfl ?_
  refine xStoreA 23 (.tmp 4) (.tmp 12) rfl .u8 w1.heap.size 23 (nn (List.replicate 32 0)) 0 (nn (sumN tab X)) (by kernel_rfl) (by kernel_rfl) b4 (by rw [show (nn (sumN tab X)).length = 32 by ((try simp only [nn_len, List.length_cons, List.length_nil, List.length_set, List.length_replicate]); try omega)]; kernel_rfl) (by (try simp only [nn_len, List.length_cons, List.length_nil, List.length_set, List.length_replicate]); try omega) (nn (sumN tab X)) (over_whole _ _ (by (try simp only [nn_len, List.length_cons, List.length_nil, List.length_set, List.length_replicate]); try omega)) ?_
  intro w6 t1
  have zt1 := t1.z
  have BL_ := BL.ev t1.e (fun i h => show w.heap.size ≤ i by have h : i = w1.heap.size := h; omega)
  have D_ := D.ev t1.e (fun i hi => show ¬ (i = w1.heap.size) by have := hdl i hi; omega)
  have b2_ := b2.ev t1.e (show ¬ (w.heap.size = w1.heap.size) by omega)
  replace BL := BL_; clear BL_
  replace D := D_; clear D_
  replace b2 := b2_; clear b2_
  replace b4 : Blk .u8 w6 w1.heap.size 23 (nn (sumN tab X)) := t1.c
  clear t1
  refine zz 8 ?_
  refine zd (by kernel_rfl) ?_ _
  refine hK2 _ _ ?_
  refine wp_ret ?_
  (try simp only [Exit.then, Exit.inBlock])
  refine bodyPost_ret (rC rfl _ w1.heap.size _ _ (by kernel_rfl) b4.cel _ Try.underlying23 rfl (by rw [List.length_map, show (nn (sumN tab X)).length = 32 by ((try simp only [nn_len, List.length_cons, List.length_nil, List.length_set, List.length_replicate]); try omega)]; kernel_rfl)) rfl ?_
  exact ⟨rfl, BL.b⟩

end Go.Proofs.Ytanggdnmoaflfaa
