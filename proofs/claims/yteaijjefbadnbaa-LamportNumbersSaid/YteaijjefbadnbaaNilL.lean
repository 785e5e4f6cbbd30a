/-
  Without a table: sha.Of, mac.turned, mac.under, mac.Mac, mac.Tagged.
-/
import Derived.Test.YteaijjefbadnbaaMacW
namespace Go.Proofs.Yteaijjefbadnbaa
open Go.RowKit
set_option linter.unusedVariables false
set_option linter.unusedSimpArgs false
set_option maxRecDepth 100000
attribute [local irreducible] wpList Code.wp wpAnyZ

set_option maxHeartbeats 4000000 in
theorem of_nil (bv : Value) (w : World) :
    Calls Try.prog 20 #[.pointer none, bv] w fun e w' => e = .returned (.agg (cellsOf .u8 (nn (List.replicate 32 0)))) ∧ Below w.heap.size w w' := by
  have BL := Bl.refl w
  go_enter Try.func20, Try.ntmps20
  refine wp_seq_k fun K1 hK1 => ?_
  refine cPlain ?_
  refine xAlloc 4 37 ((nn (List.replicate 32 0)).map (Value.int .u8)) rfl (by kernel_rfl) ?_
  intro w1 n1
  have zn1 := n1.z
  have b4 := n1.c
  replace b4 : Blk .u8 w1 w.heap.size 37 (nn (List.replicate 32 0)) := b4
  replace BL := BL.e0 n1.e
  simp only [List.set_cons_zero, List.set_cons_succ]
  refine wpList_nil ?_
  refine hK1 _ _ ?_
  refine wp_seq_k fun K2 hK2 => ?_
  refine cPlain ?_
  refine sv 5 (.pointer none) .of ?_
  simp only [List.set_cons_zero, List.set_cons_succ]
  refine sv 6 (.pointer none) .of ?_
  simp only [List.set_cons_zero, List.set_cons_succ]
  refine sv 7 (.pointer none) .of ?_
  simp only [List.set_cons_zero, List.set_cons_succ]
  refine xCall 8 19 #[.pointer none] (by kernel_rfl) ?_
  refine (new_nil w1).mono ?_
  rintro en w2 ⟨rfl, hb1⟩
  have e1 := belE0 hb1
  have ze1 := e1.size
  replace BL := BL.e0 e1
  replace b4 := b4.e0 e1
  clear e1
  refine ⟨hashV (List.replicate 8 0) (.slice none 0 0) 0, rfl, ?_⟩
  simp only [List.set_cons_zero, List.set_cons_succ]
  refine sv 9 (bv) .of ?_
  simp only [List.set_cons_zero, List.set_cons_succ]
  refine xCall 10 16 #[.pointer none, hashV (List.replicate 8 0) (.slice none 0 0) 0, bv] (by kernel_rfl) ?_
  refine (write_nil (List.replicate 8 0) rfl (.slice none 0 0) _ 0 rfl w2).mono ?_
  rintro en w3 ⟨rfl, hb1⟩
  have e2 := belE0 hb1
  have ze2 := e2.size
  replace BL := BL.e0 e2
  replace b4 := b4.e0 e2
  clear e2
  refine ⟨hashV (List.replicate 8 0) (.slice none 0 0) 0, rfl, ?_⟩
  simp only [List.set_cons_zero, List.set_cons_succ]
  refine xCall 11 18 #[.pointer none, hashV (List.replicate 8 0) (.slice none 0 0) 0] (by kernel_rfl) ?_
  refine (sum_nil (List.replicate 8 0) rfl (.slice none 0 0) 0 rfl w3).mono ?_
  rintro en w4 ⟨rfl, hb1⟩
  have e3 := belE0 hb1
  have ze3 := e3.size
  replace BL := BL.e0 e3
  replace b4 := b4.e0 e3
  clear e3
  refine ⟨.agg (cellsOf .u8 (nn (List.replicate 32 0))), rfl, ?_⟩
  simp only [List.set_cons_zero, List.set_cons_succ]
  refine xStoreA 37 (.tmp 4) (.tmp 11) rfl .u8 w.heap.size 37 (nn (List.replicate 32 0)) 0 (nn (List.replicate 32 0)) (by kernel_rfl) (by kernel_rfl) b4 (by rw [show (nn (List.replicate 32 0)).length = 32 by ((try simp only [nn_len, List.length_cons, List.length_nil, List.length_set, List.length_replicate]); try omega)]; kernel_rfl) (by (try simp only [nn_len, List.length_cons, List.length_nil, List.length_set, List.length_replicate]); try omega) (nn (List.replicate 32 0)) (over_whole _ _ (by (try simp only [nn_len, List.length_cons, List.length_nil, List.length_set, List.length_replicate]); try omega)) ?_
  intro w5 t1
  have zt1 := t1.z
  have BL_ := BL.ev t1.e (fun i h => show w.heap.size ≤ i by have h : i = w.heap.size := h; omega)
  replace BL := BL_; clear BL_
  replace b4 : Blk .u8 w5 w.heap.size 37 (nn (List.replicate 32 0)) := t1.c
  clear t1
  refine wpList_nil ?_
  refine hK2 _ _ ?_
  refine wp_ret ?_
  (try simp only [Exit.then, Exit.inBlock])
  refine bodyPost_ret (rC rfl _ w.heap.size _ _ (by kernel_rfl) b4.cel _ Try.underlying37 rfl (by rw [List.length_map, show (nn (List.replicate 32 0)).length = 32 by ((try simp only [nn_len, List.length_cons, List.length_nil, List.length_set, List.length_replicate]); try omega)]; kernel_rfl)) rfl ?_
  exact ⟨rfl, BL.b⟩

set_option maxHeartbeats 4000000 in
theorem turned_nil (key : List Nat) (v : Value) (b : Nat) (hb : b < 256) (w : World) (D : SL .u8 w v (nn key)) (hl : key.length ≤ 64) :
    Calls Try.prog 88 #[.pointer none, v, .int .u8 ((b : Nat) : Int)] w fun e w' => e = .returned (.agg (cellsOf .u8 (nn (turnK key b)))) ∧ Below w.heap.size w w' := by
  have BL := Bl.refl w
  have hd := D.lt
  go_enter Try.func88, Try.ntmps88
  refine wp_seq_k fun K1 hK1 => ?_
  refine cPlain ?_
  refine xAlloc 6 42 ((nn (List.replicate 64 0)).map (Value.int .u8)) rfl (by kernel_rfl) ?_
  intro w1 n1
  have zn1 := n1.z
  have b6 := n1.c
  replace b6 : Blk .u8 w1 w.heap.size 42 (nn (List.replicate 64 0)) := b6
  replace BL := BL.e0 n1.e
  replace D := D.e0 n1.e
  simp only [List.set_cons_zero, List.set_cons_succ]
  refine wpList_nil ?_
  refine hK1 _ _ ?_
  refine wp_seq_k fun K2 hK2 => ?_
  refine cPlain ?_
  refine xAlloc 7 42 ((nn (List.replicate 64 0)).map (Value.int .u8)) rfl (by kernel_rfl) ?_
  intro w2 n2
  have zn2 := n2.z
  have b7 := n2.c
  replace b7 : Blk .u8 w2 w1.heap.size 42 (nn (List.replicate 64 0)) := b7
  replace BL := BL.e0 n2.e
  replace D := D.e0 n2.e
  replace b6 := b6.e0 n2.e
  simp only [List.set_cons_zero, List.set_cons_succ]
  refine wpList_nil ?_
  refine hK2 _ _ ?_
  refine wp_seq_k fun K3 hK3 => ?_
  refine wp_seq_k fun K4 hK4 => ?_
  refine cPlain ?_
  refine sv 10 (v) .of ?_
  simp only [List.set_cons_zero, List.set_cons_succ]
  refine sv 11 (.int .i64 ((key.length : Nat) : Int)) (Val.lenS (.tmp 10) 30 rfl (by kernel_rfl) D key.length (nn_len key) Try.underlying30) ?_
  simp only [List.set_cons_zero, List.set_cons_succ]
  refine sv 12 (.bool false) (Val.cmp .gtr 3 _ (.tmp 11) _ rfl .i64 ((key.length : Nat) : Int) 64 (by kernel_rfl) (by kernel_rfl) (by simp) _ (by simp only [cmpB]; simp; omega)) ?_
  simp only [List.set_cons_zero, List.set_cons_succ]
  refine wpList_nil ?_
  refine hK4 _ _ ?_
  refine cF ?_
  refine wp_skip ?_
  refine hK3 _ _ ?_
  refine wp_seq_k fun K5 hK5 => ?_
  refine cPlain ?_
  refine sv 17 (.slice (some ⟨w1.heap.size, 0, none⟩) 64 64) .of ?_
  simp only [List.set_cons_zero, List.set_cons_succ]
  refine sv 18 (v) .of ?_
  simp only [List.set_cons_zero, List.set_cons_succ]
  refine xCopy 19 (.tmp 17) (.tmp 18) 30 30 5 rfl Try.underlying30 (by kernel_rfl) w1.heap.size 0 64 64 42 ((nn (List.replicate 64 0)).map (Value.int .u8)) .u8 v (nn key) (by kernel_rfl) (by kernel_rfl) b7.cel D key.length (by rw [nn_len]; omega) (by rw [List.length_map, nn_len, List.length_replicate]; omega) ((nn (padK key)).map (Value.int .u8)) (overV_pad hl) ?_
  intro w3 t1
  have zt1 := t1.z
  have BL_ := BL.ev t1.e (fun i h => show w.heap.size ≤ i by have h : i = w1.heap.size := h; omega)
  have D_ := D.ev t1.e (fun i hi => show ¬ (i = w1.heap.size) by have := hd i hi; omega)
  have b6_ := b6.ev t1.e (show ¬ (w.heap.size = w1.heap.size) by omega)
  replace BL := BL_; clear BL_
  replace D := D_; clear D_
  replace b6 := b6_; clear b6_
  replace b7 : Blk .u8 w3 w1.heap.size 42 (nn (padK key)) := t1.c
  clear t1
  simp only [List.set_cons_zero, List.set_cons_succ]
  refine wpList_nil ?_
  refine hK5 _ _ ?_
  refine wp_seq_k fun K6 hK6 => ?_
  refine wp_seq_k fun K7 hK7 => ?_
  refine cPlain ?_
  refine sv 20 (.int .i64 0) .of ?_
  simp only [List.set_cons_zero, List.set_cons_succ]
  refine wpList_nil ?_
  refine hK7 _ _ ?_
  refine wp_block ?_
  refine cLoop (fun N_ A_ w_ => ∃ (k : Nat), (N_ = 64 - k ∧ (k ≤ 64) ∧ (∃ s1 : Nat → Value, A_ = ⟨[.pointer none, v, .int .u8 ((b : Nat) : Int), undef, undef, undef, .pointer (some ⟨w.heap.size, 0, none⟩), .pointer (some ⟨w1.heap.size, 0, none⟩), undef, (s1 9), v, .int .i64 ((key.length : Nat) : Int), .bool false, undef, undef, undef, undef, .slice (some ⟨w1.heap.size, 0, none⟩) 64 64, v, .int .i64 (key.length : Int), .int .i64 ((k : Nat) : Int), (s1 21), (s1 22), (s1 23), (s1 24), (s1 25), (s1 26), (s1 27), (s1 28), (s1 29), undef].toArray, []⟩) ∧ Bl w.heap.size w w_ ∧ Blk .u8 w_ w.heap.size 42 (nn (List.replicate 64 0)) ∧ Blk .u8 w_ w1.heap.size 42 (nn (goK key b k)) ∧ w3.heap.size ≤ w_.heap.size)) _ ⟨0, rfl, (Nat.zero_le _), cutE, BL, b6, b7, Nat.le_refl _⟩ ?_
  clear BL D b6 b7
  rintro n_ a_ wl0 ⟨k, rfl, hc0_0, ⟨s1, rfl⟩, BL, b6, b7, zl0⟩
  have hgl := goK_len hl b k
  refine wp_seq_k fun K8 hK8 => ?_
  refine cPlain ?_
  refine sv 21 (.bool (decide (((k : Nat) : Int) < 64))) (Val.cmp .lss 3 _ (.tmp 20) _ rfl .i64 ((k : Nat) : Int) 64 (by kernel_rfl) (by kernel_rfl) (by simp) _ rfl) ?_
  simp only [List.set_cons_zero, List.set_cons_succ]
  refine wpList_nil ?_
  refine hK8 _ _ ?_
  refine wp_seq_k fun K9 hK9 => ?_
  refine cDec (((k : Nat) : Int) < 64) (by kernel_rfl) (fun c21 => ?_) (fun c21 => ?_)
  · skip
    refine wp_skip ?_
    refine hK9 _ _ ?_
    refine wp_seq_k fun K10 hK10 => ?_
    refine wp_block ?_
    refine wp_seq_k fun K11 hK11 => ?_
    refine cPlain ?_
    refine sv 22 (.int .i64 ((k : Nat) : Int)) .of ?_
    simp only [List.set_cons_zero, List.set_cons_succ]
    refine sv 9 (.int .i64 ((k : Nat) : Int)) .of ?_
    simp only [List.set_cons_zero, List.set_cons_succ]
    refine wpList_nil ?_
    refine hK11 _ _ ?_
    refine cPlain ?_
    refine sv 23 (.int .i64 ((k : Nat) : Int)) .of ?_
    simp only [List.set_cons_zero, List.set_cons_succ]
    refine sv 24 (.pointer (some ⟨w1.heap.size, k, none⟩)) (Val.idxA01 42 (.tmp 7) (.tmp 23) rfl w1.heap.size k (by kernel_rfl) (by kernel_rfl) Try.underlying42 (by kernel_rfl) (by omega)) ?_
    simp only [List.set_cons_zero, List.set_cons_succ]
    refine sv 25 (.int .u8 (((goK key b k).getD k 0 : Nat) : Int)) (Val.nblk1 5 _ rfl w1.heap.size k (by kernel_rfl) (fun _ => (by kernel_rfl)) b7 (by have := goK_len hl b k; omega)) ?_
    simp only [List.set_cons_zero, List.set_cons_succ]
    refine sv 26 (.int .u8 ((b : Nat) : Int)) .of ?_
    simp only [List.set_cons_zero, List.set_cons_succ]
    refine sv 27 (.int .u8 (((((goK key b k).getD k 0) ^^^ b) % 256 : Nat) : Int)) (Val.xorN 5 _ (.tmp 25) (.tmp 26) rfl .u8 ((goK key b k).getD k 0) b 256 (by kernel_rfl) (by kernel_rfl)) ?_
    simp only [List.set_cons_zero, List.set_cons_succ]
    refine sv 28 (.pointer (some ⟨w1.heap.size, k, none⟩)) (Val.idxA01 42 (.tmp 7) (.tmp 23) rfl w1.heap.size k (by kernel_rfl) (by kernel_rfl) Try.underlying42 (by kernel_rfl) (by omega)) ?_
    simp only [List.set_cons_zero, List.set_cons_succ]
    refine xStoreNN 5 (.tmp 28) (.tmp 27) rfl .u8 w1.heap.size 42 (goK key b k) k ((((goK key b k).getD k 0) ^^^ b) % 256) (by kernel_rfl) (by kernel_rfl) b7 (by kernel_rfl) (by have := goK_len hl b k; omega) ?_
    intro w4 t2
    have zt2 := t2.z
    have BL_ := BL.ev t2.e (fun i h => show w.heap.size ≤ i by have h : i = w1.heap.size := h; omega)
    have b6_ := b6.ev t2.e (show ¬ (w.heap.size = w1.heap.size) by omega)
    replace BL := BL_; clear BL_
    replace b6 := b6_; clear b6_
    replace b7 : Blk .u8 w4 w1.heap.size 42 (nn ((goK key b k).set k ((((goK key b k).getD k 0) ^^^ b) % 256))) := t2.c
    clear t2
    refine wpList_nil ?_
    refine hK10 _ _ ?_
    refine cPlain ?_
    refine sv 29 (.int .i64 (((k : Nat) : Int) + 1)) (Val.add 3 _ (.tmp 20) _ rfl ((k : Nat) : Int) 1 (by kernel_rfl) (by kernel_rfl) (by omega)) ?_
    simp only [List.set_cons_zero, List.set_cons_succ]
    refine sv 20 (.int .i64 (((k : Nat) : Int) + 1)) .of ?_
    simp only [List.set_cons_zero, List.set_cons_succ]
    refine wpList_nil ?_
    refine ⟨_, ?_, k + 1, rfl, (by omega), cutE, BL, b6, (by rw [← goK_step hl b k (by omega)]; exact b7), by omega⟩
    omega
  · skip
    have hk64 : goK key b k = turnK key b := by rw [show k = 64 by omega, goK_64 hl]
    refine wp_exit ?_
    simp only [Exit.then, Exit.inBlock, ↓reduceIte, Nat.reduceEqDiff]
    refine hK6 _ _ ?_
    refine wp_seq_k fun K12 hK12 => ?_
    refine cPlain ?_
    refine sv 30 (.agg (cellsOf .u8 (nn (goK key b k)))) (Val.blk 42 _ rfl 0 64 (by kernel_rfl) b7 _ Try.underlying42 rfl (by kernel_rfl) (by (try simp only [nn_len, List.length_replicate]); try omega) _ (seg_all' _ (by (try simp only [nn_len, List.length_replicate]); try omega))) ?_
    simp only [List.set_cons_zero, List.set_cons_succ]
    refine xStoreA 42 (.tmp 6) (.tmp 30) rfl .u8 w.heap.size 42 (nn (List.replicate 64 0)) 0 (nn (goK key b k)) (by kernel_rfl) (by kernel_rfl) b6 (by rw [show (nn (goK key b k)).length = 64 by ((try simp only [nn_len, List.length_replicate]); try omega)]; kernel_rfl) (by (try simp only [nn_len, List.length_replicate]); try omega) (nn (goK key b k)) (over_whole _ _ (by (try simp only [nn_len, List.length_replicate]); try omega)) ?_
    intro w5 t3
    have zt3 := t3.z
    have BL_ := BL.ev t3.e (fun i h => show w.heap.size ≤ i by have h : i = w.heap.size := h; omega)
    have b7_ := b7.ev t3.e (show ¬ (w1.heap.size = w.heap.size) by omega)
    replace BL := BL_; clear BL_
    replace b7 := b7_; clear b7_
    replace b6 : Blk .u8 w5 w.heap.size 42 (nn (goK key b k)) := t3.c
    clear t3
    refine wpList_nil ?_
    refine hK12 _ _ ?_
    refine wp_ret ?_
    (try simp only [Exit.then, Exit.inBlock])
    refine bodyPost_ret (rC rfl _ w.heap.size _ _ (by kernel_rfl) b6.cel _ Try.underlying42 rfl (by rw [List.length_map, show (nn (goK key b k)).length = 64 by ((try simp only [nn_len, List.length_replicate]); try omega)]; kernel_rfl)) rfl ?_
    rw [hk64]
    exact ⟨rfl, BL.b⟩

set_option maxHeartbeats 4000000 in
theorem under_nil (bl : List Nat) (v : Value) (hbl : bl.length = 64) (w : World) :
    Calls Try.prog 87 #[.pointer none, .agg (cellsOf .u8 (nn bl)), v] w fun e w' => e = .returned (.agg (cellsOf .u8 (nn (List.replicate 32 0)))) ∧ Below w.heap.size w w' := by
  have BL := Bl.refl w
  go_enter Try.func87, Try.ntmps87
  refine wp_seq_k fun K1 hK1 => ?_
  refine cPlain ?_
  refine xBox 4 42 _ ((nn (bl)).map (Value.int .u8)) rfl (cells_toList _ _) ?_
  intro w1 n1
  have zn1 := n1.z
  have b4 := n1.c
  replace b4 : Blk .u8 w1 w.heap.size 42 (nn (bl)) := b4
  replace BL := BL.e0 n1.e
  simp only [List.set_cons_zero, List.set_cons_succ]
  refine xAlloc 6 37 ((nn (List.replicate 32 0)).map (Value.int .u8)) rfl (by kernel_rfl) ?_
  intro w2 n2
  have zn2 := n2.z
  have b6 := n2.c
  replace b6 : Blk .u8 w2 w1.heap.size 37 (nn (List.replicate 32 0)) := b6
  replace BL := BL.e0 n2.e
  replace b4 := b4.e0 n2.e
  simp only [List.set_cons_zero, List.set_cons_succ]
  refine wpList_nil ?_
  refine hK1 _ _ ?_
  refine wp_seq_k fun K2 hK2 => ?_
  have e1 := drew_e0 w2
  refine zg (fun w_ => Bl w.heap.size w w_ ∧ Blk .u8 w_ w.heap.size 42 (nn (bl)) ∧ Blk .u8 w_ w1.heap.size 37 (nn (List.replicate 32 0)) ∧ w2.heap.size ≤ w_.heap.size) (fun w_ => Bl w.heap.size w w_ ∧ Blk .u8 w_ w.heap.size 42 (nn (bl)) ∧ Blk .u8 w_ w1.heap.size 37 (nn (List.replicate 32 0)) ∧ w2.heap.size ≤ w_.heap.size) 10 11 ⟨BL.e0 e1, b4.e0 e1, b6.e0 e1, Nat.le_refl _⟩ ?_
  clear BL b4 b6
  clear e1
  intro w3
  rintro ⟨BL, b4, b6, z1⟩
  refine zv 0 7 (.pointer none) (fun _ _ => .of) ⟨BL, b4, b6, by omega⟩ ?_
  simp only [List.set_cons_zero, List.set_cons_succ]
  refine zv 1 8 (.pointer none) (fun _ _ => .of) ⟨BL, b4, b6, by omega⟩ ?_
  simp only [List.set_cons_zero, List.set_cons_succ]
  refine zv 2 9 (.pointer none) (fun _ _ => .of) ⟨BL, b4, b6, by omega⟩ ?_
  simp only [List.set_cons_zero, List.set_cons_succ]
  refine zv 3 10 (.pointer none) (fun _ _ => .of) ⟨BL, b4, b6, by omega⟩ ?_
  simp only [List.set_cons_zero, List.set_cons_succ]
  refine zv 5 12 (.slice (some ⟨w.heap.size, 0, none⟩) 64 64) (fun _ _ => .of) ⟨BL, b4, b6, by omega⟩ ?_
  simp only [List.set_cons_zero, List.set_cons_succ]
  refine zv 7 14 (v) (fun _ _ => .of) ⟨BL, b4, b6, by omega⟩ ?_
  simp only [List.set_cons_zero, List.set_cons_succ]
  refine zo1 4 rfl ?_
  refine xCall 11 19 #[.pointer none] (by kernel_rfl) ?_
  refine (new_nil w3).mono ?_
  rintro en w4 ⟨rfl, hb1⟩
  have e2 := belE0 hb1
  have ze2 := e2.size
  replace BL := BL.e0 e2
  replace b4 := b4.e0 e2
  replace b6 := b6.e0 e2
  clear e2
  refine ⟨hashV (List.replicate 8 0) (.slice none 0 0) 0, rfl, ?_⟩
  refine ze 4 ⟨BL, b4, b6, by omega⟩ ?_
  simp only [List.set_cons_zero, List.set_cons_succ]
  refine zo1 6 rfl ?_
  refine xCall 13 16 #[.pointer none, hashV (List.replicate 8 0) (.slice none 0 0) 0, .slice (some ⟨w.heap.size, 0, none⟩) 64 64] (by kernel_rfl) ?_
  refine (write_nil (List.replicate 8 0) rfl (.slice none 0 0) _ 0 rfl w4).mono ?_
  rintro en w5 ⟨rfl, hb1⟩
  have e3 := belE0 hb1
  have ze3 := e3.size
  replace BL := BL.e0 e3
  replace b4 := b4.e0 e3
  replace b6 := b6.e0 e3
  clear e3
  refine ⟨hashV (List.replicate 8 0) (.slice none 0 0) 0, rfl, ?_⟩
  refine ze 6 ⟨BL, b4, b6, by omega⟩ ?_
  simp only [List.set_cons_zero, List.set_cons_succ]
  refine zo1 8 rfl ?_
  refine xCall 15 16 #[.pointer none, hashV (List.replicate 8 0) (.slice none 0 0) 0, v] (by kernel_rfl) ?_
  refine (write_nil (List.replicate 8 0) rfl (.slice none 0 0) _ 0 rfl w5).mono ?_
  rintro en w6 ⟨rfl, hb1⟩
  have e4 := belE0 hb1
  have ze4 := e4.size
  replace BL := BL.e0 e4
  replace b4 := b4.e0 e4
  replace b6 := b6.e0 e4
  clear e4
  refine ⟨hashV (List.replicate 8 0) (.slice none 0 0) 0, rfl, ?_⟩
  refine ze 8 ⟨BL, b4, b6, by omega⟩ ?_
  simp only [List.set_cons_zero, List.set_cons_succ]
  refine zo1 9 rfl ?_
  refine xCall 16 18 #[.pointer none, hashV (List.replicate 8 0) (.slice none 0 0) 0] (by kernel_rfl) ?_
  refine (sum_nil (List.replicate 8 0) rfl (.slice none 0 0) 0 rfl w6).mono ?_
  rintro en w7 ⟨rfl, hb1⟩
  have e5 := belE0 hb1
  have ze5 := e5.size
  replace BL := BL.e0 e5
  replace b4 := b4.e0 e5
  replace b6 := b6.e0 e5
  clear e5
  refine ⟨.agg (cellsOf .u8 (nn (List.replicate 32 0))), rfl, ?_⟩
  refine ze 9 ⟨BL, b4, b6, by omega⟩ ?_
  simp only [List.set_cons_zero, List.set_cons_succ]
  refine zo1 10 rfl ?_
  refine xStoreA 37 (.tmp 6) (.tmp 16) rfl .u8 w1.heap.size 37 (nn (List.replicate 32 0)) 0 (nn (List.replicate 32 0)) (by kernel_rfl) (by kernel_rfl) b6 (by rw [show (nn (List.replicate 32 0)).length = 32 by ((try simp only [nn_len, List.length_cons, List.length_nil, List.length_set, List.length_replicate]); try omega)]; kernel_rfl) (by (try simp only [nn_len, List.length_cons, List.length_nil, List.length_set, List.length_replicate]); try omega) (nn (List.replicate 32 0)) (over_whole _ _ (by (try simp only [nn_len, List.length_cons, List.length_nil, List.length_set, List.length_replicate]); try omega)) ?_
  intro w8 t1
  have zt1 := t1.z
  have BL_ := BL.ev t1.e (fun i h => show w.heap.size ≤ i by have h : i = w1.heap.size := h; omega)
  have b4_ := b4.ev t1.e (show ¬ (w.heap.size = w1.heap.size) by omega)
  replace BL := BL_; clear BL_
  replace b4 := b4_; clear b4_
  replace b6 : Blk .u8 w8 w1.heap.size 37 (nn (List.replicate 32 0)) := t1.c
  clear t1
  refine zz 10 ?_
  refine zd (by kernel_rfl) ?_ _
  refine hK2 _ _ ?_
  refine wp_ret ?_
  (try simp only [Exit.then, Exit.inBlock])
  refine bodyPost_ret (rC rfl _ w1.heap.size _ _ (by kernel_rfl) b6.cel _ Try.underlying37 rfl (by rw [List.length_map, show (nn (List.replicate 32 0)).length = 32 by ((try simp only [nn_len, List.length_cons, List.length_nil, List.length_set, List.length_replicate]); try omega)]; kernel_rfl)) rfl ?_
  exact ⟨rfl, BL.b⟩

set_option maxHeartbeats 4000000 in
theorem mac_nil (key : List Nat) (v vb : Value) (w : World) (D : SL .u8 w v (nn key)) (hl : key.length ≤ 64) :
    Calls Try.prog 25 #[.pointer none, v, vb] w fun e w' => e = .returned (.agg (cellsOf .u8 (nn (List.replicate 32 0)))) ∧ Below w.heap.size w w' := by
  have BL := Bl.refl w
  have hd := D.lt
  go_enter Try.func25, Try.ntmps25
  refine wp_seq_k fun K1 hK1 => ?_
  refine cPlain ?_
  refine xAlloc 6 37 ((nn (List.replicate 32 0)).map (Value.int .u8)) rfl (by kernel_rfl) ?_
  intro w1 n1
  have zn1 := n1.z
  have b6 := n1.c
  replace b6 : Blk .u8 w1 w.heap.size 37 (nn (List.replicate 32 0)) := b6
  replace BL := BL.e0 n1.e
  replace D := D.e0 n1.e
  simp only [List.set_cons_zero, List.set_cons_succ]
  refine wpList_nil ?_
  refine hK1 _ _ ?_
  refine wp_seq_k fun K2 hK2 => ?_
  refine cPlain ?_
  refine sv 8 (.pointer none) .of ?_
  simp only [List.set_cons_zero, List.set_cons_succ]
  refine sv 9 (.pointer none) .of ?_
  simp only [List.set_cons_zero, List.set_cons_succ]
  refine sv 10 (v) .of ?_
  simp only [List.set_cons_zero, List.set_cons_succ]
  refine xCall 11 88 #[.pointer none, v, .int .u8 54] (by kernel_rfl) ?_
  refine (turned_nil key v 54 (by omega) w1 D hl).mono ?_
  rintro en w2 ⟨rfl, hb1⟩
  have e1 := belE0 hb1
  have ze1 := e1.size
  replace BL := BL.e0 e1
  replace D := D.e0 e1
  replace b6 := b6.e0 e1
  clear e1
  refine ⟨.agg (cellsOf .u8 (nn (turnK key 54))), rfl, ?_⟩
  simp only [List.set_cons_zero, List.set_cons_succ]
  refine sv 12 (vb) .of ?_
  simp only [List.set_cons_zero, List.set_cons_succ]
  refine xCall 13 87 #[.pointer none, .agg (cellsOf .u8 (nn (turnK key 54))), vb] (by kernel_rfl) ?_
  refine (under_nil (turnK key 54) vb (turnK_len hl _) w2).mono ?_
  rintro en w3 ⟨rfl, hb1⟩
  have e2 := belE0 hb1
  have ze2 := e2.size
  replace BL := BL.e0 e2
  replace D := D.e0 e2
  replace b6 := b6.e0 e2
  clear e2
  refine ⟨.agg (cellsOf .u8 (nn (List.replicate 32 0))), rfl, ?_⟩
  simp only [List.set_cons_zero, List.set_cons_succ]
  refine xAlloc 7 37 ((nn (List.replicate 32 0)).map (Value.int .u8)) rfl (by kernel_rfl) ?_
  intro w4 n2
  have zn2 := n2.z
  have b7 := n2.c
  replace b7 : Blk .u8 w4 w3.heap.size 37 (nn (List.replicate 32 0)) := b7
  replace BL := BL.e0 n2.e
  replace D := D.e0 n2.e
  replace b6 := b6.e0 n2.e
  simp only [List.set_cons_zero, List.set_cons_succ]
  refine xStoreA 37 (.tmp 7) (.tmp 13) rfl .u8 w3.heap.size 37 (nn (List.replicate 32 0)) 0 (nn (List.replicate 32 0)) (by kernel_rfl) (by kernel_rfl) b7 (by rw [show (nn (List.replicate 32 0)).length = 32 by ((try simp only [nn_len, List.length_cons, List.length_nil, List.length_set, List.length_replicate]); try omega)]; kernel_rfl) (by (try simp only [nn_len, List.length_cons, List.length_nil, List.length_set, List.length_replicate]); try omega) (nn (List.replicate 32 0)) (over_whole _ _ (by (try simp only [nn_len, List.length_cons, List.length_nil, List.length_set, List.length_replicate]); try omega)) ?_
  intro w5 t1
  have zt1 := t1.z
  have BL_ := BL.ev t1.e (fun i h => show w.heap.size ≤ i by have h : i = w3.heap.size := h; omega)
  have D_ := D.ev t1.e (fun i hi => show ¬ (i = w3.heap.size) by have := hd i hi; omega)
  have b6_ := b6.ev t1.e (show ¬ (w.heap.size = w3.heap.size) by omega)
  replace BL := BL_; clear BL_
  replace D := D_; clear D_
  replace b6 := b6_; clear b6_
  replace b7 : Blk .u8 w5 w3.heap.size 37 (nn (List.replicate 32 0)) := t1.c
  clear t1
  refine wpList_nil ?_
  refine hK2 _ _ ?_
  refine wp_seq_k fun K3 hK3 => ?_
  have e3 := drew_e0 w5
  refine zg (fun w_ => Bl w.heap.size w w_ ∧ SL .u8 w_ v (nn key) ∧ Blk .u8 w_ w.heap.size 37 (nn (List.replicate 32 0)) ∧ Blk .u8 w_ w3.heap.size 37 (nn (List.replicate 32 0)) ∧ w5.heap.size ≤ w_.heap.size) (fun w_ => Bl w.heap.size w w_ ∧ SL .u8 w_ v (nn key) ∧ Blk .u8 w_ w.heap.size 37 (nn (List.replicate 32 0)) ∧ Blk .u8 w_ w3.heap.size 37 (nn (List.replicate 32 0)) ∧ w5.heap.size ≤ w_.heap.size) 6 7 ⟨BL.e0 e3, D.e0 e3, b6.e0 e3, b7.e0 e3, Nat.le_refl _⟩ ?_
  clear BL D b6 b7
  clear e3
  intro w6
  rintro ⟨BL, D, b6, b7, z1⟩
  refine zv 0 14 (.pointer none) (fun _ _ => .of) ⟨BL, D, b6, b7, by omega⟩ ?_
  simp only [List.set_cons_zero, List.set_cons_succ]
  refine zv 1 15 (.pointer none) (fun _ _ => .of) ⟨BL, D, b6, b7, by omega⟩ ?_
  simp only [List.set_cons_zero, List.set_cons_succ]
  refine zv 2 16 (v) (fun _ _ => .of) ⟨BL, D, b6, b7, by omega⟩ ?_
  simp only [List.set_cons_zero, List.set_cons_succ]
  refine zv 4 18 (.slice (some ⟨w3.heap.size, 0, none⟩) 32 32) (fun _ _ => .of) ⟨BL, D, b6, b7, by omega⟩ ?_
  simp only [List.set_cons_zero, List.set_cons_succ]
  refine zo1 3 rfl ?_
  refine xCall 17 88 #[.pointer none, v, .int .u8 92] (by kernel_rfl) ?_
  refine (turned_nil key v 92 (by omega) w6 D hl).mono ?_
  rintro en w7 ⟨rfl, hb1⟩
  have e4 := belE0 hb1
  have ze4 := e4.size
  replace BL := BL.e0 e4
  replace D := D.e0 e4
  replace b6 := b6.e0 e4
  replace b7 := b7.e0 e4
  clear e4
  refine ⟨.agg (cellsOf .u8 (nn (turnK key 92))), rfl, ?_⟩
  refine ze 3 ⟨BL, D, b6, b7, by omega⟩ ?_
  simp only [List.set_cons_zero, List.set_cons_succ]
  refine zo1 5 rfl ?_
  refine xCall 19 87 #[.pointer none, .agg (cellsOf .u8 (nn (turnK key 92))), .slice (some ⟨w3.heap.size, 0, none⟩) 32 32] (by kernel_rfl) ?_
  refine (under_nil (turnK key 92) _ (turnK_len hl _) w7).mono ?_
  rintro en w8 ⟨rfl, hb1⟩
  have e5 := belE0 hb1
  have ze5 := e5.size
  replace BL := BL.e0 e5
  replace D := D.e0 e5
  replace b6 := b6.e0 e5
  replace b7 := b7.e0 e5
  clear e5
  refine ⟨.agg (cellsOf .u8 (nn (List.replicate 32 0))), rfl, ?_⟩
  refine ze 5 ⟨BL, D, b6, b7, by omega⟩ ?_
  simp only [List.set_cons_zero, List.set_cons_succ]
  refine zo1 6 rfl ?_
  refine xStoreA 37 (.tmp 6) (.tmp 19) rfl .u8 w.heap.size 37 (nn (List.replicate 32 0)) 0 (nn (List.replicate 32 0)) (by kernel_rfl) (by kernel_rfl) b6 (by rw [show (nn (List.replicate 32 0)).length = 32 by ((try simp only [nn_len, List.length_cons, List.length_nil, List.length_set, List.length_replicate]); try omega)]; kernel_rfl) (by (try simp only [nn_len, List.length_cons, List.length_nil, List.length_set, List.length_replicate]); try omega) (nn (List.replicate 32 0)) (over_whole _ _ (by (try simp only [nn_len, List.length_cons, List.length_nil, List.length_set, List.length_replicate]); try omega)) ?_
  intro w9 t2
  have zt2 := t2.z
  have BL_ := BL.ev t2.e (fun i h => show w.heap.size ≤ i by have h : i = w.heap.size := h; omega)
  have D_ := D.ev t2.e (fun i hi => show ¬ (i = w.heap.size) by have := hd i hi; omega)
  have b7_ := b7.ev t2.e (show ¬ (w3.heap.size = w.heap.size) by omega)
  replace BL := BL_; clear BL_
  replace D := D_; clear D_
  replace b7 := b7_; clear b7_
  replace b6 : Blk .u8 w9 w.heap.size 37 (nn (List.replicate 32 0)) := t2.c
  clear t2
  refine zz 6 ?_
  refine zd (by kernel_rfl) ?_ _
  refine hK3 _ _ ?_
  refine wp_ret ?_
  (try simp only [Exit.then, Exit.inBlock])
  refine bodyPost_ret (rC rfl _ w.heap.size _ _ (by kernel_rfl) b6.cel _ Try.underlying37 rfl (by rw [List.length_map, show (nn (List.replicate 32 0)).length = 32 by ((try simp only [nn_len, List.length_cons, List.length_nil, List.length_set, List.length_replicate]); try omega)]; kernel_rfl)) rfl ?_
  exact ⟨rfl, BL.b⟩

set_option maxHeartbeats 4000000 in
theorem tagged_nil (tag : Nat) (v : Value) (us : List Value) (ps : List (List Nat)) (w : World) (HV : SV w v us) (HY : SLs .u8 w.heap.size w us (ps.map nn)) (hl : (blobsB (ps.map nn)).length ≤ 1000000000000) :
    Calls Try.prog 27 #[.pointer none, .int .u8 ((tag : Nat) : Int), v] w fun e w' => e = .returned (.agg (cellsOf .u8 (nn (List.replicate 32 0)))) ∧ Below w.heap.size w w' := by
  have BL := Bl.refl w
  go_enter Try.func27, Try.ntmps27
  refine wp_seq_k fun K1 hK1 => ?_
  refine cPlain ?_
  refine xAlloc 6 37 ((nn (List.replicate 32 0)).map (Value.int .u8)) rfl (by kernel_rfl) ?_
  intro w1 n1
  have zn1 := n1.z
  have b6 := n1.c
  replace b6 : Blk .u8 w1 w.heap.size 37 (nn (List.replicate 32 0)) := b6
  replace BL := BL.e0 n1.e
  have HV : SV w1 v us := HV.e0 n1.e
  have HY : SLs .u8 w.heap.size w1 us (ps.map nn) := SLs.e0 n1.e HY
  simp only [List.set_cons_zero, List.set_cons_succ]
  refine wpList_nil ?_
  refine hK1 _ _ ?_
  refine wp_seq_k fun K2 hK2 => ?_
  refine cPlain ?_
  refine sv 7 (.pointer none) .of ?_
  simp only [List.set_cons_zero, List.set_cons_succ]
  refine sv 8 (.int .u8 ((tag : Nat) : Int)) .of ?_
  simp only [List.set_cons_zero, List.set_cons_succ]
  refine sv 9 (v) .of ?_
  simp only [List.set_cons_zero, List.set_cons_succ]
  refine xCall 10 29 #[.int .u8 ((tag : Nat) : Int), v] (by kernel_rfl) ?_
  refine (mactext_any ((tag : Nat) : Int) v us (ps.map nn) w1 HV w.heap.size (by omega) HY (by omega)).mono ?_
  rintro en w2 ⟨u, rfl, hO, hb1⟩
  have e1 := belE0 hb1
  have ze1 := e1.size
  replace BL := BL.e0 e1
  replace b6 := b6.e0 e1
  clear e1
  refine ⟨u, rfl, ?_⟩
  simp only [List.set_cons_zero, List.set_cons_succ]
  refine xCall 11 20 #[.pointer none, u] (by kernel_rfl) ?_
  refine (of_nil u w2).mono ?_
  rintro en w3 ⟨rfl, hb1⟩
  have e2 := belE0 hb1
  have ze2 := e2.size
  replace BL := BL.e0 e2
  replace b6 := b6.e0 e2
  clear e2
  refine ⟨.agg (cellsOf .u8 (nn (List.replicate 32 0))), rfl, ?_⟩
  simp only [List.set_cons_zero, List.set_cons_succ]
  refine xStoreA 37 (.tmp 6) (.tmp 11) rfl .u8 w.heap.size 37 (nn (List.replicate 32 0)) 0 (nn (List.replicate 32 0)) (by kernel_rfl) (by kernel_rfl) b6 (by rw [show (nn (List.replicate 32 0)).length = 32 by ((try simp only [nn_len, List.length_cons, List.length_nil, List.length_set, List.length_replicate]); try omega)]; kernel_rfl) (by (try simp only [nn_len, List.length_cons, List.length_nil, List.length_set, List.length_replicate]); try omega) (nn (List.replicate 32 0)) (over_whole _ _ (by (try simp only [nn_len, List.length_cons, List.length_nil, List.length_set, List.length_replicate]); try omega)) ?_
  intro w4 t1
  have zt1 := t1.z
  have BL_ := BL.ev t1.e (fun i h => show w.heap.size ≤ i by have h : i = w.heap.size := h; omega)
  replace BL := BL_; clear BL_
  replace b6 : Blk .u8 w4 w.heap.size 37 (nn (List.replicate 32 0)) := t1.c
  clear t1
  refine wpList_nil ?_
  refine hK2 _ _ ?_
  refine wp_ret ?_
  (try simp only [Exit.then, Exit.inBlock])
  refine bodyPost_ret (rC rfl _ w.heap.size _ _ (by kernel_rfl) b6.cel _ Try.underlying37 rfl (by rw [List.length_map, show (nn (List.replicate 32 0)).length = 32 by ((try simp only [nn_len, List.length_cons, List.length_nil, List.length_set, List.length_replicate]); try omega)]; kernel_rfl)) rfl ?_
  exact ⟨rfl, BL.b⟩

end Go.Proofs.Yteaijjefbadnbaa
