/-
  ref10: Node, height, root, Root, Path, Right, Climb.
-/
import Derived.Test.YteaijjefbadnbaaMerkX
import Derived.Test.YteaijjefbadnbaaRef9
namespace Go.Proofs.Yteaijjefbadnbaa
open Go.RowKit
set_option linter.unusedVariables false
set_option linter.unusedSimpArgs false
set_option maxRecDepth 100000
attribute [local irreducible] wpList Code.wp wpAnyZ taggedN mnode
theorem mnode_b (tab a b : List Nat) : ∀ x ∈ mnode tab a b, x < 256 := by unfold mnode taggedN; exact ofN_b _ _
/-- all of them are bytes -/
def B8 (l : List (List Nat)) : Prop := ∀ d ∈ l, ∀ x ∈ d, x < 256
theorem B8.at {l : List (List Nat)} (h : B8 l) {k : Nat} (hk : k < l.length) : ∀ x ∈ l.getD k [], x < 256 := h _ (getD_mem hk)
theorem B8.take {l : List (List Nat)} (h : B8 l) (k : Nat) : B8 (l.take k) := fun d hd => h d (List.mem_of_mem_take hd)
theorem B8.drop {l : List (List Nat)} (h : B8 l) (k : Nat) : B8 (l.drop k) := fun d hd => h d (List.mem_of_mem_drop hd)
theorem mup_b (tab : List Nat) : ∀ (l : List (List Nat)), B8 (mup tab l)
  | [], d, h => by simp [mup] at h
  | [a], d, h => by simp [mup] at h
  | a :: b :: t, d, h => by
    rcases List.mem_cons.1 h with rfl | h
    · exact mnode_b _ _ _
    · exact mup_b tab t d h
theorem mups_b (tab : List Nat) : ∀ (h : Nat) (l : List (List Nat)), B8 l → B8 (mups tab h l)
  | 0, l, hl => hl
  | h + 1, l, hl => mups_b tab h (mup tab l) (mup_b tab l)
theorem mroot_b (tab : List Nat) (h : Nat) (l : List (List Nat)) (hl : l.length = 2 ^ h) (hb : B8 l) : ∀ x ∈ mroot tab h l, x < 256 :=
  mups_b tab h l hb _ (by rw [mups_one tab h l hl]; exact List.mem_singleton.2 rfl)
theorem mclimb_b (tab : List Nat) : ∀ (bs : List (List Nat)) (x : List Nat) (k : Nat), (∀ y ∈ x, y < 256) → ∀ y ∈ mclimb tab x k bs, y < 256
  | [], x, k, h => h
  | b :: bs, x, k, h => mclimb_b tab bs _ _ (by split <;> exact mnode_b _ _ _)
theorem two_le10 (da db : List Nat) (ha : da.length = 32) (hb : db.length = 32) : ∀ p ∈ [da, db], p.length ≤ 1000000 := fun p hp => by
  rcases List.mem_cons.1 hp with rfl | hp
  · omega
  · rw [List.mem_singleton.1 hp]; omega
theorem two_b10 {da db : List Nat} (ha : ∀ x ∈ da, x < 256) (hb : ∀ x ∈ db, x < 256) : ∀ p ∈ [da, db], ∀ x ∈ p, x < 256 := fun p hp => by
  rcases List.mem_cons.1 hp with rfl | hp
  · exact ha
  · rw [List.mem_singleton.1 hp]; exact hb
theorem SE.part {z : Nat} {w : World} {v : Value} {l : List (List Nat)} (h : SE .u8 z w v (nnd l)) (lo hi : Nat) (h1 : lo ≤ hi) (h2 : hi ≤ l.length) (m : List (List Nat)) (hm : (l.drop lo).take (hi - lo) = m) :
    ∃ A C, sliceE z v lo hi = .slice A m.length C ∧ SE .u8 z w (.slice A m.length C) (nnd m) := by
  have h3 := SE.cast (h.slice lo hi h1 (by rw [nnd_len]; exact h2)) (nnd_seg _ _ _)
  rw [hm] at h3
  obtain ⟨A, C, e, _⟩ := h3.len
  rw [nnd_len] at e
  exact ⟨A, C, e, e ▸ h3⟩

set_option maxHeartbeats 4000000 in
theorem r10node_any (tab : List Nat) (ht : tab.length = 72) (h32 : ∀ x ∈ tab, x < 4294967296) (w : World) (da db : List Nat) (hda : da.length = 32) (hdb : db.length = 32) (ha8 : ∀ x ∈ da, x < 256) (hb8 : ∀ x ∈ db, x < 256) :
    Calls Try.prog 55 #[.agg (cellsOf .u32 (nn tab)), .agg (cellsOf .u8 (nn da)), .agg (cellsOf .u8 (nn db))] w fun e w' => e = .returned (.agg (cellsOf .u8 (nn (mnode tab da db)))) ∧ Below w.heap.size w w' := by
  have BL := Bl.refl w
  have hol := mnode_len tab da db
  go_enter Try.func55, Try.ntmps55
  refine wp_seq_k fun K1 hK1 => ?_
  refine cPlain ?_
  refine xBox 3 26 _ ((nn tab).map (Value.int .u32)) rfl (cells_toList _ _) ?_
  intro w1 n1
  have zn1 := n1.z
  have b3 := n1.c
  replace b3 : Blk .u32 w1 w.heap.size 26 (nn tab) := b3
  replace BL := BL.e0 n1.e
  simp only [List.set_cons_zero, List.set_cons_succ]
  refine xBox 4 37 _ ((nn (da)).map (Value.int .u8)) rfl (cells_toList _ _) ?_
  intro w2 n2
  have zn2 := n2.z
  have b4 := n2.c
  replace b4 : Blk .u8 w2 w1.heap.size 37 (nn (da)) := b4
  replace BL := BL.e0 n2.e
  replace b3 := b3.e0 n2.e
  simp only [List.set_cons_zero, List.set_cons_succ]
  refine xBox 5 37 _ ((nn (db)).map (Value.int .u8)) rfl (cells_toList _ _) ?_
  intro w3 n3
  have zn3 := n3.z
  have b5 := n3.c
  replace b5 : Blk .u8 w3 w2.heap.size 37 (nn (db)) := b5
  replace BL := BL.e0 n3.e
  replace b3 := b3.e0 n3.e
  replace b4 := b4.e0 n3.e
  simp only [List.set_cons_zero, List.set_cons_succ]
  refine xAlloc 6 37 ((nn (List.replicate 32 0)).map (Value.int .u8)) rfl (by kernel_rfl) ?_
  intro w4 n4
  have zn4 := n4.z
  have b6 := n4.c
  replace b6 : Blk .u8 w4 w3.heap.size 37 (nn (List.replicate 32 0)) := b6
  replace BL := BL.e0 n4.e
  replace b3 := b3.e0 n4.e
  replace b4 := b4.e0 n4.e
  replace b5 := b5.e0 n4.e
  simp only [List.set_cons_zero, List.set_cons_succ]
  refine wpList_nil ?_
  refine hK1 _ _ ?_
  refine wp_seq_k fun K2 hK2 => ?_
  have e1 := drew_e0 w4
  refine zg (fun w_ => Bl w.heap.size w w_ ∧ Blk .u32 w_ w.heap.size 26 (nn tab) ∧ Blk .u8 w_ w1.heap.size 37 (nn (da)) ∧ Blk .u8 w_ w2.heap.size 37 (nn (db)) ∧ Blk .u8 w_ w3.heap.size 37 (nn (List.replicate 32 0)) ∧ w4.heap.size ≤ w_.heap.size) (fun w_ => Bl w.heap.size w w_ ∧ Blk .u32 w_ w.heap.size 26 (nn tab) ∧ Blk .u8 w_ w1.heap.size 37 (nn (da)) ∧ Blk .u8 w_ w2.heap.size 37 (nn (db)) ∧ Blk .u8 w_ w3.heap.size 37 (nn (List.replicate 32 0)) ∧ w4.heap.size ≤ w_.heap.size) 5 6 ⟨BL.e0 e1, b3.e0 e1, b4.e0 e1, b5.e0 e1, b6.e0 e1, Nat.le_refl _⟩ ?_
  clear BL b3 b4 b5 b6
  clear e1
  intro w5
  rintro ⟨BL, b3, b4, b5, b6, z1⟩
  refine zv 0 7 (.agg (cellsOf .u32 (nn tab))) (fun _ ⟨BL, b3, b4, b5, b6, z1⟩ => Val.blk 26 _ rfl 0 72 (by kernel_rfl) b3 _ Try.underlying26 rfl (by kernel_rfl) (by (try simp only [nn_len, List.length_cons, List.length_nil, List.length_set, List.length_replicate]); try omega) _ (seg_all' _ (by (try simp only [nn_len, List.length_cons, List.length_nil, List.length_set, List.length_replicate]); try omega))) ⟨BL, b3, b4, b5, b6, by omega⟩ ?_
  simp only [List.set_cons_zero, List.set_cons_succ]
  refine zv 1 8 (.slice (some ⟨w1.heap.size, 0, none⟩) 32 32) (fun _ _ => .of) ⟨BL, b3, b4, b5, b6, by omega⟩ ?_
  simp only [List.set_cons_zero, List.set_cons_succ]
  refine zv 2 9 (.slice (some ⟨w2.heap.size, 0, none⟩) 32 32) (fun _ _ => .of) ⟨BL, b3, b4, b5, b6, by omega⟩ ?_
  simp only [List.set_cons_zero, List.set_cons_succ]
  refine zo1 3 rfl ?_
  refine xLit 10 124 30 2 _ #[(0, .slice (some ⟨w1.heap.size, 0, none⟩) 32 32), (1, .slice (some ⟨w2.heap.size, 0, none⟩) 32 32)] [.slice (some ⟨w1.heap.size, 0, none⟩) 32 32, .slice (some ⟨w2.heap.size, 0, none⟩) 32 32] rfl (by kernel_rfl) (by kernel_rfl) ?_
  intro w6 n5
  have zn5 := n5.z
  have b10 := n5.c
  replace BL := BL.e0 n5.e
  replace b3 := b3.e0 n5.e
  replace b4 := b4.e0 n5.e
  replace b5 := b5.e0 n5.e
  replace b6 := b6.e0 n5.e
  refine ze 3 ⟨BL, b3, b4, b5, b6, by omega⟩ ?_
  simp only [List.set_cons_zero, List.set_cons_succ]
  refine zo1 4 rfl ?_
  refine xCall 11 101 #[.agg (cellsOf .u32 (nn tab)), .int .u8 4, .slice (some ⟨w5.heap.size, 0, none⟩) 2 2] (by kernel_rfl) ?_
  refine (rtagged_any tab ht h32 w6 4 (by omega) _ [.slice (some ⟨w1.heap.size, 0, none⟩) 32 32, .slice (some ⟨w2.heap.size, 0, none⟩) 32 32] [da, db] (SV.ofCelM (n := 2) b10 rfl (by unfold maxLen; omega)) (SLs.two (SL.ofBlk b4 (by rw [nn_len]; exact hda) (by unfold maxLen; omega)) (fun g hg => by have := ownB_lit (lo := 0) (hi := w6.heap.size) (by omega) g hg; omega) (SL.ofBlk b5 (by rw [nn_len]; exact hdb) (by unfold maxLen; omega)) (fun g hg => by have := ownB_lit (lo := 0) (hi := w6.heap.size) (by omega) g hg; omega)) (two_le10 da db hda hdb) (by simp) (two_b10 ha8 hb8)).mono ?_
  rintro en w7 ⟨he, hb1⟩
  rw [show taggedN tab 4 [da, db] = mnode tab da db by unfold mnode; rfl] at he
  subst he
  have e2 := belE0 hb1
  have ze2 := e2.size
  replace BL := BL.e0 e2
  replace b3 := b3.e0 e2
  replace b4 := b4.e0 e2
  replace b5 := b5.e0 e2
  replace b6 := b6.e0 e2
  replace b10 := b10.e0 e2
  clear e2
  refine ⟨.agg (cellsOf .u8 (nn (mnode tab da db))), rfl, ?_⟩
  refine ze 4 ⟨BL, b3, b4, b5, b6, by omega⟩ ?_
  simp only [List.set_cons_zero, List.set_cons_succ]
  refine zo1 5 rfl ?_
  refine xStoreA 37 (.tmp 6) (.tmp 11) rfl .u8 w3.heap.size 37 (nn (List.replicate 32 0)) 0 (nn (mnode tab da db)) (by kernel_rfl) (by kernel_rfl) b6 (by rw [show (nn (mnode tab da db)).length = 32 by ((try simp only [nn_len, List.length_cons, List.length_nil, List.length_set, List.length_replicate]); try omega)]; kernel_rfl) (by (try simp only [nn_len, List.length_cons, List.length_nil, List.length_set, List.length_replicate]); try omega) (nn (mnode tab da db)) (over_whole _ _ (by (try simp only [nn_len, List.length_cons, List.length_nil, List.length_set, List.length_replicate]); try omega)) ?_
  intro w8 t1
  have zt1 := t1.z
  have BL_ := BL.ev t1.e (fun i h => show w.heap.size ≤ i by have h : i = w3.heap.size := h; omega)
  have b3_ := b3.ev t1.e (show ¬ (w.heap.size = w3.heap.size) by omega)
  have b4_ := b4.ev t1.e (show ¬ (w1.heap.size = w3.heap.size) by omega)
  have b5_ := b5.ev t1.e (show ¬ (w2.heap.size = w3.heap.size) by omega)
  have b10_ := b10.ev t1.e (show ¬ (w5.heap.size = w3.heap.size) by omega)
  replace BL := BL_; clear BL_
  replace b3 := b3_; clear b3_
  replace b4 := b4_; clear b4_
  replace b5 := b5_; clear b5_
  replace b10 := b10_; clear b10_
  replace b6 : Blk .u8 w8 w3.heap.size 37 (nn (mnode tab da db)) := t1.c
  clear t1
  refine zz 5 ?_
  refine zd (by kernel_rfl) ?_ _
  refine hK2 _ _ ?_
  refine wp_ret ?_
  (try simp only [Exit.then, Exit.inBlock])
  refine bodyPost_ret (rC rfl _ w3.heap.size _ _ (by kernel_rfl) b6.cel _ Try.underlying37 rfl (by rw [List.length_map, show (nn (mnode tab da db)).length = 32 by ((try simp only [nn_len, List.length_cons, List.length_nil, List.length_set, List.length_replicate]); try omega)]; kernel_rfl)) rfl ?_
  exact ⟨rfl, BL.b⟩

theorem r10height_any (m : Nat) (w : World) :
    Calls Try.prog 99 #[.int .i64 ((m : Nat) : Int)] w fun e w' => e = .returned (.int .i64 (match heightN m with | some h => (h : Int) | none => -1)) ∧ w' = w := by
  have WW : w = w := rfl
  go_enter Try.func99, Try.ntmps99
  refine wp_seq_k fun K1 hK1 => ?_
  refine cPlain ?_
  refine sv 2 (.int .i64 0) .of ?_
  simp only [List.set_cons_zero, List.set_cons_succ]
  refine wpList_nil ?_
  refine hK1 _ _ ?_
  refine wp_seq_k fun K2 hK2 => ?_
  refine wp_seq_k fun K3 hK3 => ?_
  refine cPlain ?_
  refine sv 3 (.int .i64 0) .of ?_
  simp only [List.set_cons_zero, List.set_cons_succ]
  refine wpList_nil ?_
  refine hK3 _ _ ?_
  refine wp_block ?_
  refine cLoop (fun N_ A_ w_ => ∃ (k : Nat), (N_ = 9 - k ∧ (k ≤ 9) ∧ (∀ i, i < k → m ≠ 2 ^ i) ∧ (∃ s1 : Nat → Value, A_ = ⟨[.int .i64 ((m : Nat) : Int), undef, (s1 2), .int .i64 ((k : Nat) : Int), (s1 4), (s1 5), (s1 6), (s1 7), (s1 8), (s1 9), (s1 10), (s1 11), (s1 12)].toArray, []⟩) ∧ w_ = w ∧ w.heap.size ≤ w_.heap.size)) _ ⟨0, rfl, (Nat.zero_le _), (fun i h => by omega), cutE, WW, Nat.le_refl _⟩ ?_
  clear WW
  rintro n_ a_ wl0 ⟨k, rfl, hc0_0, hc0_1, ⟨s1, rfl⟩, WW, zl0⟩
  refine wp_seq_k fun K4 hK4 => ?_
  refine wp_seq_k fun K5 hK5 => ?_
  refine cPlain ?_
  refine sv 4 (.int .i64 ((k : Nat) : Int)) .of ?_
  simp only [List.set_cons_zero, List.set_cons_succ]
  refine sv 5 (.bool (decide (((k : Nat) : Int) ≤ 8))) (Val.cmp .leq 3 _ (.tmp 4) _ rfl .i64 ((k : Nat) : Int) 8 (by kernel_rfl) (by kernel_rfl) (by simp) _ rfl) ?_
  simp only [List.set_cons_zero, List.set_cons_succ]
  refine wpList_nil ?_
  refine hK5 _ _ ?_
  refine cDec (((k : Nat) : Int) ≤ 8) (by kernel_rfl) (fun c5 => ?_) (fun c5 => ?_)
  · skip
    refine wp_skip ?_
    refine hK4 _ _ ?_
    refine wp_seq_k fun K6 hK6 => ?_
    refine wp_block ?_
    refine wp_seq_k fun K7 hK7 => ?_
    refine cPlain ?_
    refine sv 8 (.int .i64 ((m : Nat) : Int)) .of ?_
    simp only [List.set_cons_zero, List.set_cons_succ]
    refine sv 9 (.int .i64 ((k : Nat) : Int)) .of ?_
    simp only [List.set_cons_zero, List.set_cons_succ]
    refine sv 10 (.int .i64 ((2 ^ k : Nat) : Int)) (Val.shl1 3 _ _ (.tmp 9) rfl .i64 k (by omega) (by kernel_rfl) (by kernel_rfl)) ?_
    simp only [List.set_cons_zero, List.set_cons_succ]
    refine sv 11 (.bool (decide (((m : Nat) : Int) = ((2 ^ k : Nat) : Int)))) (Val.cmp .eql 3 _ (.tmp 8) (.tmp 10) rfl .i64 ((m : Nat) : Int) ((2 ^ k : Nat) : Int) (by kernel_rfl) (by kernel_rfl) (by simp) _ rfl) ?_
    simp only [List.set_cons_zero, List.set_cons_succ]
    refine wpList_nil ?_
    refine hK7 _ _ ?_
    refine cDec (((m : Nat) : Int) = ((2 ^ k : Nat) : Int)) (by kernel_rfl) (fun c11 => ?_) (fun c11 => ?_)
    · skip
      refine wp_seq_k fun K8 hK8 => ?_
      refine cPlain ?_
      refine sv 12 (.int .i64 ((k : Nat) : Int)) .of ?_
      simp only [List.set_cons_zero, List.set_cons_succ]
      refine sv 2 (.int .i64 ((k : Nat) : Int)) .of ?_
      simp only [List.set_cons_zero, List.set_cons_succ]
      refine wpList_nil ?_
      refine hK8 _ _ ?_
      refine wp_ret ?_
      (try simp only [Exit.then, Exit.inBlock])
      refine bodyPost_ret (v := .int .i64 ((k : Nat) : Int)) rT rfl ?_
      rw [heightN_pow (n := m) (h := k) (by omega) (by omega)]
      exact ⟨rfl, WW⟩
    · skip
      refine wp_skip ?_
      refine hK6 _ _ ?_
      refine cPlain ?_
      refine sv 6 (.int .i64 ((k : Nat) : Int)) .of ?_
      simp only [List.set_cons_zero, List.set_cons_succ]
      refine sv 7 (.int .i64 ((k + 1 : Nat) : Int)) (Val.as (Val.add 3 _ (.tmp 6) _ rfl ((k : Nat) : Int) 1 (by kernel_rfl) (by kernel_rfl) (by omega)) (congrArg (Value.int .i64) (by omega))) ?_
      simp only [List.set_cons_zero, List.set_cons_succ]
      refine sv 3 (.int .i64 ((k + 1 : Nat) : Int)) .of ?_
      simp only [List.set_cons_zero, List.set_cons_succ]
      refine wpList_nil ?_
      refine ⟨_, ?_, k + 1, rfl, (by omega), (fun i h => by rcases Nat.lt_or_ge i k with h2 | h2; exact hc0_1 i h2; obtain rfl : i = k := (by omega); exact fun he => c11 (by rw [he])), cutE, WW, by omega⟩
      omega
  · skip
    refine wp_exit ?_
    simp only [Exit.then, Exit.inBlock, ↓reduceIte, Nat.reduceEqDiff]
    refine hK2 _ _ ?_
    refine wp_seq_k fun K9 hK9 => ?_
    refine cPlain ?_
    refine sv 2 (.int .i64 (-1)) .of ?_
    simp only [List.set_cons_zero, List.set_cons_succ]
    refine wpList_nil ?_
    refine hK9 _ _ ?_
    refine wp_ret ?_
    (try simp only [Exit.then, Exit.inBlock])
    refine bodyPost_ret (v := .int .i64 (-1)) rT rfl ?_
    have hno : heightN m = none := by
      cases e : heightN m with
      | none => rfl
      | some h => exact absurd (heightN_some e).1 (hc0_1 h (by have := (heightN_some e).2; omega))
    rw [hno]
    exact ⟨rfl, WW⟩

set_option maxHeartbeats 4000000 in
theorem r10root_step (tab : List Nat) (ht : tab.length = 72) (h32 : ∀ x ∈ tab, x < 4294967296) (w : World) (v : Value) (es : List (List Nat)) (D : SE .u8 32 w v (nnd es)) (hes : ∀ d ∈ es, d.length = 32) (hb : B8 es) (h : Nat) (hh : h ≤ 8) (hn : es.length = 2 ^ h)
    (ih : 0 < h → ∀ (w : World) (v : Value) (es : List (List Nat)), SE .u8 32 w v (nnd es) → (∀ d ∈ es, d.length = 32) → B8 es → es.length = 2 ^ (h - 1) →
      Calls Try.prog 100 #[.agg (cellsOf .u32 (nn tab)), v] w fun e w' => e = .returned (.agg (cellsOf .u8 (nn (mroot tab (h - 1) es)))) ∧ Below w.heap.size w w') :
    Calls Try.prog 100 #[.agg (cellsOf .u32 (nn tab)), v] w fun e w' => e = .returned (.agg (cellsOf .u8 (nn (mroot tab h es)))) ∧ Below w.heap.size w w' := by
  have BL := Bl.refl w
  have hvl := D.lt
  have hpw : 2 ^ h ≤ 256 := Nat.pow_le_pow_right (by omega) hh
  have hp1 : 0 < 2 ^ h := Nat.two_pow_pos _
  have hrl := mroot_len tab h es hn hes
  obtain ⟨vA, vC, hv, hvc⟩ := D.len
  rw [nnd_len] at hv hvc
  subst hv
  obtain ⟨q, hq⟩ : ∃ q, es.length / 2 = q := ⟨_, rfl⟩
  obtain ⟨m1, hm1⟩ : ∃ m, es.take q = m := ⟨_, rfl⟩
  obtain ⟨m2, hm2⟩ : ∃ m, es.drop q = m := ⟨_, rfl⟩
  have hn1 : m1.length = q := by rw [← hm1, List.length_take]; omega
  have hn2 : m2.length = es.length - q := by rw [← hm2, List.length_drop]
  obtain ⟨A1, C1, hk1, D1⟩ := D.part 0 q (Nat.zero_le _) (by omega) m1 (by rw [List.drop_zero, Nat.sub_zero, hm1])
  obtain ⟨A2, C2, hk2, D2⟩ := D.part q es.length (by omega) (Nat.le_refl _) m2 (by rw [List.take_of_length_le (by rw [List.length_drop]; omega), hm2])
  have hvl1 := D1.lt
  have hvl2 := D2.lt
  have h132 := nnd_lens D1.lens
  have h232 := nnd_lens D2.lens
  have hb1_ : B8 m1 := by rw [← hm1]; exact hb.take q
  have hb2_ : B8 m2 := by rw [← hm2]; exact hb.drop q
  go_enter Try.func100, Try.ntmps100
  refine wp_seq_k fun K1 hK1 => ?_
  refine cPlain ?_
  refine xBox 2 26 _ ((nn tab).map (Value.int .u32)) rfl (cells_toList _ _) ?_
  intro w1 n1
  have zn1 := n1.z
  have b2 := n1.c
  replace b2 : Blk .u32 w1 w.heap.size 26 (nn tab) := b2
  replace BL := BL.e0 n1.e
  replace D := D.e0 n1.e
  replace D1 := D1.e0 n1.e
  replace D2 := D2.e0 n1.e
  simp only [List.set_cons_zero, List.set_cons_succ]
  refine xAlloc 4 37 ((nn (List.replicate 32 0)).map (Value.int .u8)) rfl (by kernel_rfl) ?_
  intro w2 n2
  have zn2 := n2.z
  have b4 := n2.c
  replace b4 : Blk .u8 w2 w1.heap.size 37 (nn (List.replicate 32 0)) := b4
  replace BL := BL.e0 n2.e
  replace D := D.e0 n2.e
  replace D1 := D1.e0 n2.e
  replace D2 := D2.e0 n2.e
  replace b2 := b2.e0 n2.e
  simp only [List.set_cons_zero, List.set_cons_succ]
  refine wpList_nil ?_
  refine hK1 _ _ ?_
  refine wp_seq_k fun K2 hK2 => ?_
  refine wp_seq_k fun K3 hK3 => ?_
  refine cPlain ?_
  refine sv 6 (.slice vA es.length vC) .of ?_
  simp only [List.set_cons_zero, List.set_cons_succ]
  refine sv 7 (.int .i64 (es.length : Int)) .of ?_
  simp only [List.set_cons_zero, List.set_cons_succ]
  refine sv 8 (.bool (decide ((es.length : Int) = 1))) (Val.cmp .eql 3 _ (.tmp 7) _ rfl .i64 (es.length : Int) 1 (by kernel_rfl) (by kernel_rfl) (by simp) _ rfl) ?_
  simp only [List.set_cons_zero, List.set_cons_succ]
  refine wpList_nil ?_
  refine hK3 _ _ ?_
  refine cDec ((es.length : Int) = 1) (by kernel_rfl) (fun c8 => ?_) (fun c8 => ?_)
  · skip
    have hh0 : h = 0 := by
      rcases Nat.eq_zero_or_pos h with h0 | h0
      · exact h0
      · have := two_le_pow h0; omega
    have hd0 : (es.getD 0 []).length = 32 := fe_getDN hes (by omega)
    have hr0 : mroot tab h es = es.getD 0 [] := by subst hh0; rfl
    refine wp_seq_k fun K4 hK4 => ?_
    refine cPlain ?_
    refine sv 9 (.slice vA es.length vC) .of ?_
    simp only [List.set_cons_zero, List.set_cons_succ]
    refine sv 10 (elemE 32 (.slice vA es.length vC) 0) (Val.ixE 63 (.tmp 9) _ rfl (.slice vA es.length vC) 0 (by kernel_rfl) (by kernel_rfl) D Try.underlying63 (by kernel_rfl) (by simp only [nnd_len]; omega)) ?_
    simp only [List.set_cons_zero, List.set_cons_succ]
    refine sv 11 (.agg (cellsOf .u8 (nn (es.getD 0 [])))) (Val.ldGN 37 _ rfl (.slice vA es.length vC) 0 (by kernel_rfl) D _ Try.underlying37 rfl (by kernel_rfl) (by simp only [nnd_len]; omega)) ?_
    simp only [List.set_cons_zero, List.set_cons_succ]
    refine xStoreA 37 (.tmp 4) (.tmp 11) rfl .u8 w1.heap.size 37 (nn (List.replicate 32 0)) 0 (nn (es.getD 0 [])) (by kernel_rfl) (by kernel_rfl) b4 (by rw [show (nn (es.getD 0 [])).length = 32 by ((try simp only [nn_len, List.length_cons, List.length_nil, List.length_set, List.length_replicate]); try omega)]; kernel_rfl) (by (try simp only [nn_len, List.length_cons, List.length_nil, List.length_set, List.length_replicate]); try omega) (nn (es.getD 0 [])) (over_whole _ _ (by (try simp only [nn_len, List.length_cons, List.length_nil, List.length_set, List.length_replicate]); try omega)) ?_
    intro w3 t1
    have zt1 := t1.z
    have BL_ := BL.ev t1.e (fun i h => show w.heap.size ≤ i by have h : i = w1.heap.size := h; omega)
    have D_ := D.ev t1.e (fun i hi => show ¬ (i = w1.heap.size) by have := hvl i hi; omega)
    have D1_ := D1.ev t1.e (fun i hi => show ¬ (i = w1.heap.size) by have := hvl1 i hi; omega)
    have D2_ := D2.ev t1.e (fun i hi => show ¬ (i = w1.heap.size) by have := hvl2 i hi; omega)
    have b2_ := b2.ev t1.e (show ¬ (w.heap.size = w1.heap.size) by omega)
    replace BL := BL_; clear BL_
    replace D := D_; clear D_
    replace D1 := D1_; clear D1_
    replace D2 := D2_; clear D2_
    replace b2 := b2_; clear b2_
    replace b4 : Blk .u8 w3 w1.heap.size 37 (nn (es.getD 0 [])) := t1.c
    clear t1
    refine wpList_nil ?_
    refine hK4 _ _ ?_
    refine wp_ret ?_
    (try simp only [Exit.then, Exit.inBlock])
    refine bodyPost_ret (rC rfl _ w1.heap.size _ _ (by kernel_rfl) b4.cel _ Try.underlying37 rfl (by rw [List.length_map, show (nn (es.getD 0 [])).length = 32 by ((try simp only [nn_len, List.length_cons, List.length_nil, List.length_set, List.length_replicate]); try omega)]; kernel_rfl)) rfl ?_
    rw [hr0]
    exact ⟨rfl, BL.b⟩
  · skip
    have h0 : 0 < h := Nat.pos_of_ne_zero fun e => by subst e; simp at hn; omega
    have hq2 : es.length = 2 * 2 ^ (h - 1) := by rw [hn, ← Nat.pow_succ']; congr 1; omega
    have hq3 : q = 2 ^ (h - 1) := by omega
    have hl1 := mroot_len tab (h - 1) m1 (by omega) h132
    have hl2 := mroot_len tab (h - 1) m2 (by omega) h232
    have htwo : mroot tab h es = mnode tab (mroot tab (h - 1) m1) (mroot tab (h - 1) m2) := by
      have := mroot_two tab (h - 1) m1 m2 (by omega) (by omega)
      rw [show h - 1 + 1 = h by omega, ← hm1, ← hm2, List.take_append_drop, hm1, hm2] at this
      exact this
    have hol := mnode_len tab (mroot tab (h - 1) m1) (mroot tab (h - 1) m2)
    refine wp_skip ?_
    refine hK2 _ _ ?_
    refine wp_seq_k fun K5 hK5 => ?_
    refine cPlain ?_
    refine sv 12 (.slice vA es.length vC) .of ?_
    simp only [List.set_cons_zero, List.set_cons_succ]
    refine sv 13 (.int .i64 (es.length : Int)) .of ?_
    simp only [List.set_cons_zero, List.set_cons_succ]
    refine sv 14 (.int .i64 ((q : Nat) : Int)) (Val.asN (Val.quoI 3 _ (.tmp 13) _ rfl es.length 2 (by kernel_rfl) (by kernel_rfl) (by omega) (by omega)) hq) ?_
    simp only [List.set_cons_zero, List.set_cons_succ]
    refine sv 5 (.int .i64 ((q : Nat) : Int)) .of ?_
    simp only [List.set_cons_zero, List.set_cons_succ]
    refine wpList_nil ?_
    refine hK5 _ _ ?_
    refine wp_seq_k fun K6 hK6 => ?_
    have e1 := drew_e0 w2
    refine zg (fun w_ => Bl w.heap.size w w_ ∧ SE .u8 32 w_ (.slice vA es.length vC) (nnd es) ∧ SE .u8 32 w_ (.slice A1 m1.length C1) (nnd m1) ∧ SE .u8 32 w_ (.slice A2 m2.length C2) (nnd m2) ∧ Blk .u32 w_ w.heap.size 26 (nn tab) ∧ Blk .u8 w_ w1.heap.size 37 (nn (List.replicate 32 0)) ∧ w2.heap.size ≤ w_.heap.size) (fun w_ => Bl w.heap.size w w_ ∧ SE .u8 32 w_ (.slice vA es.length vC) (nnd es) ∧ SE .u8 32 w_ (.slice A1 m1.length C1) (nnd m1) ∧ SE .u8 32 w_ (.slice A2 m2.length C2) (nnd m2) ∧ Blk .u32 w_ w.heap.size 26 (nn tab) ∧ Blk .u8 w_ w1.heap.size 37 (nn (List.replicate 32 0)) ∧ w2.heap.size ≤ w_.heap.size) 12 13 ⟨BL.e0 e1, D.e0 e1, D1.e0 e1, D2.e0 e1, b2.e0 e1, b4.e0 e1, Nat.le_refl _⟩ ?_
    clear BL D D1 D2 b2 b4
    clear e1
    intro w4
    rintro ⟨BL, D, D1, D2, b2, b4, z1⟩
    refine zv 0 15 (.agg (cellsOf .u32 (nn tab))) (fun _ ⟨BL, D, D1, D2, b2, b4, z1⟩ => Val.blk 26 _ rfl 0 72 (by kernel_rfl) b2 _ Try.underlying26 rfl (by kernel_rfl) (by (try simp only [nn_len, List.length_cons, List.length_nil, List.length_set, List.length_replicate]); try omega) _ (seg_all' _ (by (try simp only [nn_len, List.length_cons, List.length_nil, List.length_set, List.length_replicate]); try omega))) ⟨BL, D, D1, D2, b2, b4, by omega⟩ ?_
    simp only [List.set_cons_zero, List.set_cons_succ]
    refine zv 1 16 (.agg (cellsOf .u32 (nn tab))) (fun _ ⟨BL, D, D1, D2, b2, b4, z1⟩ => Val.blk 26 _ rfl 0 72 (by kernel_rfl) b2 _ Try.underlying26 rfl (by kernel_rfl) (by (try simp only [nn_len, List.length_cons, List.length_nil, List.length_set, List.length_replicate]); try omega) _ (seg_all' _ (by (try simp only [nn_len, List.length_cons, List.length_nil, List.length_set, List.length_replicate]); try omega))) ⟨BL, D, D1, D2, b2, b4, by omega⟩ ?_
    simp only [List.set_cons_zero, List.set_cons_succ]
    refine zv 2 17 (.slice vA es.length vC) (fun _ _ => .of) ⟨BL, D, D1, D2, b2, b4, by omega⟩ ?_
    simp only [List.set_cons_zero, List.set_cons_succ]
    refine zv 3 18 (.int .i64 ((q : Nat) : Int)) (fun _ _ => .of) ⟨BL, D, D1, D2, b2, b4, by omega⟩ ?_
    simp only [List.set_cons_zero, List.set_cons_succ]
    refine zv 4 19 (.slice A1 m1.length C1) (fun _ ⟨BL, D, D1, D2, b2, b4, z1⟩ => Val.as (Val.slcE 63 (.tmp 17) none (some (.tmp 18)) rfl (.slice vA es.length vC) (by kernel_rfl) D 0 q (.inr ⟨rfl, rfl⟩) (.inl (by kernel_rfl)) (Nat.zero_le _) (by rw [nnd_len]; omega) Try.underlying63 (by kernel_rfl)) hk1) ⟨BL, D, D1, D2, b2, b4, by omega⟩ ?_
    simp only [List.set_cons_zero, List.set_cons_succ]
    refine zv 6 21 (.agg (cellsOf .u32 (nn tab))) (fun _ ⟨BL, D, D1, D2, b2, b4, z1⟩ => Val.blk 26 _ rfl 0 72 (by kernel_rfl) b2 _ Try.underlying26 rfl (by kernel_rfl) (by (try simp only [nn_len, List.length_cons, List.length_nil, List.length_set, List.length_replicate]); try omega) _ (seg_all' _ (by (try simp only [nn_len, List.length_cons, List.length_nil, List.length_set, List.length_replicate]); try omega))) ⟨BL, D, D1, D2, b2, b4, by omega⟩ ?_
    simp only [List.set_cons_zero, List.set_cons_succ]
    refine zv 7 22 (.slice vA es.length vC) (fun _ _ => .of) ⟨BL, D, D1, D2, b2, b4, by omega⟩ ?_
    simp only [List.set_cons_zero, List.set_cons_succ]
    refine zv 8 23 (.int .i64 ((q : Nat) : Int)) (fun _ _ => .of) ⟨BL, D, D1, D2, b2, b4, by omega⟩ ?_
    simp only [List.set_cons_zero, List.set_cons_succ]
    refine zv 9 24 (.slice A2 m2.length C2) (fun _ ⟨BL, D, D1, D2, b2, b4, z1⟩ => Val.as (Val.slcE 63 (.tmp 22) (some (.tmp 23)) none rfl (.slice vA es.length vC) (by kernel_rfl) D q es.length (.inl (by kernel_rfl)) (.inr ⟨rfl, (nnd_len _).symm⟩) (by omega) (by rw [nnd_len]; omega) Try.underlying63 (by kernel_rfl)) hk2) ⟨BL, D, D1, D2, b2, b4, by omega⟩ ?_
    simp only [List.set_cons_zero, List.set_cons_succ]
    refine zo1 5 rfl ?_
    refine xCall 20 100 #[.agg (cellsOf .u32 (nn tab)), .slice A1 m1.length C1] (by kernel_rfl) ?_
    refine (ih h0 w4 _ m1 D1 h132 hb1_ (by omega)).mono ?_
    rintro en w5 ⟨rfl, hb1⟩
    have e2 := belE0 hb1
    have ze2 := e2.size
    replace BL := BL.e0 e2
    replace D := D.e0 e2
    replace D1 := D1.e0 e2
    replace D2 := D2.e0 e2
    replace b2 := b2.e0 e2
    replace b4 := b4.e0 e2
    clear e2
    refine ⟨.agg (cellsOf .u8 (nn (mroot tab (h - 1) m1))), rfl, ?_⟩
    refine ze 5 ⟨BL, D, D1, D2, b2, b4, by omega⟩ ?_
    simp only [List.set_cons_zero, List.set_cons_succ]
    refine zo1 10 rfl ?_
    refine xCall 25 100 #[.agg (cellsOf .u32 (nn tab)), .slice A2 m2.length C2] (by kernel_rfl) ?_
    refine (ih h0 w5 _ m2 D2 h232 hb2_ (by omega)).mono ?_
    rintro en w6 ⟨rfl, hb1⟩
    have e3 := belE0 hb1
    have ze3 := e3.size
    replace BL := BL.e0 e3
    replace D := D.e0 e3
    replace D1 := D1.e0 e3
    replace D2 := D2.e0 e3
    replace b2 := b2.e0 e3
    replace b4 := b4.e0 e3
    clear e3
    refine ⟨.agg (cellsOf .u8 (nn (mroot tab (h - 1) m2))), rfl, ?_⟩
    refine ze 10 ⟨BL, D, D1, D2, b2, b4, by omega⟩ ?_
    simp only [List.set_cons_zero, List.set_cons_succ]
    refine zo1 11 rfl ?_
    refine xCall 26 55 #[.agg (cellsOf .u32 (nn tab)), .agg (cellsOf .u8 (nn (mroot tab (h - 1) m1))), .agg (cellsOf .u8 (nn (mroot tab (h - 1) m2)))] (by kernel_rfl) ?_
    refine (r10node_any tab ht h32 w6 (mroot tab (h - 1) m1) (mroot tab (h - 1) m2) hl1 hl2 (mroot_b tab (h - 1) m1 (by omega) hb1_) (mroot_b tab (h - 1) m2 (by omega) hb2_)).mono ?_
    rintro en w7 ⟨rfl, hb1⟩
    have e4 := belE0 hb1
    have ze4 := e4.size
    replace BL := BL.e0 e4
    replace D := D.e0 e4
    replace D1 := D1.e0 e4
    replace D2 := D2.e0 e4
    replace b2 := b2.e0 e4
    replace b4 := b4.e0 e4
    clear e4
    refine ⟨.agg (cellsOf .u8 (nn (mnode tab (mroot tab (h - 1) m1) (mroot tab (h - 1) m2)))), rfl, ?_⟩
    refine ze 11 ⟨BL, D, D1, D2, b2, b4, by omega⟩ ?_
    simp only [List.set_cons_zero, List.set_cons_succ]
    refine zo1 12 rfl ?_
    refine xStoreA 37 (.tmp 4) (.tmp 26) rfl .u8 w1.heap.size 37 (nn (List.replicate 32 0)) 0 (nn (mnode tab (mroot tab (h - 1) m1) (mroot tab (h - 1) m2))) (by kernel_rfl) (by kernel_rfl) b4 (by rw [show (nn (mnode tab (mroot tab (h - 1) m1) (mroot tab (h - 1) m2))).length = 32 by ((try simp only [nn_len, List.length_cons, List.length_nil, List.length_set, List.length_replicate]); try omega)]; kernel_rfl) (by (try simp only [nn_len, List.length_cons, List.length_nil, List.length_set, List.length_replicate]); try omega) (nn (mnode tab (mroot tab (h - 1) m1) (mroot tab (h - 1) m2))) (over_whole _ _ (by (try simp only [nn_len, List.length_cons, List.length_nil, List.length_set, List.length_replicate]); try omega)) ?_
    intro w8 t2
    have zt2 := t2.z
    have BL_ := BL.ev t2.e (fun i h => show w.heap.size ≤ i by have h : i = w1.heap.size := h; omega)
    have D_ := D.ev t2.e (fun i hi => show ¬ (i = w1.heap.size) by have := hvl i hi; omega)
    have D1_ := D1.ev t2.e (fun i hi => show ¬ (i = w1.heap.size) by have := hvl1 i hi; omega)
    have D2_ := D2.ev t2.e (fun i hi => show ¬ (i = w1.heap.size) by have := hvl2 i hi; omega)
    have b2_ := b2.ev t2.e (show ¬ (w.heap.size = w1.heap.size) by omega)
    replace BL := BL_; clear BL_
    replace D := D_; clear D_
    replace D1 := D1_; clear D1_
    replace D2 := D2_; clear D2_
    replace b2 := b2_; clear b2_
    replace b4 : Blk .u8 w8 w1.heap.size 37 (nn (mnode tab (mroot tab (h - 1) m1) (mroot tab (h - 1) m2))) := t2.c
    clear t2
    refine zz 12 ?_
    refine zd (by kernel_rfl) ?_ _
    refine hK6 _ _ ?_
    refine wp_ret ?_
    (try simp only [Exit.then, Exit.inBlock])
    refine bodyPost_ret (rC rfl _ w1.heap.size _ _ (by kernel_rfl) b4.cel _ Try.underlying37 rfl (by rw [List.length_map, show (nn (mnode tab (mroot tab (h - 1) m1) (mroot tab (h - 1) m2))).length = 32 by ((try simp only [nn_len, List.length_cons, List.length_nil, List.length_set, List.length_replicate]); try omega)]; kernel_rfl)) rfl ?_
    rw [htwo]
    exact ⟨rfl, BL.b⟩

theorem r10root_any (tab : List Nat) (ht : tab.length = 72) (h32 : ∀ x ∈ tab, x < 4294967296) : ∀ (h : Nat), h ≤ 8 → ∀ (w : World) (v : Value) (es : List (List Nat)), SE .u8 32 w v (nnd es) → (∀ d ∈ es, d.length = 32) → B8 es → es.length = 2 ^ h →
      Calls Try.prog 100 #[.agg (cellsOf .u32 (nn tab)), v] w fun e w' => e = .returned (.agg (cellsOf .u8 (nn (mroot tab h es)))) ∧ Below w.heap.size w w'
  | 0, hh, w, v, es, D, hes, hb, hn => r10root_step tab ht h32 w v es D hes hb 0 hh hn (fun h => absurd h (Nat.lt_irrefl 0))
  | h + 1, hh, w, v, es, D, hes, hb, hn => r10root_step tab ht h32 w v es D hes hb (h + 1) hh hn (fun _ => r10root_any tab ht h32 h (by omega))
end Go.Proofs.Yteaijjefbadnbaa
