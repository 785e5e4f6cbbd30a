/-
  bytes.Blob, mac.Text, mac.Tagged, law03.few, low.CopyLists of parts that come in.
-/
import Derived.Test.YteaijjefbadnbaaSlxL
import Derived.Test.YteaijjefbadnbaaMacW
import Derived.Test.YteaijjefbadnbaaCopyB
namespace Go.Proofs.Yteaijjefbadnbaa
open Go.RowKit
set_option linter.unusedVariables false
set_option linter.unusedSimpArgs false
set_option maxRecDepth 100000
attribute [local irreducible] wpList Code.wp wpAnyZ
theorem info_xsl8 : (Try.prog.info? 30).map (fun i => (i.zero, i.size, i.bytes)) = some (some (.slice none 0 0), 1, 24) := by kernel_rfl
theorem getD_memI {ys : List (List Int)} {k : Nat} (h : k < ys.length) : ys.getD k [] ∈ ys := by rw [List.getD_eq_getElem?_getD, List.getElem?_eq_getElem h]; exact List.getElem_mem h
theorem take_snoc {ys : List (List Int)} {k : Nat} (h : k < ys.length) : ys.take (k + 1) = ys.take k ++ [ys.getD k []] := by rw [List.take_add_one, List.getD_eq_getElem?_getD, List.getElem?_eq_getElem h]; rfl
abbrev LowX (base : Nat) (w : World) (u : Value) (y : List Int) : Prop := (SL .u8 w u y ∧ ∀ g, u.ownBlock = some g → g < base) ∨ ((∃ a, u = .slice (some a) 0 0) ∧ y = [])
theorem SLxs.low {B base : Nat} {w : World} {us : List Value} {ys : List (List Int)} (h : SLxs B w us ys) (hB : B ≤ base) (j : Nat) (hj : j < ys.length) : LowX base w (us.getD j undef) (ys.getD j []) :=
  (h.2 j (by rw [h.1]; exact hj)).imp (fun k => ⟨k.1, fun g hg => Nat.lt_of_lt_of_le (k.2 g hg) hB⟩) id

set_option maxHeartbeats 4000000 in
theorem blob_weird (base : Nat) (v : Value) (xs : List Int) (ax : Addr) (w : World) (OA : Own 5 .u8 base w v xs) (hb : base ≤ w.heap.size) (hl : xs.length ≤ 140737488350000) :
    Calls Try.prog 92 #[v, .slice (some ax) 0 0] w (AppPost 5 .u8 w base (xs ++ blobB [])) := by
  have BL : Bl base w w := ⟨Below.refl _ _, hb⟩
  have lOA_1 := OA.ge
  go_enter Try.func92, Try.ntmps92
  refine wp_seq_k fun K1 hK1 => ?_
  refine cPlain ?_
  refine sv 4 (.slice none 0 0) .of ?_
  simp only [List.set_cons_zero, List.set_cons_succ]
  refine wpList_nil ?_
  refine hK1 _ _ ?_
  refine wp_seq_k fun K2 hK2 => ?_
  refine cPlain ?_
  refine sv 5 (v) .of ?_
  simp only [List.set_cons_zero, List.set_cons_succ]
  refine sv 6 (.slice (some ax) 0 0) .of ?_
  simp only [List.set_cons_zero, List.set_cons_succ]
  refine sv 7 (.int .i64 (0 : Int)) .of ?_
  simp only [List.set_cons_zero, List.set_cons_succ]
  refine sv 8 (.int .u64 ((0 : Nat) : Int)) (Val.asN (Val.convN 3 109 (.tmp 7) rfl .u64 0 18446744073709551616 Try.underlying3 Try.underlying109 (by kernel_rfl)) (by omega)) ?_
  simp only [List.set_cons_zero, List.set_cons_succ]
  refine xCall 9 91 #[v, .int .u64 ((0 : Nat) : Int)] (by kernel_rfl) ?_
  refine (uint_any base v xs 0 w (by omega) OA (by omega) (by omega)).mono ?_
  rintro en w1 ⟨u, rfl, hO, hb1⟩
  have e1 := belEv hb1
  have ze1 := e1.size
  have BL_ := BL.ev e1 (fun i h => show base ≤ i by have h : base ≤ i := h; omega)
  replace BL := BL_; clear BL_
  clear e1
  have U : Own 5 .u8 base w1 u (xs ++ uintB 0) := hO
  have lU_1 := U.ge
  refine ⟨u, rfl, ?_⟩
  simp only [List.set_cons_zero, List.set_cons_succ]
  refine sv 0 (u) .of ?_
  simp only [List.set_cons_zero, List.set_cons_succ]
  refine wpList_nil ?_
  refine hK2 _ _ ?_
  refine wp_seq_k fun K3 hK3 => ?_
  refine cPlain ?_
  refine sv 10 (u) .of ?_
  simp only [List.set_cons_zero, List.set_cons_succ]
  refine sv 11 (.slice (some ax) 0 0) .of ?_
  simp only [List.set_cons_zero, List.set_cons_succ]
  refine xApp0 12 (.tmp 10) (.tmp 11) 30 5 .u8 1 rfl Try.underlying30 (by kernel_rfl) base _ _ (by kernel_rfl) U ax (by kernel_rfl) ?_
  simp only [List.set_cons_zero, List.set_cons_succ]
  refine sv 4 (u) .of ?_
  simp only [List.set_cons_zero, List.set_cons_succ]
  refine wpList_nil ?_
  refine hK3 _ _ ?_
  refine wp_ret ?_
  (try simp only [Exit.then, Exit.inBlock])
  refine bodyPost_ret (v := u) rT rfl ?_
  exact ⟨_, rfl, U.cast (by simp [blobB]), BL.b⟩

theorem blobx_any (base : Nat) (v u : Value) (xs ys : List Int) (w : World) (hown : Own 5 .u8 base w v xs) (hu : LowX base w u ys) (hb : base ≤ w.heap.size) (hl : xs.length + ys.length ≤ 140737488350000) :
    Calls Try.prog 92 #[v, u] w (AppPost 5 .u8 w base (xs ++ blobB ys)) := by
  rcases hu with ⟨h, hl2⟩ | ⟨⟨a, rfl⟩, rfl⟩
  · exact blob_any base v u xs ys w hown h hl2 hb (by omega)
  · exact blob_weird base v xs a w hown hb (by simpa using hl)
set_option maxHeartbeats 4000000 in
theorem mactextx_any (tag : Int) (v : Value) (us : List Value) (ys : List (List Int)) (w : World) (HV : SV w v us) (B : Nat) (hB : B ≤ w.heap.size) (HY : SLxs B w us ys) (hl : (blobsB ys).length ≤ 140000000000000) (hy1 : ∀ y ∈ ys, y.length ≤ 1000000000) :
    Calls Try.prog 29 #[.int .u8 tag, v] w (AppPost 5 .u8 w w.heap.size (textB tag ys)) := by
  have BL := Bl.refl w
  have hul := HY.1
  obtain ⟨A, C, rfl, hvm⟩ := HV.len
  rw [hul] at HV hvm ⊢
  have hvl := SVx.lt HV
  unfold maxLen at hvm
  go_enter Try.func29, Try.ntmps29
  refine wp_seq_k fun K1 hK1 => ?_
  refine cPlain ?_
  refine sv 4 (.slice none 0 0) .of ?_
  simp only [List.set_cons_zero, List.set_cons_succ]
  refine wpList_nil ?_
  refine hK1 _ _ ?_
  refine wp_seq_k fun K2 hK2 => ?_
  refine cPlain ?_
  refine sv 8 (.int .u8 tag) .of ?_
  simp only [List.set_cons_zero, List.set_cons_succ]
  refine xLit 9 30 5 2 _ #[(0, .int .u8 75), (1, .int .u8 tag)] [.int .u8 75, .int .u8 tag] rfl (by kernel_rfl) (by kernel_rfl) ?_
  intro w1 n1
  have zn1 := n1.z
  have b9 : Own 5 .u8 w.heap.size w1 (.slice (some ⟨w.heap.size, 0, none⟩) 2 2) [75, tag] := Own.ofNw (xs := [75, tag]) n1 (Nat.le_refl _) (by simp [maxLen])
  replace BL := BL.e0 n1.e
  have HV : SV w1 (.slice A ys.length C) us := SVx.evB HV n1.e w.heap.size hvl (fun i hi => hi.elim)
  have HY : SLxs B w1 us ys := SLxs.e0 HY n1.e
  have lb9_1 := b9.ge
  simp only [List.set_cons_zero, List.set_cons_succ]
  refine sv 10 (.slice A ys.length C) .of ?_
  simp only [List.set_cons_zero, List.set_cons_succ]
  refine sv 11 (.int .i64 ((ys.length : Nat) : Int)) .of ?_
  simp only [List.set_cons_zero, List.set_cons_succ]
  refine sv 12 (.int .u64 ((ys.length : Nat) : Int)) (Val.asN (Val.convN 3 109 (.tmp 11) rfl .u64 ys.length 18446744073709551616 Try.underlying3 Try.underlying109 (by kernel_rfl)) (by omega)) ?_
  simp only [List.set_cons_zero, List.set_cons_succ]
  refine xCall 13 91 #[.slice (some ⟨w.heap.size, 0, none⟩) 2 2, .int .u64 ((ys.length : Nat) : Int)] (by kernel_rfl) ?_
  refine (uint_any w.heap.size _ [75, tag] ys.length w1 (by omega) b9 (by omega) (by simp)).mono ?_
  rintro en w2 ⟨u0, rfl, hO, hb1⟩
  have e1 := belEv hb1
  have ze1 := e1.size
  have BL_ := BL.ev e1 (fun i h => show w.heap.size ≤ i by have h : w.heap.size ≤ i := h; omega)
  have HV : SV w2 (.slice A ys.length C) us := SVx.evB HV e1 w.heap.size hvl (fun i hi => hi)
  have HY : SLxs B w2 us ys := SLxs.ev HY e1 (fun i hi => Nat.le_trans hB hi)
  replace BL := BL_; clear BL_
  clear e1
  have O : Own 5 .u8 w.heap.size w2 u0 ([75, tag] ++ uintB ys.length) := hO
  have lO_1 := O.ge
  refine ⟨u0, rfl, ?_⟩
  simp only [List.set_cons_zero, List.set_cons_succ]
  refine sv 5 (u0) .of ?_
  simp only [List.set_cons_zero, List.set_cons_succ]
  refine wpList_nil ?_
  refine hK2 _ _ ?_
  refine wp_seq_k fun K3 hK3 => ?_
  refine wp_seq_k fun K4 hK4 => ?_
  refine cPlain ?_
  refine sv 14 (.slice A ys.length C) .of ?_
  simp only [List.set_cons_zero, List.set_cons_succ]
  refine sv 15 (.int .i64 ((ys.length : Nat) : Int)) .of ?_
  simp only [List.set_cons_zero, List.set_cons_succ]
  refine sv 16 (.int .i64 0) .of ?_
  simp only [List.set_cons_zero, List.set_cons_succ]
  refine wpList_nil ?_
  refine hK4 _ _ ?_
  refine wp_block ?_
  refine cLoop (fun N_ A_ w_ => ∃ (k : Nat) (u : Value), (N_ = ys.length - k ∧ (k ≤ ys.length) ∧ (∃ s1 : Nat → Value, A_ = ⟨[.int .u8 tag, .slice A ys.length C, undef, undef, .slice none 0 0, u, undef, (s1 7), .int .u8 tag, .slice (some ⟨w.heap.size, 0, none⟩) 2 2, .slice A ys.length C, .int .i64 ((ys.length : Nat) : Int), .int .u64 ((ys.length : Nat) : Int), u0, .slice A ys.length C, .int .i64 ((ys.length : Nat) : Int), .int .i64 ((k : Nat) : Int), (s1 17), (s1 18), (s1 19), (s1 20), (s1 21), (s1 22), (s1 23), undef].toArray, []⟩) ∧ Bl w.heap.size w w_ ∧ SV w_ (.slice A ys.length C) us ∧ SLxs B w_ us ys ∧ Own 5 .u8 w.heap.size w_ u ([75, tag] ++ uintB ys.length ++ blobsB (ys.take k)) ∧ w2.heap.size ≤ w_.heap.size)) _ ⟨0, u0, rfl, (Nat.zero_le _), cutE, BL, HV, HY, (O.cast (by rw [List.take_zero]; simp [blobsB])), Nat.le_refl _⟩ ?_
  clear BL HV HY O
  rintro n_ a_ wl0 ⟨k, u, rfl, hc0_0, ⟨s1, rfl⟩, BL, HV, HY, O, zl0⟩
  have lO_2 := O.ge
  refine wp_seq_k fun K5 hK5 => ?_
  refine cPlain ?_
  refine sv 17 (.bool (decide (((k : Nat) : Int) < ((ys.length : Nat) : Int)))) (Val.cmp .lss 3 _ (.tmp 16) (.tmp 15) rfl .i64 ((k : Nat) : Int) ((ys.length : Nat) : Int) (by kernel_rfl) (by kernel_rfl) (by simp) _ rfl) ?_
  simp only [List.set_cons_zero, List.set_cons_succ]
  refine wpList_nil ?_
  refine hK5 _ _ ?_
  refine wp_seq_k fun K6 hK6 => ?_
  refine cDec (((k : Nat) : Int) < ((ys.length : Nat) : Int)) (by kernel_rfl) (fun c17 => ?_) (fun c17 => ?_)
  · skip
    refine wp_skip ?_
    refine hK6 _ _ ?_
    refine wp_seq_k fun K7 hK7 => ?_
    refine wp_block ?_
    refine wp_seq_k fun K8 hK8 => ?_
    refine cPlain ?_
    refine sv 18 (elemP (.slice A ys.length C) k) (Val.idxV 124 (.tmp 14) (.tmp 16) rfl (.slice A ys.length C) k (by kernel_rfl) (by kernel_rfl) HV Try.underlying124 (by kernel_rfl) (by omega)) ?_
    simp only [List.set_cons_zero, List.set_cons_succ]
    refine sv 19 (us.getD k undef) (Val.ldV 30 _ rfl (.slice A ys.length C) k (by kernel_rfl) (fun _ => by kernel_rfl) HV (by omega)) ?_
    simp only [List.set_cons_zero, List.set_cons_succ]
    refine sv 7 (us.getD k undef) .of ?_
    simp only [List.set_cons_zero, List.set_cons_succ]
    refine wpList_nil ?_
    refine hK8 _ _ ?_
    refine cPlain ?_
    refine sv 20 (u) .of ?_
    simp only [List.set_cons_zero, List.set_cons_succ]
    refine sv 21 (us.getD k undef) .of ?_
    simp only [List.set_cons_zero, List.set_cons_succ]
    refine xCall 22 92 #[u, us.getD k undef] (by kernel_rfl) ?_
    refine (blobx_any w.heap.size u (us.getD k undef) ([75, tag] ++ uintB ys.length ++ blobsB (ys.take k)) (ys.getD k []) wl0 O (HY.low hB k (by omega)) (by omega) (by have h1 := blobsB_take_le ys k; have h2 := ndig_le 9 ys.length; have h3 := hy1 _ (getD_memI (show k < ys.length by omega)); simp only [List.length_append, uintB_length, List.length_cons, List.length_nil]; omega)).mono ?_
    rintro en w3 ⟨u2, rfl, hO, hb1⟩
    have e2 := belEv hb1
    have ze2 := e2.size
    have BL_ := BL.ev e2 (fun i h => show w.heap.size ≤ i by have h : w.heap.size ≤ i := h; omega)
    have HV : SV w3 (.slice A ys.length C) us := SVx.evB HV e2 w.heap.size hvl (fun i hi => hi)
    have HY : SLxs B w3 us ys := SLxs.ev HY e2 (fun i hi => Nat.le_trans hB hi)
    replace BL := BL_; clear BL_
    clear e2
    have O : Own 5 .u8 w.heap.size w3 u2 ([75, tag] ++ uintB ys.length ++ blobsB (ys.take k) ++ blobB (ys.getD k [])) := hO
    have lO_3 := O.ge
    refine ⟨u2, rfl, ?_⟩
    simp only [List.set_cons_zero, List.set_cons_succ]
    refine sv 5 (u2) .of ?_
    simp only [List.set_cons_zero, List.set_cons_succ]
    refine wpList_nil ?_
    refine hK7 _ _ ?_
    refine cPlain ?_
    refine sv 23 (.int .i64 (((k : Nat) : Int) + 1)) (Val.add 3 _ (.tmp 16) _ rfl ((k : Nat) : Int) 1 (by kernel_rfl) (by kernel_rfl) (by omega)) ?_
    simp only [List.set_cons_zero, List.set_cons_succ]
    refine sv 16 (.int .i64 (((k : Nat) : Int) + 1)) .of ?_
    simp only [List.set_cons_zero, List.set_cons_succ]
    refine wpList_nil ?_
    refine ⟨_, ?_, k + 1, u2, rfl, (by omega), cutE, BL, HV, HY, (O.cast (by rw [blobsB_step ys k (by omega)]; simp only [List.append_assoc])), by omega⟩
    omega
  · skip
    have hfin : ys.take k = ys := by rw [show k = ys.length by omega, List.take_length]
    refine wp_exit ?_
    simp only [Exit.then, Exit.inBlock, ↓reduceIte, Nat.reduceEqDiff]
    refine hK3 _ _ ?_
    refine wp_seq_k fun K9 hK9 => ?_
    refine cPlain ?_
    refine sv 24 (u) .of ?_
    simp only [List.set_cons_zero, List.set_cons_succ]
    refine sv 4 (u) .of ?_
    simp only [List.set_cons_zero, List.set_cons_succ]
    refine wpList_nil ?_
    refine hK9 _ _ ?_
    refine wp_ret ?_
    (try simp only [Exit.then, Exit.inBlock])
    refine bodyPost_ret (v := u) rT rfl ?_
    exact ⟨_, rfl, O.cast (by rw [hfin]; rfl), BL.b⟩

set_option maxHeartbeats 4000000 in
theorem taggedx_any (T : Nat) (tab : List Nat) (ht : tab.length = 72) (w : World) (TB : Blk .u32 w T 26 (nn tab)) (tag : Nat) (v : Value) (us : List Value) (ps : List (List Nat)) (B : Nat) (hB : B ≤ w.heap.size) (HV : SV w v us) (HY : SLxs B w us (ps.map nn)) (hl : (blobsB (ps.map nn)).length ≤ 1000000000000) (hp : ∀ p ∈ ps, p.length ≤ 1000000000) (hn : ps.length ≤ 1000000000) :
    Calls Try.prog 27 #[.pointer (some ⟨T, 0, none⟩), .int .u8 ((tag : Nat) : Int), v] w fun e w' => e = .returned (.agg (cellsOf .u8 (nn (taggedN tab tag ps)))) ∧ Below w.heap.size w w' := by
  have BL := Bl.refl w
  have hT := TB.lt
  have hol := ofN_32 tab (textN tag ps)
  have htl : (textN tag ps).length ≤ 1000000000100 := by
    have h3 := ndig_le 9 (ps.map nn).length
    rw [← nn_len, textN_nn, textB, List.length_append, List.length_append, uintB_length]
    simp only [List.length_cons, List.length_nil]
    omega
  have hp' : ∀ y ∈ ps.map nn, y.length ≤ 1000000000 := fun y hy => by obtain ⟨p, hpm, rfl⟩ := List.mem_map.1 hy; rw [nn_len]; exact hp p hpm
  unfold taggedN
  go_enter Try.func27, Try.ntmps27
  refine wp_seq_k fun K1 hK1 => ?_
  refine cPlain ?_
  refine xAlloc 6 37 ((nn (List.replicate 32 0)).map (Value.int .u8)) rfl (by kernel_rfl) ?_
  intro w1 n1
  have zn1 := n1.z
  have b6 := n1.c
  replace b6 : Blk .u8 w1 w.heap.size 37 (nn (List.replicate 32 0)) := b6
  replace BL := BL.e0 n1.e
  replace TB := TB.e0 n1.e
  have HV : SV w1 v us := SV.e0 HV n1.e
  have HY : SLxs B w1 us (ps.map nn) := SLxs.e0 HY n1.e
  simp only [List.set_cons_zero, List.set_cons_succ]
  refine wpList_nil ?_
  refine hK1 _ _ ?_
  refine wp_seq_k fun K2 hK2 => ?_
  refine cPlain ?_
  refine sv 7 (.pointer (some ⟨T, 0, none⟩)) .of ?_
  simp only [List.set_cons_zero, List.set_cons_succ]
  refine sv 8 (.int .u8 ((tag : Nat) : Int)) .of ?_
  simp only [List.set_cons_zero, List.set_cons_succ]
  refine sv 9 (v) .of ?_
  simp only [List.set_cons_zero, List.set_cons_succ]
  refine xCall 10 29 #[.int .u8 ((tag : Nat) : Int), v] (by kernel_rfl) ?_
  refine (mactextx_any ((tag : Nat) : Int) v us (ps.map nn) w1 HV B (by omega) HY (by omega) hp').mono ?_
  rintro en w2 ⟨u, rfl, hO, hb1⟩
  rw [← textN_nn] at hO
  have e1 := belE0 hb1
  have ze1 := e1.size
  replace BL := BL.e0 e1
  replace TB := TB.e0 e1
  replace b6 := b6.e0 e1
  clear e1
  have U : Own 5 .u8 w1.heap.size w2 u (nn (textN tag ps)) := hO
  have lU_1 := U.ge
  refine ⟨u, rfl, ?_⟩
  simp only [List.set_cons_zero, List.set_cons_succ]
  refine xCall 11 20 #[.pointer (some ⟨T, 0, none⟩), u] (by kernel_rfl) ?_
  refine (of_any T tab (textN tag ps) u ht w2 TB U.sl (by omega)).mono ?_
  rintro en w3 ⟨rfl, hb1⟩
  have e2 := belE0 hb1
  have ze2 := e2.size
  replace BL := BL.e0 e2
  replace TB := TB.e0 e2
  replace b6 := b6.e0 e2
  replace U := U.e0 e2
  clear e2
  refine ⟨.agg (cellsOf .u8 (nn (ofN tab (textN tag ps)))), rfl, ?_⟩
  simp only [List.set_cons_zero, List.set_cons_succ]
  refine xStoreA 37 (.tmp 6) (.tmp 11) rfl .u8 w.heap.size 37 (nn (List.replicate 32 0)) 0 (nn (ofN tab (textN tag ps))) (by kernel_rfl) (by kernel_rfl) b6 (by rw [show (nn (ofN tab (textN tag ps))).length = 32 by ((try simp only [nn_len, List.length_cons, List.length_nil, List.length_set, List.length_replicate]); try omega)]; kernel_rfl) (by (try simp only [nn_len, List.length_cons, List.length_nil, List.length_set, List.length_replicate]); try omega) (nn (ofN tab (textN tag ps))) (over_whole _ _ (by (try simp only [nn_len, List.length_cons, List.length_nil, List.length_set, List.length_replicate]); try omega)) ?_
  intro w4 t1
  have zt1 := t1.z
  have BL_ := BL.ev t1.e (fun i h => show w.heap.size ≤ i by have h : i = w.heap.size := h; omega)
  have TB_ := TB.ev t1.e (show ¬ (T = w.heap.size) by omega)
  have U_ := U.ev t1.e (fun i hi => show ¬ (i = w.heap.size) by have := lU_1 i hi; omega)
  replace BL := BL_; clear BL_
  replace TB := TB_; clear TB_
  replace U := U_; clear U_
  replace b6 : Blk .u8 w4 w.heap.size 37 (nn (ofN tab (textN tag ps))) := t1.c
  clear t1
  refine wpList_nil ?_
  refine hK2 _ _ ?_
  refine wp_ret ?_
  (try simp only [Exit.then, Exit.inBlock])
  refine bodyPost_ret (rC rfl _ w.heap.size _ _ (by kernel_rfl) b6.cel _ Try.underlying37 rfl (by rw [List.length_map, show (nn (ofN tab (textN tag ps))).length = 32 by ((try simp only [nn_len, List.length_cons, List.length_nil, List.length_set, List.length_replicate]); try omega)]; kernel_rfl)) rfl ?_
  exact ⟨rfl, BL.b⟩

/-- The first parts that are not long. -/
def fewL (ys : List (List Int)) (k : Nat) : List (List Int) := (ys.take k).filter fun y => decide (y.length ≤ 100)
theorem fewL_yes {ys : List (List Int)} {k : Nat} (h : k < ys.length) (hl : (ys.getD k []).length ≤ 100) : fewL ys (k + 1) = fewL ys k ++ [ys.getD k []] := by
  rw [List.getD_eq_getElem?_getD, List.getElem?_eq_getElem h] at hl ⊢
  unfold fewL
  rw [List.take_add_one, List.getElem?_eq_getElem h, List.filter_append]
  congr 1
  simp only [Option.toList_some, List.filter_cons, List.filter_nil, Option.getD_some] at hl ⊢
  rw [if_pos (by simpa using hl)]
theorem fewL_no {ys : List (List Int)} {k : Nat} (h : k < ys.length) (hl : ¬ (ys.getD k []).length ≤ 100) : fewL ys (k + 1) = fewL ys k := by
  rw [List.getD_eq_getElem?_getD, List.getElem?_eq_getElem h] at hl
  unfold fewL
  rw [List.take_add_one, List.getElem?_eq_getElem h, List.filter_append]
  simp only [Option.toList_some, List.filter_cons, List.filter_nil, Option.getD_some] at hl ⊢
  rw [if_neg (by simpa using hl), List.append_nil]
theorem fewL_0 (ys : List (List Int)) : fewL ys 0 = [] := rfl
theorem fewL_len (ys : List (List Int)) (k : Nat) : (fewL ys k).length ≤ k := by unfold fewL; exact Nat.le_trans (List.length_filter_le _ _) (by rw [List.length_take]; omega)
attribute [local irreducible] fewL
end Go.Proofs.Yteaijjefbadnbaa
