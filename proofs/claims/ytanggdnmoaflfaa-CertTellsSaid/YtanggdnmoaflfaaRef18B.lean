/-
  ref18.Bytes, ref18.ListBytes.
-/
import Derived.Test.YtanggdnmoaflfaaRef18U
namespace Go.Proofs.Ytanggdnmoaflfaa
open Go.RowKit
set_option linter.unusedVariables false
set_option linter.unusedSimpArgs false
set_option maxRecDepth 100000
attribute [local irreducible] wpList Code.wp wpAnyZ
theorem certV_len {key height : Int} {root : List Int} (h : root.length = 32) : (certV key root height).length = 34 := by simp [certV, h]
theorem certV_seg {key height : Int} {root : List Int} (h : root.length = 32) : segV 0 34 (certV key root height) = certV key root height := by
  unfold segV; rw [List.drop_zero, List.take_of_length_le (by rw [certV_len h]; omega)]
theorem certV_at {key height : Int} {root : List Nat} (h : root.length = 32) {i : Nat} (hi : i < 32) : (certV key (nn root) height)[1 + i]? = some (.int .u8 ((root.getD i 0 : Nat) : Int)) := by
  unfold certV
  rw [Nat.add_comm, List.getElem?_cons_succ, List.getElem?_append_left (by rw [List.length_map, nn_len]; omega)]
  simp [nn, h, hi]

set_option maxHeartbeats 4000000 in
theorem r18bytes_no (key height : Int) (root : List Int) (hr : root.length = 32) (w : World) (hno : rightC key height = false) :
    Calls Try.prog 13 #[.agg (certV key root height).toArray] w fun e w' => e = .returned (.tuple #[.slice none 0 0, .int .i64 180]) ∧ Below w.heap.size w w' := by
  have BL := Bl.refl w
  go_enter Try.func13, Try.ntmps13
  refine wp_seq_k fun K1 hK1 => ?_
  refine cPlain ?_
  refine xBox 1 25 _ (certV key root height) rfl (by kernel_rfl) ?_
  intro w1 n1
  have zn1 := n1.z
  have b1 := n1.c
  replace BL := BL.e0 n1.e
  simp only [sZ, sS]
  refine sv 2 (.slice none 0 0) .of ?_
  simp only [sZ, sS]
  refine sv 3 (.int .i64 0) .of ?_
  simp only [sZ, sS]
  refine wpList_nil ?_
  refine hK1 _ _ ?_
  refine wp_seq_k fun K2 hK2 => ?_
  refine wp_seq_k fun K3 hK3 => ?_
  refine cPlain ?_
  refine sv 6 (.agg (certV key root height).toArray) (Val.cel 25 _ rfl 0 34 (by kernel_rfl) b1 _ Try.underlying25 rfl (by kernel_rfl) (by rw [certV_len hr]; omega) _ (certV_seg hr)) ?_
  simp only [sZ, sS]
  refine xCall 7 17 #[.agg (certV key root height).toArray] (by kernel_rfl) ?_
  refine (r18right_any key height root hr w1).mono ?_
  rintro en w2 ⟨he, hb1⟩
  rw [hno] at he
  subst he
  have e1 := belE0 hb1
  have ze1 := e1.size
  replace BL := BL.e0 e1
  replace b1 := b1.e0 e1
  clear e1
  refine ⟨.bool false, rfl, ?_⟩
  simp only [sZ, sS]
  refine sv 8 (.bool true) .of ?_
  simp only [sZ, sS]
  refine wpList_nil ?_
  refine hK3 _ _ ?_
  refine cT ?_
  refine wp_seq_k fun K4 hK4 => ?_
  refine cPlain ?_
  refine sv 2 (.slice none 0 0) .of ?_
  simp only [sZ, sS]
  refine sv 3 (.int .i64 180) .of ?_
  simp only [sZ, sS]
  refine wpList_nil ?_
  refine hK4 _ _ ?_
  refine wp_ret ?_
  (try simp only [Exit.then, Exit.inBlock])
  refine bodyPost_ret (v := .tuple #[.slice none 0 0, .int .i64 180]) rT rfl ?_
  exact ⟨rfl, BL.b⟩

set_option maxHeartbeats 4000000 in
theorem r18bytes_any (k h : Nat) (root : List Nat) (hr : root.length = 32) (w : World) (hok : rightC ((k : Nat) : Int) ((h : Nat) : Int) = true) (hk : k ≤ 1048576) (hh : h ≤ 8) :
    Calls Try.prog 13 #[.agg (certV ((k : Nat) : Int) (nn root) ((h : Nat) : Int)).toArray] w fun e w' => ∃ u, e = .returned (.tuple #[u, .int .i64 0]) ∧ Own 5 .u8 w.heap.size w' u (nn ([1] ++ numN (k : Int) ++ numN (h : Int) ++ root)) ∧ Below w.heap.size w w' := by
  have BL := Bl.refl w
  have hrn : (nn root).length = 32 := by rw [nn_len]; exact hr
  have hnk := numN_len (k : Int)
  have hnh := numN_len (h : Int)
  go_enter Try.func13, Try.ntmps13
  refine wp_seq_k fun K1 hK1 => ?_
  refine cPlain ?_
  refine xBox 1 25 _ (certV ((k : Nat) : Int) (nn root) ((h : Nat) : Int)) rfl (by kernel_rfl) ?_
  intro w1 n1
  have zn1 := n1.z
  have b1 := n1.c
  replace BL := BL.e0 n1.e
  simp only [sZ, sS]
  refine sv 2 (.slice none 0 0) .of ?_
  simp only [sZ, sS]
  refine sv 3 (.int .i64 0) .of ?_
  simp only [sZ, sS]
  refine wpList_nil ?_
  refine hK1 _ _ ?_
  refine wp_seq_k fun K2 hK2 => ?_
  refine wp_seq_k fun K3 hK3 => ?_
  refine cPlain ?_
  refine sv 6 (.agg (certV ((k : Nat) : Int) (nn root) ((h : Nat) : Int)).toArray) (Val.cel 25 _ rfl 0 34 (by kernel_rfl) b1 _ Try.underlying25 rfl (by kernel_rfl) (by rw [certV_len hrn]; omega) _ (certV_seg hrn)) ?_
  simp only [sZ, sS]
  refine xCall 7 17 #[.agg (certV ((k : Nat) : Int) (nn root) ((h : Nat) : Int)).toArray] (by kernel_rfl) ?_
  refine (r18right_any ((k : Nat) : Int) ((h : Nat) : Int) (nn root) hrn w1).mono ?_
  rintro en w2 ⟨he, hb1⟩
  rw [hok] at he
  subst he
  have e1 := belE0 hb1
  have ze1 := e1.size
  replace BL := BL.e0 e1
  replace b1 := b1.e0 e1
  clear e1
  refine ⟨.bool true, rfl, ?_⟩
  simp only [sZ, sS]
  refine sv 8 (.bool false) .of ?_
  simp only [sZ, sS]
  refine wpList_nil ?_
  refine hK3 _ _ ?_
  refine cF ?_
  refine wp_skip ?_
  refine hK2 _ _ ?_
  refine wp_seq_k fun K4 hK4 => ?_
  refine cPlain ?_
  refine xLit 9 29 5 1 _ #[(0, .int .u8 1)] [.int .u8 1] rfl (by kernel_rfl) (by kernel_rfl) ?_
  intro w3 n2
  have zn2 := n2.z
  have b9 := n2.c
  replace b9 : Blk .u8 w3 w2.heap.size 5 [1] := b9
  replace BL := BL.e0 n2.e
  replace b1 := b1.e0 n2.e
  have sb9 : SL .u8 w3 (.slice (some ⟨w2.heap.size, 0, none⟩) 1 1) [1] := SL.ofBlk b9 rfl (by unfold maxLen; omega)
  have lb9 : ∀ i, Value.ownBlock (.slice (some ⟨w2.heap.size, 0, none⟩) 1 1) = some i → w2.heap.size ≤ i ∧ i < w3.heap.size := ownB_lit (by omega)
  simp only [sZ, sS]
  refine sv 10 (.pointer (some ⟨w.heap.size, 0, none⟩)) .of ?_
  simp only [sZ, sS]
  refine sv 11 (.int .i64 ((k : Nat) : Int)) (Val.cel1 3 _ rfl w.heap.size 0 _ (by kernel_rfl) (fun _ => (by kernel_rfl)) b1 rfl) ?_
  simp only [sZ, sS]
  refine sv 12 (.int .u64 ((k : Nat) : Int)) (Val.asN (Val.convN 3 84 (.tmp 11) rfl .u64 k 18446744073709551616 Try.underlying3 Try.underlying84 (by kernel_rfl)) (Nat.mod_eq_of_lt (by omega))) ?_
  simp only [sZ, sS]
  refine xCall 13 49 #[.slice (some ⟨w2.heap.size, 0, none⟩) 1 1, .int .u64 ((k : Nat) : Int)] (by kernel_rfl) ?_
  refine (ruint_any _ [1] k (by omega) w3 sb9 (by simp)).mono ?_
  rintro en w4 ⟨u1, rfl, hO, hb1⟩
  have e2 := belE0 hb1
  have ze2 := e2.size
  replace BL := BL.e0 e2
  replace b1 := b1.e0 e2
  replace b9 := b9.e0 e2
  replace sb9 := sb9.e0 e2
  clear e2
  have U1 : Own 5 .u8 w3.heap.size w4 u1 (nn ([1] ++ numN (k : Int))) := hO
  have lU1_1 := U1.ge
  refine ⟨u1, rfl, ?_⟩
  simp only [sZ, sS]
  refine sv 4 (u1) .of ?_
  simp only [sZ, sS]
  refine wpList_nil ?_
  refine hK4 _ _ ?_
  refine wp_seq_k fun K5 hK5 => ?_
  refine cPlain ?_
  refine sv 14 (u1) .of ?_
  simp only [sZ, sS]
  refine sv 15 (.pointer (some ⟨w.heap.size, 33, none⟩)) .of ?_
  simp only [sZ, sS]
  refine sv 16 (.int .i64 ((h : Nat) : Int)) (Val.cel1 3 _ rfl w.heap.size 33 _ (by kernel_rfl) (fun _ => (by kernel_rfl)) b1 (certV_33 hrn)) ?_
  simp only [sZ, sS]
  refine sv 17 (.int .u64 ((h : Nat) : Int)) (Val.asN (Val.convN 3 84 (.tmp 16) rfl .u64 h 18446744073709551616 Try.underlying3 Try.underlying84 (by kernel_rfl)) (Nat.mod_eq_of_lt (by omega))) ?_
  simp only [sZ, sS]
  refine xCall 18 49 #[u1, .int .u64 ((h : Nat) : Int)] (by kernel_rfl) ?_
  refine (ruint_any u1 ([1] ++ numN (k : Int)) h (by omega) w4 U1.sl (by simp only [List.length_append, List.length_cons, List.length_nil]; omega)).mono ?_
  rintro en w5 ⟨u2, rfl, hO2, hb1⟩
  have e3 := belE0 hb1
  have ze3 := e3.size
  replace BL := BL.e0 e3
  replace b1 := b1.e0 e3
  replace b9 := b9.e0 e3
  replace sb9 := sb9.e0 e3
  replace U1 := U1.e0 e3
  clear e3
  have U2 : Own 5 .u8 w4.heap.size w5 u2 (nn ([1] ++ numN (k : Int) ++ numN (h : Int))) := hO2
  have lU2_1 := U2.ge
  refine ⟨u2, rfl, ?_⟩
  simp only [sZ, sS]
  refine sv 4 (u2) .of ?_
  simp only [sZ, sS]
  refine wpList_nil ?_
  refine hK5 _ _ ?_
  refine wp_seq_k fun K6 hK6 => ?_
  refine wp_seq_k fun K7 hK7 => ?_
  refine cPlain ?_
  refine sv 5 (.int .i64 0) .of ?_
  simp only [sZ, sS]
  refine wpList_nil ?_
  refine hK7 _ _ ?_
  refine wp_block ?_
  refine cLoop (fun N_ A_ w_ => ∃ (i : Nat) (u : Value), (N_ = 32 - i ∧ (i ≤ 32) ∧ (∃ s1 : Nat → Value, A_ = ⟨[.agg (certV ((k : Nat) : Int) (nn root) ((h : Nat) : Int)).toArray, .pointer (some ⟨w.heap.size, 0, none⟩), .slice none 0 0, .int .i64 0, u, .int .i64 ((i : Nat) : Int), .agg (certV ((k : Nat) : Int) (nn root) ((h : Nat) : Int)).toArray, .bool true, .bool false, .slice (some ⟨w2.heap.size, 0, none⟩) 1 1, .pointer (some ⟨w.heap.size, 0, none⟩), .int .i64 ((k : Nat) : Int), .int .u64 ((k : Nat) : Int), u1, u1, .pointer (some ⟨w.heap.size, 33, none⟩), .int .i64 ((h : Nat) : Int), .int .u64 ((h : Nat) : Int), u2, (s1 19), (s1 20), (s1 21), (s1 22), (s1 23), (s1 24), (s1 25), (s1 26), (s1 27), (s1 28), (s1 29), undef].toArray, []⟩) ∧ Bl w.heap.size w w_ ∧ Cel w_ w.heap.size 25 (certV ((k : Nat) : Int) (nn root) ((h : Nat) : Int)) ∧ Own 5 .u8 w4.heap.size w_ u (nn ([1] ++ numN (k : Int) ++ numN (h : Int) ++ root.take i)) ∧ w5.heap.size ≤ w_.heap.size)) _ ⟨0, u2, rfl, (Nat.zero_le _), cutE, BL, b1, (U2.cast (by rw [List.take_zero, List.append_nil])), Nat.le_refl _⟩ ?_
  clear BL b1 b9 sb9 U1 U2
  rintro n_ a_ wl0 ⟨i, u, rfl, hc0_0, ⟨s1, rfl⟩, BL, b1, O, zl0⟩
  have lO_1 := O.ge
  refine wp_seq_k fun K8 hK8 => ?_
  refine wp_seq_k fun K9 hK9 => ?_
  refine cPlain ?_
  refine sv 19 (.int .i64 ((i : Nat) : Int)) .of ?_
  simp only [sZ, sS]
  refine sv 20 (.bool (decide (((i : Nat) : Int) < 32))) (Val.cmp .lss 3 _ (.tmp 19) _ rfl .i64 ((i : Nat) : Int) 32 (by kernel_rfl) (by kernel_rfl) (by simp) _ rfl) ?_
  simp only [sZ, sS]
  refine wpList_nil ?_
  refine hK9 _ _ ?_
  refine cDec (((i : Nat) : Int) < 32) (by kernel_rfl) (fun c20 => ?_) (fun c20 => ?_)
  · skip
    refine wp_skip ?_
    refine hK8 _ _ ?_
    refine wp_seq_k fun K10 hK10 => ?_
    refine wp_block ?_
    refine cPlain ?_
    refine sv 23 (u) .of ?_
    simp only [sZ, sS]
    refine sv 24 (.int .i64 ((i : Nat) : Int)) .of ?_
    simp only [sZ, sS]
    refine sv 25 (.pointer (some ⟨w.heap.size, 1, none⟩)) .of ?_
    simp only [sZ, sS]
    refine sv 26 (.pointer (some ⟨w.heap.size, 1 + i, none⟩)) (Val.idxA1 23 (.tmp 25) (.tmp 24) rfl w.heap.size 1 i (by kernel_rfl) (by kernel_rfl) Try.underlying23 (by kernel_rfl) (by omega)) ?_
    simp only [sZ, sS]
    refine sv 27 (.int .u8 ((root.getD i 0 : Nat) : Int)) (Val.cel1 5 _ rfl w.heap.size (1 + i) _ (by kernel_rfl) (fun _ => (by kernel_rfl)) b1 (certV_at hr (by omega))) ?_
    simp only [sZ, sS]
    refine xLit 28 29 5 1 _ #[(0, .int .u8 ((root.getD i 0 : Nat) : Int))] [.int .u8 ((root.getD i 0 : Nat) : Int)] rfl (by kernel_rfl) (by kernel_rfl) ?_
    intro w6 n3
    have zn3 := n3.z
    have b28 := n3.c
    replace b28 : Blk .u8 w6 wl0.heap.size 5 [((root.getD i 0 : Nat) : Int)] := b28
    replace BL := BL.e0 n3.e
    replace b1 := b1.e0 n3.e
    replace O := O.e0 n3.e
    have sb28 : SL .u8 w6 (.slice (some ⟨wl0.heap.size, 0, none⟩) 1 1) [((root.getD i 0 : Nat) : Int)] := SL.ofBlk b28 rfl (by unfold maxLen; omega)
    have lb28 : ∀ i, Value.ownBlock (.slice (some ⟨wl0.heap.size, 0, none⟩) 1 1) = some i → wl0.heap.size ≤ i ∧ i < w6.heap.size := ownB_lit (by omega)
    simp only [sZ, sS]
    refine xApp 29 (.tmp 23) (.tmp 28) 29 5 .u8 1 rfl Try.underlying29 (by kernel_rfl) w4.heap.size u (nn ([1] ++ numN (k : Int) ++ numN (h : Int) ++ root.take i)) (by kernel_rfl) O (.slice (some ⟨wl0.heap.size, 0, none⟩) 1 1) [((root.getD i 0 : Nat) : Int)] (by kernel_rfl) sb28 ?va1_1 ?va1_2 ?va1_3 ?_
    case va1_1 => simp only [nn_len, List.length_append, List.length_cons, List.length_nil, List.length_take]; omega
    case va1_2 => simp only [nn_len, List.length_append, List.length_cons, List.length_nil, List.length_take]; unfold maxLen; omega
    case va1_3 => omega
    intro va1 w7 rva1 e4
    have ze4 := e4.size
    have BL_ := BL.ev e4 (fun i h => by have := lO_1 _ h; omega)
    have b1_ := b1.ev e4 (fun h => by have := lO_1 _ h; omega)
    have b28_ := b28.ev e4 (fun h => by have := lO_1 _ h; omega)
    have sb28_ := sb28.ev e4 (fun i hi h => by have := lb28 i hi; have := lO_1 _ h; omega)
    replace BL := BL_; clear BL_
    replace b1 := b1_; clear b1_
    replace b28 := b28_; clear b28_
    replace sb28 := sb28_; clear sb28_
    replace O := rva1
    clear rva1 e4
    have lO_2 := O.ge
    simp only [sZ, sS]
    refine sv 4 (va1) .of ?_
    simp only [sZ, sS]
    refine wpList_nil ?_
    refine hK10 _ _ ?_
    refine cPlain ?_
    refine sv 21 (.int .i64 ((i : Nat) : Int)) .of ?_
    simp only [sZ, sS]
    refine sv 22 (.int .i64 ((i + 1 : Nat) : Int)) (Val.as (Val.add 3 _ (.tmp 21) _ rfl ((i : Nat) : Int) 1 (by kernel_rfl) (by kernel_rfl) (by omega)) (congrArg (Value.int .i64) (by omega))) ?_
    simp only [sZ, sS]
    refine sv 5 (.int .i64 ((i + 1 : Nat) : Int)) .of ?_
    simp only [sZ, sS]
    refine wpList_nil ?_
    refine ⟨_, ?_, i + 1, va1, rfl, by omega, cutE, BL, b1, (O.cast (by rw [List.take_add_one, List.getElem?_eq_getElem (show i < root.length by omega), ← List.append_assoc, nn_app _ (Option.toList _), List.getD_eq_getElem?_getD, List.getElem?_eq_getElem (show i < root.length by omega)]; rfl)), by omega⟩
    omega
  · skip
    refine wp_exit ?_
    simp only [Exit.then, Exit.inBlock, ↓reduceIte, Nat.reduceEqDiff]
    refine hK6 _ _ ?_
    refine wp_seq_k fun K11 hK11 => ?_
    refine cPlain ?_
    refine sv 30 (u) .of ?_
    simp only [sZ, sS]
    refine sv 2 (u) .of ?_
    simp only [sZ, sS]
    refine sv 3 (.int .i64 0) .of ?_
    simp only [sZ, sS]
    refine wpList_nil ?_
    refine hK11 _ _ ?_
    refine wp_ret ?_
    (try simp only [Exit.then, Exit.inBlock])
    refine bodyPost_ret (v := .tuple #[u, .int .i64 0]) rT rfl ?_
    rw [List.take_of_length_le (show root.length ≤ i by omega)] at O
    exact ⟨_, rfl, O.mono (by omega), BL.b⟩

set_option maxHeartbeats 4000000 in
theorem r18listbytes_no (seq : Int) (A : Option Addr) (C : Nat) (xs : List Int) (w : World) (D : SL .i64 w (.slice A xs.length C) xs) (hno : rightL seq xs = false) :
    Calls Try.prog 15 #[.agg #[.int .i64 seq, .slice A xs.length C]] w fun e w' => e = .returned (.tuple #[.slice none 0 0, .int .i64 180]) ∧ Below w.heap.size w w' := by
  have BL := Bl.refl w
  have hvl := D.lt
  go_enter Try.func15, Try.ntmps15
  refine wp_seq_k fun K1 hK1 => ?_
  refine cPlain ?_
  refine xBox 1 28 _ [.int .i64 seq, .slice A xs.length C] rfl (by kernel_rfl) ?_
  intro w1 n1
  have zn1 := n1.z
  have b1 := n1.c
  replace BL := BL.e0 n1.e
  replace D := D.e0 n1.e
  simp only [sZ, sS]
  refine sv 2 (.slice none 0 0) .of ?_
  simp only [sZ, sS]
  refine sv 3 (.int .i64 0) .of ?_
  simp only [sZ, sS]
  refine wpList_nil ?_
  refine hK1 _ _ ?_
  refine wp_seq_k fun K2 hK2 => ?_
  refine wp_seq_k fun K3 hK3 => ?_
  refine cPlain ?_
  refine sv 6 (.agg #[.int .i64 seq, .slice A xs.length C]) (Val.cel 28 _ rfl 0 2 (by kernel_rfl) b1 _ Try.underlying28 rfl (by kernel_rfl) (by simp) [.int .i64 seq, .slice A xs.length C] rfl) ?_
  simp only [sZ, sS]
  refine xCall 7 19 #[.agg #[.int .i64 seq, .slice A xs.length C]] (by kernel_rfl) ?_
  refine (r18rightlist_any seq A C xs w1 D).mono ?_
  rintro en w2 ⟨he, hb1⟩
  rw [hno] at he
  subst he
  have e1 := belE0 hb1
  have ze1 := e1.size
  replace BL := BL.e0 e1
  replace D := D.e0 e1
  replace b1 := b1.e0 e1
  clear e1
  refine ⟨.bool false, rfl, ?_⟩
  simp only [sZ, sS]
  refine sv 8 (.bool true) .of ?_
  simp only [sZ, sS]
  refine wpList_nil ?_
  refine hK3 _ _ ?_
  refine cT ?_
  refine wp_seq_k fun K4 hK4 => ?_
  refine cPlain ?_
  refine sv 2 (.slice none 0 0) .of ?_
  simp only [sZ, sS]
  refine sv 3 (.int .i64 180) .of ?_
  simp only [sZ, sS]
  refine wpList_nil ?_
  refine hK4 _ _ ?_
  refine wp_ret ?_
  (try simp only [Exit.then, Exit.inBlock])
  refine bodyPost_ret (v := .tuple #[.slice none 0 0, .int .i64 180]) rT rfl ?_
  exact ⟨rfl, BL.b⟩

def numsN (ks : List Nat) : List Nat := (ks.map fun (k : Nat) => numN (k : Int)).flatten
theorem numsN_take (ks : List Nat) (i : Nat) (h : i < ks.length) : numsN (ks.take (i + 1)) = numsN (ks.take i) ++ numN ((ks.getD i 0 : Nat) : Int) := by
  unfold numsN
  rw [List.take_add_one, List.getElem?_eq_getElem h, List.map_append, List.flatten_append, List.getD_eq_getElem?_getD, List.getElem?_eq_getElem h]
  simp
theorem numsN_len (ks : List Nat) : (numsN ks).length ≤ 10 * ks.length := by
  unfold numsN
  induction ks with
  | nil => simp
  | cons k ks ih =>
    have := numN_len (k : Int)
    rw [List.map_cons, List.flatten_cons, List.length_append, List.length_cons]; omega
attribute [local irreducible] numsN
set_option maxHeartbeats 4000000 in
theorem r18listbytes_any (q : Nat) (A : Option Addr) (C : Nat) (ks : List Nat) (w : World) (D : SL .i64 w (.slice A (nn ks).length C) (nn ks)) (hok : rightL ((q : Nat) : Int) (nn ks) = true) (hq : q ≤ 1073741824) (hks : ks.length ≤ 50) (hkb : ∀ k ∈ ks, k ≤ 1048576) :
    Calls Try.prog 15 #[.agg #[.int .i64 ((q : Nat) : Int), .slice A (nn ks).length C]] w fun e w' => ∃ u, e = .returned (.tuple #[u, .int .i64 0]) ∧ Own 5 .u8 w.heap.size w' u (nn (([2] ++ numN (q : Int) ++ numN ((ks.length : Nat) : Int)) ++ numsN ks)) ∧ Below w.heap.size w w' := by
  have BL := Bl.refl w
  have hvl := D.lt
  have hnk := numN_len (q : Int)
  have hnh := numN_len ((ks.length : Nat) : Int)
  have hkl := nn_len ks
  go_enter Try.func15, Try.ntmps15
  refine wp_seq_k fun K1 hK1 => ?_
  refine cPlain ?_
  refine xBox 1 28 _ [.int .i64 ((q : Nat) : Int), .slice A (nn ks).length C] rfl (by kernel_rfl) ?_
  intro w1 n1
  have zn1 := n1.z
  have b1 := n1.c
  replace BL := BL.e0 n1.e
  replace D := D.e0 n1.e
  simp only [sZ, sS]
  refine sv 2 (.slice none 0 0) .of ?_
  simp only [sZ, sS]
  refine sv 3 (.int .i64 0) .of ?_
  simp only [sZ, sS]
  refine wpList_nil ?_
  refine hK1 _ _ ?_
  refine wp_seq_k fun K2 hK2 => ?_
  refine wp_seq_k fun K3 hK3 => ?_
  refine cPlain ?_
  refine sv 6 (.agg #[.int .i64 ((q : Nat) : Int), .slice A (nn ks).length C]) (Val.cel 28 _ rfl 0 2 (by kernel_rfl) b1 _ Try.underlying28 rfl (by kernel_rfl) (by simp) [.int .i64 ((q : Nat) : Int), .slice A (nn ks).length C] rfl) ?_
  simp only [sZ, sS]
  refine xCall 7 19 #[.agg #[.int .i64 ((q : Nat) : Int), .slice A (nn ks).length C]] (by kernel_rfl) ?_
  refine (r18rightlist_any ((q : Nat) : Int) A C (nn ks) w1 D).mono ?_
  rintro en w2 ⟨he, hb1⟩
  rw [hok] at he
  subst he
  have e1 := belE0 hb1
  have ze1 := e1.size
  replace BL := BL.e0 e1
  replace D := D.e0 e1
  replace b1 := b1.e0 e1
  clear e1
  refine ⟨.bool true, rfl, ?_⟩
  simp only [sZ, sS]
  refine sv 8 (.bool false) .of ?_
  simp only [sZ, sS]
  refine wpList_nil ?_
  refine hK3 _ _ ?_
  refine cF ?_
  refine wp_skip ?_
  refine hK2 _ _ ?_
  refine wp_seq_k fun K4 hK4 => ?_
  refine cPlain ?_
  refine xLit 9 29 5 1 _ #[(0, .int .u8 2)] [.int .u8 2] rfl (by kernel_rfl) (by kernel_rfl) ?_
  intro w3 n2
  have zn2 := n2.z
  have b9 := n2.c
  replace b9 : Blk .u8 w3 w2.heap.size 5 [2] := b9
  replace BL := BL.e0 n2.e
  replace D := D.e0 n2.e
  replace b1 := b1.e0 n2.e
  have sb9 : SL .u8 w3 (.slice (some ⟨w2.heap.size, 0, none⟩) 1 1) [2] := SL.ofBlk b9 rfl (by unfold maxLen; omega)
  have lb9 : ∀ i, Value.ownBlock (.slice (some ⟨w2.heap.size, 0, none⟩) 1 1) = some i → w2.heap.size ≤ i ∧ i < w3.heap.size := ownB_lit (by omega)
  simp only [sZ, sS]
  refine sv 10 (.pointer (some ⟨w.heap.size, 0, none⟩)) .of ?_
  simp only [sZ, sS]
  refine sv 11 (.int .i64 ((q : Nat) : Int)) (Val.cel1 3 _ rfl w.heap.size 0 _ (by kernel_rfl) (fun _ => (by kernel_rfl)) b1 rfl) ?_
  simp only [sZ, sS]
  refine sv 12 (.int .u64 ((q : Nat) : Int)) (Val.asN (Val.convN 3 84 (.tmp 11) rfl .u64 q 18446744073709551616 Try.underlying3 Try.underlying84 (by kernel_rfl)) (Nat.mod_eq_of_lt (by omega))) ?_
  simp only [sZ, sS]
  refine xCall 13 49 #[.slice (some ⟨w2.heap.size, 0, none⟩) 1 1, .int .u64 ((q : Nat) : Int)] (by kernel_rfl) ?_
  refine (ruint_any _ [2] q (by omega) w3 sb9 (by simp)).mono ?_
  rintro en w4 ⟨u1, rfl, hO, hb1⟩
  have e2 := belE0 hb1
  have ze2 := e2.size
  replace BL := BL.e0 e2
  replace D := D.e0 e2
  replace b1 := b1.e0 e2
  replace b9 := b9.e0 e2
  replace sb9 := sb9.e0 e2
  clear e2
  have U1 : Own 5 .u8 w3.heap.size w4 u1 (nn ([2] ++ numN (q : Int))) := hO
  have lU1_1 := U1.ge
  refine ⟨u1, rfl, ?_⟩
  simp only [sZ, sS]
  refine sv 4 (u1) .of ?_
  simp only [sZ, sS]
  refine wpList_nil ?_
  refine hK4 _ _ ?_
  refine wp_seq_k fun K5 hK5 => ?_
  refine cPlain ?_
  refine sv 14 (u1) .of ?_
  simp only [sZ, sS]
  refine sv 15 (.pointer (some ⟨w.heap.size, 1, none⟩)) .of ?_
  simp only [sZ, sS]
  refine sv 16 (.slice A (nn ks).length C) (Val.cel1 26 _ rfl w.heap.size 1 _ (by kernel_rfl) (fun _ => (by kernel_rfl)) b1 rfl) ?_
  simp only [sZ, sS]
  refine sv 17 (.int .i64 ((ks.length : Nat) : Int)) (Val.lenS (.tmp 16) 26 rfl (by kernel_rfl) D ks.length (nn_len ks) Try.underlying26) ?_
  simp only [sZ, sS]
  refine sv 18 (.int .u64 ((ks.length : Nat) : Int)) (Val.asN (Val.convN 3 84 (.tmp 17) rfl .u64 ks.length 18446744073709551616 Try.underlying3 Try.underlying84 (by kernel_rfl)) (Nat.mod_eq_of_lt (by omega))) ?_
  simp only [sZ, sS]
  refine xCall 19 49 #[u1, .int .u64 ((ks.length : Nat) : Int)] (by kernel_rfl) ?_
  refine (ruint_any u1 ([2] ++ numN (q : Int)) ks.length (by omega) w4 U1.sl (by simp only [List.length_append, List.length_cons, List.length_nil]; omega)).mono ?_
  rintro en w5 ⟨u2, rfl, hO2, hb1⟩
  have e3 := belE0 hb1
  have ze3 := e3.size
  replace BL := BL.e0 e3
  replace D := D.e0 e3
  replace b1 := b1.e0 e3
  replace b9 := b9.e0 e3
  replace sb9 := sb9.e0 e3
  replace U1 := U1.e0 e3
  clear e3
  have U2 : Own 5 .u8 w4.heap.size w5 u2 (nn ([2] ++ numN (q : Int) ++ numN ((ks.length : Nat) : Int))) := hO2
  have lU2_1 := U2.ge
  refine ⟨u2, rfl, ?_⟩
  simp only [sZ, sS]
  refine sv 4 (u2) .of ?_
  simp only [sZ, sS]
  refine wpList_nil ?_
  refine hK5 _ _ ?_
  refine wp_seq_k fun K6 hK6 => ?_
  refine wp_seq_k fun K7 hK7 => ?_
  refine cPlain ?_
  refine sv 5 (.int .i64 0) .of ?_
  simp only [sZ, sS]
  refine wpList_nil ?_
  refine hK7 _ _ ?_
  refine wp_block ?_
  refine cLoop (fun N_ A_ w_ => ∃ (i : Nat) (u : Value), (N_ = ks.length - i ∧ (i ≤ ks.length) ∧ (∃ s1 : Nat → Value, A_ = ⟨[.agg #[.int .i64 ((q : Nat) : Int), .slice A (nn ks).length C], .pointer (some ⟨w.heap.size, 0, none⟩), .slice none 0 0, .int .i64 0, u, .int .i64 ((i : Nat) : Int), .agg #[.int .i64 ((q : Nat) : Int), .slice A (nn ks).length C], .bool true, .bool false, .slice (some ⟨w2.heap.size, 0, none⟩) 1 1, .pointer (some ⟨w.heap.size, 0, none⟩), .int .i64 ((q : Nat) : Int), .int .u64 ((q : Nat) : Int), u1, u1, .pointer (some ⟨w.heap.size, 1, none⟩), .slice A (nn ks).length C, .int .i64 ((ks.length : Nat) : Int), .int .u64 ((ks.length : Nat) : Int), u2, (s1 20), (s1 21), (s1 22), (s1 23), (s1 24), (s1 25), (s1 26), (s1 27), (s1 28), (s1 29), (s1 30), (s1 31), (s1 32), (s1 33), (s1 34), undef].toArray, []⟩) ∧ Bl w.heap.size w w_ ∧ SL .i64 w_ (.slice A (nn ks).length C) (nn ks) ∧ Cel w_ w.heap.size 28 [.int .i64 ((q : Nat) : Int), .slice A (nn ks).length C] ∧ Own 5 .u8 w.heap.size w_ u (nn (([2] ++ numN (q : Int) ++ numN ((ks.length : Nat) : Int)) ++ numsN (ks.take i))) ∧ w5.heap.size ≤ w_.heap.size)) _ ⟨0, u2, rfl, (Nat.zero_le _), cutE, BL, D, b1, ((U2.mono (by omega)).cast (by rw [List.take_zero, show numsN [] = [] by unfold numsN; rfl, List.append_nil])), Nat.le_refl _⟩ ?_
  clear BL D b1 b9 sb9 U1 U2
  rintro n_ a_ wl0 ⟨i, u, rfl, hc0_0, ⟨s1, rfl⟩, BL, D, b1, O, zl0⟩
  have lO_1 := O.ge
  refine wp_seq_k fun K8 hK8 => ?_
  refine wp_seq_k fun K9 hK9 => ?_
  refine cPlain ?_
  refine sv 20 (.int .i64 ((i : Nat) : Int)) .of ?_
  simp only [sZ, sS]
  refine sv 21 (.pointer (some ⟨w.heap.size, 1, none⟩)) .of ?_
  simp only [sZ, sS]
  refine sv 22 (.slice A (nn ks).length C) (Val.cel1 26 _ rfl w.heap.size 1 _ (by kernel_rfl) (fun _ => (by kernel_rfl)) b1 rfl) ?_
  simp only [sZ, sS]
  refine sv 23 (.int .i64 ((ks.length : Nat) : Int)) (Val.lenS (.tmp 22) 26 rfl (by kernel_rfl) D ks.length (nn_len ks) Try.underlying26) ?_
  simp only [sZ, sS]
  refine sv 24 (.bool (decide (((i : Nat) : Int) < ((ks.length : Nat) : Int)))) (Val.cmp .lss 3 _ (.tmp 20) (.tmp 23) rfl .i64 ((i : Nat) : Int) ((ks.length : Nat) : Int) (by kernel_rfl) (by kernel_rfl) (by simp) _ rfl) ?_
  simp only [sZ, sS]
  refine wpList_nil ?_
  refine hK9 _ _ ?_
  refine cDec (((i : Nat) : Int) < ((ks.length : Nat) : Int)) (by kernel_rfl) (fun c24 => ?_) (fun c24 => ?_)
  · skip
    refine wp_skip ?_
    refine hK8 _ _ ?_
    refine wp_seq_k fun K10 hK10 => ?_
    refine wp_block ?_
    have hki : ks.getD i 0 ≤ 1048576 := by rw [List.getD_eq_getElem?_getD, List.getElem?_eq_getElem (show i < ks.length by omega)]; exact hkb _ (List.getElem_mem _)
    have hnl := numsN_len (ks.take i)
    have htl : (ks.take i).length = i := by rw [List.length_take]; omega
    refine cPlain ?_
    refine sv 27 (u) .of ?_
    simp only [sZ, sS]
    refine sv 28 (.pointer (some ⟨w.heap.size, 1, none⟩)) .of ?_
    simp only [sZ, sS]
    refine sv 29 (.slice A (nn ks).length C) (Val.cel1 26 _ rfl w.heap.size 1 _ (by kernel_rfl) (fun _ => (by kernel_rfl)) b1 rfl) ?_
    simp only [sZ, sS]
    refine sv 30 (.int .i64 ((i : Nat) : Int)) .of ?_
    simp only [sZ, sS]
    refine sv 31 (elemP (.slice A (nn ks).length C) i) (Val.idxE 26 (.tmp 29) (.tmp 30) rfl (.slice A (nn ks).length C) i (by kernel_rfl) (by kernel_rfl) D Try.underlying26 (by kernel_rfl) (by rw [nn_len]; omega)) ?_
    simp only [sZ, sS]
    refine sv 32 (.int .i64 ((ks.getD i 0 : Nat) : Int)) (Val.nldE 3 _ rfl (.slice A (nn ks).length C) i (by kernel_rfl) (fun _ => (by kernel_rfl)) D (by omega)) ?_
    simp only [sZ, sS]
    refine sv 33 (.int .u64 ((ks.getD i 0 : Nat) : Int)) (Val.asN (Val.convN 3 84 (.tmp 32) rfl .u64 (ks.getD i 0) 18446744073709551616 Try.underlying3 Try.underlying84 (by kernel_rfl)) (Nat.mod_eq_of_lt (by omega))) ?_
    simp only [sZ, sS]
    refine xCall 34 49 #[u, .int .u64 ((ks.getD i 0 : Nat) : Int)] (by kernel_rfl) ?_
    refine (ruint_any u (([2] ++ numN (q : Int) ++ numN ((ks.length : Nat) : Int)) ++ numsN (ks.take i)) (ks.getD i 0) (by omega) wl0 O.sl (by simp only [List.length_append, List.length_cons, List.length_nil]; omega)).mono ?_
    rintro en w6 ⟨u3, rfl, hO3, hb1⟩
    have e4 := belE0 hb1
    have ze4 := e4.size
    replace BL := BL.e0 e4
    replace D := D.e0 e4
    replace b1 := b1.e0 e4
    replace O := O.e0 e4
    clear e4
    have U3 : Own 5 .u8 wl0.heap.size w6 u3 (nn (([2] ++ numN (q : Int) ++ numN ((ks.length : Nat) : Int)) ++ numsN (ks.take i) ++ numN ((ks.getD i 0 : Nat) : Int))) := hO3
    have lU3_1 := U3.ge
    refine ⟨u3, rfl, ?_⟩
    simp only [sZ, sS]
    refine sv 4 (u3) .of ?_
    simp only [sZ, sS]
    refine wpList_nil ?_
    refine hK10 _ _ ?_
    refine cPlain ?_
    refine sv 25 (.int .i64 ((i : Nat) : Int)) .of ?_
    simp only [sZ, sS]
    refine sv 26 (.int .i64 ((i + 1 : Nat) : Int)) (Val.as (Val.add 3 _ (.tmp 25) _ rfl ((i : Nat) : Int) 1 (by kernel_rfl) (by kernel_rfl) (by omega)) (congrArg (Value.int .i64) (by omega))) ?_
    simp only [sZ, sS]
    refine sv 5 (.int .i64 ((i + 1 : Nat) : Int)) .of ?_
    simp only [sZ, sS]
    refine wpList_nil ?_
    refine ⟨_, ?_, i + 1, u3, rfl, by omega, cutE, BL, D, b1, ((U3.mono (by omega)).cast (by rw [numsN_take ks i (by omega), List.append_assoc])), by omega⟩
    omega
  · skip
    refine wp_exit ?_
    simp only [Exit.then, Exit.inBlock, ↓reduceIte, Nat.reduceEqDiff]
    refine hK6 _ _ ?_
    refine wp_seq_k fun K11 hK11 => ?_
    refine cPlain ?_
    refine sv 35 (u) .of ?_
    simp only [sZ, sS]
    refine sv 2 (u) .of ?_
    simp only [sZ, sS]
    refine sv 3 (.int .i64 0) .of ?_
    simp only [sZ, sS]
    refine wpList_nil ?_
    refine hK11 _ _ ?_
    refine wp_ret ?_
    (try simp only [Exit.then, Exit.inBlock])
    refine bodyPost_ret (v := .tuple #[u, .int .i64 0]) rT rfl ?_
    rw [List.take_of_length_le (show ks.length ≤ i by omega)] at O
    exact ⟨_, rfl, O, BL.b⟩

end Go.Proofs.Ytanggdnmoaflfaa
