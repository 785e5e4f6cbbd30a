/-
  ref01.behind, Blob; ref03.Text, Tagged: of parts that come in.
-/
import Derived.Test.YtadldhlfboibjaaRMacX
import Derived.Test.YtadldhlfboibjaaRRef9
namespace Go.Proofs.YtadldhlfboibjaaR
open Go.RowKit
set_option linter.unusedVariables false
set_option linter.unusedSimpArgs false
set_option maxRecDepth 100000
attribute [local irreducible] wpList Code.wp wpAnyZ
attribute [local irreducible] keyN ofN turnK padK goK textN textK blobN numN secretN halfN macN taggedN turnedN fillB

set_option maxHeartbeats 4000000 in
theorem rbehind_weird (v0 : Value) (ax : Addr) (xs : List Nat) (w : World) (D0 : SL .u8 w v0 (nn xs)) (hl : xs.length ≤ 140737488355328) :
    Calls Try.prog 125 #[v0, .slice (some ax) 0 0] w fun e w' => ∃ u, e = .returned u ∧ SL .u8 w' u (nn xs) ∧ Below w.heap.size w w' := by
  have BL := Bl.refl w
  have hd0 := D0.lt
  go_enter Try.func125, Try.ntmps125
  refine wp_seq_k fun K1 hK1 => ?_
  refine cPlain ?_
  refine sv 4 (.slice none 0 0) .of ?_
  simp only [List.set_cons_zero, List.set_cons_succ]
  refine wpList_nil ?_
  refine hK1 _ _ ?_
  refine wp_seq_k fun K2 hK2 => ?_
  refine cPlain ?_
  refine sv 8 (v0) .of ?_
  simp only [List.set_cons_zero, List.set_cons_succ]
  refine sv 9 (.int .i64 ((xs.length : Nat) : Int)) (Val.lenS (.tmp 8) 27 rfl (by kernel_rfl) D0 xs.length (nn_len xs) Try.underlying27) ?_
  simp only [List.set_cons_zero, List.set_cons_succ]
  refine sv 10 (.slice (some ax) 0 0) .of ?_
  simp only [List.set_cons_zero, List.set_cons_succ]
  refine sv 11 (.int .i64 ((0 : Nat) : Int)) .of ?_
  simp only [List.set_cons_zero, List.set_cons_succ]
  refine sv 12 (.int .i64 ((xs.length : Nat) : Int)) (Val.as (Val.add 3 _ (.tmp 9) (.tmp 11) rfl ((xs.length : Nat) : Int) ((0 : Nat) : Int) (by kernel_rfl) (by kernel_rfl) (by omega)) (congrArg (Value.int .i64) (by omega))) ?_
  simp only [List.set_cons_zero, List.set_cons_succ]
  refine xMakeN 13 (.tmp 12) (.tmp 12) 27 5 .u8 1 rfl Try.underlying27 (by kernel_rfl) xs.length (by kernel_rfl) (by kernel_rfl) (by unfold maxLen; omega) (by omega) ?_
  intro w1 n1
  have zn1 := n1.z
  have b13 : Blk .u8 w1 w.heap.size 5 (nn (List.replicate xs.length 0)) := by rw [nn_rep]; exact n1.c
  replace BL := BL.e0 n1.e
  replace D0 := D0.e0 n1.e
  simp only [List.set_cons_zero, List.set_cons_succ]
  refine sv 5 (.slice (some ⟨w.heap.size, 0, none⟩) xs.length xs.length) .of ?_
  simp only [List.set_cons_zero, List.set_cons_succ]
  refine wpList_nil ?_
  refine hK2 _ _ ?_
  refine wp_seq_k fun K3 hK3 => ?_
  refine wp_seq_k fun K4 hK4 => ?_
  refine cPlain ?_
  refine sv 6 (.int .i64 0) .of ?_
  simp only [List.set_cons_zero, List.set_cons_succ]
  refine wpList_nil ?_
  refine hK4 _ _ ?_
  refine wp_block ?_
  refine cLoop (fun N_ A_ w_ => ∃ (i : Nat), (N_ = xs.length - i ∧ (i ≤ xs.length) ∧ (∃ s1 : Nat → Value, A_ = ⟨[v0, .slice (some ax) 0 0, undef, undef, .slice none 0 0, .slice (some ⟨w.heap.size, 0, none⟩) xs.length xs.length, .int .i64 ((i : Nat) : Int), undef, v0, .int .i64 ((xs.length : Nat) : Int), .slice (some ax) 0 0, .int .i64 ((0 : Nat) : Int), .int .i64 ((xs.length : Nat) : Int), .slice (some ⟨w.heap.size, 0, none⟩) xs.length xs.length, (s1 14), (s1 15), (s1 16), (s1 17), (s1 18), (s1 19), (s1 20), (s1 21), (s1 22), (s1 23), (s1 24), (s1 25), (s1 26), undef, undef, undef, undef, undef, undef, undef, undef, undef, undef, undef, undef, undef, undef, undef, undef, undef].toArray, []⟩) ∧ Bl w.heap.size w w_ ∧ SL .u8 w_ v0 (nn xs) ∧ Blk .u8 w_ w.heap.size 5 (nn (fillB xs xs.length i)) ∧ w1.heap.size ≤ w_.heap.size)) _ ⟨0, rfl, (Nat.zero_le _), cutE, BL, D0, (by rw [fillB_0]; exact b13), Nat.le_refl _⟩ ?_
  clear BL D0 b13
  rintro n_ a_ wl0 ⟨i, rfl, hc0_0, ⟨s1, rfl⟩, BL, D0, b13, zl0⟩
  have hfl := fillB_len (zs := xs) (m := xs.length) (i := i) (by omega) (by omega)
  refine wp_seq_k fun K5 hK5 => ?_
  refine wp_seq_k fun K6 hK6 => ?_
  refine cPlain ?_
  refine sv 14 (.int .i64 ((i : Nat) : Int)) .of ?_
  simp only [List.set_cons_zero, List.set_cons_succ]
  refine sv 15 (v0) .of ?_
  simp only [List.set_cons_zero, List.set_cons_succ]
  refine sv 16 (.int .i64 ((xs.length : Nat) : Int)) (Val.lenS (.tmp 15) 27 rfl (by kernel_rfl) D0 xs.length (nn_len xs) Try.underlying27) ?_
  simp only [List.set_cons_zero, List.set_cons_succ]
  refine sv 17 (.bool (decide (((i : Nat) : Int) < ((xs.length : Nat) : Int)))) (Val.cmp .lss 3 _ (.tmp 14) (.tmp 16) rfl .i64 ((i : Nat) : Int) ((xs.length : Nat) : Int) (by kernel_rfl) (by kernel_rfl) (by simp) _ rfl) ?_
  simp only [List.set_cons_zero, List.set_cons_succ]
  refine wpList_nil ?_
  refine hK6 _ _ ?_
  refine cDec (((i : Nat) : Int) < ((xs.length : Nat) : Int)) (by kernel_rfl) (fun c17 => ?_) (fun c17 => ?_)
  · skip
    refine wp_skip ?_
    refine hK5 _ _ ?_
    refine wp_seq_k fun K7 hK7 => ?_
    refine wp_block ?_
    refine cPlain ?_
    refine sv 20 (.slice (some ⟨w.heap.size, 0, none⟩) xs.length xs.length) .of ?_
    simp only [List.set_cons_zero, List.set_cons_succ]
    refine sv 21 (.int .i64 ((i : Nat) : Int)) .of ?_
    simp only [List.set_cons_zero, List.set_cons_succ]
    refine sv 22 (v0) .of ?_
    simp only [List.set_cons_zero, List.set_cons_succ]
    refine sv 23 (.int .i64 ((i : Nat) : Int)) .of ?_
    simp only [List.set_cons_zero, List.set_cons_succ]
    refine sv 24 (elemP v0 i) (Val.idxE 27 (.tmp 22) (.tmp 23) rfl v0 i (by kernel_rfl) (by kernel_rfl) D0 Try.underlying27 (by kernel_rfl) (by rw [nn_len]; omega)) ?_
    simp only [List.set_cons_zero, List.set_cons_succ]
    refine sv 25 (.int .u8 ((xs.getD i 0 : Nat) : Int)) (Val.nldE 5 _ rfl v0 i (by kernel_rfl) (fun _ => (by kernel_rfl)) D0 (by omega)) ?_
    simp only [List.set_cons_zero, List.set_cons_succ]
    refine sv 26 (.pointer (some ⟨w.heap.size, 0 + i * 1, none⟩)) (Val.idxS 27 (.tmp 20) (.tmp 21) rfl w.heap.size 0 xs.length xs.length i (by kernel_rfl) (by kernel_rfl) 1 Try.underlying27 (by kernel_rfl) (by omega)) ?_
    simp only [List.set_cons_zero, List.set_cons_succ]
    refine xStoreNN 5 (.tmp 26) (.tmp 25) rfl .u8 w.heap.size 5 (fillB xs xs.length i) (0 + i * 1) (xs.getD i 0) (by kernel_rfl) (by kernel_rfl) b13 (by kernel_rfl) (by omega) ?_
    intro w2 t1
    have zt1 := t1.z
    have BL_ := BL.ev t1.e (fun i h => show w.heap.size ≤ i by have h : i = w.heap.size := h; omega)
    have D0_ := D0.ev t1.e (fun i hi => show ¬ (i = w.heap.size) by have := hd0 i hi; omega)
    replace BL := BL_; clear BL_
    replace D0 := D0_; clear D0_
    replace b13 : Blk .u8 w2 w.heap.size 5 (nn ((fillB xs xs.length i).set (0 + i * 1) (xs.getD i 0))) := t1.c
    clear t1
    refine wpList_nil ?_
    refine hK7 _ _ ?_
    refine cPlain ?_
    refine sv 18 (.int .i64 ((i : Nat) : Int)) .of ?_
    simp only [List.set_cons_zero, List.set_cons_succ]
    refine sv 19 (.int .i64 (((i : Nat) : Int) + 1)) (Val.add 3 _ (.tmp 18) _ rfl ((i : Nat) : Int) 1 (by kernel_rfl) (by kernel_rfl) (by omega)) ?_
    simp only [List.set_cons_zero, List.set_cons_succ]
    refine sv 6 (.int .i64 (((i : Nat) : Int) + 1)) .of ?_
    simp only [List.set_cons_zero, List.set_cons_succ]
    refine wpList_nil ?_
    refine ⟨_, ?_, i + 1, rfl, (by omega), cutE, BL, D0, (by rw [← fillB_step (by omega) (by omega)]; simpa only [Nat.zero_add, Nat.mul_one] using b13), by omega⟩
    omega
  · skip
    refine wp_exit ?_
    simp only [Exit.then, Exit.inBlock, ↓reduceIte, Nat.reduceEqDiff]
    refine hK3 _ _ ?_
    refine wp_seq_k fun K8 hK8 => ?_
    refine wp_seq_k fun K9 hK9 => ?_
    refine cPlain ?_
    refine sv 7 (.int .i64 0) .of ?_
    simp only [List.set_cons_zero, List.set_cons_succ]
    refine wpList_nil ?_
    refine hK9 _ _ ?_
    refine wp_block ?_
    refine cLoop (fun N_ A_ w_ => ∃ (j : Nat), (N_ = 0 ∧ (j = 0) ∧ (∃ s2 : Nat → Value, A_ = ⟨[v0, .slice (some ax) 0 0, undef, undef, .slice none 0 0, .slice (some ⟨w.heap.size, 0, none⟩) xs.length xs.length, .int .i64 ((i : Nat) : Int), .int .i64 ((j : Nat) : Int), v0, .int .i64 ((xs.length : Nat) : Int), .slice (some ax) 0 0, .int .i64 ((0 : Nat) : Int), .int .i64 ((xs.length : Nat) : Int), .slice (some ⟨w.heap.size, 0, none⟩) xs.length xs.length, .int .i64 ((i : Nat) : Int), v0, .int .i64 ((xs.length : Nat) : Int), .bool (decide (((i : Nat) : Int) < ((xs.length : Nat) : Int))), (s1 18), (s1 19), (s1 20), (s1 21), (s1 22), (s1 23), (s1 24), (s1 25), (s1 26), (s2 27), (s2 28), (s2 29), (s2 30), (s2 31), (s2 32), (s2 33), (s2 34), (s2 35), (s2 36), (s2 37), (s2 38), (s2 39), (s2 40), (s2 41), (s2 42), undef].toArray, []⟩) ∧ Bl w.heap.size w w_ ∧ SL .u8 w_ v0 (nn xs) ∧ Blk .u8 w_ w.heap.size 5 (nn (fillB xs xs.length i)) ∧ wl0.heap.size ≤ w_.heap.size)) _ ⟨0, rfl, rfl, cutE, BL, D0, b13, Nat.le_refl _⟩ ?_
    clear BL D0 b13
    rintro n_ a_ wl1 ⟨j, rfl, hc1_0, ⟨s2, rfl⟩, BL, D0, b13, zl1⟩
    refine wp_seq_k fun K10 hK10 => ?_
    refine wp_seq_k fun K11 hK11 => ?_
    refine cPlain ?_
    refine sv 27 (.int .i64 ((j : Nat) : Int)) .of ?_
    simp only [List.set_cons_zero, List.set_cons_succ]
    refine sv 28 (.slice (some ax) 0 0) .of ?_
    simp only [List.set_cons_zero, List.set_cons_succ]
    refine sv 29 (.int .i64 ((0 : Nat) : Int)) .of ?_
    simp only [List.set_cons_zero, List.set_cons_succ]
    refine sv 30 (.bool (decide (((j : Nat) : Int) < ((0 : Nat) : Int)))) (Val.cmp .lss 3 _ (.tmp 27) (.tmp 29) rfl .i64 ((j : Nat) : Int) ((0 : Nat) : Int) (by kernel_rfl) (by kernel_rfl) (by simp) _ rfl) ?_
    simp only [List.set_cons_zero, List.set_cons_succ]
    refine wpList_nil ?_
    refine hK11 _ _ ?_
    refine cDec (((j : Nat) : Int) < ((0 : Nat) : Int)) (by kernel_rfl) (fun c30 => ?_) (fun c30 => ?_)
    · skip
      omega
    · skip
      have hfin : fillB xs xs.length i = xs := by rw [show i = xs.length by omega]; exact fillB_all _
      refine wp_exit ?_
      simp only [Exit.then, Exit.inBlock, ↓reduceIte, Nat.reduceEqDiff]
      refine hK8 _ _ ?_
      refine wp_seq_k fun K12 hK12 => ?_
      refine cPlain ?_
      refine sv 43 (.slice (some ⟨w.heap.size, 0, none⟩) xs.length xs.length) .of ?_
      simp only [List.set_cons_zero, List.set_cons_succ]
      refine sv 4 (.slice (some ⟨w.heap.size, 0, none⟩) xs.length xs.length) .of ?_
      simp only [List.set_cons_zero, List.set_cons_succ]
      refine wpList_nil ?_
      refine hK12 _ _ ?_
      refine wp_ret ?_
      (try simp only [Exit.then, Exit.inBlock])
      refine bodyPost_ret (v := .slice (some ⟨w.heap.size, 0, none⟩) xs.length xs.length) rT rfl ?_
      refine ⟨_, rfl, ?_, BL.b⟩
      rw [← hfin]
      exact SL.ofBlk b13 (by rw [nn_len] <;> exact hfl) (by unfold maxLen; omega)

set_option maxHeartbeats 4000000 in
theorem rblob_weird (v0 : Value) (ax : Addr) (xs : List Nat) (w : World) (D0 : SL .u8 w v0 (nn xs)) (hl : xs.length ≤ 1000000000000) :
    Calls Try.prog 92 #[v0, .slice (some ax) 0 0] w fun e w' => ∃ u, e = .returned u ∧ SL .u8 w' u (nn (xs ++ blobN [])) ∧ Below w.heap.size w w' := by
  have BL := Bl.refl w
  have hd0 := D0.lt
  have hnl := numN_len (((0 : Nat)) : Int)
  go_enter Try.func92, Try.ntmps92
  refine wp_seq_k fun K1 hK1 => ?_
  refine cPlain ?_
  refine sv 4 (.slice none 0 0) .of ?_
  simp only [List.set_cons_zero, List.set_cons_succ]
  refine wpList_nil ?_
  refine hK1 _ _ ?_
  refine wp_seq_k fun K2 hK2 => ?_
  refine cPlain ?_
  refine sv 5 (v0) .of ?_
  simp only [List.set_cons_zero, List.set_cons_succ]
  refine sv 6 (.slice (some ax) 0 0) .of ?_
  simp only [List.set_cons_zero, List.set_cons_succ]
  refine sv 7 (.int .i64 ((0 : Nat) : Int)) .of ?_
  simp only [List.set_cons_zero, List.set_cons_succ]
  refine sv 8 (.int .u64 ((0 : Nat) : Int)) (Val.asN (Val.convN 3 127 (.tmp 7) rfl .u64 0 18446744073709551616 Try.underlying3 Try.underlying127 (by kernel_rfl)) (by omega)) ?_
  simp only [List.set_cons_zero, List.set_cons_succ]
  refine xCall 9 91 #[.int .u64 ((0 : Nat) : Int)] (by kernel_rfl) ?_
  refine (rvarint_any 0 (by omega) w).mono ?_
  rintro en w1 ⟨u1, rfl, hO, hb1⟩
  have e1 := belE0 hb1
  have ze1 := e1.size
  replace BL := BL.e0 e1
  replace D0 := D0.e0 e1
  clear e1
  have N : Own 5 .u8 w.heap.size w1 u1 (nn (numN ((0 : Nat) : Int))) := hO
  have lN_1 := N.ge
  refine ⟨u1, rfl, ?_⟩
  simp only [List.set_cons_zero, List.set_cons_succ]
  refine xCall 10 125 #[v0, u1] (by kernel_rfl) ?_
  refine (rbehind_any v0 u1 xs (numN ((0 : Nat) : Int)) w1 D0 N.sl (by omega)).mono ?_
  rintro en w2 ⟨u2, rfl, hS, hb1⟩
  have hsl := hS.lt
  have e2 := belE0 hb1
  have ze2 := e2.size
  replace BL := BL.e0 e2
  replace D0 := D0.e0 e2
  replace N := N.e0 e2
  clear e2
  have S : SL .u8 w2 u2 (nn (xs ++ numN ((0 : Nat) : Int))) := hS
  refine ⟨u2, rfl, ?_⟩
  simp only [List.set_cons_zero, List.set_cons_succ]
  refine sv 11 (.slice (some ax) 0 0) .of ?_
  simp only [List.set_cons_zero, List.set_cons_succ]
  refine xCall 12 125 #[u2, .slice (some ax) 0 0] (by kernel_rfl) ?_
  refine (rbehind_weird u2 ax (xs ++ numN ((0 : Nat) : Int)) w2 S (by rw [List.length_append]; omega)).mono ?_
  rintro en w3 ⟨u3, rfl, hS3, hb1⟩
  have hsl3 := hS3.lt
  have e3 := belE0 hb1
  have ze3 := e3.size
  replace BL := BL.e0 e3
  replace D0 := D0.e0 e3
  replace N := N.e0 e3
  replace S := S.e0 e3
  clear e3
  have S3 : SL .u8 w3 u3 (nn (xs ++ numN ((0 : Nat) : Int))) := hS3
  refine ⟨u3, rfl, ?_⟩
  simp only [List.set_cons_zero, List.set_cons_succ]
  refine sv 4 (u3) .of ?_
  simp only [List.set_cons_zero, List.set_cons_succ]
  refine wpList_nil ?_
  refine hK2 _ _ ?_
  refine wp_ret ?_
  (try simp only [Exit.then, Exit.inBlock])
  refine bodyPost_ret (v := u3) rT rfl ?_
  exact ⟨_, rfl, S3.castM rfl (by unfold blobN; rw [List.append_nil]; rfl), BL.b⟩

theorem rblobx_any (v0 v1 : Value) (xs p : List Nat) (w : World) (D0 : SL .u8 w v0 (nn xs)) (D1 : SLx w v1 (nn p)) (hl : xs.length + p.length ≤ 1000000000000) :
    Calls Try.prog 92 #[v0, v1] w fun e w' => ∃ u, e = .returned u ∧ SL .u8 w' u (nn (xs ++ blobN p)) ∧ Below w.heap.size w w' := by
  rcases D1 with h | ⟨⟨a, rfl⟩, hp⟩
  · exact rblob_any v0 v1 xs p w D0 h hl
  · obtain rfl : p = [] := List.map_eq_nil_iff.1 hp
    exact rblob_weird v0 a xs w D0 (by simpa using hl)
theorem SLxs.getN {B : Nat} {w : World} {us : List Value} {ps : List (List Nat)} (h : SLxs B w us (ps.map nn)) (j : Nat) (hj : j < ps.length) : SLx w (us.getD j undef) (nn (ps.getD j [])) := by
  have := h.get j (by rw [List.length_map]; exact hj)
  have e : (ps.map nn).getD j [] = nn (ps.getD j []) := by
    rw [List.getD_eq_getElem?_getD, List.getElem?_map, List.getD_eq_getElem?_getD, List.getElem?_eq_getElem hj]; rfl
  rw [e] at this
  exact this
set_option maxHeartbeats 4000000 in
theorem rtextx_any (tag : Nat) (ht8 : tag < 256) (v : Value) (us : List Value) (ps : List (List Nat)) (B : Nat) (w : World) (hB : B ≤ w.heap.size) (HV : SV w v us) (HY : SLxs B w us (ps.map nn)) (hps : ∀ p ∈ ps, p.length ≤ 1000000) (hn : ps.length ≤ 1000) :
    Calls Try.prog 20 #[.int .u8 ((tag : Nat) : Int), v] w fun e w' => ∃ u, e = .returned u ∧ SL .u8 w' u (nn (textN tag ps)) ∧ Below w.heap.size w w' := by
  have BL := Bl.refl w
  have hul := HY.1
  rw [List.length_map] at hul
  obtain ⟨A, C, rfl, hvm⟩ := HV.len
  rw [hul] at HV ⊢
  have hvl := HV.lt
  have hnl := numN_len (ps.length : Int)
  have hget := fun (W : World) (H : SLxs B W us (ps.map nn)) (j : Nat) (hj : j < ps.length) => H.getN j hj
  go_enter Try.func20, Try.ntmps20
  refine wp_seq_k fun K1 hK1 => ?_
  refine cPlain ?_
  refine sv 4 (.slice none 0 0) .of ?_
  simp only [List.set_cons_zero, List.set_cons_succ]
  refine wpList_nil ?_
  refine hK1 _ _ ?_
  refine wp_seq_k fun K2 hK2 => ?_
  refine cPlain ?_
  refine sv 7 (.int .u8 ((tag : Nat) : Int)) .of ?_
  simp only [List.set_cons_zero, List.set_cons_succ]
  refine xLit 8 27 5 2 _ #[(0, .int .u8 75), (1, .int .u8 ((tag : Nat) : Int))] [.int .u8 75, .int .u8 ((tag : Nat) : Int)] rfl (by kernel_rfl) (by kernel_rfl) ?_
  intro w1 n1
  have zn1 := n1.z
  have b8 : Own 5 .u8 w.heap.size w1 (.slice (some ⟨w.heap.size, 0, none⟩) 2 2) [75, ((tag : Nat) : Int)] := Own.ofNw (xs := [75, ((tag : Nat) : Int)]) n1 (Nat.le_refl _) (by simp [maxLen])
  replace BL := BL.e0 n1.e
  have HV : SV w1 (.slice A ps.length C) us := HV.e0 n1.e
  have HY : SLxs B w1 us (ps.map nn) := SLxs.e0 HY n1.e
  have lb8_1 := b8.ge
  simp only [List.set_cons_zero, List.set_cons_succ]
  refine sv 9 (.slice A ps.length C) .of ?_
  simp only [List.set_cons_zero, List.set_cons_succ]
  refine sv 10 (.int .i64 ((ps.length : Nat) : Int)) .of ?_
  simp only [List.set_cons_zero, List.set_cons_succ]
  refine sv 11 (.int .u64 ((ps.length : Nat) : Int)) (Val.asN (Val.convN 3 127 (.tmp 10) rfl .u64 ps.length 18446744073709551616 Try.underlying3 Try.underlying127 (by kernel_rfl)) (by omega)) ?_
  simp only [List.set_cons_zero, List.set_cons_succ]
  refine xCall 12 91 #[.int .u64 ((ps.length : Nat) : Int)] (by kernel_rfl) ?_
  refine (rvarint_any ps.length (by omega) w1).mono ?_
  rintro en w2 ⟨u1, rfl, hO, hb1⟩
  have e1 := belE0 hb1
  have ze1 := e1.size
  replace BL := BL.e0 e1
  have HV : SV w2 (.slice A ps.length C) us := HV.e0 e1
  have HY : SLxs B w2 us (ps.map nn) := SLxs.e0 HY e1
  replace b8 := b8.e0 e1
  clear e1
  have N : Own 5 .u8 w1.heap.size w2 u1 (nn (numN (ps.length : Int))) := hO
  have lN_1 := N.ge
  refine ⟨u1, rfl, ?_⟩
  simp only [List.set_cons_zero, List.set_cons_succ]
  refine xApp 13 (.tmp 8) (.tmp 12) 27 5 .u8 1 rfl Try.underlying27 (by kernel_rfl) w.heap.size (.slice (some ⟨w.heap.size, 0, none⟩) 2 2) [75, ((tag : Nat) : Int)] (by kernel_rfl) b8 u1 (nn (numN (ps.length : Int))) (by kernel_rfl) N.sl ?va1_1 ?va1_2 ?va1_3 ?_
  case va1_1 => (simp only [nn_len, List.length_cons, List.length_nil]; omega)
  case va1_2 => (simp only [nn_len, List.length_cons, List.length_nil]; unfold maxLen; omega)
  case va1_3 => omega
  intro va1 w3 rva1 e2
  have ze2 := e2.size
  have BL_ := BL.ev e2 (fun i h => by have := lb8_1 _ h; omega)
  have HV : SV w3 (.slice A ps.length C) us := SV.evB HV e2 w.heap.size hvl (fun i hi => by have := lb8_1 _ hi; omega)
  have HY : SLxs B w3 us (ps.map nn) := SLxs.ev HY e2 (fun i hi => by have := lb8_1 _ hi; omega)
  have N_ := N.ev e2 (fun i hi h => by have := lN_1 i hi; have := lb8_1 _ h; omega)
  replace BL := BL_; clear BL_
  replace N := N_; clear N_
  replace b8 := rva1
  clear rva1 e2
  have lb8_2 := b8.ge
  simp only [List.set_cons_zero, List.set_cons_succ]
  refine sv 5 (va1) .of ?_
  simp only [List.set_cons_zero, List.set_cons_succ]
  refine wpList_nil ?_
  refine hK2 _ _ ?_
  refine wp_seq_k fun K3 hK3 => ?_
  refine wp_seq_k fun K4 hK4 => ?_
  refine cPlain ?_
  refine sv 6 (.int .i64 0) .of ?_
  simp only [List.set_cons_zero, List.set_cons_succ]
  refine wpList_nil ?_
  refine hK4 _ _ ?_
  refine wp_block ?_
  refine cLoop (fun N_ A_ w_ => ∃ (k : Nat) (u : Value), (N_ = ps.length - k ∧ (k ≤ ps.length) ∧ (∃ s1 : Nat → Value, A_ = ⟨[.int .u8 ((tag : Nat) : Int), .slice A ps.length C, undef, undef, .slice none 0 0, u, .int .i64 ((k : Nat) : Int), .int .u8 ((tag : Nat) : Int), .slice (some ⟨w.heap.size, 0, none⟩) 2 2, .slice A ps.length C, .int .i64 ((ps.length : Nat) : Int), .int .u64 ((ps.length : Nat) : Int), u1, va1, (s1 14), (s1 15), (s1 16), (s1 17), (s1 18), (s1 19), (s1 20), (s1 21), (s1 22), (s1 23), (s1 24), (s1 25), undef].toArray, []⟩) ∧ Bl w.heap.size w w_ ∧ SV w_ (.slice A ps.length C) us ∧ SLxs B w_ us (ps.map nn) ∧ SL .u8 w_ u (nn (textK tag ps k)) ∧ w3.heap.size ≤ w_.heap.size)) _ ⟨0, va1, rfl, (Nat.zero_le _), cutE, BL, HV, HY, (b8.sl.castM rfl (by unfold textK; rw [List.take_zero, List.flatMap_nil, List.append_nil, nn_app]; rfl)), Nat.le_refl _⟩ ?_
  clear BL HV HY b8 N
  rintro n_ a_ wl0 ⟨k, u, rfl, hc0_0, ⟨s1, rfl⟩, BL, HV, HY, O, zl0⟩
  have hOl := O.lt
  refine wp_seq_k fun K5 hK5 => ?_
  refine wp_seq_k fun K6 hK6 => ?_
  refine cPlain ?_
  refine sv 14 (.int .i64 ((k : Nat) : Int)) .of ?_
  simp only [List.set_cons_zero, List.set_cons_succ]
  refine sv 15 (.slice A ps.length C) .of ?_
  simp only [List.set_cons_zero, List.set_cons_succ]
  refine sv 16 (.int .i64 ((ps.length : Nat) : Int)) .of ?_
  simp only [List.set_cons_zero, List.set_cons_succ]
  refine sv 17 (.bool (decide (((k : Nat) : Int) < ((ps.length : Nat) : Int)))) (Val.cmp .lss 3 _ (.tmp 14) (.tmp 16) rfl .i64 ((k : Nat) : Int) ((ps.length : Nat) : Int) (by kernel_rfl) (by kernel_rfl) (by simp) _ rfl) ?_
  simp only [List.set_cons_zero, List.set_cons_succ]
  refine wpList_nil ?_
  refine hK6 _ _ ?_
  refine cDec (((k : Nat) : Int) < ((ps.length : Nat) : Int)) (by kernel_rfl) (fun c17 => ?_) (fun c17 => ?_)
  · skip
    refine wp_skip ?_
    refine hK5 _ _ ?_
    refine wp_seq_k fun K7 hK7 => ?_
    refine wp_block ?_
    refine cPlain ?_
    refine sv 20 (u) .of ?_
    simp only [List.set_cons_zero, List.set_cons_succ]
    refine sv 21 (.slice A ps.length C) .of ?_
    simp only [List.set_cons_zero, List.set_cons_succ]
    refine sv 22 (.int .i64 ((k : Nat) : Int)) .of ?_
    simp only [List.set_cons_zero, List.set_cons_succ]
    refine sv 23 (elemP (.slice A ps.length C) k) (Val.idxV 28 (.tmp 21) (.tmp 22) rfl (.slice A ps.length C) k (by kernel_rfl) (by kernel_rfl) HV Try.underlying28 (by kernel_rfl) (by omega)) ?_
    simp only [List.set_cons_zero, List.set_cons_succ]
    refine sv 24 (us.getD k undef) (Val.ldV 27 _ rfl (.slice A ps.length C) k (by kernel_rfl) (fun _ => by kernel_rfl) HV (by omega)) ?_
    simp only [List.set_cons_zero, List.set_cons_succ]
    refine xCall 25 92 #[u, us.getD k undef] (by kernel_rfl) ?_
    refine (rblobx_any u (us.getD k undef) (textK tag ps k) (ps.getD k []) wl0 O (hget _ HY k (by omega)) (by have := textK_len (tag := tag) hps (by omega) hn k; have := hps _ (getD_mem (show k < ps.length by omega)); omega)).mono ?_
    rintro en w4 ⟨u2, rfl, hS, hb1⟩
    have hsl := hS.lt
    have e3 := belE0 hb1
    have ze3 := e3.size
    replace BL := BL.e0 e3
    have HV : SV w4 (.slice A ps.length C) us := HV.e0 e3
    have HY : SLxs B w4 us (ps.map nn) := SLxs.e0 HY e3
    replace O := O.e0 e3
    clear e3
    have O2 : SL .u8 w4 u2 (nn (textK tag ps k ++ blobN (ps.getD k []))) := hS
    refine ⟨u2, rfl, ?_⟩
    simp only [List.set_cons_zero, List.set_cons_succ]
    refine sv 5 (u2) .of ?_
    simp only [List.set_cons_zero, List.set_cons_succ]
    refine wpList_nil ?_
    refine hK7 _ _ ?_
    refine cPlain ?_
    refine sv 18 (.int .i64 ((k : Nat) : Int)) .of ?_
    simp only [List.set_cons_zero, List.set_cons_succ]
    refine sv 19 (.int .i64 (((k : Nat) : Int) + 1)) (Val.add 3 _ (.tmp 18) _ rfl ((k : Nat) : Int) 1 (by kernel_rfl) (by kernel_rfl) (by omega)) ?_
    simp only [List.set_cons_zero, List.set_cons_succ]
    refine sv 6 (.int .i64 (((k : Nat) : Int) + 1)) .of ?_
    simp only [List.set_cons_zero, List.set_cons_succ]
    refine wpList_nil ?_
    refine ⟨_, ?_, k + 1, u2, rfl, (by omega), cutE, BL, HV, HY, (O2.castM rfl (by rw [textK_step (by omega)])), by omega⟩
    omega
  · skip
    have hfin : textK tag ps k = textN tag ps := by rw [show k = ps.length by omega, textK_all]
    refine wp_exit ?_
    simp only [Exit.then, Exit.inBlock, ↓reduceIte, Nat.reduceEqDiff]
    refine hK3 _ _ ?_
    refine wp_seq_k fun K8 hK8 => ?_
    refine cPlain ?_
    refine sv 26 (u) .of ?_
    simp only [List.set_cons_zero, List.set_cons_succ]
    refine sv 4 (u) .of ?_
    simp only [List.set_cons_zero, List.set_cons_succ]
    refine wpList_nil ?_
    refine hK8 _ _ ?_
    refine wp_ret ?_
    (try simp only [Exit.then, Exit.inBlock])
    refine bodyPost_ret (v := u) rT rfl ?_
    exact ⟨_, rfl, O.castM rfl (by rw [hfin]), BL.b⟩

theorem rtaggedx_any (tab : List Nat) (ht : tab.length = 72) (h32 : ∀ x ∈ tab, x < 4294967296) (w : World) (tag : Nat) (ht8 : tag < 256) (v : Value) (us : List Value) (ps : List (List Nat)) (B : Nat) (hB : B ≤ w.heap.size) (HV : SV w v us) (HY : SLxs B w us (ps.map nn)) (hps : ∀ p ∈ ps, p.length ≤ 1000000) (hn : ps.length ≤ 1000) (hb : ∀ p ∈ ps, ∀ x ∈ p, x < 256) :
    Calls Try.prog 22 #[.agg (cellsOf .u32 (nn tab)), .int .u8 ((tag : Nat) : Int), v] w fun e w' => e = .returned (.agg (cellsOf .u8 (nn (taggedN tab tag ps)))) ∧ Below w.heap.size w w' := by
  have BL := Bl.refl w
  have htl := textN_len (tag := tag) hps hn
  have hol := ofN_32 tab (textN tag ps)
  rw [← tagged_eq]
  go_enter Try.func22, Try.ntmps22
  refine wp_seq_k fun K1 hK1 => ?_
  refine cPlain ?_
  refine xBox 3 26 _ ((nn tab).map (Value.int .u32)) rfl (cells_toList _ _) ?_
  intro w1 n1
  have zn1 := n1.z
  have b3 := n1.c
  replace b3 : Blk .u32 w1 w.heap.size 26 (nn tab) := b3
  replace BL := BL.e0 n1.e
  have HV : SV w1 v us := HV.e0 n1.e
  have HY : SLxs B w1 us (ps.map nn) := SLxs.e0 HY n1.e
  simp only [List.set_cons_zero, List.set_cons_succ]
  refine xAlloc 6 32 ((nn (List.replicate 32 0)).map (Value.int .u8)) rfl (by kernel_rfl) ?_
  intro w2 n2
  have zn2 := n2.z
  have b6 := n2.c
  replace b6 : Blk .u8 w2 w1.heap.size 32 (nn (List.replicate 32 0)) := b6
  replace BL := BL.e0 n2.e
  have HV : SV w2 v us := HV.e0 n2.e
  have HY : SLxs B w2 us (ps.map nn) := SLxs.e0 HY n2.e
  replace b3 := b3.e0 n2.e
  simp only [List.set_cons_zero, List.set_cons_succ]
  refine wpList_nil ?_
  refine hK1 _ _ ?_
  refine wp_seq_k fun K2 hK2 => ?_
  have e1 := drew_e0 w2
  refine zg (fun w_ => Bl w.heap.size w w_ ∧ SV w_ v us ∧ SLxs B w_ us (ps.map nn) ∧ Blk .u32 w_ w.heap.size 26 (nn tab) ∧ Blk .u8 w_ w1.heap.size 32 (nn (List.replicate 32 0)) ∧ w2.heap.size ≤ w_.heap.size) (fun w_ => Bl w.heap.size w w_ ∧ SV w_ v us ∧ SLxs B w_ us (ps.map nn) ∧ Blk .u32 w_ w.heap.size 26 (nn tab) ∧ Blk .u8 w_ w1.heap.size 32 (nn (List.replicate 32 0)) ∧ w2.heap.size ≤ w_.heap.size) 5 6 ⟨BL.e0 e1, HV.e0 e1, SLxs.e0 HY e1, b3.e0 e1, b6.e0 e1, Nat.le_refl _⟩ ?_
  clear BL HV HY b3 b6
  clear e1
  intro w3
  rintro ⟨BL, HV, HY, b3, b6, z1⟩
  refine zv 0 7 (.agg (cellsOf .u32 (nn tab))) (fun _ ⟨BL, HV, HY, b3, b6, z1⟩ => Val.blk 26 _ rfl 0 72 (by kernel_rfl) b3 _ Try.underlying26 rfl (by kernel_rfl) (by (try simp only [nn_len, List.length_cons, List.length_nil, List.length_set, List.length_replicate]); try omega) _ (seg_all' _ (by (try simp only [nn_len, List.length_cons, List.length_nil, List.length_set, List.length_replicate]); try omega))) ⟨BL, HV, HY, b3, b6, by omega⟩ ?_
  simp only [List.set_cons_zero, List.set_cons_succ]
  refine zv 1 8 (.int .u8 ((tag : Nat) : Int)) (fun _ _ => .of) ⟨BL, HV, HY, b3, b6, by omega⟩ ?_
  simp only [List.set_cons_zero, List.set_cons_succ]
  refine zv 2 9 (v) (fun _ _ => .of) ⟨BL, HV, HY, b3, b6, by omega⟩ ?_
  simp only [List.set_cons_zero, List.set_cons_succ]
  refine zo1 3 rfl ?_
  refine xCall 10 20 #[.int .u8 ((tag : Nat) : Int), v] (by kernel_rfl) ?_
  refine (rtextx_any tag ht8 v us ps B w3 (by omega) HV HY hps hn).mono ?_
  rintro en w4 ⟨u, rfl, hS, hb1⟩
  have hsl := hS.lt
  have e2 := belE0 hb1
  have ze2 := e2.size
  replace BL := BL.e0 e2
  have HV : SV w4 v us := HV.e0 e2
  have HY : SLxs B w4 us (ps.map nn) := SLxs.e0 HY e2
  replace b3 := b3.e0 e2
  replace b6 := b6.e0 e2
  clear e2
  have S : SL .u8 w4 u (nn (textN tag ps)) := hS
  refine ⟨u, rfl, ?_⟩
  refine ze 3 ⟨BL, HV, HY, b3, b6, by omega⟩ ?_
  simp only [List.set_cons_zero, List.set_cons_succ]
  refine zo1 4 rfl ?_
  refine xCall 11 87 #[.agg (cellsOf .u32 (nn tab)), u] (by kernel_rfl) ?_
  refine (rof_any tab (textN tag ps) u ht h32 (text_b ht8 hb) w4 S (by omega)).mono ?_
  rintro en w5 ⟨rfl, hb1⟩
  have e3 := belE0 hb1
  have ze3 := e3.size
  replace BL := BL.e0 e3
  have HV : SV w5 v us := HV.e0 e3
  have HY : SLxs B w5 us (ps.map nn) := SLxs.e0 HY e3
  replace b3 := b3.e0 e3
  replace b6 := b6.e0 e3
  replace S := S.e0 e3
  clear e3
  refine ⟨.agg (cellsOf .u8 (nn (ofN tab (textN tag ps)))), rfl, ?_⟩
  refine ze 4 ⟨BL, HV, HY, b3, b6, by omega⟩ ?_
  simp only [List.set_cons_zero, List.set_cons_succ]
  refine zo1 5 rfl ?_
  refine xStoreA 32 (.tmp 6) (.tmp 11) rfl .u8 w1.heap.size 32 (nn (List.replicate 32 0)) 0 (nn (ofN tab (textN tag ps))) (by kernel_rfl) (by kernel_rfl) b6 (by rw [show (nn (ofN tab (textN tag ps))).length = 32 by ((try simp only [nn_len, List.length_cons, List.length_nil, List.length_set, List.length_replicate]); try omega)]; kernel_rfl) (by (try simp only [nn_len, List.length_cons, List.length_nil, List.length_set, List.length_replicate]); try omega) (nn (ofN tab (textN tag ps))) (over_whole _ _ (by (try simp only [nn_len, List.length_cons, List.length_nil, List.length_set, List.length_replicate]); try omega)) ?_
  intro w6 t1
  have zt1 := t1.z
  have BL_ := BL.ev t1.e (fun i h => show w.heap.size ≤ i by have h : i = w1.heap.size := h; omega)
  have b3_ := b3.ev t1.e (show ¬ (w.heap.size = w1.heap.size) by omega)
  replace BL := BL_; clear BL_
  replace b3 := b3_; clear b3_
  replace b6 : Blk .u8 w6 w1.heap.size 32 (nn (ofN tab (textN tag ps))) := t1.c
  clear t1
  refine zz 5 ?_
  refine zd (by kernel_rfl) ?_ _
  refine hK2 _ _ ?_
  refine wp_ret ?_
  (try simp only [Exit.then, Exit.inBlock])
  refine bodyPost_ret (rC rfl _ w1.heap.size _ _ (by kernel_rfl) b6.cel _ Try.underlying32 rfl (by rw [List.length_map, show (nn (ofN tab (textN tag ps))).length = 32 by ((try simp only [nn_len, List.length_cons, List.length_nil, List.length_set, List.length_replicate]); try omega)]; kernel_rfl)) rfl ?_
  exact ⟨rfl, BL.b⟩

end Go.Proofs.YtadldhlfboibjaaR
