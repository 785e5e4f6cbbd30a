/-
  ref01.behind (its own row), ref01.Uint; ref18.Bytes, ref18.ListBytes.
-/
import Derived.Test.YtanggdnmoaflfaaRef18
import Derived.Test.YtanggdnmoaflfaaRef1
import Derived.Test.YtanggdnmoaflfaaCertC
namespace Go.Proofs.Ytanggdnmoaflfaa
open Go.RowKit
set_option linter.unusedVariables false
set_option linter.unusedSimpArgs false
set_option maxRecDepth 100000
attribute [local irreducible] wpList Code.wp wpAnyZ fillB
theorem Own.ofBlkU {k : IntKind} {w : World} {g : Nat} {e : TypeId} {xs : List Int} (h : Blk k w g e xs) {n : Nat} (hn : xs.length = n) (hm : n ≤ maxLen) : Own e k g w (.slice (some ⟨g, 0, none⟩) n n) xs := by
  subst hn
  exact ⟨by simp [nums], .inr ⟨g, xs.length, _, rfl, Nat.le_refl _, h, Nat.le_refl _, hm, by simp [cellsOf], by simpa [nums, cellsOf] using List.take_of_length_le (by simp)⟩⟩

set_option maxHeartbeats 4000000 in
theorem rbehindO_any (v0 v1 : Value) (xs ys : List Nat) (w : World) (D0 : SL .u8 w v0 (nn xs)) (D1 : SL .u8 w v1 (nn ys)) (hl : xs.length + ys.length ≤ 140737488355328) :
    Calls Try.prog 71 #[v0, v1] w fun e w' => ∃ u, e = .returned u ∧ Own 5 .u8 w.heap.size w' u (nn (xs ++ ys)) ∧ Below w.heap.size w w' := by
  have BL := Bl.refl w
  have hd0 := D0.lt
  have hd1 := D1.lt
  have hal : (xs ++ ys).length = xs.length + ys.length := List.length_append
  go_enter Try.func71, Try.ntmps71
  refine wp_seq_k fun K1 hK1 => ?_
  refine cPlain ?_
  refine sv 4 (.slice none 0 0) .of ?_
  simp only [sZ, sS]
  refine wpList_nil ?_
  refine hK1 _ _ ?_
  refine wp_seq_k fun K2 hK2 => ?_
  refine cPlain ?_
  refine sv 8 (v0) .of ?_
  simp only [sZ, sS]
  refine sv 9 (.int .i64 ((xs.length : Nat) : Int)) (Val.lenS (.tmp 8) 29 rfl (by kernel_rfl) D0 xs.length (nn_len xs) Try.underlying29) ?_
  simp only [sZ, sS]
  refine sv 10 (v1) .of ?_
  simp only [sZ, sS]
  refine sv 11 (.int .i64 ((ys.length : Nat) : Int)) (Val.lenS (.tmp 10) 29 rfl (by kernel_rfl) D1 ys.length (nn_len ys) Try.underlying29) ?_
  simp only [sZ, sS]
  refine sv 12 (.int .i64 ((xs.length + ys.length : Nat) : Int)) (Val.as (Val.add 3 _ (.tmp 9) (.tmp 11) rfl ((xs.length : Nat) : Int) ((ys.length : Nat) : Int) (by kernel_rfl) (by kernel_rfl) (by omega)) (congrArg (Value.int .i64) (by omega))) ?_
  simp only [sZ, sS]
  refine xMakeN 13 (.tmp 12) (.tmp 12) 29 5 .u8 1 rfl Try.underlying29 (by kernel_rfl) (xs.length + ys.length) (by kernel_rfl) (by kernel_rfl) (by unfold maxLen; omega) (by omega) ?_
  intro w1 n1
  have zn1 := n1.z
  have b13 : Blk .u8 w1 w.heap.size 5 (nn (List.replicate (xs.length + ys.length) 0)) := by rw [nn_rep]; exact n1.c
  replace BL := BL.e0 n1.e
  replace D0 := D0.e0 n1.e
  replace D1 := D1.e0 n1.e
  simp only [sZ, sS]
  refine sv 5 (.slice (some ⟨w.heap.size, 0, none⟩) (xs.length + ys.length) (xs.length + ys.length)) .of ?_
  simp only [sZ, sS]
  refine wpList_nil ?_
  refine hK2 _ _ ?_
  refine wp_seq_k fun K3 hK3 => ?_
  refine wp_seq_k fun K4 hK4 => ?_
  refine cPlain ?_
  refine sv 6 (.int .i64 0) .of ?_
  simp only [sZ, sS]
  refine wpList_nil ?_
  refine hK4 _ _ ?_
  refine wp_block ?_
  refine cLoop (fun N_ A_ w_ => ∃ (i : Nat), (N_ = xs.length - i ∧ (i ≤ xs.length) ∧ (∃ s1 : Nat → Value, A_ = ⟨[v0, v1, undef, undef, .slice none 0 0, .slice (some ⟨w.heap.size, 0, none⟩) (xs.length + ys.length) (xs.length + ys.length), .int .i64 ((i : Nat) : Int), undef, v0, .int .i64 ((xs.length : Nat) : Int), v1, .int .i64 ((ys.length : Nat) : Int), .int .i64 ((xs.length + ys.length : Nat) : Int), .slice (some ⟨w.heap.size, 0, none⟩) (xs.length + ys.length) (xs.length + ys.length), (s1 14), (s1 15), (s1 16), (s1 17), (s1 18), (s1 19), (s1 20), (s1 21), (s1 22), (s1 23), (s1 24), (s1 25), (s1 26), undef, undef, undef, undef, undef, undef, undef, undef, undef, undef, undef, undef, undef, undef, undef, undef, undef].toArray, []⟩) ∧ Bl w.heap.size w w_ ∧ SL .u8 w_ v0 (nn xs) ∧ SL .u8 w_ v1 (nn ys) ∧ Blk .u8 w_ w.heap.size 5 (nn (fillB (xs ++ ys) (xs.length + ys.length) i)) ∧ w1.heap.size ≤ w_.heap.size)) _ ⟨0, rfl, (Nat.zero_le _), cutE, BL, D0, D1, (by rw [fillB_0]; exact b13), Nat.le_refl _⟩ ?_
  clear BL D0 D1 b13
  rintro n_ a_ wl0 ⟨i, rfl, hc0_0, ⟨s1, rfl⟩, BL, D0, D1, b13, zl0⟩
  have hfl := fillB_len (zs := (xs ++ ys)) (m := (xs.length + ys.length)) (i := i) (by omega) (by omega)
  refine wp_seq_k fun K5 hK5 => ?_
  refine wp_seq_k fun K6 hK6 => ?_
  refine cPlain ?_
  refine sv 14 (.int .i64 ((i : Nat) : Int)) .of ?_
  simp only [sZ, sS]
  refine sv 15 (v0) .of ?_
  simp only [sZ, sS]
  refine sv 16 (.int .i64 ((xs.length : Nat) : Int)) (Val.lenS (.tmp 15) 29 rfl (by kernel_rfl) D0 xs.length (nn_len xs) Try.underlying29) ?_
  simp only [sZ, sS]
  refine sv 17 (.bool (decide (((i : Nat) : Int) < ((xs.length : Nat) : Int)))) (Val.cmp .lss 3 _ (.tmp 14) (.tmp 16) rfl .i64 ((i : Nat) : Int) ((xs.length : Nat) : Int) (by kernel_rfl) (by kernel_rfl) (by simp) _ rfl) ?_
  simp only [sZ, sS]
  refine wpList_nil ?_
  refine hK6 _ _ ?_
  refine cDec (((i : Nat) : Int) < ((xs.length : Nat) : Int)) (by kernel_rfl) (fun c17 => ?_) (fun c17 => ?_)
  · skip
    refine wp_skip ?_
    refine hK5 _ _ ?_
    refine wp_seq_k fun K7 hK7 => ?_
    refine wp_block ?_
    refine cPlain ?_
    refine sv 20 (.slice (some ⟨w.heap.size, 0, none⟩) (xs.length + ys.length) (xs.length + ys.length)) .of ?_
    simp only [sZ, sS]
    refine sv 21 (.int .i64 ((i : Nat) : Int)) .of ?_
    simp only [sZ, sS]
    refine sv 22 (v0) .of ?_
    simp only [sZ, sS]
    refine sv 23 (.int .i64 ((i : Nat) : Int)) .of ?_
    simp only [sZ, sS]
    refine sv 24 (elemP v0 i) (Val.idxE 29 (.tmp 22) (.tmp 23) rfl v0 i (by kernel_rfl) (by kernel_rfl) D0 Try.underlying29 (by kernel_rfl) (by rw [nn_len]; omega)) ?_
    simp only [sZ, sS]
    refine sv 25 (.int .u8 (((xs ++ ys).getD i 0 : Nat) : Int)) (Val.asN (Val.nldE 5 _ rfl v0 i (by kernel_rfl) (fun _ => by kernel_rfl) D0 (by omega)) (getD_app1 (by omega)).symm) ?_
    simp only [sZ, sS]
    refine sv 26 (.pointer (some ⟨w.heap.size, 0 + i * 1, none⟩)) (Val.idxS 29 (.tmp 20) (.tmp 21) rfl w.heap.size 0 (xs.length + ys.length) (xs.length + ys.length) i (by kernel_rfl) (by kernel_rfl) 1 Try.underlying29 (by kernel_rfl) (by omega)) ?_
    simp only [sZ, sS]
    refine xStoreNN 5 (.tmp 26) (.tmp 25) rfl .u8 w.heap.size 5 (fillB (xs ++ ys) (xs.length + ys.length) i) (0 + i * 1) ((xs ++ ys).getD i 0) (by kernel_rfl) (by kernel_rfl) b13 (by kernel_rfl) (by omega) ?_
    intro w2 t1
    have zt1 := t1.z
    have BL_ := BL.ev t1.e (fun i h => show w.heap.size ≤ i by have h : i = w.heap.size := h; omega)
    have D0_ := D0.ev t1.e (fun i hi => show ¬ (i = w.heap.size) by have := hd0 i hi; omega)
    have D1_ := D1.ev t1.e (fun i hi => show ¬ (i = w.heap.size) by have := hd1 i hi; omega)
    replace BL := BL_; clear BL_
    replace D0 := D0_; clear D0_
    replace D1 := D1_; clear D1_
    replace b13 : Blk .u8 w2 w.heap.size 5 (nn ((fillB (xs ++ ys) (xs.length + ys.length) i).set (0 + i * 1) ((xs ++ ys).getD i 0))) := t1.c
    clear t1
    refine wpList_nil ?_
    refine hK7 _ _ ?_
    refine cPlain ?_
    refine sv 18 (.int .i64 ((i : Nat) : Int)) .of ?_
    simp only [sZ, sS]
    refine sv 19 (.int .i64 (((i : Nat) : Int) + 1)) (Val.add 3 _ (.tmp 18) _ rfl ((i : Nat) : Int) 1 (by kernel_rfl) (by kernel_rfl) (by omega)) ?_
    simp only [sZ, sS]
    refine sv 6 (.int .i64 (((i : Nat) : Int) + 1)) .of ?_
    simp only [sZ, sS]
    refine wpList_nil ?_
    refine ⟨_, ?_, i + 1, rfl, (by omega), cutE, BL, D0, D1, (by rw [← fillB_step (by omega) (by omega)]; simpa only [Nat.zero_add, Nat.mul_one] using b13), by omega⟩
    omega
  · skip
    refine wp_exit ?_
    simp only [Exit.then, Exit.inBlock, ↓reduceIte, Nat.reduceEqDiff]
    refine hK3 _ _ ?_
    refine wp_seq_k fun K8 hK8 => ?_
    refine wp_seq_k fun K9 hK9 => ?_
    refine cPlain ?_
    refine sv 7 (.int .i64 0) .of ?_
    simp only [sZ, sS]
    refine wpList_nil ?_
    refine hK9 _ _ ?_
    refine wp_block ?_
    refine cLoop (fun N_ A_ w_ => ∃ (j : Nat), (N_ = ys.length - j ∧ (j ≤ ys.length) ∧ (∃ s2 : Nat → Value, A_ = ⟨[v0, v1, undef, undef, .slice none 0 0, .slice (some ⟨w.heap.size, 0, none⟩) (xs.length + ys.length) (xs.length + ys.length), .int .i64 ((i : Nat) : Int), .int .i64 ((j : Nat) : Int), v0, .int .i64 ((xs.length : Nat) : Int), v1, .int .i64 ((ys.length : Nat) : Int), .int .i64 ((xs.length + ys.length : Nat) : Int), .slice (some ⟨w.heap.size, 0, none⟩) (xs.length + ys.length) (xs.length + ys.length), .int .i64 ((i : Nat) : Int), v0, .int .i64 ((xs.length : Nat) : Int), .bool (decide (((i : Nat) : Int) < ((xs.length : Nat) : Int))), (s1 18), (s1 19), (s1 20), (s1 21), (s1 22), (s1 23), (s1 24), (s1 25), (s1 26), (s2 27), (s2 28), (s2 29), (s2 30), (s2 31), (s2 32), (s2 33), (s2 34), (s2 35), (s2 36), (s2 37), (s2 38), (s2 39), (s2 40), (s2 41), (s2 42), undef].toArray, []⟩) ∧ Bl w.heap.size w w_ ∧ SL .u8 w_ v0 (nn xs) ∧ SL .u8 w_ v1 (nn ys) ∧ Blk .u8 w_ w.heap.size 5 (nn (fillB (xs ++ ys) (xs.length + ys.length) (xs.length + j))) ∧ wl0.heap.size ≤ w_.heap.size)) _ ⟨0, rfl, (Nat.zero_le _), cutE, BL, D0, D1, (by rw [show xs.length + 0 = i by omega]; exact b13), Nat.le_refl _⟩ ?_
    clear BL D0 D1 b13
    rintro n_ a_ wl1 ⟨j, rfl, hc1_0, ⟨s2, rfl⟩, BL, D0, D1, b13, zl1⟩
    have hfl := fillB_len (zs := (xs ++ ys)) (m := (xs.length + ys.length)) (i := xs.length + j) (by omega) (by omega)
    refine wp_seq_k fun K10 hK10 => ?_
    refine wp_seq_k fun K11 hK11 => ?_
    refine cPlain ?_
    refine sv 27 (.int .i64 ((j : Nat) : Int)) .of ?_
    simp only [sZ, sS]
    refine sv 28 (v1) .of ?_
    simp only [sZ, sS]
    refine sv 29 (.int .i64 ((ys.length : Nat) : Int)) (Val.lenS (.tmp 28) 29 rfl (by kernel_rfl) D1 ys.length (nn_len ys) Try.underlying29) ?_
    simp only [sZ, sS]
    refine sv 30 (.bool (decide (((j : Nat) : Int) < ((ys.length : Nat) : Int)))) (Val.cmp .lss 3 _ (.tmp 27) (.tmp 29) rfl .i64 ((j : Nat) : Int) ((ys.length : Nat) : Int) (by kernel_rfl) (by kernel_rfl) (by simp) _ rfl) ?_
    simp only [sZ, sS]
    refine wpList_nil ?_
    refine hK11 _ _ ?_
    refine cDec (((j : Nat) : Int) < ((ys.length : Nat) : Int)) (by kernel_rfl) (fun c30 => ?_) (fun c30 => ?_)
    · skip
      refine wp_skip ?_
      refine hK10 _ _ ?_
      refine wp_seq_k fun K12 hK12 => ?_
      refine wp_block ?_
      refine cPlain ?_
      refine sv 33 (.slice (some ⟨w.heap.size, 0, none⟩) (xs.length + ys.length) (xs.length + ys.length)) .of ?_
      simp only [sZ, sS]
      refine sv 34 (v0) .of ?_
      simp only [sZ, sS]
      refine sv 35 (.int .i64 ((xs.length : Nat) : Int)) (Val.lenS (.tmp 34) 29 rfl (by kernel_rfl) D0 xs.length (nn_len xs) Try.underlying29) ?_
      simp only [sZ, sS]
      refine sv 36 (.int .i64 ((j : Nat) : Int)) .of ?_
      simp only [sZ, sS]
      refine sv 37 (.int .i64 ((xs.length + j : Nat) : Int)) (Val.as (Val.add 3 _ (.tmp 35) (.tmp 36) rfl ((xs.length : Nat) : Int) ((j : Nat) : Int) (by kernel_rfl) (by kernel_rfl) (by omega)) (congrArg (Value.int .i64) (by omega))) ?_
      simp only [sZ, sS]
      refine sv 38 (v1) .of ?_
      simp only [sZ, sS]
      refine sv 39 (.int .i64 ((j : Nat) : Int)) .of ?_
      simp only [sZ, sS]
      refine sv 40 (elemP v1 j) (Val.idxE 29 (.tmp 38) (.tmp 39) rfl v1 j (by kernel_rfl) (by kernel_rfl) D1 Try.underlying29 (by kernel_rfl) (by rw [nn_len]; omega)) ?_
      simp only [sZ, sS]
      refine sv 41 (.int .u8 (((xs ++ ys).getD (xs.length + j) 0 : Nat) : Int)) (Val.asN (Val.nldE 5 _ rfl v1 j (by kernel_rfl) (fun _ => by kernel_rfl) D1 (by omega)) (getD_app2 j).symm) ?_
      simp only [sZ, sS]
      refine sv 42 (.pointer (some ⟨w.heap.size, 0 + (xs.length + j) * 1, none⟩)) (Val.idxS 29 (.tmp 33) (.tmp 37) rfl w.heap.size 0 (xs.length + ys.length) (xs.length + ys.length) (xs.length + j) (by kernel_rfl) (by kernel_rfl) 1 Try.underlying29 (by kernel_rfl) (by omega)) ?_
      simp only [sZ, sS]
      refine xStoreNN 5 (.tmp 42) (.tmp 41) rfl .u8 w.heap.size 5 (fillB (xs ++ ys) (xs.length + ys.length) (xs.length + j)) (0 + (xs.length + j) * 1) ((xs ++ ys).getD (xs.length + j) 0) (by kernel_rfl) (by kernel_rfl) b13 (by kernel_rfl) (by omega) ?_
      intro w3 t2
      have zt2 := t2.z
      have BL_ := BL.ev t2.e (fun i h => show w.heap.size ≤ i by have h : i = w.heap.size := h; omega)
      have D0_ := D0.ev t2.e (fun i hi => show ¬ (i = w.heap.size) by have := hd0 i hi; omega)
      have D1_ := D1.ev t2.e (fun i hi => show ¬ (i = w.heap.size) by have := hd1 i hi; omega)
      replace BL := BL_; clear BL_
      replace D0 := D0_; clear D0_
      replace D1 := D1_; clear D1_
      replace b13 : Blk .u8 w3 w.heap.size 5 (nn ((fillB (xs ++ ys) (xs.length + ys.length) (xs.length + j)).set (0 + (xs.length + j) * 1) ((xs ++ ys).getD (xs.length + j) 0))) := t2.c
      clear t2
      refine wpList_nil ?_
      refine hK12 _ _ ?_
      refine cPlain ?_
      refine sv 31 (.int .i64 ((j : Nat) : Int)) .of ?_
      simp only [sZ, sS]
      refine sv 32 (.int .i64 (((j : Nat) : Int) + 1)) (Val.add 3 _ (.tmp 31) _ rfl ((j : Nat) : Int) 1 (by kernel_rfl) (by kernel_rfl) (by omega)) ?_
      simp only [sZ, sS]
      refine sv 7 (.int .i64 (((j : Nat) : Int) + 1)) .of ?_
      simp only [sZ, sS]
      refine wpList_nil ?_
      refine ⟨_, ?_, j + 1, rfl, (by omega), cutE, BL, D0, D1, (by rw [← Nat.add_assoc, ← fillB_step (by omega) (by omega)]; simpa only [Nat.zero_add, Nat.mul_one] using b13), by omega⟩
      omega
    · skip
      have hfin : fillB (xs ++ ys) (xs.length + ys.length) (xs.length + j) = (xs ++ ys) := by rw [show xs.length + j = (xs ++ ys).length by omega, ← hal]; exact fillB_all _
      refine wp_exit ?_
      simp only [Exit.then, Exit.inBlock, ↓reduceIte, Nat.reduceEqDiff]
      refine hK8 _ _ ?_
      refine wp_seq_k fun K13 hK13 => ?_
      refine cPlain ?_
      refine sv 43 (.slice (some ⟨w.heap.size, 0, none⟩) (xs.length + ys.length) (xs.length + ys.length)) .of ?_
      simp only [sZ, sS]
      refine sv 4 (.slice (some ⟨w.heap.size, 0, none⟩) (xs.length + ys.length) (xs.length + ys.length)) .of ?_
      simp only [sZ, sS]
      refine wpList_nil ?_
      refine hK13 _ _ ?_
      refine wp_ret ?_
      (try simp only [Exit.then, Exit.inBlock])
      refine bodyPost_ret (v := .slice (some ⟨w.heap.size, 0, none⟩) (xs.length + ys.length) (xs.length + ys.length)) rT rfl ?_
      refine ⟨_, rfl, ?_, BL.b⟩
      rw [← hfin]
      exact (Own.ofBlkU b13 (by rw [nn_len]; exact hfl) (by unfold maxLen; omega)).mono (by omega)

theorem ruint_any (v : Value) (xs : List Nat) (n : Nat) (hn : n ≤ 18446744073709551615) (w : World) (D : SL .u8 w v (nn xs)) (hl : xs.length ≤ 1000000000) :
    Calls Try.prog 49 #[v, .int .u64 ((n : Nat) : Int)] w fun e w' => ∃ u, e = .returned u ∧ Own 5 .u8 w.heap.size w' u (nn (xs ++ numN (n : Int))) ∧ Below w.heap.size w w' := by
  have BL := Bl.refl w
  have hvl := D.lt
  have hnl := numN_len (n : Int)
  go_enter Try.func49, Try.ntmps49
  refine wp_seq_k fun K1 hK1 => ?_
  refine cPlain ?_
  refine sv 4 (.slice none 0 0) .of ?_
  simp only [sZ, sS]
  refine wpList_nil ?_
  refine hK1 _ _ ?_
  refine wp_seq_k fun K2 hK2 => ?_
  refine cPlain ?_
  refine sv 5 (v) .of ?_
  simp only [sZ, sS]
  refine sv 6 (.int .u64 ((n : Nat) : Int)) .of ?_
  simp only [sZ, sS]
  refine xCall 7 72 #[.int .u64 ((n : Nat) : Int)] (by kernel_rfl) ?_
  refine (rvarint_any n hn w).mono ?_
  rintro en w1 ⟨u, rfl, hO, hb1⟩
  have e1 := belE0 hb1
  have ze1 := e1.size
  replace BL := BL.e0 e1
  replace D := D.e0 e1
  clear e1
  have U : Own 5 .u8 w.heap.size w1 u (nn (numN (n : Int))) := hO
  have lU_1 := U.ge
  refine ⟨u, rfl, ?_⟩
  simp only [sZ, sS]
  refine xCall 8 71 #[v, u] (by kernel_rfl) ?_
  refine (rbehindO_any v u xs (numN (n : Int)) w1 D U.sl (by omega)).mono ?_
  rintro en w2 ⟨u2, rfl, hO2, hb1⟩
  have e2 := belE0 hb1
  have ze2 := e2.size
  replace BL := BL.e0 e2
  replace D := D.e0 e2
  replace U := U.e0 e2
  clear e2
  have U2 : Own 5 .u8 w1.heap.size w2 u2 (nn (xs ++ numN (n : Int))) := hO2
  have lU2_1 := U2.ge
  refine ⟨u2, rfl, ?_⟩
  simp only [sZ, sS]
  refine sv 4 (u2) .of ?_
  simp only [sZ, sS]
  refine wpList_nil ?_
  refine hK2 _ _ ?_
  refine wp_ret ?_
  (try simp only [Exit.then, Exit.inBlock])
  refine bodyPost_ret (v := u2) rT rfl ?_
  exact ⟨_, rfl, U2.mono (by omega), BL.b⟩

end Go.Proofs.Ytanggdnmoaflfaa
