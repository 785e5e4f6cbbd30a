/-
  SameList.
-/
import Derived.Test.YtanggdnmoaflfaaCertE
namespace Go.Proofs.Ytanggdnmoaflfaa
open Go.RowKit
set_option linter.unusedVariables false
set_option linter.unusedSimpArgs false
set_option maxRecDepth 100000
attribute [local irreducible] wpList Code.wp wpAnyH
theorem take_same_succ (xs ys : List Int) (k : Nat) (hx : k < xs.length) (hy : k < ys.length) (h : xs.take k = ys.take k) : xs.take (k + 1) = ys.take (k + 1) ↔ xs.getD k 0 = ys.getD k 0 := by
  have e1 : xs.take (k + 1) = xs.take k ++ [xs[k]] := List.take_succ_eq_append_getElem hx
  have e2 : ys.take (k + 1) = ys.take k ++ [ys[k]] := List.take_succ_eq_append_getElem hy
  rw [e1, e2, h, List.append_cancel_left_eq]
  simp [hx, hy]
set_option maxHeartbeats 1600000 in
theorem samelist_any (p q : Int) (u v : Value) (xs ys : List Int) (w : World) (U : SL .i64 w u xs) (V : SL .i64 w v ys) :
    Calls Try.prog 26 #[.agg #[.int .i64 p, u], .agg #[.int .i64 q, v]] w (BoolPost w w.heap.size (decide (p = q ∧ xs = ys))) := by
  obtain ⟨a, c, rfl, hm⟩ := U.len
  obtain ⟨b, d, rfl, hm2⟩ := V.len
  have lU := U.bd
  have lV := V.bd
  have BL := Bl.refl w
  unfold maxLen at hm hm2
  go_enter Try.func26, Try.ntmps26
  refine wp_seq_k fun K1 hK1 => ?_
  refine cPlain ?_
  refine xBox 2 28 _ [.int .i64 p, .slice a xs.length c] rfl (by kernel_rfl) ?_
  intro w1 n1
  have zn1 := n1.z
  have b2 := n1.c
  replace U := U.e0 n1.e
  replace V := V.e0 n1.e
  replace BL := BL.e0 n1.e
  simp only [sZ, sS]
  refine xBox 3 28 _ [.int .i64 q, .slice b ys.length d] rfl (by kernel_rfl) ?_
  intro w2 n2
  have zn2 := n2.z
  have b3 := n2.c
  replace U := U.e0 n2.e
  replace V := V.e0 n2.e
  replace BL := BL.e0 n2.e
  replace b2 := b2.e0 n2.e
  simp only [sZ, sS]
  refine sv 4 (.bool false) .of ?_
  simp only [sZ, sS]
  refine wpList_nil ?_
  refine hK1 _ _ ?_
  refine wp_seq_k fun K2 hK2 => ?_
  refine wp_seq_k fun K3 hK3 => ?_
  refine cPlain ?_
  refine sv 6 (.pointer (some ⟨w.heap.size, 0, none⟩)) .of ?_
  simp only [sZ, sS]
  refine sv 7 (.int .i64 p) (Val.cel1 3 _ rfl w.heap.size 0 _ (by kernel_rfl) (fun _ => (by kernel_rfl)) b2 rfl) ?_
  simp only [sZ, sS]
  refine sv 8 (.pointer (some ⟨w1.heap.size, 0, none⟩)) .of ?_
  simp only [sZ, sS]
  refine sv 9 (.int .i64 q) (Val.cel1 3 _ rfl w1.heap.size 0 _ (by kernel_rfl) (fun _ => (by kernel_rfl)) b3 rfl) ?_
  simp only [sZ, sS]
  refine sv 10 (.bool (decide (¬ (p = q)))) (Val.cmp .neq 3 _ (.tmp 7) (.tmp 9) rfl .i64 p q (by kernel_rfl) (by kernel_rfl) (by simp) _ (by simp [cmpB])) ?_
  simp only [sZ, sS]
  refine sv 11 (.bool (decide (¬ (p = q)))) .of ?_
  simp only [sZ, sS]
  by_cases g12 : ¬ (p = q)
  · skip
    have dg12 : decide (¬ (p = q)) = true := decide_eq_true g12
    simp only [dg12]
    clear dg12
    refine xSkip 12 ?_
    simp only [sZ, sS]
    refine xSkip 13 ?_
    simp only [sZ, sS]
    refine xSkip 14 ?_
    simp only [sZ, sS]
    refine xSkip 15 ?_
    simp only [sZ, sS]
    refine xSkip 16 ?_
    simp only [sZ, sS]
    refine xSkip 17 ?_
    simp only [sZ, sS]
    refine xSkip 18 ?_
    simp only [sZ, sS]
    refine sv 19 (.bool true) .of ?_
    simp only [sZ, sS]
    refine wpList_nil ?_
    refine hK3 _ _ ?_
    refine cT ?_
    refine wp_seq_k fun K4 hK4 => ?_
    refine cPlain ?_
    refine sv 4 (.bool false) .of ?_
    simp only [sZ, sS]
    refine wpList_nil ?_
    refine hK4 _ _ ?_
    refine wp_ret ?_
    (try simp only [Exit.then, Exit.inBlock])
    refine bodyPost_ret (v := .bool false) rT rfl ?_
    refine ⟨congrArg Ending.returned (congrArg Value.bool (decide_eq_false ?_).symm), BL.b⟩
    rintro ⟨h1, h2⟩
    first | exact g12 h1 | (subst h2; exact c19 rfl) | (subst h2; exact g19 rfl)
  · skip
    have dg12 : decide (¬ (p = q)) = false := decide_eq_false g12
    simp only [dg12]
    clear dg12
    refine sv 12 (.pointer (some ⟨w.heap.size, 1, none⟩)) .of ?_
    simp only [sZ, sS]
    refine sv 13 (.slice a xs.length c) (Val.cel1 26 _ rfl w.heap.size 1 _ (by kernel_rfl) (fun _ => (by kernel_rfl)) b2 rfl) ?_
    simp only [sZ, sS]
    refine sv 14 (.int .i64 (xs.length : Int)) .of ?_
    simp only [sZ, sS]
    refine sv 15 (.pointer (some ⟨w1.heap.size, 1, none⟩)) .of ?_
    simp only [sZ, sS]
    refine sv 16 (.slice b ys.length d) (Val.cel1 26 _ rfl w1.heap.size 1 _ (by kernel_rfl) (fun _ => (by kernel_rfl)) b3 rfl) ?_
    simp only [sZ, sS]
    refine sv 17 (.int .i64 (ys.length : Int)) .of ?_
    simp only [sZ, sS]
    refine sv 18 (.bool (decide (¬ ((xs.length : Int) = (ys.length : Int))))) (Val.cmp .neq 3 _ (.tmp 14) (.tmp 17) rfl .i64 (xs.length : Int) (ys.length : Int) (by kernel_rfl) (by kernel_rfl) (by simp) _ (by simp [cmpB])) ?_
    simp only [sZ, sS]
    refine sv 19 (.bool (decide (¬ ((xs.length : Int) = (ys.length : Int))))) .of ?_
    simp only [sZ, sS]
    refine wpList_nil ?_
    refine hK3 _ _ ?_
    refine cDec (¬ ((xs.length : Int) = (ys.length : Int))) (by kernel_rfl) (fun c19 => ?_) (fun c19 => ?_)
    · skip
      refine wp_seq_k fun K5 hK5 => ?_
      refine cPlain ?_
      refine sv 4 (.bool false) .of ?_
      simp only [sZ, sS]
      refine wpList_nil ?_
      refine hK5 _ _ ?_
      refine wp_ret ?_
      (try simp only [Exit.then, Exit.inBlock])
      refine bodyPost_ret (v := .bool false) rT rfl ?_
      refine ⟨congrArg Ending.returned (congrArg Value.bool (decide_eq_false ?_).symm), BL.b⟩
      rintro ⟨h1, h2⟩
      first | exact g12 h1 | (subst h2; exact c19 rfl) | (subst h2; exact g19 rfl)
    · skip
      refine wp_skip ?_
      refine hK2 _ _ ?_
      refine wp_seq_k fun K6 hK6 => ?_
      refine wp_seq_k fun K7 hK7 => ?_
      refine cPlain ?_
      refine sv 20 (.pointer (some ⟨w.heap.size, 1, none⟩)) .of ?_
      simp only [sZ, sS]
      refine sv 21 (.slice a xs.length c) (Val.cel1 26 _ rfl w.heap.size 1 _ (by kernel_rfl) (fun _ => (by kernel_rfl)) b2 rfl) ?_
      simp only [sZ, sS]
      refine sv 22 (.int .i64 (xs.length : Int)) .of ?_
      simp only [sZ, sS]
      refine sv 23 (.int .i64 0) .of ?_
      simp only [sZ, sS]
      refine wpList_nil ?_
      refine hK7 _ _ ?_
      refine wp_block ?_
      refine cLoop (fun N_ A_ w_ => ∃ (k : Nat), (N_ = xs.length - k ∧ (k ≤ xs.length) ∧ (xs.take k = ys.take k) ∧ (∃ s1 : Nat → Value, A_ = ⟨[.agg #[.int .i64 p, .slice a xs.length c], .agg #[.int .i64 q, .slice b ys.length d], .pointer (some ⟨w.heap.size, 0, none⟩), .pointer (some ⟨w1.heap.size, 0, none⟩), (s1 4), (s1 5), .pointer (some ⟨w.heap.size, 0, none⟩), .int .i64 p, .pointer (some ⟨w1.heap.size, 0, none⟩), .int .i64 q, .bool false, .bool false, .pointer (some ⟨w.heap.size, 1, none⟩), .slice a xs.length c, .int .i64 (xs.length : Int), .pointer (some ⟨w1.heap.size, 1, none⟩), .slice b ys.length d, .int .i64 (ys.length : Int), .bool (decide (¬ ((xs.length : Int) = (ys.length : Int)))), .bool (decide (¬ ((xs.length : Int) = (ys.length : Int)))), .pointer (some ⟨w.heap.size, 1, none⟩), .slice a xs.length c, .int .i64 (xs.length : Int), .int .i64 (k : Int), (s1 24), (s1 25), (s1 26), (s1 27), (s1 28), (s1 29), (s1 30), (s1 31), (s1 32), (s1 33), (s1 34), (s1 35), (s1 36), (s1 37)].toArray, []⟩) ∧ SL .i64 w_ (.slice a xs.length c) xs ∧ SL .i64 w_ (.slice b ys.length d) ys ∧ Bl w.heap.size w w_ ∧ Cel w_ w.heap.size 28 [.int .i64 p, .slice a xs.length c] ∧ Cel w_ w1.heap.size 28 [.int .i64 q, .slice b ys.length d] ∧ w2.heap.size ≤ w_.heap.size)) _ ⟨0, rfl, by omega, by simp, cutE, U, V, BL, b2, b3, Nat.le_refl _⟩ ?_
      clear U V BL b2 b3
      rintro n_ a_ wl0 ⟨k, rfl, hc0_0, hc0_1, ⟨s1, rfl⟩, U, V, BL, b2, b3, zl0⟩
      refine wp_seq_k fun K8 hK8 => ?_
      refine cPlain ?_
      refine sv 24 (.bool (decide ((k : Int) < (xs.length : Int)))) (Val.cmp .lss 3 _ (.tmp 23) (.tmp 22) rfl .i64 (k : Int) (xs.length : Int) (by kernel_rfl) (by kernel_rfl) (by simp) _ rfl) ?_
      simp only [sZ, sS]
      refine wpList_nil ?_
      refine hK8 _ _ ?_
      refine wp_seq_k fun K9 hK9 => ?_
      refine cDec ((k : Int) < (xs.length : Int)) (by kernel_rfl) (fun c24 => ?_) (fun c24 => ?_)
      · skip
        refine wp_skip ?_
        refine hK9 _ _ ?_
        refine wp_seq_k fun K10 hK10 => ?_
        refine wp_block ?_
        refine wp_seq_k fun K11 hK11 => ?_
        refine cPlain ?_
        refine sv 25 (.int .i64 (k : Int)) .of ?_
        simp only [sZ, sS]
        refine sv 5 (.int .i64 (k : Int)) .of ?_
        simp only [sZ, sS]
        refine wpList_nil ?_
        refine hK11 _ _ ?_
        refine wp_seq_k fun K12 hK12 => ?_
        have e1 := drew_e0 wl0
        refine rgT (fun w_ => SL .i64 w_ (.slice a xs.length c) xs ∧ SL .i64 w_ (.slice b ys.length d) ys ∧ Bl w.heap.size w w_ ∧ Cel w_ w.heap.size 28 [.int .i64 p, .slice a xs.length c] ∧ Cel w_ w1.heap.size 28 [.int .i64 q, .slice b ys.length d] ∧ wl0.heap.size ≤ w_.heap.size) (fun w_ => SL .i64 w_ (.slice a xs.length c) xs ∧ SL .i64 w_ (.slice b ys.length d) ys ∧ Bl w.heap.size w w_ ∧ Cel w_ w.heap.size 28 [.int .i64 p, .slice a xs.length c] ∧ Cel w_ w1.heap.size 28 [.int .i64 q, .slice b ys.length d] ∧ wl0.heap.size ≤ w_.heap.size) 11 (fun _ ⟨U, V, BL, b2, b3, z1⟩ => ⟨U, V, BL, b2, b3, z1⟩) ⟨U.e0 e1, V.e0 e1, BL.e0 e1, b2.e0 e1, b3.e0 e1, Nat.le_refl _⟩ ?_
        clear U V BL b2 b3
        clear e1
        intro w3
        rintro ⟨U, V, BL, b2, b3, z1⟩
        refine tv 0 26 (.pointer (some ⟨w.heap.size, 1, none⟩)) (fun _ _ => .of) ⟨U, V, BL, b2, b3, by omega⟩ ?_
        simp only [sZ, sS]
        refine tv 1 27 (.slice a xs.length c) (fun _ ⟨U, V, BL, b2, b3, z1⟩ => Val.cel1 26 _ rfl w.heap.size 1 _ (by kernel_rfl) (fun _ => (by kernel_rfl)) b2 rfl) ⟨U, V, BL, b2, b3, by omega⟩ ?_
        simp only [sZ, sS]
        refine tv 2 28 (.int .i64 (k : Int)) (fun _ _ => .of) ⟨U, V, BL, b2, b3, by omega⟩ ?_
        simp only [sZ, sS]
        refine tv 3 29 (elemP (.slice a xs.length c) k) (fun _ ⟨U, V, BL, b2, b3, z1⟩ => Val.idxE 26 (.tmp 27) (.tmp 28) rfl (.slice a xs.length c) k (by kernel_rfl) (by kernel_rfl) U Try.underlying26 (by kernel_rfl) (by omega)) ⟨U, V, BL, b2, b3, by omega⟩ ?_
        simp only [sZ, sS]
        refine tv 4 30 (.int .i64 (xs.getD k 0)) (fun _ ⟨U, V, BL, b2, b3, z1⟩ => Val.ldE 3 _ rfl (.slice a xs.length c) k (by kernel_rfl) (fun _ => (by kernel_rfl)) U (by omega)) ⟨U, V, BL, b2, b3, by omega⟩ ?_
        simp only [sZ, sS]
        refine tv 5 31 (.pointer (some ⟨w1.heap.size, 1, none⟩)) (fun _ _ => .of) ⟨U, V, BL, b2, b3, by omega⟩ ?_
        simp only [sZ, sS]
        refine tv 6 32 (.slice b ys.length d) (fun _ ⟨U, V, BL, b2, b3, z1⟩ => Val.cel1 26 _ rfl w1.heap.size 1 _ (by kernel_rfl) (fun _ => (by kernel_rfl)) b3 rfl) ⟨U, V, BL, b2, b3, by omega⟩ ?_
        simp only [sZ, sS]
        refine tv 7 33 (.int .i64 (k : Int)) (fun _ _ => .of) ⟨U, V, BL, b2, b3, by omega⟩ ?_
        simp only [sZ, sS]
        refine tv 8 34 (elemP (.slice b ys.length d) k) (fun _ ⟨U, V, BL, b2, b3, z1⟩ => Val.idxE 26 (.tmp 32) (.tmp 33) rfl (.slice b ys.length d) k (by kernel_rfl) (by kernel_rfl) V Try.underlying26 (by kernel_rfl) (by omega)) ⟨U, V, BL, b2, b3, by omega⟩ ?_
        simp only [sZ, sS]
        refine tv 9 35 (.int .i64 (ys.getD k 0)) (fun _ ⟨U, V, BL, b2, b3, z1⟩ => Val.ldE 3 _ rfl (.slice b ys.length d) k (by kernel_rfl) (fun _ => (by kernel_rfl)) V (by omega)) ⟨U, V, BL, b2, b3, by omega⟩ ?_
        simp only [sZ, sS]
        refine tv 10 36 (.bool (decide (¬ ((xs.getD k 0) = (ys.getD k 0))))) (fun _ ⟨U, V, BL, b2, b3, z1⟩ => Val.cmp .neq 3 _ (.tmp 30) (.tmp 35) rfl .i64 (xs.getD k 0) (ys.getD k 0) (by kernel_rfl) (by kernel_rfl) (by simp) _ (by simp [cmpB])) ⟨U, V, BL, b2, b3, by omega⟩ ?_
        simp only [sZ, sS]
        refine wpAnyH_done (by kernel_rfl) ?_ _
        refine hK12 _ _ ?_
        refine cDec (¬ ((xs.getD k 0) = (ys.getD k 0))) (by kernel_rfl) (fun c36 => ?_) (fun c36 => ?_)
        · skip
          refine wp_seq_k fun K13 hK13 => ?_
          refine cPlain ?_
          refine sv 4 (.bool false) .of ?_
          simp only [sZ, sS]
          refine wpList_nil ?_
          refine hK13 _ _ ?_
          refine wp_ret ?_
          (try simp only [Exit.then, Exit.inBlock])
          refine bodyPost_ret (v := .bool false) rT rfl ?_
          refine ⟨congrArg Ending.returned (congrArg Value.bool (decide_eq_false ?_).symm), BL.b⟩
          rintro ⟨_, rfl⟩
          exact c36 rfl
        · skip
          refine wp_skip ?_
          refine hK10 _ _ ?_
          refine cPlain ?_
          refine sv 37 (.int .i64 ((k : Int) + 1)) (Val.add 3 _ (.tmp 23) _ rfl (k : Int) 1 (by kernel_rfl) (by kernel_rfl) (by omega)) ?_
          simp only [sZ, sS]
          refine sv 23 (.int .i64 ((k : Int) + 1)) .of ?_
          simp only [sZ, sS]
          refine wpList_nil ?_
          refine ⟨_, ?_, k + 1, rfl, by omega, (take_same_succ xs ys k (by omega) (by omega) hc0_1).2 (by simpa using c36), cutE, U, V, BL, b2, b3, by omega⟩
          omega
      · skip
        refine wp_exit ?_
        simp only [Exit.then, Exit.inBlock, ↓reduceIte, Nat.reduceEqDiff]
        refine hK6 _ _ ?_
        refine wp_seq_k fun K14 hK14 => ?_
        refine cPlain ?_
        refine sv 4 (.bool true) .of ?_
        simp only [sZ, sS]
        refine wpList_nil ?_
        refine hK14 _ _ ?_
        refine wp_ret ?_
        (try simp only [Exit.then, Exit.inBlock])
        refine bodyPost_ret (v := .bool true) rT rfl ?_
        refine ⟨congrArg Ending.returned (congrArg Value.bool (decide_eq_true ?_).symm), BL.b⟩
        have hk : k = xs.length := by omega
        rw [hk, List.take_length, List.take_of_length_le (by omega)] at hc0_1
        exact ⟨by simpa using g12, hc0_1⟩

end Go.Proofs.Ytanggdnmoaflfaa
