/-
  slices.Grow of nothing; slices.Concat of two rows; slices.Clone.
-/
import Derived.Test.YtanggdnmoaflfaaPk1
import Derived.Test.YtanggdnmoaflfaaProg
namespace Go.Proofs.Ytanggdnmoaflfaa
open Go.RowKit
set_option linter.unusedVariables false
set_option linter.unusedSimpArgs false
set_option maxRecDepth 100000
attribute [local irreducible] wpList Code.wp wpAnyZ
theorem growB_any (n : Nat) (hn : n ≤ 140737488355328) (w : World) :
    Calls Try.prog 119 #[.slice none 0 0, .int .i64 (n : Int)] w fun e w' => ∃ v, e = .returned v ∧ Own 5 .u8 w.heap.size w' v [] ∧ E0 w w' := by
  have EV : E0 w w := Ev.refl _ w
  have AA := Own.nil 5 .u8 w.heap.size w
  have lAA_1 := AA.ge
  go_enter Try.func119, Try.ntmps119
  refine wp_seq_k fun K1 hK1 => ?_
  refine cPlain ?_
  refine sv 4 (.slice none 0 0) .of ?_
  simp only [sZ, sS]
  refine wpList_nil ?_
  refine hK1 _ _ ?_
  refine wp_seq_k fun K2 hK2 => ?_
  refine wp_seq_k fun K3 hK3 => ?_
  refine cPlain ?_
  refine sv 5 (.int .i64 (n : Int)) .of ?_
  simp only [sZ, sS]
  refine sv 6 (.bool (decide ((n : Int) < 0))) (Val.cmp .lss 3 _ (.tmp 5) _ rfl .i64 (n : Int) 0 (by kernel_rfl) (by kernel_rfl) (by simp) _ rfl) ?_
  simp only [sZ, sS]
  refine wpList_nil ?_
  refine hK3 _ _ ?_
  refine cDec ((n : Int) < 0) (by kernel_rfl) (fun c6 => ?_) (fun c6 => ?_)
  · skip
    omega
  · skip
    refine wp_skip ?_
    refine hK2 _ _ ?_
    refine wp_seq_k fun K4 hK4 => ?_
    refine wp_seq_k fun K5 hK5 => ?_
    refine cPlain ?_
    refine sv 8 (.int .i64 (n : Int)) .of ?_
    simp only [sZ, sS]
    refine sv 9 (.slice none 0 0) .of ?_
    simp only [sZ, sS]
    refine sv 10 (.int .i64 (0 : Int)) .of ?_
    simp only [sZ, sS]
    refine sv 11 (.slice none 0 0) .of ?_
    simp only [sZ, sS]
    refine sv 12 (.int .i64 (0 : Int)) .of ?_
    simp only [sZ, sS]
    refine sv 13 (.int .i64 ((0 : Int) - (0 : Int))) (Val.sub 3 _ (.tmp 10) (.tmp 12) rfl (0 : Int) (0 : Int) (by kernel_rfl) (by kernel_rfl) (by omega)) ?_
    simp only [sZ, sS]
    refine sv 14 (.int .i64 ((n : Nat) : Int)) (Val.as (Val.sub 3 _ (.tmp 8) (.tmp 13) rfl (n : Int) ((0 : Int) - (0 : Int)) (by kernel_rfl) (by kernel_rfl) (by omega)) (congrArg (Value.int .i64) (by omega))) ?_
    simp only [sZ, sS]
    refine sv 1 (.int .i64 ((n : Nat) : Int)) .of ?_
    simp only [sZ, sS]
    refine wpList_nil ?_
    refine hK5 _ _ ?_
    refine wp_seq_k fun K6 hK6 => ?_
    refine cPlain ?_
    refine sv 15 (.int .i64 ((n : Nat) : Int)) .of ?_
    simp only [sZ, sS]
    refine sv 16 (.bool (decide (0 < ((n : Nat) : Int)))) (Val.cmp .gtr 3 _ (.tmp 15) _ rfl .i64 ((n : Nat) : Int) 0 (by kernel_rfl) (by kernel_rfl) (by simp) _ rfl) ?_
    simp only [sZ, sS]
    refine wpList_nil ?_
    refine hK6 _ _ ?_
    refine cDec (0 < ((n : Nat) : Int)) (by kernel_rfl) (fun c16 => ?_) (fun c16 => ?_)
    · skip
      refine cPlain ?_
      refine sv 17 (.slice none 0 0) .of ?_
      simp only [sZ, sS]
      refine sv 18 (.slice none 0 0) .of ?_
      simp only [sZ, sS]
      refine sv 19 (.int .i64 0) .of ?_
      simp only [sZ, sS]
      refine sv 20 (.slice none 0 0) .of ?_
      simp only [sZ, sS]
      refine sv 21 (.int .i64 ((n : Nat) : Int)) .of ?_
      simp only [sZ, sS]
      refine xAppZ 22 (.tmp 20) (.tmp 21) 29 3 5 .u8 .i64 1 rfl Try.underlying29 Try.underlying3 (by kernel_rfl) n (by kernel_rfl) (by kernel_rfl) (by omega) (by unfold maxLen; omega) (by omega) ?_
      intro c w1 hc1 hc2 AA2 he
      have e1 : E0 w w1 := he
      have ze1 := e1.size
      have EV : E0 w w1 := EV.trans e1
      clear e1
      have lAA2_1 := AA2.ge
      simp only [sZ, sS]
      refine sv 23 (.slice none 0 0) .of ?_
      simp only [sZ, sS]
      refine sv 24 (.int .i64 0) .of ?_
      simp only [sZ, sS]
      refine sv 25 (.slice (some ⟨w.heap.size, 0, none⟩) 0 c) (Val.slH 29 (.tmp 22) (.tmp 24) rfl w.heap.size n c (by kernel_rfl) 0 (by kernel_rfl) (by omega) Try.underlying29 (by kernel_rfl)) ?_
      simp only [sZ, sS]
      refine sv 0 (.slice (some ⟨w.heap.size, 0, none⟩) 0 c) .of ?_
      simp only [sZ, sS]
      refine wpList_nil ?_
      refine hK4 _ _ ?_
      refine wp_seq_k fun K7 hK7 => ?_
      refine cPlain ?_
      refine sv 26 (.slice (some ⟨w.heap.size, 0, none⟩) 0 c) .of ?_
      simp only [sZ, sS]
      refine sv 4 (.slice (some ⟨w.heap.size, 0, none⟩) 0 c) .of ?_
      simp only [sZ, sS]
      refine wpList_nil ?_
      refine hK7 _ _ ?_
      refine wp_ret ?_
      (try simp only [Exit.then, Exit.inBlock])
      refine bodyPost_ret (v := .slice (some ⟨w.heap.size, 0, none⟩) 0 c) rT rfl ?_
      exact ⟨_, rfl, (by first | exact AA2 | exact AA), EV⟩
    · skip
      refine wp_skip ?_
      refine hK4 _ _ ?_
      refine wp_seq_k fun K8 hK8 => ?_
      refine cPlain ?_
      refine sv 26 (.slice none 0 0) .of ?_
      simp only [sZ, sS]
      refine sv 4 (.slice none 0 0) .of ?_
      simp only [sZ, sS]
      refine wpList_nil ?_
      refine hK8 _ _ ?_
      refine wp_ret ?_
      (try simp only [Exit.then, Exit.inBlock])
      refine bodyPost_ret (v := .slice none 0 0) rT rfl ?_
      exact ⟨_, rfl, (by first | exact AA2 | exact AA), EV⟩

theorem concatB_any (v : Value) (us : List Value) (ys : List (List Int)) (w : World) (hv : SV w v us) (hs : SLs .u8 w.heap.size w us ys) (hl : ys.flatten.length ≤ 140737488355328) :
    Calls Try.prog 112 #[v] w fun e w' => ∃ r, e = .returned r ∧ Own 5 .u8 w.heap.size w' r ys.flatten ∧ Below w.heap.size w w' := by
  obtain ⟨A, C, hve, hum⟩ := hv.len
  subst hve
  unfold maxLen at hum
  have hsl := hs.length
  have BL := Bl.refl w
  go_enter Try.func112, Try.ntmps112
  refine wp_seq_k fun K1 hK1 => ?_
  refine cPlain ?_
  refine sv 2 (.slice none 0 0) .of ?_
  simp only [sZ, sS]
  refine wpList_nil ?_
  refine hK1 _ _ ?_
  refine wp_seq_k fun K2 hK2 => ?_
  refine cPlain ?_
  refine sv 3 (.int .i64 0) .of ?_
  simp only [sZ, sS]
  refine wpList_nil ?_
  refine hK2 _ _ ?_
  refine wp_seq_k fun K3 hK3 => ?_
  refine wp_seq_k fun K4 hK4 => ?_
  refine cPlain ?_
  refine sv 9 (.slice A us.length C) .of ?_
  simp only [sZ, sS]
  refine sv 10 (.int .i64 (us.length : Int)) .of ?_
  simp only [sZ, sS]
  refine sv 11 (.int .i64 0) .of ?_
  simp only [sZ, sS]
  refine wpList_nil ?_
  refine hK4 _ _ ?_
  refine wp_block ?_
  refine cLoop (fun N_ A_ w_ => ∃ (k : Nat), (N_ = us.length - k ∧ (k ≤ us.length) ∧ (∃ s1 : Nat → Value, A_ = ⟨[.slice A us.length C, undef, .slice none 0 0, .int .i64 (((ys.take k).flatten).length : Int), undef, (s1 5), undef, undef, undef, .slice A us.length C, .int .i64 (us.length : Int), .int .i64 (k : Int), (s1 12), (s1 13), (s1 14), (s1 15), (s1 16), (s1 17), (s1 18), (s1 19), (s1 20), (s1 21), (s1 22), undef, undef, undef, undef, undef, undef, undef, undef, undef, undef, undef, undef, undef].toArray, []⟩) ∧ Bl w.heap.size w w_ ∧ w.heap.size ≤ w_.heap.size)) _ ⟨0, rfl, (by omega), cutE, BL, Nat.le_refl _⟩ ?_
  clear BL
  rintro n_ a_ wl0 ⟨k, rfl, hc0_0, ⟨s1, rfl⟩, BL, zl0⟩
  refine wp_seq_k fun K5 hK5 => ?_
  refine cPlain ?_
  refine sv 12 (.bool (decide ((k : Int) < (us.length : Int)))) (Val.cmp .lss 3 _ (.tmp 11) (.tmp 10) rfl .i64 (k : Int) (us.length : Int) (by kernel_rfl) (by kernel_rfl) (by simp) _ rfl) ?_
  simp only [sZ, sS]
  refine wpList_nil ?_
  refine hK5 _ _ ?_
  refine wp_seq_k fun K6 hK6 => ?_
  refine cDec ((k : Int) < (us.length : Int)) (by kernel_rfl) (fun c12 => ?_) (fun c12 => ?_)
  · skip
    have hkl : k < ys.length := by rw [← hs.length]; omega
    have hkf := flat_take ys k hkl
    have hkf2 : ((ys.take (k + 1)).flatten).length = ((ys.take k).flatten).length + (ys.getD k []).length := by rw [hkf, List.length_append]
    have hkf3 := flat_take_le ys (k + 1)
    refine wp_skip ?_
    refine hK6 _ _ ?_
    refine wp_seq_k fun K7 hK7 => ?_
    refine wp_block ?_
    refine wp_seq_k fun K8 hK8 => ?_
    refine cPlain ?_
    refine sv 13 (elemP (.slice A us.length C) k) (Val.idxV 99 (.tmp 9) (.tmp 11) rfl (.slice A us.length C) k (by kernel_rfl) (by kernel_rfl) (hv.below BL.b) Try.underlying99 (by kernel_rfl) (by omega)) ?_
    simp only [sZ, sS]
    have hel0 := hs.get k (by omega)
    obtain ⟨ae, ce, heq, hem⟩ := hel0.1.len
    have hel : ∀ {w1}, Below w.heap.size w w1 → SL .u8 w1 (.slice ae (ys.getD k []).length ce) (ys.getD k []) := fun h => heq ▸ hel0.1.below h
    refine sv 14 (.slice ae (ys.getD k []).length ce) (heq ▸ Val.ldV 29 _ rfl (.slice A us.length C) k (by kernel_rfl) (fun _ => by kernel_rfl) (hv.below BL.b) (by omega)) ?_
    simp only [sZ, sS]
    refine sv 5 (.slice ae (ys.getD k []).length ce) .of ?_
    simp only [sZ, sS]
    refine wpList_nil ?_
    refine hK8 _ _ ?_
    refine wp_seq_k fun K9 hK9 => ?_
    refine cPlain ?_
    refine sv 15 (.int .i64 (((ys.take k).flatten).length : Int)) .of ?_
    simp only [sZ, sS]
    refine sv 16 (.slice ae (ys.getD k []).length ce) .of ?_
    simp only [sZ, sS]
    refine sv 17 (.int .i64 ((ys.getD k []).length : Int)) .of ?_
    simp only [sZ, sS]
    refine sv 18 (.int .i64 ((((ys.take (k + 1)).flatten).length : Nat) : Int)) (Val.as (Val.add 3 _ (.tmp 15) (.tmp 17) rfl (((ys.take k).flatten).length : Int) ((ys.getD k []).length : Int) (by kernel_rfl) (by kernel_rfl) (by omega)) (congrArg (Value.int .i64) (by omega))) ?_
    simp only [sZ, sS]
    refine sv 3 (.int .i64 ((((ys.take (k + 1)).flatten).length : Nat) : Int)) .of ?_
    simp only [sZ, sS]
    refine wpList_nil ?_
    refine hK9 _ _ ?_
    refine wp_seq_k fun K10 hK10 => ?_
    refine cPlain ?_
    refine sv 19 (.int .i64 ((((ys.take (k + 1)).flatten).length : Nat) : Int)) .of ?_
    simp only [sZ, sS]
    refine sv 20 (.bool (decide (((((ys.take (k + 1)).flatten).length : Nat) : Int) < 0))) (Val.cmp .lss 3 _ (.tmp 19) _ rfl .i64 ((((ys.take (k + 1)).flatten).length : Nat) : Int) 0 (by kernel_rfl) (by kernel_rfl) (by simp) _ rfl) ?_
    simp only [sZ, sS]
    refine wpList_nil ?_
    refine hK10 _ _ ?_
    refine cDec (((((ys.take (k + 1)).flatten).length : Nat) : Int) < 0) (by kernel_rfl) (fun c20 => ?_) (fun c20 => ?_)
    · skip
      omega
    · skip
      refine wp_skip ?_
      refine hK7 _ _ ?_
      refine cPlain ?_
      refine sv 22 (.int .i64 ((k : Int) + 1)) (Val.add 3 _ (.tmp 11) _ rfl (k : Int) 1 (by kernel_rfl) (by kernel_rfl) (by omega)) ?_
      simp only [sZ, sS]
      refine sv 11 (.int .i64 ((k : Int) + 1)) .of ?_
      simp only [sZ, sS]
      refine wpList_nil ?_
      refine ⟨_, ?_, k + 1, rfl, by omega, cutE, BL, by omega⟩
      omega
  · skip
    have hkt := flat_take_le ys k
    have hke : k = ys.length := by omega
    refine wp_exit ?_
    simp only [Exit.then, Exit.inBlock, ↓reduceIte, Nat.reduceEqDiff]
    refine hK3 _ _ ?_
    refine wp_seq_k fun K11 hK11 => ?_
    refine cPlain ?_
    refine sv 23 (.int .i64 (((ys.take k).flatten).length : Int)) .of ?_
    simp only [sZ, sS]
    refine xCall 24 119 #[.slice none 0 0, .int .i64 (((ys.take k).flatten).length : Int)] (by kernel_rfl) ?_
    have hz1 := BL.z
    refine (growB_any ((ys.take k).flatten).length (by omega) wl0).mono ?_
    rintro en w1 ⟨gv, rfl, hg1, hg2⟩
    have e1 : E0 wl0 w1 := hg2
    have ze1 := e1.size
    replace BL := BL.e0 e1
    clear e1
    have OA : Own 5 .u8 w.heap.size w1 gv [] := hg1.mono hz1
    have lOA_1 := OA.ge
    refine ⟨gv, rfl, ?_⟩
    simp only [sZ, sS]
    refine sv 6 (gv) .of ?_
    simp only [sZ, sS]
    refine wpList_nil ?_
    refine hK11 _ _ ?_
    refine wp_seq_k fun K12 hK12 => ?_
    refine wp_seq_k fun K13 hK13 => ?_
    refine cPlain ?_
    refine sv 25 (.slice A us.length C) .of ?_
    simp only [sZ, sS]
    refine sv 26 (.int .i64 (us.length : Int)) .of ?_
    simp only [sZ, sS]
    refine sv 27 (.int .i64 0) .of ?_
    simp only [sZ, sS]
    refine wpList_nil ?_
    refine hK13 _ _ ?_
    refine wp_block ?_
    refine cLoop (fun N_ A_ w_ => ∃ (j : Nat) (u : Value), (N_ = us.length - j ∧ (j ≤ us.length) ∧ (∃ s2 : Nat → Value, A_ = ⟨[.slice A us.length C, undef, .slice none 0 0, .int .i64 (((ys.take k).flatten).length : Int), undef, (s1 5), u, undef, (s2 8), .slice A us.length C, .int .i64 (us.length : Int), .int .i64 (k : Int), .bool (decide ((k : Int) < (us.length : Int))), (s1 13), (s1 14), (s1 15), (s1 16), (s1 17), (s1 18), (s1 19), (s1 20), (s1 21), (s1 22), .int .i64 (((ys.take k).flatten).length : Int), gv, .slice A us.length C, .int .i64 (us.length : Int), .int .i64 (j : Int), (s2 28), (s2 29), (s2 30), (s2 31), (s2 32), (s2 33), (s2 34), undef].toArray, []⟩) ∧ Bl w.heap.size w w_ ∧ Own 5 .u8 w.heap.size w_ u ((ys.take j).flatten) ∧ w1.heap.size ≤ w_.heap.size)) _ ⟨0, gv, rfl, (by omega), cutE, BL, OA, Nat.le_refl _⟩ ?_
    clear BL OA
    rintro n_ a_ wl1 ⟨j, u, rfl, hc1_0, ⟨s2, rfl⟩, BL, OA, zl1⟩
    have lOA_2 := OA.ge
    refine wp_seq_k fun K14 hK14 => ?_
    refine cPlain ?_
    refine sv 28 (.bool (decide ((j : Int) < (us.length : Int)))) (Val.cmp .lss 3 _ (.tmp 27) (.tmp 26) rfl .i64 (j : Int) (us.length : Int) (by kernel_rfl) (by kernel_rfl) (by simp) _ rfl) ?_
    simp only [sZ, sS]
    refine wpList_nil ?_
    refine hK14 _ _ ?_
    refine wp_seq_k fun K15 hK15 => ?_
    refine cDec ((j : Int) < (us.length : Int)) (by kernel_rfl) (fun c28 => ?_) (fun c28 => ?_)
    · skip
      have hkl : j < ys.length := by rw [← hs.length]; omega
      have hkf := flat_take ys j hkl
      have hkf2 : ((ys.take (j + 1)).flatten).length = ((ys.take j).flatten).length + (ys.getD j []).length := by rw [hkf, List.length_append]
      have hkf3 := flat_take_le ys (j + 1)
      refine wp_skip ?_
      refine hK15 _ _ ?_
      refine wp_seq_k fun K16 hK16 => ?_
      refine wp_block ?_
      refine wp_seq_k fun K17 hK17 => ?_
      refine cPlain ?_
      refine sv 29 (elemP (.slice A us.length C) j) (Val.idxV 99 (.tmp 25) (.tmp 27) rfl (.slice A us.length C) j (by kernel_rfl) (by kernel_rfl) (hv.below BL.b) Try.underlying99 (by kernel_rfl) (by omega)) ?_
      simp only [sZ, sS]
      have hel0 := hs.get j (by omega)
      obtain ⟨ae, ce, heq, hem⟩ := hel0.1.len
      have hel : ∀ {w1}, Below w.heap.size w w1 → SL .u8 w1 (.slice ae (ys.getD j []).length ce) (ys.getD j []) := fun h => heq ▸ hel0.1.below h
      refine sv 30 (.slice ae (ys.getD j []).length ce) (heq ▸ Val.ldV 29 _ rfl (.slice A us.length C) j (by kernel_rfl) (fun _ => by kernel_rfl) (hv.below BL.b) (by omega)) ?_
      simp only [sZ, sS]
      refine sv 8 (.slice ae (ys.getD j []).length ce) .of ?_
      simp only [sZ, sS]
      refine wpList_nil ?_
      refine hK17 _ _ ?_
      refine cPlain ?_
      refine sv 31 (u) .of ?_
      simp only [sZ, sS]
      refine sv 32 (.slice ae (ys.getD j []).length ce) .of ?_
      simp only [sZ, sS]
      refine xApp 33 (.tmp 31) (.tmp 32) 29 5 .u8 1 rfl Try.underlying29 (by kernel_rfl) w.heap.size u ((ys.take j).flatten) (by kernel_rfl) OA (.slice ae (ys.getD j []).length ce) (ys.getD j []) (by kernel_rfl) (hel BL.b) ?va1_1 ?va1_2 ?va1_3 ?_
      case va1_1 => rw [← List.length_append, ← hkf]; omega
      case va1_2 => rw [← List.length_append, ← hkf]; unfold maxLen; omega
      case va1_3 => omega
      intro va1 w2 rva1 e2
      have ze2 := e2.size
      have BL_ := BL.ev e2 (fun i h => by have := lOA_2 _ h; omega)
      replace BL := BL_; clear BL_
      replace OA := rva1
      clear rva1 e2
      have lOA_3 := OA.ge
      simp only [sZ, sS]
      refine sv 6 (va1) .of ?_
      simp only [sZ, sS]
      refine wpList_nil ?_
      refine hK16 _ _ ?_
      refine cPlain ?_
      refine sv 34 (.int .i64 ((j : Int) + 1)) (Val.add 3 _ (.tmp 27) _ rfl (j : Int) 1 (by kernel_rfl) (by kernel_rfl) (by omega)) ?_
      simp only [sZ, sS]
      refine sv 27 (.int .i64 ((j : Int) + 1)) .of ?_
      simp only [sZ, sS]
      refine wpList_nil ?_
      refine ⟨_, ?_, j + 1, va1, rfl, by omega, cutE, BL, (OA.cast hkf.symm), by omega⟩
      omega
    · skip
      refine wp_exit ?_
      simp only [Exit.then, Exit.inBlock, ↓reduceIte, Nat.reduceEqDiff]
      refine hK12 _ _ ?_
      refine wp_seq_k fun K18 hK18 => ?_
      refine cPlain ?_
      refine sv 35 (u) .of ?_
      simp only [sZ, sS]
      refine sv 2 (u) .of ?_
      simp only [sZ, sS]
      refine wpList_nil ?_
      refine hK18 _ _ ?_
      refine wp_ret ?_
      (try simp only [Exit.then, Exit.inBlock])
      refine bodyPost_ret (v := u) rT rfl ?_
      exact ⟨_, rfl, OA.cast (flat_take_all ys j (by omega)), BL.b⟩

theorem cloneB_nil (w : World) :
    Calls Try.prog 84 #[.slice none 0 0] w fun e w' => e = .returned (.slice none 0 0) ∧ w' = w := by
  go_enter Try.func84, Try.ntmps84
  refine wp_seq_k fun K1 hK1 => ?_
  refine cPlain ?_
  refine sv 2 (.slice none 0 0) .of ?_
  simp only [sZ, sS]
  refine wpList_nil ?_
  refine hK1 _ _ ?_
  refine wp_seq_k fun K2 hK2 => ?_
  refine wp_seq_k fun K3 hK3 => ?_
  refine cPlain ?_
  refine sv 3 (.slice none 0 0) .of ?_
  simp only [sZ, sS]
  refine sv 4 (.bool true) .of ?_
  simp only [sZ, sS]
  refine wpList_nil ?_
  refine hK3 _ _ ?_
  refine cT ?_
  refine wp_seq_k fun K4 hK4 => ?_
  refine cPlain ?_
  refine sv 2 (.slice none 0 0) .of ?_
  simp only [sZ, sS]
  refine wpList_nil ?_
  refine hK4 _ _ ?_
  refine wp_ret ?_
  (try simp only [Exit.then, Exit.inBlock])
  refine bodyPost_ret (v := .slice none 0 0) rT rfl ?_
  exact ⟨rfl, rfl⟩

theorem Own.ofNw0 {w w' : World} {e : TypeId} {k : IntKind} {base : Nat} (h : Nw w w' e []) (hb : base ≤ w.heap.size) : Own e k base w' (.slice (some ⟨w.heap.size, 0, none⟩) 0 0) [] :=
  ⟨rfl, .inr ⟨w.heap.size, 0, _, rfl, hb, h.c, Nat.le_refl _, Nat.zero_le _, rfl, rfl⟩⟩
theorem cloneB_some (a : Addr) (n c : Nat) (xs : List Int) (w : World) (hv : SL .u8 w (.slice (some a) n c) xs) (hl : xs.length ≤ 140737488355328) :
    Calls Try.prog 84 #[.slice (some a) n c] w fun e w' => ∃ r, e = .returned r ∧ Own 5 .u8 w.heap.size w' r xs ∧ Below w.heap.size w w' := by
  have BL := Bl.refl w
  go_enter Try.func84, Try.ntmps84
  refine wp_seq_k fun K1 hK1 => ?_
  refine cPlain ?_
  refine sv 2 (.slice none 0 0) .of ?_
  simp only [sZ, sS]
  refine wpList_nil ?_
  refine hK1 _ _ ?_
  refine wp_seq_k fun K2 hK2 => ?_
  refine wp_seq_k fun K3 hK3 => ?_
  refine cPlain ?_
  refine sv 3 (.slice (some a) n c) .of ?_
  simp only [sZ, sS]
  refine sv 4 (.bool false) .of ?_
  simp only [sZ, sS]
  refine wpList_nil ?_
  refine hK3 _ _ ?_
  refine cF ?_
  refine wp_skip ?_
  refine hK2 _ _ ?_
  refine wp_seq_k fun K4 hK4 => ?_
  refine cPlain ?_
  refine xLit 5 29 5 0 _ #[] [] rfl (by kernel_rfl) (by kernel_rfl) ?_
  intro w1 nw
  have e1 : E0 w w1 := nw.e
  have ze1 := e1.size
  replace BL := BL.e0 e1
  clear e1
  have OA : Own 5 .u8 w.heap.size w1 (.slice (some ⟨w.heap.size, 0, none⟩) 0 0) [] := Own.ofNw0 nw (Nat.le_refl _)
  have lOA_1 := OA.ge
  simp only [sZ, sS]
  refine sv 6 (.slice (some a) n c) .of ?_
  simp only [sZ, sS]
  refine xApp 7 (.tmp 5) (.tmp 6) 29 5 .u8 1 rfl Try.underlying29 (by kernel_rfl) w.heap.size (.slice (some ⟨w.heap.size, 0, none⟩) 0 0) [] (by kernel_rfl) OA (.slice (some a) n c) xs (by kernel_rfl) (hv.below BL.b) ?va1_1 ?va1_2 ?va1_3 ?_
  case va1_1 => simpa using hl
  case va1_2 => unfold maxLen; simp; omega
  case va1_3 => omega
  intro va1 w2 rva1 e2
  have ze2 := e2.size
  have BL_ := BL.ev e2 (fun i h => by have := lOA_1 _ h; omega)
  replace BL := BL_; clear BL_
  replace OA := rva1
  clear rva1 e2
  have lOA_2 := OA.ge
  simp only [sZ, sS]
  refine sv 2 (va1) .of ?_
  simp only [sZ, sS]
  refine wpList_nil ?_
  refine hK4 _ _ ?_
  refine wp_ret ?_
  (try simp only [Exit.then, Exit.inBlock])
  refine bodyPost_ret (v := va1) rT rfl ?_
  exact ⟨_, rfl, OA.cast (List.nil_append _), BL.b⟩

/-- slices.Clone -/
theorem cloneB_any (v : Value) (xs : List Int) (w : World) (hv : SL .u8 w v xs) (hl : xs.length ≤ 140737488355328) :
    Calls Try.prog 84 #[v] w fun e w' => ∃ r, e = .returned r ∧ Own 5 .u8 w.heap.size w' r xs ∧ Below w.heap.size w w' := by
  rcases hv with ⟨rfl, rfl⟩ | ⟨b, o, c, rfl, h⟩
  · refine (cloneB_nil w).mono ?_
    rintro _ _ ⟨rfl, rfl⟩
    exact ⟨_, rfl, Own.nil _ _ _ _, Below.refl _ _⟩
  · exact cloneB_some _ _ _ xs w (.inr ⟨b, o, c, rfl, h⟩) hl
end Go.Proofs.Ytanggdnmoaflfaa
