/-
  ref01.begins, ref01.GetUint: a number at a place, or an error.
-/
import Derived.Test.YtanggdnmoaflfaaRef18G
import Derived.Test.YtanggdnmoaflfaaRef3
import Derived.Test.YtanggdnmoaflfaaPk1
namespace Go.Proofs.Ytanggdnmoaflfaa
open Go.RowKit
set_option linter.unusedVariables false
set_option linter.unusedSimpArgs false
set_option maxRecDepth 100000
attribute [local irreducible] wpList Code.wp wpAnyZ
theorem valR_lt (l : List Nat) : valR l < 18446744073709551616 := by rw [valR_eq]; exact Nat.mod_lt _ (by omega)
theorem eql_nnG (a b : List Nat) : (if BinOp.eql = BinOp.eql then decide (nn a = nn b) else !decide (nn a = nn b)) = decide (a = b) := by
  rw [if_pos rfl]
  by_cases h : a = b
  · subst h; simp
  · have : ¬ nn a = nn b := fun e => h (nn_inj e)
    simp [h, this]
attribute [local irreducible] valR numN
set_option maxHeartbeats 4000000 in
theorem rbegins_any (v : Value) (l : List Nat) (w : World) (D : SL .u8 w v (nn l)) (hl : l.length ≤ 1000000) :
    Calls Try.prog 79 #[v] w fun e w' => ∃ b, e = .returned (.bool b) ∧ w' = w := by
  have WW : w = w := rfl
  go_enter Try.func79, Try.ntmps79
  refine wp_seq_k fun K1 hK1 => ?_
  refine cPlain ?_
  refine sv 2 (.bool false) .of ?_
  simp only [sZ, sS]
  refine wpList_nil ?_
  refine hK1 _ _ ?_
  refine wp_seq_k fun K2 hK2 => ?_
  refine wp_seq_k fun K3 hK3 => ?_
  refine cPlain ?_
  refine sv 3 (.int .i64 0) .of ?_
  simp only [sZ, sS]
  refine wpList_nil ?_
  refine hK3 _ _ ?_
  refine wp_block ?_
  refine cLoop (fun N_ A_ w_ => ∃ (k : Nat), (N_ = l.length - k ∧ (k ≤ l.length) ∧ (∃ s1 : Nat → Value, A_ = ⟨[v, undef, (s1 2), .int .i64 ((k : Nat) : Int), (s1 4), (s1 5), (s1 6), (s1 7), (s1 8), (s1 9), (s1 10), (s1 11), (s1 12), (s1 13), (s1 14), undef, undef, undef].toArray, []⟩) ∧ w_ = w ∧ w.heap.size ≤ w_.heap.size)) _ ⟨0, rfl, (Nat.zero_le _), cutE, WW, Nat.le_refl _⟩ ?_
  clear WW
  rintro n_ a_ wl0 ⟨k, rfl, hc0_0, ⟨s1, rfl⟩, WW, zl0⟩
  refine wp_seq_k fun K4 hK4 => ?_
  refine wp_seq_k fun K5 hK5 => ?_
  refine cPlain ?_
  refine sv 4 (.int .i64 ((k : Nat) : Int)) .of ?_
  simp only [sZ, sS]
  refine sv 5 (v) .of ?_
  simp only [sZ, sS]
  refine sv 6 (.int .i64 ((l.length : Nat) : Int)) (Val.lenS (.tmp 5) 29 rfl (by kernel_rfl) (WW ▸ D) l.length (nn_len l) Try.underlying29) ?_
  simp only [sZ, sS]
  refine sv 7 (.bool (decide (((k : Nat) : Int) < ((l.length : Nat) : Int)))) (Val.cmp .lss 3 _ (.tmp 4) (.tmp 6) rfl .i64 ((k : Nat) : Int) ((l.length : Nat) : Int) (by kernel_rfl) (by kernel_rfl) (by simp) _ rfl) ?_
  simp only [sZ, sS]
  refine wpList_nil ?_
  refine hK5 _ _ ?_
  refine cDec (((k : Nat) : Int) < ((l.length : Nat) : Int)) (by kernel_rfl) (fun c7 => ?_) (fun c7 => ?_)
  · skip
    refine wp_skip ?_
    refine hK4 _ _ ?_
    refine wp_seq_k fun K6 hK6 => ?_
    refine wp_block ?_
    refine wp_seq_k fun K7 hK7 => ?_
    refine cPlain ?_
    refine sv 10 (v) .of ?_
    simp only [sZ, sS]
    refine sv 11 (.int .i64 ((k : Nat) : Int)) .of ?_
    simp only [sZ, sS]
    refine sv 12 (elemP v k) (Val.idxE 29 (.tmp 10) (.tmp 11) rfl v k (by kernel_rfl) (by kernel_rfl) (WW ▸ D) Try.underlying29 (by kernel_rfl) (by rw [nn_len]; omega)) ?_
    simp only [sZ, sS]
    refine sv 13 (.int .u8 ((l.getD k 0 : Nat) : Int)) (Val.nldE 5 _ rfl v k (by kernel_rfl) (fun _ => (by kernel_rfl)) (WW ▸ D) (by omega)) ?_
    simp only [sZ, sS]
    refine sv 14 (.bool (decide (((l.getD k 0 : Nat) : Int) < 128))) (Val.cmp .lss 5 _ (.tmp 13) _ rfl .u8 ((l.getD k 0 : Nat) : Int) 128 (by kernel_rfl) (by kernel_rfl) (by simp) _ rfl) ?_
    simp only [sZ, sS]
    refine wpList_nil ?_
    refine hK7 _ _ ?_
    refine cDec (((l.getD k 0 : Nat) : Int) < 128) (by kernel_rfl) (fun c14 => ?_) (fun c14 => ?_)
    · skip
      refine wp_seq_k fun K8 hK8 => ?_
      refine cPlain ?_
      refine sv 2 (.bool false) .of ?_
      simp only [sZ, sS]
      refine wpList_nil ?_
      refine hK8 _ _ ?_
      refine wp_ret ?_
      (try simp only [Exit.then, Exit.inBlock])
      refine bodyPost_ret (v := .bool false) rT rfl ?_
      exact ⟨_, rfl, WW⟩
    · skip
      refine wp_skip ?_
      refine hK6 _ _ ?_
      refine cPlain ?_
      refine sv 8 (.int .i64 ((k : Nat) : Int)) .of ?_
      simp only [sZ, sS]
      refine sv 9 (.int .i64 ((k + 1 : Nat) : Int)) (Val.as (Val.add 3 _ (.tmp 8) _ rfl ((k : Nat) : Int) 1 (by kernel_rfl) (by kernel_rfl) (by omega)) (congrArg (Value.int .i64) (by omega))) ?_
      simp only [sZ, sS]
      refine sv 3 (.int .i64 ((k + 1 : Nat) : Int)) .of ?_
      simp only [sZ, sS]
      refine wpList_nil ?_
      refine ⟨_, ?_, k + 1, rfl, (by omega), cutE, WW, by omega⟩
      omega
  · skip
    refine wp_exit ?_
    simp only [Exit.then, Exit.inBlock, ↓reduceIte, Nat.reduceEqDiff]
    refine hK2 _ _ ?_
    refine wp_seq_k fun K9 hK9 => ?_
    refine cPlain ?_
    refine sv 15 (v) .of ?_
    simp only [sZ, sS]
    refine sv 16 (.int .i64 ((l.length : Nat) : Int)) (Val.lenS (.tmp 15) 29 rfl (by kernel_rfl) (WW ▸ D) l.length (nn_len l) Try.underlying29) ?_
    simp only [sZ, sS]
    refine sv 17 (.bool (decide (((l.length : Nat) : Int) < 10))) (Val.cmp .lss 3 _ (.tmp 16) _ rfl .i64 ((l.length : Nat) : Int) 10 (by kernel_rfl) (by kernel_rfl) (by simp) _ rfl) ?_
    simp only [sZ, sS]
    refine sv 2 (.bool (decide (((l.length : Nat) : Int) < 10))) .of ?_
    simp only [sZ, sS]
    refine wpList_nil ?_
    refine hK9 _ _ ?_
    refine wp_ret ?_
    (try simp only [Exit.then, Exit.inBlock])
    refine bodyPost_ret (v := .bool (decide (((l.length : Nat) : Int) < 10))) rT rfl ?_
    exact ⟨_, rfl, WW⟩

theorem SL.castU {k : IntKind} {w : World} {v : Value} {xs ys : List Int} (h : SL k w v xs) (he : xs = ys) : SL k w v ys := he ▸ h
theorem pre_nn (xs : List Nat) (a n : Nat) : ((nn xs).drop a).take (a + n - a) = nn ((xs.drop a).take n) := by rw [← nn_drop, ← nn_take, Nat.add_sub_cancel_left]
theorem rest_nn (xs : List Nat) (a : Nat) : ((nn xs).drop a).take ((nn xs).length - a) = nn (xs.drop a) := by rw [← nn_drop, List.take_of_length_le (by rw [nn_len, nn_len, List.length_drop]; omega)]
/-- What the document's GetUint tells of the bytes l. -/
def RGet (l : List Nat) (a : Nat) (e : Ending) : Prop :=
  (∃ (m : Nat) (r : List Nat) (k : Nat), m < 18446744073709551616 ∧ l = numN (m : Int) ++ r ∧ k = (numN (m : Int)).length ∧ e = .returned (.tuple #[.int .u64 (m : Int), .int .i64 ((a + k : Nat) : Int), .int .i64 0])) ∨
  ((∀ n, 1 ≤ n → n ≤ 10 → n ≤ l.length → numN ((valR (l.take n) : Nat) : Int) ≠ l.take n) ∧ ∃ er : Int, er ≠ 0 ∧ e = .returned (.tuple #[.int .u64 0, .int .i64 0, .int .i64 er]))

set_option maxHeartbeats 4000000 in
theorem rget_any (v : Value) (xs : List Nat) (a : Nat) (w : World) (D : SL .u8 w v (nn xs)) (ha : a ≤ xs.length) (hl : xs.length ≤ 1000000) (hb : ∀ x ∈ xs, x < 256) :
    Calls Try.prog 54 #[v, .int .i64 ((a : Nat) : Int)] w fun e w' => RGet (xs.drop a) a e ∧ Below w.heap.size w w' := by
  have BL := Bl.refl w
  have hvl := D.lt
  have hdl : (xs.drop a).length = xs.length - a := List.length_drop
  go_enter Try.func54, Try.ntmps54
  refine wp_seq_k fun K1 hK1 => ?_
  refine cPlain ?_
  refine sv 4 (.int .u64 0) .of ?_
  simp only [sZ, sS]
  refine sv 5 (.int .i64 0) .of ?_
  simp only [sZ, sS]
  refine sv 6 (.int .i64 0) .of ?_
  simp only [sZ, sS]
  refine wpList_nil ?_
  refine hK1 _ _ ?_
  refine wp_seq_k fun K2 hK2 => ?_
  refine wp_seq_k fun K3 hK3 => ?_
  refine cPlain ?_
  refine sv 9 (.int .i64 ((a : Nat) : Int)) .of ?_
  simp only [sZ, sS]
  refine sv 10 (.bool false) (Val.cmp .lss 3 _ (.tmp 9) _ rfl .i64 ((a : Nat) : Int) 0 (by kernel_rfl) (by kernel_rfl) (by simp) _ (by simp [cmpB]; try omega)) ?_
  simp only [sZ, sS]
  refine sv 11 (.bool false) .of ?_
  simp only [sZ, sS]
  refine sv 12 (.int .i64 ((a : Nat) : Int)) .of ?_
  simp only [sZ, sS]
  refine sv 13 (v) .of ?_
  simp only [sZ, sS]
  refine sv 14 (.int .i64 ((xs.length : Nat) : Int)) (Val.lenS (.tmp 13) 29 rfl (by kernel_rfl) D xs.length (nn_len xs) Try.underlying29) ?_
  simp only [sZ, sS]
  refine sv 15 (.bool false) (Val.cmp .gtr 3 _ (.tmp 12) (.tmp 14) rfl .i64 ((a : Nat) : Int) ((xs.length : Nat) : Int) (by kernel_rfl) (by kernel_rfl) (by simp) _ (by simp [cmpB]; try omega)) ?_
  simp only [sZ, sS]
  refine sv 16 (.bool false) .of ?_
  simp only [sZ, sS]
  refine wpList_nil ?_
  refine hK3 _ _ ?_
  refine cF ?_
  refine wp_skip ?_
  refine hK2 _ _ ?_
  refine wp_seq_k fun K4 hK4 => ?_
  refine wp_seq_k fun K5 hK5 => ?_
  refine cPlain ?_
  refine sv 7 (.int .i64 1) .of ?_
  simp only [sZ, sS]
  refine wpList_nil ?_
  refine hK5 _ _ ?_
  refine wp_block ?_
  refine cLoop (fun N_ A_ w_ => ∃ (n : Nat), (N_ = 11 - n ∧ (1 ≤ n) ∧ (n ≤ 11) ∧ (∀ j, 1 ≤ j → j < n → numN ((valR ((xs.drop a).take j) : Nat) : Int) ≠ (xs.drop a).take j) ∧ (∃ s1 : Nat → Value, A_ = ⟨[v, .int .i64 ((a : Nat) : Int), undef, undef, (s1 4), (s1 5), (s1 6), .int .i64 ((n : Nat) : Int), (s1 8), .int .i64 ((a : Nat) : Int), .bool false, .bool false, .int .i64 ((a : Nat) : Int), v, .int .i64 ((xs.length : Nat) : Int), .bool false, .bool false, (s1 17), (s1 18), (s1 19), (s1 20), (s1 21), (s1 22), (s1 23), (s1 24), (s1 25), (s1 26), (s1 27), (s1 28), (s1 29), (s1 30), (s1 31), (s1 32), (s1 33), (s1 34), (s1 35), (s1 36), (s1 37), (s1 38), (s1 39), (s1 40), (s1 41), (s1 42), (s1 43), (s1 44), (s1 45), (s1 46), (s1 47), (s1 48), (s1 49), (s1 50), undef, undef, undef, undef].toArray, []⟩) ∧ Bl w.heap.size w w_ ∧ SL .u8 w_ v (nn xs) ∧ w.heap.size ≤ w_.heap.size)) _ ⟨1, rfl, (Nat.le_refl _), (by omega), (fun j h1 h2 => absurd h1 (by omega)), cutE, BL, D, Nat.le_refl _⟩ ?_
  clear BL D
  rintro n_ a_ wl0 ⟨n, rfl, hc0_0, hc0_1, hc0_2, ⟨s1, rfl⟩, BL, D, zl0⟩
  refine wp_seq_k fun K6 hK6 => ?_
  refine wp_seq_k fun K7 hK7 => ?_
  refine cPlain ?_
  refine sv 17 (.int .i64 ((n : Nat) : Int)) .of ?_
  simp only [sZ, sS]
  refine sv 18 (.bool (decide (((n : Nat) : Int) ≤ 10))) (Val.cmp .leq 3 _ (.tmp 17) _ rfl .i64 ((n : Nat) : Int) 10 (by kernel_rfl) (by kernel_rfl) (by simp) _ rfl) ?_
  simp only [sZ, sS]
  refine sv 19 (.bool (decide (((n : Nat) : Int) ≤ 10))) .of ?_
  simp only [sZ, sS]
  by_cases g20 : ((n : Nat) : Int) ≤ 10
  · skip
    have dg20 : decide (((n : Nat) : Int) ≤ 10) = true := decide_eq_true g20
    simp only [dg20]
    clear dg20
    refine sv 20 (.int .i64 ((a : Nat) : Int)) .of ?_
    simp only [sZ, sS]
    refine sv 21 (.int .i64 ((n : Nat) : Int)) .of ?_
    simp only [sZ, sS]
    refine sv 22 (.int .i64 ((a + n : Nat) : Int)) (Val.as (Val.add 3 _ (.tmp 20) (.tmp 21) rfl ((a : Nat) : Int) ((n : Nat) : Int) (by kernel_rfl) (by kernel_rfl) (by omega)) (congrArg (Value.int .i64) (by omega))) ?_
    simp only [sZ, sS]
    refine sv 23 (v) .of ?_
    simp only [sZ, sS]
    refine sv 24 (.int .i64 ((xs.length : Nat) : Int)) (Val.lenS (.tmp 23) 29 rfl (by kernel_rfl) D xs.length (nn_len xs) Try.underlying29) ?_
    simp only [sZ, sS]
    refine sv 25 (.bool (decide (((a + n : Nat) : Int) ≤ ((xs.length : Nat) : Int)))) (Val.cmp .leq 3 _ (.tmp 22) (.tmp 24) rfl .i64 ((a + n : Nat) : Int) ((xs.length : Nat) : Int) (by kernel_rfl) (by kernel_rfl) (by simp) _ rfl) ?_
    simp only [sZ, sS]
    refine sv 26 (.bool (decide (((a + n : Nat) : Int) ≤ ((xs.length : Nat) : Int)))) .of ?_
    simp only [sZ, sS]
    refine wpList_nil ?_
    refine hK7 _ _ ?_
    refine cDec (((a + n : Nat) : Int) ≤ ((xs.length : Nat) : Int)) (by kernel_rfl) (fun c26 => ?_) (fun c26 => ?_)
    · skip
      refine wp_skip ?_
      refine hK6 _ _ ?_
      refine wp_seq_k fun K8 hK8 => ?_
      refine wp_block ?_
      refine wp_seq_k fun K9 hK9 => ?_
      have hpb : ∀ x ∈ ((xs.drop a).take n), x < 256 := fun x hx => hb x (List.mem_of_mem_drop (List.mem_of_mem_take hx))
      have hpl : ((xs.drop a).take n).length = n := by rw [List.length_take]; omega
      refine cPlain ?_
      refine sv 29 (v) .of ?_
      simp only [sZ, sS]
      refine sv 30 (.int .i64 ((a : Nat) : Int)) .of ?_
      simp only [sZ, sS]
      refine sv 31 (.int .i64 ((a : Nat) : Int)) .of ?_
      simp only [sZ, sS]
      refine sv 32 (.int .i64 ((n : Nat) : Int)) .of ?_
      simp only [sZ, sS]
      refine sv 33 (.int .i64 ((a + n : Nat) : Int)) (Val.as (Val.add 3 _ (.tmp 31) (.tmp 32) rfl ((a : Nat) : Int) ((n : Nat) : Int) (by kernel_rfl) (by kernel_rfl) (by omega)) (congrArg (Value.int .i64) (by omega))) ?_
      simp only [sZ, sS]
      refine sv 34 (sliceV v a (a + n)) (Val.slc 29 (.tmp 29) (some (.tmp 30)) (some (.tmp 33)) rfl v (by kernel_rfl) D a (a + n) (.inl (by kernel_rfl)) (.inl (by kernel_rfl)) (by omega) (by rw [nn_len]; omega) Try.underlying29 (by kernel_rfl)) ?_
      simp only [sZ, sS]
      refine xCall 35 78 #[sliceV v a (a + n)] (by kernel_rfl) ?_
      refine (rvalue_any (sliceV v a (a + n)) ((xs.drop a).take n) wl0 (SL.castU (D.slice a (a + n) (by omega) (by rw [nn_len]; omega)) (pre_nn xs a n)) (by omega)).mono ?_
      rintro en w1 ⟨rfl, hw⟩
      have e1 : E0 wl0 w1 := (hw ▸ Ev.refl _ _)
      have ze1 := e1.size
      replace BL := BL.e0 e1
      replace D := D.e0 e1
      clear e1
      refine ⟨.int .u64 ((valR ((xs.drop a).take n) : Nat) : Int), rfl, ?_⟩
      simp only [sZ, sS]
      refine sv 8 (.int .u64 ((valR ((xs.drop a).take n) : Nat) : Int)) .of ?_
      simp only [sZ, sS]
      refine wpList_nil ?_
      refine hK9 _ _ ?_
      refine wp_seq_k fun K10 hK10 => ?_
      have e2 := drew_e0 w1
      refine zg (fun w_ => Bl w.heap.size w w_ ∧ SL .u8 w_ v (nn xs) ∧ w1.heap.size ≤ w_.heap.size) (fun w_ => Bl w.heap.size w w_ ∧ SL .u8 w_ v (nn xs) ∧ w1.heap.size ≤ w_.heap.size) 100000 11 ⟨BL.e0 e2, D.e0 e2, Nat.le_refl _⟩ ?_
      clear BL D
      clear e2
      intro w2
      rintro ⟨BL, D, z1⟩
      refine zv 0 36 (.int .u64 ((valR ((xs.drop a).take n) : Nat) : Int)) (fun _ _ => .of) ⟨BL, D, by omega⟩ ?_
      simp only [sZ, sS]
      refine zv 3 39 (v) (fun _ _ => .of) ⟨BL, D, by omega⟩ ?_
      simp only [sZ, sS]
      refine zv 4 40 (.int .i64 ((a : Nat) : Int)) (fun _ _ => .of) ⟨BL, D, by omega⟩ ?_
      simp only [sZ, sS]
      refine zv 5 41 (.int .i64 ((a : Nat) : Int)) (fun _ _ => .of) ⟨BL, D, by omega⟩ ?_
      simp only [sZ, sS]
      refine zv 6 42 (.int .i64 ((n : Nat) : Int)) (fun _ _ => .of) ⟨BL, D, by omega⟩ ?_
      simp only [sZ, sS]
      refine zv 7 43 (.int .i64 ((a + n : Nat) : Int)) (fun _ ⟨BL, D, z1⟩ => Val.as (Val.add 3 _ (.tmp 41) (.tmp 42) rfl ((a : Nat) : Int) ((n : Nat) : Int) (by kernel_rfl) (by kernel_rfl) (by omega)) (congrArg (Value.int .i64) (by omega))) ⟨BL, D, by omega⟩ ?_
      simp only [sZ, sS]
      refine zv 8 44 (sliceV v a (a + n)) (fun _ ⟨BL, D, z1⟩ => Val.slc 29 (.tmp 39) (some (.tmp 40)) (some (.tmp 43)) rfl v (by kernel_rfl) D a (a + n) (.inl (by kernel_rfl)) (.inl (by kernel_rfl)) (by omega) (by rw [nn_len]; omega) Try.underlying29 (by kernel_rfl)) ⟨BL, D, by omega⟩ ?_
      simp only [sZ, sS]
      refine zv 9 45 (.string (strOf (nn ((xs.drop a).take n)))) (fun _ ⟨BL, D, z1⟩ => Val.str 29 9 5 (.tmp 44) rfl Try.underlying29 Try.underlying5 Try.underlying9 (sliceV v a (a + n)) _ (by kernel_rfl) (SL.castU (D.slice a (a + n) (by omega) (by rw [nn_len]; omega)) (pre_nn xs a n))) ⟨BL, D, by omega⟩ ?_
      simp only [sZ, sS]
      refine zo1 1 rfl ?_
      refine xCall 37 72 #[.int .u64 ((valR ((xs.drop a).take n) : Nat) : Int)] (by kernel_rfl) ?_
      refine (rvarint_any (valR ((xs.drop a).take n)) (by have := valR_lt ((xs.drop a).take n); omega) w2).mono ?_
      rintro en w3 ⟨u, rfl, hO, hb1⟩
      have e3 := belE0 hb1
      have ze3 := e3.size
      replace BL := BL.e0 e3
      replace D := D.e0 e3
      clear e3
      have U : Own 5 .u8 w2.heap.size w3 u (nn (numN ((valR ((xs.drop a).take n) : Nat) : Int))) := hO
      have lU_1 := U.ge
      refine ⟨u, rfl, ?_⟩
      refine ze 1 ⟨BL, D, by omega⟩ ?_
      simp only [sZ, sS]
      refine zo1 2 rfl ?_
      refine sv 38 (.string (strOf (nn (numN ((valR ((xs.drop a).take n) : Nat) : Int))))) (Val.str 29 9 5 (.tmp 37) rfl Try.underlying29 Try.underlying5 Try.underlying9 u _ (by kernel_rfl) U.sl) ?_
      refine ze 2 ⟨BL, D, by omega⟩ ?_
      simp only [sZ, sS]
      refine zv 10 46 (.bool (decide (numN ((valR ((xs.drop a).take n) : Nat) : Int) = ((xs.drop a).take n)))) (fun _ ⟨BL, D, z1⟩ => Val.eqStr .eql 9 _ (.tmp 38) (.tmp 45) rfl (nn (numN ((valR ((xs.drop a).take n) : Nat) : Int))) (nn ((xs.drop a).take n)) (by kernel_rfl) (by kernel_rfl) (bytes_nn (numN_b _)) (bytes_nn hpb) (.inl rfl) _ (eql_nnG _ _)) ⟨BL, D, by omega⟩ ?_
      simp only [sZ, sS]
      refine zd (by kernel_rfl) ?_ _
      refine hK10 _ _ ?_
      refine cDec (numN ((valR ((xs.drop a).take n) : Nat) : Int) = ((xs.drop a).take n)) (by kernel_rfl) (fun c46 => ?_) (fun c46 => ?_)
      · skip
        refine wp_seq_k fun K11 hK11 => ?_
        refine cPlain ?_
        refine sv 47 (.int .u64 ((valR ((xs.drop a).take n) : Nat) : Int)) .of ?_
        simp only [sZ, sS]
        refine sv 48 (.int .i64 ((a : Nat) : Int)) .of ?_
        simp only [sZ, sS]
        refine sv 49 (.int .i64 ((n : Nat) : Int)) .of ?_
        simp only [sZ, sS]
        refine sv 50 (.int .i64 ((a + n : Nat) : Int)) (Val.as (Val.add 3 _ (.tmp 48) (.tmp 49) rfl ((a : Nat) : Int) ((n : Nat) : Int) (by kernel_rfl) (by kernel_rfl) (by omega)) (congrArg (Value.int .i64) (by omega))) ?_
        simp only [sZ, sS]
        refine sv 4 (.int .u64 ((valR ((xs.drop a).take n) : Nat) : Int)) .of ?_
        simp only [sZ, sS]
        refine sv 5 (.int .i64 ((a + n : Nat) : Int)) .of ?_
        simp only [sZ, sS]
        refine sv 6 (.int .i64 0) .of ?_
        simp only [sZ, sS]
        refine wpList_nil ?_
        refine hK11 _ _ ?_
        refine wp_ret ?_
        (try simp only [Exit.then, Exit.inBlock])
        refine bodyPost_ret (v := .tuple #[.int .u64 ((valR ((xs.drop a).take n) : Nat) : Int), .int .i64 ((a + n : Nat) : Int), .int .i64 0]) rT rfl ?_
        refine ⟨.inl ⟨_, (xs.drop a).drop n, n, valR_lt _, ?_, ?_, rfl⟩, BL.b⟩
        · rw [c46, List.take_append_drop]
        · rw [c46, hpl]
      · skip
        refine wp_skip ?_
        refine hK8 _ _ ?_
        refine cPlain ?_
        refine sv 27 (.int .i64 ((n : Nat) : Int)) .of ?_
        simp only [sZ, sS]
        refine sv 28 (.int .i64 ((n + 1 : Nat) : Int)) (Val.as (Val.add 3 _ (.tmp 27) _ rfl ((n : Nat) : Int) 1 (by kernel_rfl) (by kernel_rfl) (by omega)) (congrArg (Value.int .i64) (by omega))) ?_
        simp only [sZ, sS]
        refine sv 7 (.int .i64 ((n + 1 : Nat) : Int)) .of ?_
        simp only [sZ, sS]
        refine wpList_nil ?_
        refine ⟨_, ?_, n + 1, rfl, (by omega), (by omega), (fun j h1 h2 => by rcases Nat.lt_or_ge j n with h3 | h3; exact hc0_2 j h1 h3; obtain rfl : j = n := (by omega); exact c46), cutE, BL, D, by omega⟩
        omega
    · skip
      refine wp_exit ?_
      simp only [Exit.then, Exit.inBlock, ↓reduceIte, Nat.reduceEqDiff]
      refine hK4 _ _ ?_
      refine wp_seq_k fun K12 hK12 => ?_
      refine wp_seq_k fun K13 hK13 => ?_
      have hno : ∀ j, 1 ≤ j → j ≤ 10 → j ≤ (xs.drop a).length → numN ((valR ((xs.drop a).take j) : Nat) : Int) ≠ (xs.drop a).take j := fun j h1 h2 h3 => hc0_2 j h1 (by omega)
      refine cPlain ?_
      refine sv 51 (v) .of ?_
      simp only [sZ, sS]
      refine sv 52 (.int .i64 ((a : Nat) : Int)) .of ?_
      simp only [sZ, sS]
      refine sv 53 (sliceV v a ((nn xs).length)) (Val.slc 29 (.tmp 51) (some (.tmp 52)) none rfl v (by kernel_rfl) D a ((nn xs).length) (.inl (by kernel_rfl)) (.inr ⟨rfl, rfl⟩) (by rw [nn_len]; omega) (Nat.le_refl _) Try.underlying29 (by kernel_rfl)) ?_
      simp only [sZ, sS]
      refine xCall 54 79 #[sliceV v a ((nn xs).length)] (by kernel_rfl) ?_
      refine (rbegins_any (sliceV v a (nn xs).length) (xs.drop a) wl0 (SL.castU (D.slice a (nn xs).length (by rw [nn_len]; omega) (Nat.le_refl _)) (rest_nn xs a)) (by omega)).mono ?_
      rintro en w4 ⟨bb, rfl, hw⟩
      have e4 : E0 wl0 w4 := (hw ▸ Ev.refl _ _)
      have ze4 := e4.size
      replace BL := BL.e0 e4
      replace D := D.e0 e4
      clear e4
      refine ⟨.bool bb, rfl, ?_⟩
      simp only [sZ, sS]
      refine wpList_nil ?_
      refine hK13 _ _ ?_
      refine wp_cond_split (t := bb) (by kernel_rfl) (fun c54 => ?_) (fun c54 => ?_)
      · skip
        refine wp_seq_k fun K14 hK14 => ?_
        refine cPlain ?_
        refine sv 4 (.int .u64 0) .of ?_
        simp only [sZ, sS]
        refine sv 5 (.int .i64 0) .of ?_
        simp only [sZ, sS]
        refine sv 6 (.int .i64 10) .of ?_
        simp only [sZ, sS]
        refine wpList_nil ?_
        refine hK14 _ _ ?_
        refine wp_ret ?_
        (try simp only [Exit.then, Exit.inBlock])
        refine bodyPost_ret (v := .tuple #[.int .u64 0, .int .i64 0, .int .i64 10]) rT rfl ?_
        exact ⟨.inr ⟨hno, 10, by decide, rfl⟩, BL.b⟩
      · skip
        refine wp_skip ?_
        refine hK12 _ _ ?_
        refine wp_seq_k fun K15 hK15 => ?_
        refine cPlain ?_
        refine sv 4 (.int .u64 0) .of ?_
        simp only [sZ, sS]
        refine sv 5 (.int .i64 0) .of ?_
        simp only [sZ, sS]
        refine sv 6 (.int .i64 11) .of ?_
        simp only [sZ, sS]
        refine wpList_nil ?_
        refine hK15 _ _ ?_
        refine wp_ret ?_
        (try simp only [Exit.then, Exit.inBlock])
        refine bodyPost_ret (v := .tuple #[.int .u64 0, .int .i64 0, .int .i64 11]) rT rfl ?_
        exact ⟨.inr ⟨hno, 11, by decide, rfl⟩, BL.b⟩
  · skip
    have dg20 : decide (((n : Nat) : Int) ≤ 10) = false := decide_eq_false g20
    simp only [dg20]
    clear dg20
    refine xSkip 20 ?_
    simp only [sZ, sS]
    refine xSkip 21 ?_
    simp only [sZ, sS]
    refine xSkip 22 ?_
    simp only [sZ, sS]
    refine xSkip 23 ?_
    simp only [sZ, sS]
    refine xSkip 24 ?_
    simp only [sZ, sS]
    refine xSkip 25 ?_
    simp only [sZ, sS]
    refine sv 26 (.bool false) .of ?_
    simp only [sZ, sS]
    refine wpList_nil ?_
    refine hK7 _ _ ?_
    refine cF ?_
    refine wp_exit ?_
    simp only [Exit.then, Exit.inBlock, ↓reduceIte, Nat.reduceEqDiff]
    refine hK4 _ _ ?_
    refine wp_seq_k fun K16 hK16 => ?_
    refine wp_seq_k fun K17 hK17 => ?_
    have hno : ∀ j, 1 ≤ j → j ≤ 10 → j ≤ (xs.drop a).length → numN ((valR ((xs.drop a).take j) : Nat) : Int) ≠ (xs.drop a).take j := fun j h1 h2 h3 => hc0_2 j h1 (by omega)
    refine cPlain ?_
    refine sv 51 (v) .of ?_
    simp only [sZ, sS]
    refine sv 52 (.int .i64 ((a : Nat) : Int)) .of ?_
    simp only [sZ, sS]
    refine sv 53 (sliceV v a ((nn xs).length)) (Val.slc 29 (.tmp 51) (some (.tmp 52)) none rfl v (by kernel_rfl) D a ((nn xs).length) (.inl (by kernel_rfl)) (.inr ⟨rfl, rfl⟩) (by rw [nn_len]; omega) (Nat.le_refl _) Try.underlying29 (by kernel_rfl)) ?_
    simp only [sZ, sS]
    refine xCall 54 79 #[sliceV v a ((nn xs).length)] (by kernel_rfl) ?_
    refine (rbegins_any (sliceV v a (nn xs).length) (xs.drop a) wl0 (SL.castU (D.slice a (nn xs).length (by rw [nn_len]; omega) (Nat.le_refl _)) (rest_nn xs a)) (by omega)).mono ?_
    rintro en w5 ⟨bb, rfl, hw⟩
    have e5 : E0 wl0 w5 := (hw ▸ Ev.refl _ _)
    have ze5 := e5.size
    replace BL := BL.e0 e5
    replace D := D.e0 e5
    clear e5
    refine ⟨.bool bb, rfl, ?_⟩
    simp only [sZ, sS]
    refine wpList_nil ?_
    refine hK17 _ _ ?_
    refine wp_cond_split (t := bb) (by kernel_rfl) (fun c54 => ?_) (fun c54 => ?_)
    · skip
      refine wp_seq_k fun K18 hK18 => ?_
      refine cPlain ?_
      refine sv 4 (.int .u64 0) .of ?_
      simp only [sZ, sS]
      refine sv 5 (.int .i64 0) .of ?_
      simp only [sZ, sS]
      refine sv 6 (.int .i64 10) .of ?_
      simp only [sZ, sS]
      refine wpList_nil ?_
      refine hK18 _ _ ?_
      refine wp_ret ?_
      (try simp only [Exit.then, Exit.inBlock])
      refine bodyPost_ret (v := .tuple #[.int .u64 0, .int .i64 0, .int .i64 10]) rT rfl ?_
      exact ⟨.inr ⟨hno, 10, by decide, rfl⟩, BL.b⟩
    · skip
      refine wp_skip ?_
      refine hK16 _ _ ?_
      refine wp_seq_k fun K19 hK19 => ?_
      refine cPlain ?_
      refine sv 4 (.int .u64 0) .of ?_
      simp only [sZ, sS]
      refine sv 5 (.int .i64 0) .of ?_
      simp only [sZ, sS]
      refine sv 6 (.int .i64 11) .of ?_
      simp only [sZ, sS]
      refine wpList_nil ?_
      refine hK19 _ _ ?_
      refine wp_ret ?_
      (try simp only [Exit.then, Exit.inBlock])
      refine bodyPost_ret (v := .tuple #[.int .u64 0, .int .i64 0, .int .i64 11]) rT rfl ?_
      exact ⟨.inr ⟨hno, 11, by decide, rfl⟩, BL.b⟩

end Go.Proofs.Ytanggdnmoaflfaa
