/-
  blockhouselow.SameLists; MacTexts: the walk.
-/
import Derived.Test.YtlmadkldiidkaaaMacTgA
import Derived.Test.YtlmadkldiidkaaaSlxS
import Derived.Test.YtlmadkldiidkaaaTextI
import Derived.Test.YtlmadkldiidkaaaEqk
namespace Go.Proofs.Ytlmadkldiidkaaa
open Go.RowKit
set_option linter.unusedVariables false
set_option linter.unusedSimpArgs false
set_option maxRecDepth 100000
attribute [local irreducible] wpList Code.wp wpAnyZ
theorem takeL_next {xs ys : List (List Int)} {k : Nat} (h : xs.length = ys.length) (hk : k < xs.length) : xs.take (k + 1) = ys.take (k + 1) ↔ xs.take k = ys.take k ∧ xs.getD k [] = ys.getD k [] := by
  have hy : k < ys.length := by omega
  rw [take_snoc hk, take_snoc hy]
  constructor
  · intro he
    have := List.append_inj he (by rw [List.length_take, List.length_take]; omega)
    exact ⟨this.1, by simpa using this.2⟩
  · rintro ⟨h1, h2⟩
    rw [h1, h2]

set_option maxHeartbeats 4000000 in
theorem samelists_any (v0 v1 : Value) (us0 us1 : List Value) (ys zs : List (List Int)) (w : World) (H0 : SV w v0 us0) (H1 : SV w v1 us1) (B : Nat) (Y0 : SLxs B w us0 ys) (Y1 : SLxs B w us1 zs) (hb0 : ∀ y ∈ ys, Bytes y) (hb1 : ∀ y ∈ zs, Bytes y) (hn : ys.length ≤ 140737488355328) :
    Calls Try.prog 36 #[v0, v1] w fun e w' => e = .returned (.bool (decide (ys = zs))) ∧ Below w.heap.size w w' := by
  have BL := Bl.refl w
  have hu0 := Y0.1
  have hu1 := Y1.1
  obtain ⟨A0, C0, rfl, hm0⟩ := H0.len
  obtain ⟨A1, C1, rfl, hm1⟩ := H1.len
  rw [hu0] at H0 ⊢
  rw [hu1] at H1 ⊢
  rw [hu0] at hm0
  rw [hu1] at hm1
  unfold maxLen at hm0 hm1
  go_enter Try.func36, Try.ntmps36
  refine wp_seq_k fun K1 hK1 => ?_
  refine cPlain ?_
  refine sv 4 (.bool false) .of ?_
  simp only [List.set_cons_zero, List.set_cons_succ]
  refine wpList_nil ?_
  refine hK1 _ _ ?_
  refine wp_seq_k fun K2 hK2 => ?_
  refine wp_seq_k fun K3 hK3 => ?_
  refine cPlain ?_
  refine sv 6 (.slice A0 ys.length C0) .of ?_
  simp only [List.set_cons_zero, List.set_cons_succ]
  refine sv 7 (.int .i64 ((ys.length : Nat) : Int)) .of ?_
  simp only [List.set_cons_zero, List.set_cons_succ]
  refine sv 8 (.slice A1 zs.length C1) .of ?_
  simp only [List.set_cons_zero, List.set_cons_succ]
  refine sv 9 (.int .i64 ((zs.length : Nat) : Int)) .of ?_
  simp only [List.set_cons_zero, List.set_cons_succ]
  refine sv 10 (.bool (decide (¬ (((ys.length : Nat) : Int) = ((zs.length : Nat) : Int))))) (Val.cmp .neq 3 _ (.tmp 7) (.tmp 9) rfl .i64 ((ys.length : Nat) : Int) ((zs.length : Nat) : Int) (by kernel_rfl) (by kernel_rfl) (by simp) _ (by simp [cmpB])) ?_
  simp only [List.set_cons_zero, List.set_cons_succ]
  refine wpList_nil ?_
  refine hK3 _ _ ?_
  refine cDec (¬ (((ys.length : Nat) : Int) = ((zs.length : Nat) : Int))) (by kernel_rfl) (fun c10 => ?_) (fun c10 => ?_)
  · skip
    refine wp_seq_k fun K4 hK4 => ?_
    refine cPlain ?_
    refine sv 4 (.bool false) .of ?_
    simp only [List.set_cons_zero, List.set_cons_succ]
    refine wpList_nil ?_
    refine hK4 _ _ ?_
    refine wp_ret ?_
    (try simp only [Exit.then, Exit.inBlock])
    refine bodyPost_ret (v := .bool false) rT rfl ?_
    rw [decide_eq_false (fun h => by subst h; first | exact c10 rfl | exact c26 rfl)]
    exact ⟨rfl, BL.b⟩
  · skip
    refine wp_skip ?_
    refine hK2 _ _ ?_
    refine wp_seq_k fun K5 hK5 => ?_
    refine wp_seq_k fun K6 hK6 => ?_
    refine cPlain ?_
    refine sv 5 (.int .i64 0) .of ?_
    simp only [List.set_cons_zero, List.set_cons_succ]
    refine wpList_nil ?_
    refine hK6 _ _ ?_
    refine wp_block ?_
    refine cLoop (fun N_ A_ w_ => ∃ (k : Nat), (N_ = ys.length - k ∧ (k ≤ ys.length) ∧ (ys.take k = zs.take k) ∧ (∃ s1 : Nat → Value, A_ = ⟨[.slice A0 ys.length C0, .slice A1 zs.length C1, undef, undef, (s1 4), .int .i64 ((k : Nat) : Int), .slice A0 ys.length C0, .int .i64 ((ys.length : Nat) : Int), .slice A1 zs.length C1, .int .i64 ((zs.length : Nat) : Int), .bool (decide (¬ (((ys.length : Nat) : Int) = ((zs.length : Nat) : Int)))), (s1 11), (s1 12), (s1 13), (s1 14), (s1 15), (s1 16), (s1 17), (s1 18), (s1 19), (s1 20), (s1 21), (s1 22), (s1 23), (s1 24), (s1 25), (s1 26)].toArray, []⟩) ∧ Bl w.heap.size w w_ ∧ SV w_ (.slice A0 ys.length C0) us0 ∧ SV w_ (.slice A1 zs.length C1) us1 ∧ SLxs B w_ us0 ys ∧ SLxs B w_ us1 zs ∧ w.heap.size ≤ w_.heap.size)) _ ⟨0, rfl, (Nat.zero_le _), (by simp), cutE, BL, H0, H1, Y0, Y1, Nat.le_refl _⟩ ?_
    clear BL H0 H1 Y0 Y1
    rintro n_ a_ wl0 ⟨k, rfl, hc0_0, hc0_1, ⟨s1, rfl⟩, BL, H0, H1, Y0, Y1, zl0⟩
    refine wp_seq_k fun K7 hK7 => ?_
    refine wp_seq_k fun K8 hK8 => ?_
    refine cPlain ?_
    refine sv 11 (.int .i64 ((k : Nat) : Int)) .of ?_
    simp only [List.set_cons_zero, List.set_cons_succ]
    refine sv 12 (.slice A0 ys.length C0) .of ?_
    simp only [List.set_cons_zero, List.set_cons_succ]
    refine sv 13 (.int .i64 ((ys.length : Nat) : Int)) .of ?_
    simp only [List.set_cons_zero, List.set_cons_succ]
    refine sv 14 (.bool (decide (((k : Nat) : Int) < ((ys.length : Nat) : Int)))) (Val.cmp .lss 3 _ (.tmp 11) (.tmp 13) rfl .i64 ((k : Nat) : Int) ((ys.length : Nat) : Int) (by kernel_rfl) (by kernel_rfl) (by simp) _ rfl) ?_
    simp only [List.set_cons_zero, List.set_cons_succ]
    refine wpList_nil ?_
    refine hK8 _ _ ?_
    refine cDec (((k : Nat) : Int) < ((ys.length : Nat) : Int)) (by kernel_rfl) (fun c14 => ?_) (fun c14 => ?_)
    · skip
      refine wp_skip ?_
      refine hK7 _ _ ?_
      refine wp_seq_k fun K9 hK9 => ?_
      refine wp_block ?_
      refine wp_seq_k fun K10 hK10 => ?_
      have e1 := drew_e0 wl0
      refine zg (fun w_ => Bl w.heap.size w w_ ∧ SV w_ (.slice A0 ys.length C0) us0 ∧ SV w_ (.slice A1 zs.length C1) us1 ∧ SLxs B w_ us0 ys ∧ SLxs B w_ us1 zs ∧ wl0.heap.size ≤ w_.heap.size) (fun w_ => Bl w.heap.size w w_ ∧ SV w_ (.slice A0 ys.length C0) us0 ∧ SV w_ (.slice A1 zs.length C1) us1 ∧ SLxs B w_ us0 ys ∧ SLxs B w_ us1 zs ∧ wl0.heap.size ≤ w_.heap.size) 100000 10 ⟨BL.e0 e1, SV.e0 H0 e1, SV.e0 H1 e1, SLxs.e0 Y0 e1, SLxs.e0 Y1 e1, Nat.le_refl _⟩ ?_
      clear BL H0 H1 Y0 Y1
      clear e1
      intro w1
      rintro ⟨BL, H0, H1, Y0, Y1, z1⟩
      refine zv 0 17 (.slice A0 ys.length C0) (fun _ _ => .of) ⟨BL, H0, H1, Y0, Y1, by omega⟩ ?_
      simp only [List.set_cons_zero, List.set_cons_succ]
      refine zv 1 18 (.int .i64 ((k : Nat) : Int)) (fun _ _ => .of) ⟨BL, H0, H1, Y0, Y1, by omega⟩ ?_
      simp only [List.set_cons_zero, List.set_cons_succ]
      refine zv 2 19 (elemP (.slice A0 ys.length C0) k) (fun _ ⟨BL, H0, H1, Y0, Y1, z1⟩ => Val.idxV 55 (.tmp 17) (.tmp 18) rfl (.slice A0 ys.length C0) k (by kernel_rfl) (by kernel_rfl) H0 Try.underlying55 (by kernel_rfl) (by omega)) ⟨BL, H0, H1, Y0, Y1, by omega⟩ ?_
      simp only [List.set_cons_zero, List.set_cons_succ]
      refine zv 3 20 (us0.getD k undef) (fun _ ⟨BL, H0, H1, Y0, Y1, z1⟩ => Val.ldV 43 _ rfl (.slice A0 ys.length C0) k (by kernel_rfl) (fun _ => by kernel_rfl) H0 (by omega)) ⟨BL, H0, H1, Y0, Y1, by omega⟩ ?_
      simp only [List.set_cons_zero, List.set_cons_succ]
      refine zv 4 21 (.slice A1 zs.length C1) (fun _ _ => .of) ⟨BL, H0, H1, Y0, Y1, by omega⟩ ?_
      simp only [List.set_cons_zero, List.set_cons_succ]
      refine zv 5 22 (.int .i64 ((k : Nat) : Int)) (fun _ _ => .of) ⟨BL, H0, H1, Y0, Y1, by omega⟩ ?_
      simp only [List.set_cons_zero, List.set_cons_succ]
      refine zv 6 23 (elemP (.slice A1 zs.length C1) k) (fun _ ⟨BL, H0, H1, Y0, Y1, z1⟩ => Val.idxV 55 (.tmp 21) (.tmp 22) rfl (.slice A1 zs.length C1) k (by kernel_rfl) (by kernel_rfl) H1 Try.underlying55 (by kernel_rfl) (by omega)) ⟨BL, H0, H1, Y0, Y1, by omega⟩ ?_
      simp only [List.set_cons_zero, List.set_cons_succ]
      refine zv 7 24 (us1.getD k undef) (fun _ ⟨BL, H0, H1, Y0, Y1, z1⟩ => Val.ldV 43 _ rfl (.slice A1 zs.length C1) k (by kernel_rfl) (fun _ => by kernel_rfl) H1 (by omega)) ⟨BL, H0, H1, Y0, Y1, by omega⟩ ?_
      simp only [List.set_cons_zero, List.set_cons_succ]
      refine zo1 8 rfl ?_
      refine xCall 25 32 #[us0.getD k undef, us1.getD k undef] (by kernel_rfl) ?_
      refine (samex_any (us0.getD k undef) (us1.getD k undef) (ys.getD k []) (zs.getD k []) w1 (Y0.get k (by omega)) (Y1.get k (by omega)) (hb0 _ (getD_memI (by omega))) (hb1 _ (getD_memI (by omega)))).mono ?_
      rintro en w2 ⟨rfl, hw⟩
      obtain rfl := (hw.symm).symm
      refine ⟨.bool (decide (ys.getD k [] = zs.getD k [])), rfl, ?_⟩
      refine ze 8 ⟨BL, H0, H1, Y0, Y1, by omega⟩ ?_
      simp only [List.set_cons_zero, List.set_cons_succ]
      refine zv 9 26 (.bool (decide (¬ (ys.getD k [] = zs.getD k [])))) (fun _ ⟨BL, H0, H1, Y0, Y1, z1⟩ => Val.not _ _ rfl (decide (ys.getD k [] = zs.getD k [])) (decide (¬ (ys.getD k [] = zs.getD k []))) (by kernel_rfl) (by first | rw [decide_not] | simp)) ⟨BL, H0, H1, Y0, Y1, by omega⟩ ?_
      simp only [List.set_cons_zero, List.set_cons_succ]
      refine zd (by kernel_rfl) ?_ _
      refine hK10 _ _ ?_
      refine cDec (¬ (ys.getD k [] = zs.getD k [])) (by kernel_rfl) (fun c26 => ?_) (fun c26 => ?_)
      · skip
        refine wp_seq_k fun K11 hK11 => ?_
        refine cPlain ?_
        refine sv 4 (.bool false) .of ?_
        simp only [List.set_cons_zero, List.set_cons_succ]
        refine wpList_nil ?_
        refine hK11 _ _ ?_
        refine wp_ret ?_
        (try simp only [Exit.then, Exit.inBlock])
        refine bodyPost_ret (v := .bool false) rT rfl ?_
        rw [decide_eq_false (fun h => by subst h; first | exact c10 rfl | exact c26 rfl)]
        exact ⟨rfl, BL.b⟩
      · skip
        refine wp_skip ?_
        refine hK9 _ _ ?_
        refine cPlain ?_
        refine sv 15 (.int .i64 ((k : Nat) : Int)) .of ?_
        simp only [List.set_cons_zero, List.set_cons_succ]
        refine sv 16 (.int .i64 (((k : Nat) : Int) + 1)) (Val.add 3 _ (.tmp 15) _ rfl ((k : Nat) : Int) 1 (by kernel_rfl) (by kernel_rfl) (by omega)) ?_
        simp only [List.set_cons_zero, List.set_cons_succ]
        refine sv 5 (.int .i64 (((k : Nat) : Int) + 1)) .of ?_
        simp only [List.set_cons_zero, List.set_cons_succ]
        refine wpList_nil ?_
        refine ⟨_, ?_, k + 1, rfl, (by omega), ((takeL_next (by omega) (by omega)).2 ⟨hc0_1, by simpa using c26⟩), cutE, BL, H0, H1, Y0, Y1, by omega⟩
        omega
    · skip
      rw [show k = ys.length by omega, List.take_length, List.take_of_length_le (by omega)] at hc0_1
      refine wp_exit ?_
      simp only [Exit.then, Exit.inBlock, ↓reduceIte, Nat.reduceEqDiff]
      refine hK5 _ _ ?_
      refine wp_seq_k fun K12 hK12 => ?_
      refine cPlain ?_
      refine sv 4 (.bool true) .of ?_
      simp only [List.set_cons_zero, List.set_cons_succ]
      refine wpList_nil ?_
      refine hK12 _ _ ?_
      refine wp_ret ?_
      (try simp only [Exit.then, Exit.inBlock])
      refine bodyPost_ret (v := .bool true) rT rfl ?_
      exact ⟨by rw [decide_eq_true hc0_1], BL.b⟩

theorem getD_nn (ps : List (List Nat)) (j : Nat) : (ps.map nn).getD j [] = nn (ps.getD j []) := by
  simp only [List.getD_eq_getElem?_getD, List.getElem?_map]
  cases ps[j]? <;> rfl
theorem few_text (tag : Nat) (Z : List (List Nat)) (h : ∀ p ∈ Z, p.length ≤ 100) (hl : Z.length ≤ 7) : (blobsB (Z.map nn)).length ≤ 1000 ∧ (textN tag Z).length ≤ 2000 := by
  have h1 := blobsB_small Z 100 h (by omega)
  have h2 : Z.length * 110 ≤ 7 * 110 := Nat.mul_le_mul_right _ hl
  have h3 := ndig_le 9 (Z.map nn).length
  refine ⟨by omega, ?_⟩
  rw [← nn_len, textN_nn, textB, List.length_append, List.length_append, uintB_length]
  simp only [List.length_cons, List.length_nil]
  omega
def zN (x : List Nat) (N : Nat) (R : List (List Nat)) : List (List Nat) := [x.take N, x.drop N] ++ R
theorem zN_nn (x : List Nat) (N : Nat) (R : List (List Nat)) : (zN x N R).map nn = [((nn x).drop 0).take (N - 0), ((nn x).drop N).take (x.length - N)] ++ R.map nn := by
  unfold zN
  rw [List.map_append]
  simp only [List.map_cons, List.map_nil, nn_take, nn_drop, List.drop_zero, Nat.sub_zero]
  rw [List.take_of_length_le (l := (nn x).drop N) (by rw [List.length_drop, nn_len]; omega)]
theorem bytes_fewL {ps : List (List Nat)} (h : ∀ p ∈ ps, ∀ x ∈ p, x < 256) : ∀ y ∈ (fewP ps).map nn, Bytes y := by
  intro y hy
  obtain ⟨p, hp, rfl⟩ := List.mem_map.1 hy
  unfold fewP at hp
  exact bytes_nn (h p (List.mem_of_mem_take (List.mem_filter.1 hp).1))
theorem fewP_b {ps : List (List Nat)} (h : ∀ p ∈ ps, ∀ x ∈ p, x < 256) : ∀ p ∈ fewP ps, ∀ x ∈ p, x < 256 := by
  intro p hp
  unfold fewP at hp
  exact h p (List.mem_of_mem_take (List.mem_filter.1 hp).1)
theorem fewP_p {ps : List (List Nat)} : ∀ p ∈ fewP ps, p.length < 2 ^ 64 := fun p hp => Nat.lt_of_le_of_lt (fewP_le p hp) (by decide)
theorem zN_le {x : List Nat} {N : Nat} {R : List (List Nat)} (hx : x.length ≤ 100) (hR : ∀ p ∈ R, p.length ≤ 100) : ∀ p ∈ zN x N R, p.length ≤ 100 := by
  intro p hp
  unfold zN at hp
  rcases List.mem_append.1 hp with h | h
  · simp only [List.mem_cons, List.not_mem_nil, or_false] at h
    rcases h with rfl | rfl
    · rw [List.length_take]; omega
    · rw [List.length_drop]; omega
  · exact hR p h
theorem zN_b {x : List Nat} {N : Nat} {R : List (List Nat)} (hx : ∀ z ∈ x, z < 256) (hR : ∀ p ∈ R, ∀ z ∈ p, z < 256) : ∀ p ∈ zN x N R, ∀ z ∈ p, z < 256 := by
  intro p hp
  unfold zN at hp
  rcases List.mem_append.1 hp with h | h
  · simp only [List.mem_cons, List.not_mem_nil, or_false] at h
    rcases h with rfl | rfl
    · exact fun z hz => hx z (List.mem_of_mem_take hz)
    · exact fun z hz => hx z (List.mem_of_mem_drop hz)
  · exact hR p h
theorem zN_len (x : List Nat) (N : Nat) (R : List (List Nat)) : (zN x N R).length = R.length + 2 := by unfold zN; simp
attribute [local irreducible] ofN textN taggedN fewP zN
set_option maxHeartbeats 8000000 in
theorem macTexts_walk (tag other : Nat) (ht : tag < 256) (ho : other < 256) (va vb : Value) (usa usb : List Value) (ps qs : List (List Nat)) (cut : Nat) (hcut : cut < 256) (w : World) (HVa : SV w va usa) (HYa : SLxs w.heap.size w usa (ps.map nn)) (HVb : SV w vb usb) (HYb : SLxs w.heap.size w usb (qs.map nn)) (hpb : ∀ p ∈ ps, ∀ x ∈ p, x < 256) (hqb : ∀ p ∈ qs, ∀ x ∈ p, x < 256) :
    Calls Try.prog 9 #[.int .u8 ((tag : Nat) : Int), .int .u8 ((other : Nat) : Int), va, vb, .int .u8 ((cut : Nat) : Int)] w fun e w' => e = .returned (.bool true) ∧ Below w.heap.size w w' := by
  have BL := Bl.refl w
  have hfx := fewP_len ps
  have hfy := fewP_len qs
  obtain ⟨hbx, htx⟩ := few_text tag (fewP ps) fewP_le (by omega)
  obtain ⟨hby, hty⟩ := few_text other (fewP qs) fewP_le (by omega)
  have hx1 : ∀ y ∈ (fewP ps).map nn, y.length ≤ 1000000000 := fun y hy => by obtain ⟨p, hpm, rfl⟩ := List.mem_map.1 hy; rw [nn_len]; exact Nat.le_trans (fewP_le p hpm) (by omega)
  have hy1 : ∀ y ∈ (fewP qs).map nn, y.length ≤ 1000000000 := fun y hy => by obtain ⟨p, hpm, rfl⟩ := List.mem_map.1 hy; rw [nn_len]; exact Nat.le_trans (fewP_le p hpm) (by omega)
  have hpb8 := text_b (tag := tag) ht (fewP_b hpb)
  have hqb8 := text_b (tag := other) ho (fewP_b hqb)
  have hiff := textN_iff (t := tag) (t' := other) (X := (fewP ps)) (Y := (fewP qs)) fewP_p fewP_p (by omega) (by omega)
  have hpre := textN_pre (t := tag) (t' := other) (X := (fewP ps)) (Y := (fewP qs)) fewP_p fewP_p (by omega) (by omega)
  have hmin1 : (min (textN tag (fewP ps)).length (textN other (fewP qs)).length) ≤ (textN tag (fewP ps)).length := Nat.min_le_left _ _
  have hmin2 : (min (textN tag (fewP ps)).length (textN other (fewP qs)).length) ≤ (textN other (fewP qs)).length := Nat.min_le_right _ _
  go_enter Try.func9, Try.ntmps9
  refine wp_seq_k fun K1 hK1 => ?_
  refine cPlain ?_
  refine sv 10 (.bool false) .of ?_
  simp only [List.set_cons_zero, List.set_cons_succ]
  refine wpList_nil ?_
  refine hK1 _ _ ?_
  refine wp_seq_k fun K2 hK2 => ?_
  refine cPlain ?_
  refine sv 19 (va) .of ?_
  simp only [List.set_cons_zero, List.set_cons_succ]
  refine xCall 20 34 #[va] (by kernel_rfl) ?_
  refine (few_any va usa (ps.map nn) w HVa w.heap.size (by omega) HYa).mono ?_
  rintro en w1 ⟨u, wsa, rfl, hV, hY, hb1⟩
  rw [fewP_nn] at hY
  obtain ⟨Aa, Ca, rfl, hma⟩ := hV.len
  have hula := hY.1
  rw [List.length_map] at hula
  rw [hula] at hV
  have e1 := belE0 hb1
  have ze1 := e1.size
  replace BL := BL.e0 e1
  have HVa : SV w1 va usa := SV.e0 HVa e1
  have HYa : SLxs w.heap.size w1 usa (ps.map nn) := SLxs.e0 HYa e1
  have HVb : SV w1 vb usb := SV.e0 HVb e1
  have HYb : SLxs w.heap.size w1 usb (qs.map nn) := SLxs.e0 HYb e1
  clear e1
  have HV1a : SV w1 (.slice Aa (fewP ps).length Ca) wsa := hV
  have HY1a : SLxs w.heap.size w1 wsa ((fewP ps).map nn) := hY
  refine ⟨.slice Aa (fewP ps).length Ca, (by rw [hula]), ?_⟩
  simp only [List.set_cons_zero, List.set_cons_succ]
  refine sv 21 (vb) .of ?_
  simp only [List.set_cons_zero, List.set_cons_succ]
  refine xCall 22 34 #[vb] (by kernel_rfl) ?_
  refine (few_any vb usb (qs.map nn) w1 HVb w.heap.size (by omega) HYb).mono ?_
  rintro en w2 ⟨u, wsb, rfl, hV, hY, hb1⟩
  rw [fewP_nn] at hY
  obtain ⟨Ab, Cb, rfl, hmb⟩ := hV.len
  have hulb := hY.1
  rw [List.length_map] at hulb
  rw [hulb] at hV
  have e2 := belE0 hb1
  have ze2 := e2.size
  replace BL := BL.e0 e2
  have HVa : SV w2 va usa := SV.e0 HVa e2
  have HYa : SLxs w.heap.size w2 usa (ps.map nn) := SLxs.e0 HYa e2
  have HVb : SV w2 vb usb := SV.e0 HVb e2
  have HYb : SLxs w.heap.size w2 usb (qs.map nn) := SLxs.e0 HYb e2
  have HV1a : SV w2 (.slice Aa (fewP ps).length Ca) wsa := SV.e0 HV1a e2
  have HY1a : SLxs w.heap.size w2 wsa ((fewP ps).map nn) := SLxs.e0 HY1a e2
  clear e2
  have HV1b : SV w2 (.slice Ab (fewP qs).length Cb) wsb := hV
  have HY1b : SLxs w.heap.size w2 wsb ((fewP qs).map nn) := hY
  refine ⟨.slice Ab (fewP qs).length Cb, (by rw [hulb]), ?_⟩
  simp only [List.set_cons_zero, List.set_cons_succ]
  refine sv 11 (.slice Aa (fewP ps).length Ca) .of ?_
  simp only [List.set_cons_zero, List.set_cons_succ]
  refine sv 12 (.slice Ab (fewP qs).length Cb) .of ?_
  simp only [List.set_cons_zero, List.set_cons_succ]
  refine wpList_nil ?_
  refine hK2 _ _ ?_
  refine wp_seq_k fun K3 hK3 => ?_
  clear HVa
  clear HYa
  clear HVb
  clear HYb
  refine cPlain ?_
  refine sv 23 (.int .u8 ((tag : Nat) : Int)) .of ?_
  simp only [List.set_cons_zero, List.set_cons_succ]
  refine sv 24 (.slice Aa (fewP ps).length Ca) .of ?_
  simp only [List.set_cons_zero, List.set_cons_succ]
  refine xCall 25 29 #[.int .u8 ((tag : Nat) : Int), .slice Aa (fewP ps).length Ca] (by kernel_rfl) ?_
  refine (mactextx_any ((tag : Nat) : Int) _ wsa ((fewP ps).map nn) w2 HV1a w.heap.size (by omega) HY1a (by omega) hx1).mono ?_
  rintro en w3 ⟨ua, rfl, hO, hb1⟩
  rw [← textN_nn] at hO
  have e3 := belE0 hb1
  have ze3 := e3.size
  replace BL := BL.e0 e3
  have HV1a : SV w3 (.slice Aa (fewP ps).length Ca) wsa := SV.e0 HV1a e3
  have HY1a : SLxs w.heap.size w3 wsa ((fewP ps).map nn) := SLxs.e0 HY1a e3
  have HV1b : SV w3 (.slice Ab (fewP qs).length Cb) wsb := SV.e0 HV1b e3
  have HY1b : SLxs w.heap.size w3 wsb ((fewP qs).map nn) := SLxs.e0 HY1b e3
  clear e3
  have Ua : Own 5 .u8 w2.heap.size w3 ua (nn (textN tag (fewP ps))) := hO
  have lUa_1 := Ua.ge
  refine ⟨ua, rfl, ?_⟩
  simp only [List.set_cons_zero, List.set_cons_succ]
  refine sv 26 (.int .u8 ((other : Nat) : Int)) .of ?_
  simp only [List.set_cons_zero, List.set_cons_succ]
  refine sv 27 (.slice Ab (fewP qs).length Cb) .of ?_
  simp only [List.set_cons_zero, List.set_cons_succ]
  refine xCall 28 29 #[.int .u8 ((other : Nat) : Int), .slice Ab (fewP qs).length Cb] (by kernel_rfl) ?_
  refine (mactextx_any ((other : Nat) : Int) _ wsb ((fewP qs).map nn) w3 HV1b w.heap.size (by omega) HY1b (by omega) hy1).mono ?_
  rintro en w4 ⟨ub, rfl, hO, hb1⟩
  rw [← textN_nn] at hO
  have e4 := belE0 hb1
  have ze4 := e4.size
  replace BL := BL.e0 e4
  have HV1a : SV w4 (.slice Aa (fewP ps).length Ca) wsa := SV.e0 HV1a e4
  have HY1a : SLxs w.heap.size w4 wsa ((fewP ps).map nn) := SLxs.e0 HY1a e4
  have HV1b : SV w4 (.slice Ab (fewP qs).length Cb) wsb := SV.e0 HV1b e4
  have HY1b : SLxs w.heap.size w4 wsb ((fewP qs).map nn) := SLxs.e0 HY1b e4
  replace Ua := Ua.e0 e4
  clear e4
  have Ub : Own 5 .u8 w3.heap.size w4 ub (nn (textN other (fewP qs))) := hO
  have lUb_1 := Ub.ge
  refine ⟨ub, rfl, ?_⟩
  simp only [List.set_cons_zero, List.set_cons_succ]
  refine sv 13 (ua) .of ?_
  simp only [List.set_cons_zero, List.set_cons_succ]
  refine sv 14 (ub) .of ?_
  simp only [List.set_cons_zero, List.set_cons_succ]
  refine wpList_nil ?_
  refine hK3 _ _ ?_
  refine cCut (fun A_ w_ => ∃ (s : Bool), ((s = decide (tag = other ∧ (fewP ps) = (fewP qs))) ∧ (∃ s1 : Nat → Value, A_ = ⟨[.int .u8 ((tag : Nat) : Int), .int .u8 ((other : Nat) : Int), va, vb, .int .u8 ((cut : Nat) : Int), undef, undef, undef, undef, undef, .bool false, .slice Aa (fewP ps).length Ca, .slice Ab (fewP qs).length Cb, ua, ub, .bool s, undef, undef, undef, va, .slice Aa (fewP ps).length Ca, vb, .slice Ab (fewP qs).length Cb, .int .u8 ((tag : Nat) : Int), .slice Aa (fewP ps).length Ca, ua, .int .u8 ((other : Nat) : Int), .slice Ab (fewP qs).length Cb, ub, (s1 29), (s1 30), (s1 31), (s1 32), (s1 33), (s1 34), (s1 35), (s1 36), undef, undef, undef, undef, undef, undef, undef, undef, undef, undef, undef, undef, undef, undef, undef, undef, undef, undef, undef, undef, undef, undef, undef, undef, undef, undef, undef, undef, undef, undef, undef, undef, undef, undef, undef, undef, undef, undef, undef, undef, undef, undef, undef, undef, undef, undef, undef, undef, undef, undef, undef, undef, undef, undef, undef, undef, undef, undef].toArray, []⟩) ∧ Bl w.heap.size w w_ ∧ SV w_ (.slice Aa (fewP ps).length Ca) wsa ∧ SLxs w.heap.size w_ wsa ((fewP ps).map nn) ∧ SV w_ (.slice Ab (fewP qs).length Cb) wsb ∧ SLxs w.heap.size w_ wsb ((fewP qs).map nn) ∧ Own 5 .u8 w2.heap.size w_ ua (nn (textN tag (fewP ps))) ∧ Own 5 .u8 w3.heap.size w_ ub (nn (textN other (fewP qs))) ∧ w4.heap.size ≤ w_.heap.size)) ?_ ?_
  · skip
    refine cPlain ?_
    refine sv 29 (.int .u8 ((tag : Nat) : Int)) .of ?_
    simp only [List.set_cons_zero, List.set_cons_succ]
    refine sv 30 (.int .u8 ((other : Nat) : Int)) .of ?_
    simp only [List.set_cons_zero, List.set_cons_succ]
    refine sv 31 (.bool (decide (((tag : Nat) : Int) = ((other : Nat) : Int)))) (Val.cmp .eql 5 _ (.tmp 29) (.tmp 30) rfl .u8 ((tag : Nat) : Int) ((other : Nat) : Int) (by kernel_rfl) (by kernel_rfl) (by simp) _ rfl) ?_
    simp only [List.set_cons_zero, List.set_cons_succ]
    refine sv 32 (.bool (decide (((tag : Nat) : Int) = ((other : Nat) : Int)))) .of ?_
    simp only [List.set_cons_zero, List.set_cons_succ]
    by_cases g33 : ((tag : Nat) : Int) = ((other : Nat) : Int)
    · skip
      have dg33 : decide (((tag : Nat) : Int) = ((other : Nat) : Int)) = true := decide_eq_true g33
      simp only [dg33]
      clear dg33
      refine sv 33 (.slice Aa (fewP ps).length Ca) .of ?_
      simp only [List.set_cons_zero, List.set_cons_succ]
      refine sv 34 (.slice Ab (fewP qs).length Cb) .of ?_
      simp only [List.set_cons_zero, List.set_cons_succ]
      refine xCall 35 36 #[.slice Aa (fewP ps).length Ca, .slice Ab (fewP qs).length Cb] (by kernel_rfl) ?_
      refine (samelists_any _ _ wsa wsb ((fewP ps).map nn) ((fewP qs).map nn) w4 HV1a HV1b w.heap.size HY1a HY1b (bytes_fewL hpb) (bytes_fewL hqb) (by rw [List.length_map]; omega)).mono ?_
      rintro en w5 ⟨rfl, hb1⟩
      have e5 := belE0 hb1
      have ze5 := e5.size
      replace BL := BL.e0 e5
      have HV1a : SV w5 (.slice Aa (fewP ps).length Ca) wsa := SV.e0 HV1a e5
      have HY1a : SLxs w.heap.size w5 wsa ((fewP ps).map nn) := SLxs.e0 HY1a e5
      have HV1b : SV w5 (.slice Ab (fewP qs).length Cb) wsb := SV.e0 HV1b e5
      have HY1b : SLxs w.heap.size w5 wsb ((fewP qs).map nn) := SLxs.e0 HY1b e5
      replace Ua := Ua.e0 e5
      replace Ub := Ub.e0 e5
      clear e5
      refine ⟨.bool (decide ((fewP ps).map nn = (fewP qs).map nn)), rfl, ?_⟩
      simp only [List.set_cons_zero, List.set_cons_succ]
      refine sv 36 (.bool (decide ((fewP ps).map nn = (fewP qs).map nn))) .of ?_
      simp only [List.set_cons_zero, List.set_cons_succ]
      refine sv 15 (.bool (decide ((fewP ps).map nn = (fewP qs).map nn))) .of ?_
      simp only [List.set_cons_zero, List.set_cons_succ]
      refine wpList_nil ?_
      exact ⟨(decide ((fewP ps).map nn = (fewP qs).map nn)), (by first | exact (decide_eq_false (fun h => by have := h.1; omega)).symm | exact decide_eq_decide.2 ⟨fun h => ⟨by omega, map_nn_inj h⟩, fun h => by rw [h.2]⟩), cutE, BL, HV1a, HY1a, HV1b, HY1b, Ua, Ub, by omega⟩
    · skip
      have dg33 : decide (((tag : Nat) : Int) = ((other : Nat) : Int)) = false := decide_eq_false g33
      simp only [dg33]
      clear dg33
      refine xSkip 33 ?_
      simp only [List.set_cons_zero, List.set_cons_succ]
      refine xSkip 34 ?_
      simp only [List.set_cons_zero, List.set_cons_succ]
      refine xSkip 35 ?_
      simp only [List.set_cons_zero, List.set_cons_succ]
      refine sv 36 (.bool false) .of ?_
      simp only [List.set_cons_zero, List.set_cons_succ]
      refine sv 15 (.bool false) .of ?_
      simp only [List.set_cons_zero, List.set_cons_succ]
      refine wpList_nil ?_
      exact ⟨false, (by first | exact (decide_eq_false (fun h => by have := h.1; omega)).symm | exact decide_eq_decide.2 ⟨fun h => ⟨by omega, map_nn_inj h⟩, fun h => by rw [h.2]⟩), cutE, BL, HV1a, HY1a, HV1b, HY1b, Ua, Ub, by omega⟩
  · skip
    clear BL HV1a HY1a HV1b HY1b Ua Ub
    rintro a_ wJ1 ⟨s, hJ1_0, ⟨s1, rfl⟩, BL, HV1a, HY1a, HV1b, HY1b, Ua, Ub, zJ1⟩
    have lUa_2 := Ua.ge
    have lUb_2 := Ub.ge
    refine wp_seq_k fun K4 hK4 => ?_
    refine cPlain ?_
    refine sv 37 (ua) .of ?_
    simp only [List.set_cons_zero, List.set_cons_succ]
    refine sv 38 (.int .i64 (((textN tag (fewP ps)).length : Nat) : Int)) (Val.lenO (.tmp 37) 43 rfl (by kernel_rfl) Ua ((textN tag (fewP ps)).length) (nn_len _) Try.underlying43) ?_
    simp only [List.set_cons_zero, List.set_cons_succ]
    refine sv 39 (ub) .of ?_
    simp only [List.set_cons_zero, List.set_cons_succ]
    refine sv 40 (.int .i64 (((textN other (fewP qs)).length : Nat) : Int)) (Val.lenO (.tmp 39) 43 rfl (by kernel_rfl) Ub ((textN other (fewP qs)).length) (nn_len _) Try.underlying43) ?_
    simp only [List.set_cons_zero, List.set_cons_succ]
    refine sv 41 (.int .i64 (((min (textN tag (fewP ps)).length (textN other (fewP qs)).length) : Nat) : Int)) (Val.minN (.tmp 38) (.tmp 40) _ _ rfl ((textN tag (fewP ps)).length) ((textN other (fewP qs)).length) (by kernel_rfl) (by kernel_rfl)) ?_
    simp only [List.set_cons_zero, List.set_cons_succ]
    refine sv 16 (.int .i64 (((min (textN tag (fewP ps)).length (textN other (fewP qs)).length) : Nat) : Int)) .of ?_
    simp only [List.set_cons_zero, List.set_cons_succ]
    refine wpList_nil ?_
    refine hK4 _ _ ?_
    refine wp_seq_k fun K5 hK5 => ?_
    refine wp_seq_k fun K6 hK6 => ?_
    have e6 := drew_e0 wJ1
    refine zg (fun w_ => Bl w.heap.size w w_ ∧ SV w_ (.slice Aa (fewP ps).length Ca) wsa ∧ SLxs w.heap.size w_ wsa ((fewP ps).map nn) ∧ SV w_ (.slice Ab (fewP qs).length Cb) wsb ∧ SLxs w.heap.size w_ wsb ((fewP qs).map nn) ∧ Own 5 .u8 w2.heap.size w_ ua (nn (textN tag (fewP ps))) ∧ Own 5 .u8 w3.heap.size w_ ub (nn (textN other (fewP qs))) ∧ wJ1.heap.size ≤ w_.heap.size) (fun w_ => Bl w.heap.size w w_ ∧ SV w_ (.slice Aa (fewP ps).length Ca) wsa ∧ SLxs w.heap.size w_ wsa ((fewP ps).map nn) ∧ SV w_ (.slice Ab (fewP qs).length Cb) wsb ∧ SLxs w.heap.size w_ wsb ((fewP qs).map nn) ∧ Own 5 .u8 w2.heap.size w_ ua (nn (textN tag (fewP ps))) ∧ Own 5 .u8 w3.heap.size w_ ub (nn (textN other (fewP qs))) ∧ wJ1.heap.size ≤ w_.heap.size) 100000 16 ⟨BL.e0 e6, SV.e0 HV1a e6, SLxs.e0 HY1a e6, SV.e0 HV1b e6, SLxs.e0 HY1b e6, Ua.e0 e6, Ub.e0 e6, Nat.le_refl _⟩ ?_
    clear BL HV1a HY1a HV1b HY1b Ua Ub
    clear e6
    intro w6
    rintro ⟨BL, HV1a, HY1a, HV1b, HY1b, Ua, Ub, z1⟩
    refine zv 0 42 (ua) (fun _ _ => .of) ⟨BL, HV1a, HY1a, HV1b, HY1b, Ua, Ub, by omega⟩ ?_
    simp only [List.set_cons_zero, List.set_cons_succ]
    refine zv 1 43 (ub) (fun _ _ => .of) ⟨BL, HV1a, HY1a, HV1b, HY1b, Ua, Ub, by omega⟩ ?_
    simp only [List.set_cons_zero, List.set_cons_succ]
    refine zv 3 45 (.bool s) (fun _ _ => .of) ⟨BL, HV1a, HY1a, HV1b, HY1b, Ua, Ub, by omega⟩ ?_
    simp only [List.set_cons_zero, List.set_cons_succ]
    refine zo1 2 rfl ?_
    refine xCall 44 32 #[ua, ub] (by kernel_rfl) ?_
    refine (same_any _ _ (nn (textN tag (fewP ps))) (nn (textN other (fewP qs))) w6 Ua.sl Ub.sl (bytes_nn hpb8) (bytes_nn hqb8)).mono ?_
    rintro en w7 ⟨he, hw⟩
    rw [show decide (nn (textN tag (fewP ps)) = nn (textN other (fewP qs))) = s by rw [hJ1_0]; exact decide_eq_decide.2 ⟨fun h => hiff.1 (nn_inj h), fun h => congrArg nn (hiff.2 h)⟩] at he
    subst he
    obtain rfl := (hw.symm).symm
    refine ⟨.bool s, rfl, ?_⟩
    refine ze 2 ⟨BL, HV1a, HY1a, HV1b, HY1b, Ua, Ub, by omega⟩ ?_
    simp only [List.set_cons_zero, List.set_cons_succ]
    refine zv 4 46 (.bool false) (fun _ ⟨BL, HV1a, HY1a, HV1b, HY1b, Ua, Ub, z1⟩ => Val.bools .neq 4 _ _ _ rfl Try.underlying4 s s (by kernel_rfl) (by kernel_rfl) (.inr rfl) false (by cases s <;> rfl)) ⟨BL, HV1a, HY1a, HV1b, HY1b, Ua, Ub, by omega⟩ ?_
    simp only [List.set_cons_zero, List.set_cons_succ]
    refine zv 5 47 (.bool false) (fun _ _ => .of) ⟨BL, HV1a, HY1a, HV1b, HY1b, Ua, Ub, by omega⟩ ?_
    simp only [List.set_cons_zero, List.set_cons_succ]
    refine zv 6 48 (ua) (fun _ _ => .of) ⟨BL, HV1a, HY1a, HV1b, HY1b, Ua, Ub, by omega⟩ ?_
    simp only [List.set_cons_zero, List.set_cons_succ]
    refine zv 7 49 (.int .i64 (((min (textN tag (fewP ps)).length (textN other (fewP qs)).length) : Nat) : Int)) (fun _ _ => .of) ⟨BL, HV1a, HY1a, HV1b, HY1b, Ua, Ub, by omega⟩ ?_
    simp only [List.set_cons_zero, List.set_cons_succ]
    refine zv 8 50 (sliceV ua 0 (min (textN tag (fewP ps)).length (textN other (fewP qs)).length)) (fun _ ⟨BL, HV1a, HY1a, HV1b, HY1b, Ua, Ub, z1⟩ => Val.slc 43 (.tmp 48) none (some (.tmp 49)) rfl ua (by kernel_rfl) Ua.sl 0 (min (textN tag (fewP ps)).length (textN other (fewP qs)).length) (.inr ⟨rfl, rfl⟩) (.inl (by kernel_rfl)) (by omega) (by rw [nn_len]; omega) Try.underlying43 (by kernel_rfl)) ⟨BL, HV1a, HY1a, HV1b, HY1b, Ua, Ub, by omega⟩ ?_
    simp only [List.set_cons_zero, List.set_cons_succ]
    refine zv 9 51 (ub) (fun _ _ => .of) ⟨BL, HV1a, HY1a, HV1b, HY1b, Ua, Ub, by omega⟩ ?_
    simp only [List.set_cons_zero, List.set_cons_succ]
    refine zv 10 52 (.int .i64 (((min (textN tag (fewP ps)).length (textN other (fewP qs)).length) : Nat) : Int)) (fun _ _ => .of) ⟨BL, HV1a, HY1a, HV1b, HY1b, Ua, Ub, by omega⟩ ?_
    simp only [List.set_cons_zero, List.set_cons_succ]
    refine zv 11 53 (sliceV ub 0 (min (textN tag (fewP ps)).length (textN other (fewP qs)).length)) (fun _ ⟨BL, HV1a, HY1a, HV1b, HY1b, Ua, Ub, z1⟩ => Val.slc 43 (.tmp 51) none (some (.tmp 52)) rfl ub (by kernel_rfl) Ub.sl 0 (min (textN tag (fewP ps)).length (textN other (fewP qs)).length) (.inr ⟨rfl, rfl⟩) (.inl (by kernel_rfl)) (by omega) (by rw [nn_len]; omega) Try.underlying43 (by kernel_rfl)) ⟨BL, HV1a, HY1a, HV1b, HY1b, Ua, Ub, by omega⟩ ?_
    simp only [List.set_cons_zero, List.set_cons_succ]
    refine zv 13 55 (.bool s) (fun _ _ => .of) ⟨BL, HV1a, HY1a, HV1b, HY1b, Ua, Ub, by omega⟩ ?_
    simp only [List.set_cons_zero, List.set_cons_succ]
    refine zo1 12 rfl ?_
    refine xCall 54 32 #[sliceV ua 0 (min (textN tag (fewP ps)).length (textN other (fewP qs)).length), sliceV ub 0 (min (textN tag (fewP ps)).length (textN other (fewP qs)).length)] (by kernel_rfl) ?_
    refine (same_any _ _ ((nn (textN tag (fewP ps))).take (min (textN tag (fewP ps)).length (textN other (fewP qs)).length)) ((nn (textN other (fewP qs))).take (min (textN tag (fewP ps)).length (textN other (fewP qs)).length)) w6 (by have h := Ua.sl.slice 0 (min (textN tag (fewP ps)).length (textN other (fewP qs)).length) (by omega) (by rw [nn_len]; omega); exact h) (by have h := Ub.sl.slice 0 (min (textN tag (fewP ps)).length (textN other (fewP qs)).length) (by omega) (by rw [nn_len]; omega); exact h) (fun x hx => bytes_nn hpb8 x (List.mem_of_mem_take hx)) (fun x hx => bytes_nn hqb8 x (List.mem_of_mem_take hx))).mono ?_
    rintro en w8 ⟨he, hw⟩
    rw [show decide ((nn (textN tag (fewP ps))).take (min (textN tag (fewP ps)).length (textN other (fewP qs)).length) = (nn (textN other (fewP qs))).take (min (textN tag (fewP ps)).length (textN other (fewP qs)).length)) = s by rw [hJ1_0, ← nn_take, ← nn_take]; exact decide_eq_decide.2 ⟨fun h => hpre.1 (nn_inj h), fun h => congrArg nn (hpre.2 h)⟩] at he
    subst he
    obtain rfl := (hw.symm).symm
    refine ⟨.bool s, rfl, ?_⟩
    refine ze 12 ⟨BL, HV1a, HY1a, HV1b, HY1b, Ua, Ub, by omega⟩ ?_
    simp only [List.set_cons_zero, List.set_cons_succ]
    refine zv 14 56 (.bool false) (fun _ ⟨BL, HV1a, HY1a, HV1b, HY1b, Ua, Ub, z1⟩ => Val.bools .neq 4 _ _ _ rfl Try.underlying4 s s (by kernel_rfl) (by kernel_rfl) (.inr rfl) false (by cases s <;> rfl)) ⟨BL, HV1a, HY1a, HV1b, HY1b, Ua, Ub, by omega⟩ ?_
    simp only [List.set_cons_zero, List.set_cons_succ]
    refine zv 15 57 (.bool false) (fun _ _ => .of) ⟨BL, HV1a, HY1a, HV1b, HY1b, Ua, Ub, by omega⟩ ?_
    simp only [List.set_cons_zero, List.set_cons_succ]
    refine zd (by kernel_rfl) ?_ _
    refine hK6 _ _ ?_
    refine cF ?_
    refine wp_skip ?_
    refine hK5 _ _ ?_
    refine wp_seq_k fun K7 hK7 => ?_
    refine wp_seq_k fun K8 hK8 => ?_
    refine cPlain ?_
    refine sv 58 (.slice Aa (fewP ps).length Ca) .of ?_
    simp only [List.set_cons_zero, List.set_cons_succ]
    refine sv 59 (.int .i64 (((fewP ps).length : Nat) : Int)) .of ?_
    simp only [List.set_cons_zero, List.set_cons_succ]
    refine sv 60 (.bool (decide ((((fewP ps).length : Nat) : Int) = 0))) (Val.cmp .eql 3 _ (.tmp 59) _ rfl .i64 (((fewP ps).length : Nat) : Int) 0 (by kernel_rfl) (by kernel_rfl) (by simp) _ rfl) ?_
    simp only [List.set_cons_zero, List.set_cons_succ]
    refine wpList_nil ?_
    refine hK8 _ _ ?_
    refine cDec ((((fewP ps).length : Nat) : Int) = 0) (by kernel_rfl) (fun c60 => ?_) (fun c60 => ?_)
    · skip
      refine wp_seq_k fun K9 hK9 => ?_
      refine cPlain ?_
      refine xCall 61 24 #[] (by kernel_rfl) ?_
      refine (awake03_any w6).mono ?_
      rintro en w9 ⟨rfl, hb1⟩
      have e7 := belE0 hb1
      have ze7 := e7.size
      replace BL := BL.e0 e7
      have HV1a : SV w9 (.slice Aa (fewP ps).length Ca) wsa := SV.e0 HV1a e7
      have HY1a : SLxs w.heap.size w9 wsa ((fewP ps).map nn) := SLxs.e0 HY1a e7
      have HV1b : SV w9 (.slice Ab (fewP qs).length Cb) wsb := SV.e0 HV1b e7
      have HY1b : SLxs w.heap.size w9 wsb ((fewP qs).map nn) := SLxs.e0 HY1b e7
      replace Ua := Ua.e0 e7
      replace Ub := Ub.e0 e7
      clear e7
      refine ⟨.bool true, rfl, ?_⟩
      simp only [List.set_cons_zero, List.set_cons_succ]
      refine sv 10 (.bool true) .of ?_
      simp only [List.set_cons_zero, List.set_cons_succ]
      refine wpList_nil ?_
      refine hK9 _ _ ?_
      refine wp_ret ?_
      (try simp only [Exit.then, Exit.inBlock])
      refine bodyPost_ret (v := .bool true) rT rfl ?_
      exact ⟨rfl, BL.b⟩
    · skip
      refine wp_skip ?_
      refine hK7 _ _ ?_
      refine wp_seq_k fun K10 hK10 => ?_
      have hx0 := fewP_le _ (getD_mem (ps := (fewP ps)) (k := 0) (by omega))
      obtain ⟨A5, C5, hk0, hkc0⟩ := (HY1a.low (Nat.le_refl _) 0 (by rw [List.length_map]; omega)).form
      have hk : wsa.getD 0 undef = .slice A5 ((fewP ps).getD 0 []).length C5 := by rw [hk0, getD_nn, nn_len]
      have hkc : ((fewP ps).getD 0 []).length ≤ C5 := by rw [getD_nn, nn_len] at hkc0; exact hkc0
      obtain ⟨N, hN⟩ : ∃ N, N = cut % (((fewP ps).getD 0 []).length + 1) := ⟨_, rfl⟩
      have hNl : N ≤ ((fewP ps).getD 0 []).length := by have := Nat.mod_lt cut (show 0 < ((fewP ps).getD 0 []).length + 1 by omega); omega
      refine cPlain ?_
      refine sv 62 (.int .u8 ((cut : Nat) : Int)) .of ?_
      simp only [List.set_cons_zero, List.set_cons_succ]
      refine sv 63 (.int .i64 ((cut : Nat) : Int)) (Val.conv64 5 3 (.tmp 62) rfl Try.underlying5 Try.underlying3 ((cut : Nat) : Int) (by kernel_rfl) (by omega)) ?_
      simp only [List.set_cons_zero, List.set_cons_succ]
      refine sv 64 (.slice Aa (fewP ps).length Ca) .of ?_
      simp only [List.set_cons_zero, List.set_cons_succ]
      refine sv 65 (elemP (.slice Aa (fewP ps).length Ca) 0) (Val.idxV 55 (.tmp 64) _ rfl (.slice Aa (fewP ps).length Ca) 0 (by kernel_rfl) (by kernel_rfl) HV1a Try.underlying55 (by kernel_rfl) (by omega)) ?_
      simp only [List.set_cons_zero, List.set_cons_succ]
      refine sv 66 (.slice A5 ((fewP ps).getD 0 []).length C5) (Val.as (Val.ldV 43 _ rfl (.slice Aa (fewP ps).length Ca) 0 (by kernel_rfl) (fun _ => by kernel_rfl) HV1a (by omega)) hk) ?_
      simp only [List.set_cons_zero, List.set_cons_succ]
      refine sv 67 (.int .i64 ((((fewP ps).getD 0 []).length : Nat) : Int)) .of ?_
      simp only [List.set_cons_zero, List.set_cons_succ]
      refine sv 68 (.int .i64 ((((fewP ps).getD 0 []).length + 1 : Nat) : Int)) (Val.as (Val.add 3 _ (.tmp 67) _ rfl ((((fewP ps).getD 0 []).length : Nat) : Int) 1 (by kernel_rfl) (by kernel_rfl) (by omega)) (congrArg (Value.int .i64) (by omega))) ?_
      simp only [List.set_cons_zero, List.set_cons_succ]
      refine sv 69 (.int .i64 ((N : Nat) : Int)) (Val.asN (Val.remN 3 _ (.tmp 63) (.tmp 68) rfl .i64 cut (((fewP ps).getD 0 []).length + 1) (by kernel_rfl) (by kernel_rfl) (by omega)) hN.symm) ?_
      simp only [List.set_cons_zero, List.set_cons_succ]
      refine sv 17 (.int .i64 ((N : Nat) : Int)) .of ?_
      simp only [List.set_cons_zero, List.set_cons_succ]
      refine wpList_nil ?_
      refine hK10 _ _ ?_
      refine wp_seq_k fun K11 hK11 => ?_
      have hzl := zN_le (N := N) (R := (fewP ps).drop 1) hx0 (fun p hp => fewP_le p (List.mem_of_mem_drop hp))
      have hzc := zN_len ((fewP ps).getD 0 []) N ((fewP ps).drop 1)
      rw [List.length_drop] at hzc
      obtain ⟨hbz, htz⟩ := few_text tag (zN ((fewP ps).getD 0 []) N ((fewP ps).drop 1)) hzl (by omega)
      have hzb := text_b (tag := tag) ht (zN_b (N := N) (fewP_b hpb _ (getD_mem (ps := (fewP ps)) (k := 0) (by omega))) (fun p hp => fewP_b hpb p (List.mem_of_mem_drop hp)) : ∀ p ∈ (zN ((fewP ps).getD 0 []) N ((fewP ps).drop 1)), ∀ z ∈ p, z < 256)
      have hzn : textN tag (zN ((fewP ps).getD 0 []) N ((fewP ps).drop 1)) ≠ textN tag (fewP ps) := fun h => by have := ((textN_iff (fun p hp => Nat.lt_of_le_of_lt (hzl p hp) (by decide)) fewP_p (by omega) (by omega)).1 h).2; have := congrArg List.length this; omega
      refine cPlain ?_
      refine sv 18 (.slice none 0 0) .of ?_
      simp only [List.set_cons_zero, List.set_cons_succ]
      refine wpList_nil ?_
      refine hK11 _ _ ?_
      refine wp_seq_k fun K12 hK12 => ?_
      clear HV1b
      clear HY1b
      clear Ub
      obtain ⟨Bz, hBz⟩ : ∃ B, B = w6.heap.size := ⟨_, rfl⟩
      have hBw : w.heap.size ≤ Bz := by omega
      have hv1l := SVx.lt HV1a
      rw [← hBz] at hv1l
      have hpl := Ua.sl.lt
      rw [← hBz] at hpl
      have HBz : Bz ≤ w6.heap.size := (by omega)
      have PA : SL .u8 w6 ua (nn (textN tag (fewP ps))) := Ua.sl
      clear Ua
      have e8 := drew_e0 w6
      refine zg (fun w_ => Bl w.heap.size w w_ ∧ SV w_ (.slice Aa (fewP ps).length Ca) wsa ∧ SLxs w.heap.size w_ wsa ((fewP ps).map nn) ∧ Bz ≤ w_.heap.size ∧ SL .u8 w_ ua (nn (textN tag (fewP ps))) ∧ w6.heap.size ≤ w_.heap.size) (fun w_ => Bl w.heap.size w w_ ∧ SV w_ (.slice Aa (fewP ps).length Ca) wsa ∧ SLxs w.heap.size w_ wsa ((fewP ps).map nn) ∧ Bz ≤ w_.heap.size ∧ SL .u8 w_ ua (nn (textN tag (fewP ps))) ∧ w6.heap.size ≤ w_.heap.size) 100000 17 ⟨BL.e0 e8, SV.e0 HV1a e8, SLxs.e0 HY1a e8, Nat.le_trans HBz e8.size, PA.e0 e8, Nat.le_refl _⟩ ?_
      clear BL HV1a HY1a HBz PA
      clear e8
      intro w10
      rintro ⟨BL, HV1a, HY1a, HBz, PA, z2⟩
      refine zv 0 70 (.slice none 0 0) (fun _ _ => .of) ⟨BL, HV1a, HY1a, HBz, PA, by omega⟩ ?_
      simp only [List.set_cons_zero, List.set_cons_succ]
      refine zv 1 71 (.slice Aa (fewP ps).length Ca) (fun _ _ => .of) ⟨BL, HV1a, HY1a, HBz, PA, by omega⟩ ?_
      simp only [List.set_cons_zero, List.set_cons_succ]
      refine zv 2 72 (elemP (.slice Aa (fewP ps).length Ca) 0) (fun _ ⟨BL, HV1a, HY1a, HBz, PA, z2⟩ => Val.idxV 55 (.tmp 71) _ rfl (.slice Aa (fewP ps).length Ca) 0 (by kernel_rfl) (by kernel_rfl) HV1a Try.underlying55 (by kernel_rfl) (by omega)) ⟨BL, HV1a, HY1a, HBz, PA, by omega⟩ ?_
      simp only [List.set_cons_zero, List.set_cons_succ]
      refine zv 3 73 (.slice A5 ((fewP ps).getD 0 []).length C5) (fun _ ⟨BL, HV1a, HY1a, HBz, PA, z2⟩ => Val.as (Val.ldV 43 _ rfl (.slice Aa (fewP ps).length Ca) 0 (by kernel_rfl) (fun _ => by kernel_rfl) HV1a (by omega)) hk) ⟨BL, HV1a, HY1a, HBz, PA, by omega⟩ ?_
      simp only [List.set_cons_zero, List.set_cons_succ]
      refine zv 4 74 (.int .i64 ((N : Nat) : Int)) (fun _ _ => .of) ⟨BL, HV1a, HY1a, HBz, PA, by omega⟩ ?_
      simp only [List.set_cons_zero, List.set_cons_succ]
      refine zv 5 75 (sliceV (.slice A5 ((fewP ps).getD 0 []).length C5) 0 N) (fun _ ⟨BL, HV1a, HY1a, HBz, PA, z2⟩ => Val.slcG 43 (.tmp 73) none (some (.tmp 74)) rfl A5 ((fewP ps).getD 0 []).length C5 (by kernel_rfl) hkc 0 N (.inr ⟨rfl, rfl⟩) (.inl (by kernel_rfl)) (by omega) (by omega) Try.underlying43 (by kernel_rfl)) ⟨BL, HV1a, HY1a, HBz, PA, by omega⟩ ?_
      simp only [List.set_cons_zero, List.set_cons_succ]
      refine zv 6 76 (.slice Aa (fewP ps).length Ca) (fun _ _ => .of) ⟨BL, HV1a, HY1a, HBz, PA, by omega⟩ ?_
      simp only [List.set_cons_zero, List.set_cons_succ]
      refine zv 7 77 (elemP (.slice Aa (fewP ps).length Ca) 0) (fun _ ⟨BL, HV1a, HY1a, HBz, PA, z2⟩ => Val.idxV 55 (.tmp 76) _ rfl (.slice Aa (fewP ps).length Ca) 0 (by kernel_rfl) (by kernel_rfl) HV1a Try.underlying55 (by kernel_rfl) (by omega)) ⟨BL, HV1a, HY1a, HBz, PA, by omega⟩ ?_
      simp only [List.set_cons_zero, List.set_cons_succ]
      refine zv 8 78 (.slice A5 ((fewP ps).getD 0 []).length C5) (fun _ ⟨BL, HV1a, HY1a, HBz, PA, z2⟩ => Val.as (Val.ldV 43 _ rfl (.slice Aa (fewP ps).length Ca) 0 (by kernel_rfl) (fun _ => by kernel_rfl) HV1a (by omega)) hk) ⟨BL, HV1a, HY1a, HBz, PA, by omega⟩ ?_
      simp only [List.set_cons_zero, List.set_cons_succ]
      refine zv 9 79 (.int .i64 ((N : Nat) : Int)) (fun _ _ => .of) ⟨BL, HV1a, HY1a, HBz, PA, by omega⟩ ?_
      simp only [List.set_cons_zero, List.set_cons_succ]
      refine zv 10 80 (sliceV (.slice A5 ((fewP ps).getD 0 []).length C5) N ((fewP ps).getD 0 []).length) (fun _ ⟨BL, HV1a, HY1a, HBz, PA, z2⟩ => Val.slcG 43 (.tmp 78) (some (.tmp 79)) none rfl A5 ((fewP ps).getD 0 []).length C5 (by kernel_rfl) hkc N ((fewP ps).getD 0 []).length (.inl (by kernel_rfl)) (.inr ⟨rfl, rfl⟩) (by omega) (by omega) Try.underlying43 (by kernel_rfl)) ⟨BL, HV1a, HY1a, HBz, PA, by omega⟩ ?_
      simp only [List.set_cons_zero, List.set_cons_succ]
      refine zv 13 83 (.slice Aa (fewP ps).length Ca) (fun _ _ => .of) ⟨BL, HV1a, HY1a, HBz, PA, by omega⟩ ?_
      simp only [List.set_cons_zero, List.set_cons_succ]
      refine zv 14 84 (sliceV (.slice Aa (fewP ps).length Ca) 1 (fewP ps).length) (fun _ ⟨BL, HV1a, HY1a, HBz, PA, z2⟩ => Val.slcG 55 (.tmp 83) (some _) none rfl Aa (fewP ps).length Ca (by kernel_rfl) (SVx.cap HV1a) 1 (fewP ps).length (.inl (by kernel_rfl)) (.inr ⟨rfl, rfl⟩) (by omega) (by omega) Try.underlying55 (by kernel_rfl)) ⟨BL, HV1a, HY1a, HBz, PA, by omega⟩ ?_
      simp only [List.set_cons_zero, List.set_cons_succ]
      refine zo1 11 rfl ?_
      refine xLit 81 55 43 2 _ #[(0, sliceV (.slice A5 ((fewP ps).getD 0 []).length C5) 0 N), (1, sliceV (.slice A5 ((fewP ps).getD 0 []).length C5) N ((fewP ps).getD 0 []).length)] [sliceV (.slice A5 ((fewP ps).getD 0 []).length C5) 0 N, sliceV (.slice A5 ((fewP ps).getD 0 []).length C5) N ((fewP ps).getD 0 []).length] rfl (by kernel_rfl) (by kernel_rfl) ?_
      intro w11 n1
      have zn1 := n1.z
      have b81 := n1.c
      replace BL := BL.e0 n1.e
      have HV1a : SV w11 (.slice Aa (fewP ps).length Ca) wsa := SV.e0 HV1a n1.e
      have HY1a : SLxs w.heap.size w11 wsa ((fewP ps).map nn) := SLxs.e0 HY1a n1.e
      have HBz : Bz ≤ w11.heap.size := Nat.le_trans HBz n1.e.size
      replace PA := PA.e0 n1.e
      refine ze 11 ⟨BL, HV1a, HY1a, HBz, PA, by omega⟩ ?_
      simp only [List.set_cons_zero, List.set_cons_succ]
      refine zo1 12 rfl ?_
      refine xAppV 82 (.tmp 70) (.tmp 81) 55 43 (.slice none 0 0) 24 rfl Try.underlying55 info_xsl8 rfl Bz (.slice none 0 0) [] (by kernel_rfl) (OwnV.nil _ _ _) _ [sliceV (.slice A5 ((fewP ps).getD 0 []).length C5) 0 N, sliceV (.slice A5 ((fewP ps).getD 0 []).length C5) N ((fewP ps).getD 0 []).length] (by kernel_rfl) (SV.ofCelM (n := 2) b81 rfl (by unfold maxLen; omega)) (fun y hy => by simp only [List.mem_cons, List.not_mem_nil, or_false] at hy; rcases hy with rfl | rfl <;> rfl) (by simp) (by simp [maxLen]) (by omega) ?_
      intro v2 w12 hOV hBb
      have e9 := belEv hBb
      have ze9 := e9.size
      have BL_ := BL.ev e9 (fun i h => show w.heap.size ≤ i by have h : Bz ≤ i := h; omega)
      have HV1a : SV w12 (.slice Aa (fewP ps).length Ca) wsa := SVx.evB HV1a e9 Bz hv1l (fun i hi => hi)
      have HY1a : SLxs w.heap.size w12 wsa ((fewP ps).map nn) := SLxs.ev HY1a e9 (fun i hi => Nat.le_trans hBw hi)
      have HBz : Bz ≤ w12.heap.size := Nat.le_trans HBz e9.size
      have PA_ := PA.ev e9 (fun i hi => show ¬ (Bz ≤ i) by have := hpl i hi; omega)
      replace BL := BL_; clear BL_
      replace PA := PA_; clear PA_
      clear e9
      have OZ : OwnV 43 Bz w12 v2 ([] ++ [sliceV (.slice A5 ((fewP ps).getD 0 []).length C5) 0 N, sliceV (.slice A5 ((fewP ps).getD 0 []).length C5) N ((fewP ps).getD 0 []).length]) := hOV
      refine ze 12 ⟨BL, HV1a, HY1a, HBz, PA, by omega⟩ ?_
      simp only [List.set_cons_zero, List.set_cons_succ]
      refine zo1 15 rfl ?_
      refine xAppV 85 (.tmp 82) (.tmp 84) 55 43 (.slice none 0 0) 24 rfl Try.underlying55 info_xsl8 rfl Bz v2 _ (by kernel_rfl) OZ _ ((wsa.drop 1).take ((fewP ps).length - 1)) (by kernel_rfl) (SVx.slice HV1a 1 (fewP ps).length (by omega) (by omega)) (fun y hy => HY1a.one y (List.mem_of_mem_drop (List.mem_of_mem_take hy))) (by simp only [List.nil_append, List.length_cons, List.length_nil, List.length_take, List.length_drop]; omega) (by simp only [List.nil_append, List.length_cons, List.length_nil, List.length_take, List.length_drop]; unfold maxLen; omega) (by omega) ?_
      intro v3 w13 hOV3 hBb
      have e10 := belEv hBb
      have ze10 := e10.size
      have BL_ := BL.ev e10 (fun i h => show w.heap.size ≤ i by have h : Bz ≤ i := h; omega)
      have HV1a : SV w13 (.slice Aa (fewP ps).length Ca) wsa := SVx.evB HV1a e10 Bz hv1l (fun i hi => hi)
      have HY1a : SLxs w.heap.size w13 wsa ((fewP ps).map nn) := SLxs.ev HY1a e10 (fun i hi => Nat.le_trans hBw hi)
      have HBz : Bz ≤ w13.heap.size := Nat.le_trans HBz e10.size
      have PA_ := PA.ev e10 (fun i hi => show ¬ (Bz ≤ i) by have := hpl i hi; omega)
      replace BL := BL_; clear BL_
      replace PA := PA_; clear PA_
      clear e10
      have OZ3 : OwnV 43 Bz w13 v3 ([] ++ [sliceV (.slice A5 ((fewP ps).getD 0 []).length C5) 0 N, sliceV (.slice A5 ((fewP ps).getD 0 []).length C5) N ((fewP ps).getD 0 []).length] ++ (wsa.drop 1).take ((fewP ps).length - 1)) := hOV3
      have HZ : SLxs w.heap.size w13 ([] ++ [sliceV (.slice A5 ((fewP ps).getD 0 []).length C5) 0 N, sliceV (.slice A5 ((fewP ps).getD 0 []).length C5) N ((fewP ps).getD 0 []).length] ++ (wsa.drop 1).take ((fewP ps).length - 1)) ((zN ((fewP ps).getD 0 []) N ((fewP ps).drop 1)).map nn) := by
        have hl : LowX w.heap.size w13 (.slice A5 ((fewP ps).getD 0 []).length C5) (nn ((fewP ps).getD 0 [])) := (by have h := HY1a.low (Nat.le_refl _) 0 (by rw [List.length_map]; omega); rw [hk, getD_nn] at h; exact h)
        rw [zN_nn, List.nil_append, List.take_of_length_le (l := wsa.drop 1) (by rw [List.length_drop]; omega), List.map_drop]
        exact (SLxs.two (hl.slice 0 N (by omega) (by rw [nn_len]; omega)) (hl.slice N ((fewP ps).getD 0 []).length (by omega) (by rw [nn_len]; omega))).append (HY1a.drop 1)
      refine ze 15 ⟨BL, HV1a, HY1a, HBz, PA, by omega⟩ ?_
      simp only [List.set_cons_zero, List.set_cons_succ]
      refine zv 16 18 (v3) (fun _ _ => .of) ⟨BL, HV1a, HY1a, HBz, PA, by omega⟩ ?_
      simp only [List.set_cons_zero, List.set_cons_succ]
      refine zd (by kernel_rfl) ?_ _
      refine hK12 _ _ ?_
      refine wp_seq_k fun K13 hK13 => ?_
      refine cPlain ?_
      refine sv 86 (.int .u8 ((tag : Nat) : Int)) .of ?_
      simp only [List.set_cons_zero, List.set_cons_succ]
      refine sv 87 (v3) .of ?_
      simp only [List.set_cons_zero, List.set_cons_succ]
      refine xCall 88 29 #[.int .u8 ((tag : Nat) : Int), v3] (by kernel_rfl) ?_
      refine (mactextx_any ((tag : Nat) : Int) _ _ ((zN ((fewP ps).getD 0 []) N ((fewP ps).drop 1)).map nn) w13 OZ3.sv w.heap.size (by omega) HZ (by omega) (fun y hy => by obtain ⟨p, hpm, rfl⟩ := List.mem_map.1 hy; rw [nn_len]; exact Nat.le_trans (hzl p hpm) (by omega))).mono ?_
      rintro en w14 ⟨uz, rfl, hO, hb1⟩
      rw [← textN_nn] at hO
      have e11 := belE0 hb1
      have ze11 := e11.size
      replace BL := BL.e0 e11
      have HV1a : SV w14 (.slice Aa (fewP ps).length Ca) wsa := SV.e0 HV1a e11
      have HY1a : SLxs w.heap.size w14 wsa ((fewP ps).map nn) := SLxs.e0 HY1a e11
      have HBz : Bz ≤ w14.heap.size := Nat.le_trans HBz e11.size
      replace PA := PA.e0 e11
      have OZ3 : OwnV 43 Bz w14 v3 ([] ++ [sliceV (.slice A5 ((fewP ps).getD 0 []).length C5) 0 N, sliceV (.slice A5 ((fewP ps).getD 0 []).length C5) N ((fewP ps).getD 0 []).length] ++ (wsa.drop 1).take ((fewP ps).length - 1)) := OwnV.ev OZ3 e11 (fun _ _ x => x)
      clear e11
      have Uz : Own 5 .u8 w13.heap.size w14 uz (nn (textN tag (zN ((fewP ps).getD 0 []) N ((fewP ps).drop 1)))) := hO
      have lUz_1 := Uz.ge
      refine ⟨uz, rfl, ?_⟩
      simp only [List.set_cons_zero, List.set_cons_succ]
      refine sv 89 (ua) .of ?_
      simp only [List.set_cons_zero, List.set_cons_succ]
      refine xCall 90 32 #[uz, ua] (by kernel_rfl) ?_
      refine (same_any _ _ (nn (textN tag (zN ((fewP ps).getD 0 []) N ((fewP ps).drop 1)))) (nn (textN tag (fewP ps))) w14 Uz.sl PA (bytes_nn hzb) (bytes_nn hpb8)).mono ?_
      rintro en w15 ⟨he, hw⟩
      rw [decide_eq_false (fun h => hzn (nn_inj h))] at he
      subst he
      obtain rfl := (hw.symm).symm
      refine ⟨.bool false, rfl, ?_⟩
      simp only [List.set_cons_zero, List.set_cons_succ]
      refine sv 91 (.bool true) .of ?_
      simp only [List.set_cons_zero, List.set_cons_succ]
      refine sv 92 (.bool true) .of ?_
      simp only [List.set_cons_zero, List.set_cons_succ]
      refine xCall 93 24 #[] (by kernel_rfl) ?_
      refine (awake03_any w14).mono ?_
      rintro en w16 ⟨rfl, hb1⟩
      have e12 := belE0 hb1
      have ze12 := e12.size
      replace BL := BL.e0 e12
      have HV1a : SV w16 (.slice Aa (fewP ps).length Ca) wsa := SV.e0 HV1a e12
      have HY1a : SLxs w.heap.size w16 wsa ((fewP ps).map nn) := SLxs.e0 HY1a e12
      have HBz : Bz ≤ w16.heap.size := Nat.le_trans HBz e12.size
      replace PA := PA.e0 e12
      have OZ3 : OwnV 43 Bz w16 v3 ([] ++ [sliceV (.slice A5 ((fewP ps).getD 0 []).length C5) 0 N, sliceV (.slice A5 ((fewP ps).getD 0 []).length C5) N ((fewP ps).getD 0 []).length] ++ (wsa.drop 1).take ((fewP ps).length - 1)) := OwnV.ev OZ3 e12 (fun _ _ x => x)
      replace Uz := Uz.e0 e12
      clear e12
      refine ⟨.bool true, rfl, ?_⟩
      simp only [List.set_cons_zero, List.set_cons_succ]
      refine sv 94 (.bool true) .of ?_
      simp only [List.set_cons_zero, List.set_cons_succ]
      refine sv 10 (.bool true) .of ?_
      simp only [List.set_cons_zero, List.set_cons_succ]
      refine wpList_nil ?_
      refine hK13 _ _ ?_
      refine wp_ret ?_
      (try simp only [Exit.then, Exit.inBlock])
      refine bodyPost_ret (v := .bool true) rT rfl ?_
      exact ⟨rfl, BL.b⟩

theorem macTexts_any (w : World) (t0 : Int) (h0 : 0 ≤ t0 ∧ t0 ≤ 255) (t1 : Int) (h1 : 0 ≤ t1 ∧ t1 ≤ 255) (va : Value) (usa : List Value) (ya : List (List Int)) (HVa : SV w va usa) (HYa : SLxs w.heap.size w usa ya) (hwa : ∀ y ∈ ya, ∀ n ∈ y, (Lit.int .u8 n).wf = true)
    (vb : Value) (usb : List Value) (yb : List (List Int)) (HVb : SV w vb usb) (HYb : SLxs w.heap.size w usb yb) (hwb : ∀ y ∈ yb, ∀ n ∈ y, (Lit.int .u8 n).wf = true) (t4 : Int) (h4 : 0 ≤ t4 ∧ t4 ≤ 255) :
    Calls Try.prog 9 #[.int .u8 t0, .int .u8 t1, va, vb, .int .u8 t4] w fun e w' => e = .returned (.bool true) ∧ Below w.heap.size w w' := by
  obtain ⟨m0, rfl⟩ : ∃ n : Nat, t0 = (n : Int) := ⟨t0.toNat, by omega⟩
  obtain ⟨m1, rfl⟩ : ∃ n : Nat, t1 = (n : Int) := ⟨t1.toNat, by omega⟩
  obtain ⟨m4, rfl⟩ : ∃ n : Nat, t4 = (n : Int) := ⟨t4.toNat, by omega⟩
  obtain ⟨ps, rfl, hp⟩ := rows_nn hwa
  obtain ⟨qs, rfl, hq⟩ := rows_nn hwb
  exact macTexts_walk m0 m1 (by omega) (by omega) va vb usa usb ps qs m4 (by omega) w HVa HYa HVb HYb hp hq
end Go.Proofs.Ytlmadkldiidkaaa
