/-
  ref18.ReadList.
-/
import Derived.Test.YtanggdnmoaflfaaRef18R
namespace Go.Proofs.Ytanggdnmoaflfaa
open Go.RowKit
set_option linter.unusedVariables false
set_option linter.unusedSimpArgs false
set_option maxRecDepth 100000
attribute [local irreducible] wpList Code.wp wpAnyZ
theorem listB_bytes {q : Int} {ks : List Int} (hok : rightL q ks = true) : Bytes (listB q ks) := by
  have := bytes_list (q := q) (ks := ks)
  rwa [okv_true hok] at this
attribute [local irreducible] numN numsN valR cB lB certB listB rightL
set_option maxHeartbeats 8000000 in
theorem r18readlist_any (v : Value) (xs : List Nat) (w : World) (D : SL .u8 w v (nn xs)) (hlx : xs.length ≤ 3000) (hb : ∀ x ∈ xs, x < 256) :
    Calls Try.prog 25 #[v] w (ReadLPost w (readL (nn xs))) := by
  have BL := Bl.refl w
  have hvl := D.lt
  go_enter Try.func25, Try.ntmps25
  refine wp_seq_k fun K1 hK1 => ?_
  refine cPlain ?_
  refine xAlloc 2 28 [.int .i64 0, .slice none 0 0] rfl (by kernel_rfl) ?_
  intro w1 n1
  have zn1 := n1.z
  have b2 := n1.c
  replace BL := BL.e0 n1.e
  replace D := D.e0 n1.e
  simp only [sZ, sS]
  refine sv 3 (.int .i64 0) .of ?_
  simp only [sZ, sS]
  refine wpList_nil ?_
  refine hK1 _ _ ?_
  refine wp_seq_k fun K2 hK2 => ?_
  refine wp_seq_k fun K3 hK3 => ?_
  refine cPlain ?_
  refine sv 14 (v) .of ?_
  simp only [sZ, sS]
  refine sv 15 (.int .i64 ((xs.length : Nat) : Int)) (Val.lenS (.tmp 14) 29 rfl (by kernel_rfl) D xs.length (nn_len xs) Try.underlying29) ?_
  simp only [sZ, sS]
  refine sv 16 (.bool (decide (((xs.length : Nat) : Int) < 1))) (Val.cmp .lss 3 _ (.tmp 15) _ rfl .i64 ((xs.length : Nat) : Int) 1 (by kernel_rfl) (by kernel_rfl) (by simp) _ rfl) ?_
  simp only [sZ, sS]
  refine wpList_nil ?_
  refine hK3 _ _ ?_
  refine cDec (((xs.length : Nat) : Int) < 1) (by kernel_rfl) (fun c16 => ?_) (fun c16 => ?_)
  · skip
    refine wp_seq_k fun K4 hK4 => ?_
    refine cPlain ?_
    refine sv 17 (.agg #[.int .i64 0, .slice none 0 0]) .of ?_
    simp only [sZ, sS]
    refine xStoreR 28 (.tmp 2) (.tmp 17) rfl w.heap.size 28 [.int .i64 0, .slice none 0 0] 0 [.int .i64 0, .slice none 0 0] (by kernel_rfl) (by kernel_rfl) b2 (by kernel_rfl) (by simp) rfl [.int .i64 0, .slice none 0 0] rfl ?_
    intro w2 t1
    have zt1 := t1.z
    have BL_ := BL.ev t1.e (fun i h => show w.heap.size ≤ i by have h : i = w.heap.size := h; omega)
    have D_ := D.ev t1.e (fun i hi => show ¬ (i = w.heap.size) by have := hvl i hi; omega)
    replace BL := BL_; clear BL_
    replace D := D_; clear D_
    replace b2 : Cel w2 w.heap.size 28 [.int .i64 0, .slice none 0 0] := t1.c
    clear t1
    refine sv 3 (.int .i64 180) .of ?_
    simp only [sZ, sS]
    refine wpList_nil ?_
    refine hK4 _ _ ?_
    refine wp_ret ?_
    (try simp only [Exit.then, Exit.inBlock])
    refine bodyPost_ret (rCT rfl _ w.heap.size _ _ (.int .i64 180) (by kernel_rfl) (by kernel_rfl) b2 _ Try.underlying28 rfl (by kernel_rfl)) rfl ?_
    have hQ : readL (nn xs) = none := readLN_no hb fun q ks hr e => by
      have hrn := rightL_n hr
      rw [e] at c16
      unfold lB at c16
      simp at c16
      omega
    rw [hQ]
    exact ⟨rfl, BL.b⟩
  · skip
    refine wp_skip ?_
    refine hK2 _ _ ?_
    refine wp_seq_k fun K5 hK5 => ?_
    refine cPlain ?_
    refine sv 19 (v) .of ?_
    simp only [sZ, sS]
    refine xCall 20 54 #[v, .int .i64 1] (by kernel_rfl) ?_
    refine (rget_any v xs (1) w1 D (by omega) (by omega) hb).mono ?_
    rintro en w3 ⟨hR1, hb1⟩
    rcases hR1 with ⟨m1, s1, k1, hm1, hl1, hk1, rfl⟩ | ⟨hno1, er1, her1, rfl⟩
    · skip
      obtain ⟨hle1, hd1⟩ := drop_front hl1
      rw [← hk1] at hle1 hd1
      have e1 := belE0 hb1
      have ze1 := e1.size
      replace BL := BL.e0 e1
      replace D := D.e0 e1
      replace b2 := b2.e0 e1
      clear e1
      refine ⟨.tuple #[.int .u64 ((m1 : Nat) : Int), .int .i64 ((1 + k1 : Nat) : Int), .int .i64 0], rfl, ?_⟩
      simp only [sZ, sS]
      refine sv 18 (.tuple #[.int .u64 ((m1 : Nat) : Int), .int .i64 ((1 + k1 : Nat) : Int), .int .i64 0]) .of ?_
      simp only [sZ, sS]
      refine sv 21 (.int .u64 ((m1 : Nat) : Int)) .of ?_
      simp only [sZ, sS]
      refine sv 22 (.int .i64 ((1 + k1 : Nat) : Int)) .of ?_
      simp only [sZ, sS]
      refine sv 23 (.int .i64 0) .of ?_
      simp only [sZ, sS]
      refine sv 4 (.int .u64 ((m1 : Nat) : Int)) .of ?_
      simp only [sZ, sS]
      refine sv 5 (.int .i64 ((1 + k1 : Nat) : Int)) .of ?_
      simp only [sZ, sS]
      refine sv 6 (.int .i64 0) .of ?_
      simp only [sZ, sS]
      refine wpList_nil ?_
      refine hK5 _ _ ?_
      refine wp_seq_k fun K6 hK6 => ?_
      refine wp_seq_k fun K7 hK7 => ?_
      refine cPlain ?_
      refine sv 24 (.int .i64 0) .of ?_
      simp only [sZ, sS]
      refine sv 25 (.bool false) (Val.cmp .neq 37 _ (.tmp 24) _ rfl .i64 0 0 (by kernel_rfl) (by kernel_rfl) (by simp) _ rfl) ?_
      simp only [sZ, sS]
      refine sv 26 (.bool false) .of ?_
      simp only [sZ, sS]
      refine sv 27 (.int .u64 ((m1 : Nat) : Int)) .of ?_
      simp only [sZ, sS]
      refine sv 28 (.bool (decide (1073741824 < ((m1 : Nat) : Int)))) (Val.cmp .gtr 84 _ (.tmp 27) _ rfl .u64 ((m1 : Nat) : Int) 1073741824 (by kernel_rfl) (by kernel_rfl) (by simp) _ rfl) ?_
      simp only [sZ, sS]
      refine sv 29 (.bool (decide (1073741824 < ((m1 : Nat) : Int)))) .of ?_
      simp only [sZ, sS]
      refine wpList_nil ?_
      refine hK7 _ _ ?_
      refine cDec (1073741824 < ((m1 : Nat) : Int)) (by kernel_rfl) (fun c29 => ?_) (fun c29 => ?_)
      · skip
        refine wp_seq_k fun K8 hK8 => ?_
        refine cPlain ?_
        refine sv 30 (.agg #[.int .i64 0, .slice none 0 0]) .of ?_
        simp only [sZ, sS]
        refine xStoreR 28 (.tmp 2) (.tmp 30) rfl w.heap.size 28 [.int .i64 0, .slice none 0 0] 0 [.int .i64 0, .slice none 0 0] (by kernel_rfl) (by kernel_rfl) b2 (by kernel_rfl) (by simp) rfl [.int .i64 0, .slice none 0 0] rfl ?_
        intro w4 t2
        have zt2 := t2.z
        have BL_ := BL.ev t2.e (fun i h => show w.heap.size ≤ i by have h : i = w.heap.size := h; omega)
        have D_ := D.ev t2.e (fun i hi => show ¬ (i = w.heap.size) by have := hvl i hi; omega)
        replace BL := BL_; clear BL_
        replace D := D_; clear D_
        replace b2 : Cel w4 w.heap.size 28 [.int .i64 0, .slice none 0 0] := t2.c
        clear t2
        refine sv 3 (.int .i64 180) .of ?_
        simp only [sZ, sS]
        refine wpList_nil ?_
        refine hK8 _ _ ?_
        refine wp_ret ?_
        (try simp only [Exit.then, Exit.inBlock])
        refine bodyPost_ret (rCT rfl _ w.heap.size _ _ (.int .i64 180) (by kernel_rfl) (by kernel_rfl) b2 _ Try.underlying28 rfl (by kernel_rfl)) rfl ?_
        have hQ : readL (nn xs) = none := readLN_no hb fun q ks hr e => by
          have hrn := rightL_n hr
          obtain ⟨a, b⟩ := lB_one hl1 hm1 hr e
          omega
        rw [hQ]
        exact ⟨rfl, BL.b⟩
      · skip
        refine wp_skip ?_
        refine hK6 _ _ ?_
        refine wp_seq_k fun K9 hK9 => ?_
        refine cPlain ?_
        refine sv 32 (v) .of ?_
        simp only [sZ, sS]
        refine sv 33 (.int .i64 ((1 + k1 : Nat) : Int)) .of ?_
        simp only [sZ, sS]
        refine xCall 34 54 #[v, .int .i64 ((1 + k1 : Nat) : Int)] (by kernel_rfl) ?_
        refine (rget_any v xs (1 + k1) w3 D (by omega) (by omega) hb).mono ?_
        rintro en w5 ⟨hR2, hb1⟩
        rcases hR2 with ⟨m2, s2, k2, hm2, hl2, hk2, rfl⟩ | ⟨hno2, er2, her2, rfl⟩
        · skip
          rw [hd1] at hl2
          obtain ⟨hle2, hd2⟩ := drop_front (hd1.trans hl2)
          rw [← hk2] at hle2 hd2
          have e2 := belE0 hb1
          have ze2 := e2.size
          replace BL := BL.e0 e2
          replace D := D.e0 e2
          replace b2 := b2.e0 e2
          clear e2
          refine ⟨.tuple #[.int .u64 ((m2 : Nat) : Int), .int .i64 ((1 + k1 + k2 : Nat) : Int), .int .i64 0], rfl, ?_⟩
          simp only [sZ, sS]
          refine sv 31 (.tuple #[.int .u64 ((m2 : Nat) : Int), .int .i64 ((1 + k1 + k2 : Nat) : Int), .int .i64 0]) .of ?_
          simp only [sZ, sS]
          refine sv 35 (.int .u64 ((m2 : Nat) : Int)) .of ?_
          simp only [sZ, sS]
          refine sv 36 (.int .i64 ((1 + k1 + k2 : Nat) : Int)) .of ?_
          simp only [sZ, sS]
          refine sv 37 (.int .i64 0) .of ?_
          simp only [sZ, sS]
          refine sv 7 (.int .u64 ((m2 : Nat) : Int)) .of ?_
          simp only [sZ, sS]
          refine sv 5 (.int .i64 ((1 + k1 + k2 : Nat) : Int)) .of ?_
          simp only [sZ, sS]
          refine sv 6 (.int .i64 0) .of ?_
          simp only [sZ, sS]
          refine wpList_nil ?_
          refine hK9 _ _ ?_
          refine wp_seq_k fun K10 hK10 => ?_
          refine wp_seq_k fun K11 hK11 => ?_
          refine cPlain ?_
          refine sv 38 (.int .i64 0) .of ?_
          simp only [sZ, sS]
          refine sv 39 (.bool false) (Val.cmp .neq 37 _ (.tmp 38) _ rfl .i64 0 0 (by kernel_rfl) (by kernel_rfl) (by simp) _ rfl) ?_
          simp only [sZ, sS]
          refine sv 40 (.bool false) .of ?_
          simp only [sZ, sS]
          refine sv 41 (.int .u64 ((m2 : Nat) : Int)) .of ?_
          simp only [sZ, sS]
          refine sv 42 (.bool (decide (50 < ((m2 : Nat) : Int)))) (Val.cmp .gtr 84 _ (.tmp 41) _ rfl .u64 ((m2 : Nat) : Int) 50 (by kernel_rfl) (by kernel_rfl) (by simp) _ rfl) ?_
          simp only [sZ, sS]
          refine sv 43 (.bool (decide (50 < ((m2 : Nat) : Int)))) .of ?_
          simp only [sZ, sS]
          refine wpList_nil ?_
          refine hK11 _ _ ?_
          refine cDec (50 < ((m2 : Nat) : Int)) (by kernel_rfl) (fun c43 => ?_) (fun c43 => ?_)
          · skip
            refine wp_seq_k fun K12 hK12 => ?_
            refine cPlain ?_
            refine sv 44 (.agg #[.int .i64 0, .slice none 0 0]) .of ?_
            simp only [sZ, sS]
            refine xStoreR 28 (.tmp 2) (.tmp 44) rfl w.heap.size 28 [.int .i64 0, .slice none 0 0] 0 [.int .i64 0, .slice none 0 0] (by kernel_rfl) (by kernel_rfl) b2 (by kernel_rfl) (by simp) rfl [.int .i64 0, .slice none 0 0] rfl ?_
            intro w6 t3
            have zt3 := t3.z
            have BL_ := BL.ev t3.e (fun i h => show w.heap.size ≤ i by have h : i = w.heap.size := h; omega)
            have D_ := D.ev t3.e (fun i hi => show ¬ (i = w.heap.size) by have := hvl i hi; omega)
            replace BL := BL_; clear BL_
            replace D := D_; clear D_
            replace b2 : Cel w6 w.heap.size 28 [.int .i64 0, .slice none 0 0] := t3.c
            clear t3
            refine sv 3 (.int .i64 180) .of ?_
            simp only [sZ, sS]
            refine wpList_nil ?_
            refine hK12 _ _ ?_
            refine wp_ret ?_
            (try simp only [Exit.then, Exit.inBlock])
            refine bodyPost_ret (rCT rfl _ w.heap.size _ _ (.int .i64 180) (by kernel_rfl) (by kernel_rfl) b2 _ Try.underlying28 rfl (by kernel_rfl)) rfl ?_
            have hQ : readL (nn xs) = none := readLN_no hb fun q ks hr e => by
              have hrn := rightL_n hr
              obtain ⟨a, b, c⟩ := lB_two hl1 hl2 hm1 hm2 hr e
              omega
            rw [hQ]
            exact ⟨rfl, BL.b⟩
          · skip
            refine wp_skip ?_
            refine hK10 _ _ ?_
            refine wp_seq_k fun K13 hK13 => ?_
            refine cPlain ?_
            refine sv 45 (.int .u64 ((m1 : Nat) : Int)) .of ?_
            simp only [sZ, sS]
            refine sv 46 (.int .i64 ((m1 : Nat) : Int)) (Val.conv64 84 3 (.tmp 45) rfl Try.underlying84 Try.underlying3 ((m1 : Nat) : Int) (by kernel_rfl) (by omega)) ?_
            simp only [sZ, sS]
            refine sv 47 (.agg #[.int .i64 ((m1 : Nat) : Int), .slice none 0 0]) .of ?_
            simp only [sZ, sS]
            refine xAlloc 8 28 [.int .i64 0, .slice none 0 0] rfl (by kernel_rfl) ?_
            intro w7 n2
            have zn2 := n2.z
            have b8 := n2.c
            replace BL := BL.e0 n2.e
            replace D := D.e0 n2.e
            replace b2 := b2.e0 n2.e
            simp only [sZ, sS]
            refine xStoreR 28 (.tmp 8) (.tmp 47) rfl w5.heap.size 28 [.int .i64 0, .slice none 0 0] 0 [.int .i64 ((m1 : Nat) : Int), .slice none 0 0] (by kernel_rfl) (by kernel_rfl) b8 (by kernel_rfl) (by simp) rfl [.int .i64 ((m1 : Nat) : Int), .slice none 0 0] rfl ?_
            intro w8 t4
            have zt4 := t4.z
            have BL_ := BL.ev t4.e (fun i h => show w.heap.size ≤ i by have h : i = w5.heap.size := h; omega)
            have D_ := D.ev t4.e (fun i hi => show ¬ (i = w5.heap.size) by have := hvl i hi; omega)
            have b2_ := b2.ev t4.e (show ¬ (w.heap.size = w5.heap.size) by omega)
            replace BL := BL_; clear BL_
            replace D := D_; clear D_
            replace b2 := b2_; clear b2_
            replace b8 : Cel w8 w5.heap.size 28 [.int .i64 ((m1 : Nat) : Int), .slice none 0 0] := t4.c
            clear t4
            refine wpList_nil ?_
            refine hK13 _ _ ?_
            refine wp_seq_k fun K14 hK14 => ?_
            refine wp_seq_k fun K15 hK15 => ?_
            refine cPlain ?_
            refine sv 9 (.int .u64 0) .of ?_
            simp only [sZ, sS]
            refine wpList_nil ?_
            refine hK15 _ _ ?_
            refine wp_block ?_
            refine cLoop (fun N_ A_ w_ => ∃ (i a : Nat) (mv : Value) (ds : List Nat), (N_ = m2 - i ∧ (i ≤ m2) ∧ (ds.length = i) ∧ (∀ d ∈ ds, d ≤ 1048576) ∧ (a ≤ xs.length) ∧ (s2 = numsN ds ++ xs.drop a) ∧ (∃ s1 : Nat → Value, A_ = ⟨[v, undef, .pointer (some ⟨w.heap.size, 0, none⟩), (s1 3), .int .u64 ((m1 : Nat) : Int), .int .i64 ((a : Nat) : Int), .int .i64 0, .int .u64 ((m2 : Nat) : Int), .pointer (some ⟨w5.heap.size, 0, none⟩), .int .u64 ((i : Nat) : Int), (s1 10), (s1 11), (s1 12), undef, v, .int .i64 ((xs.length : Nat) : Int), .bool (decide (((xs.length : Nat) : Int) < 1)), undef, .tuple #[.int .u64 ((m1 : Nat) : Int), .int .i64 ((1 + k1 : Nat) : Int), .int .i64 0], v, .tuple #[.int .u64 ((m1 : Nat) : Int), .int .i64 ((1 + k1 : Nat) : Int), .int .i64 0], .int .u64 ((m1 : Nat) : Int), .int .i64 ((1 + k1 : Nat) : Int), .int .i64 0, .int .i64 0, .bool false, .bool false, .int .u64 ((m1 : Nat) : Int), .bool (decide (1073741824 < ((m1 : Nat) : Int))), .bool (decide (1073741824 < ((m1 : Nat) : Int))), undef, .tuple #[.int .u64 ((m2 : Nat) : Int), .int .i64 ((1 + k1 + k2 : Nat) : Int), .int .i64 0], v, .int .i64 ((1 + k1 : Nat) : Int), .tuple #[.int .u64 ((m2 : Nat) : Int), .int .i64 ((1 + k1 + k2 : Nat) : Int), .int .i64 0], .int .u64 ((m2 : Nat) : Int), .int .i64 ((1 + k1 + k2 : Nat) : Int), .int .i64 0, .int .i64 0, .bool false, .bool false, .int .u64 ((m2 : Nat) : Int), .bool (decide (50 < ((m2 : Nat) : Int))), .bool (decide (50 < ((m2 : Nat) : Int))), undef, .int .u64 ((m1 : Nat) : Int), .int .i64 ((m1 : Nat) : Int), .agg #[.int .i64 ((m1 : Nat) : Int), .slice none 0 0], (s1 48), (s1 49), (s1 50), (s1 51), (s1 52), (s1 53), (s1 54), (s1 55), (s1 56), (s1 57), (s1 58), (s1 59), (s1 60), (s1 61), (s1 62), (s1 63), (s1 64), (s1 65), (s1 66), (s1 67), (s1 68), (s1 69), (s1 70), (s1 71), (s1 72), (s1 73), (s1 74), undef, undef, undef, undef, undef, undef, undef, undef, undef, undef, undef, undef, undef, undef, undef, undef].toArray, []⟩) ∧ Bl w.heap.size w w_ ∧ SL .u8 w_ v (nn xs) ∧ Cel w_ w.heap.size 28 [.int .i64 0, .slice none 0 0] ∧ Cel w_ w5.heap.size 28 [.int .i64 ((m1 : Nat) : Int), mv] ∧ Own 3 .i64 w8.heap.size w_ mv (nn ds) ∧ w8.heap.size ≤ w_.heap.size)) _ ⟨0, 1 + k1 + k2, .slice none 0 0, [], rfl, (Nat.zero_le _), rfl, (fun d hd => by cases hd), hle2, (by rw [numsN_nil, List.nil_append, hd2]), cutE, BL, D, b2, b8, (Own.nil _ _ _ _), Nat.le_refl _⟩ ?_
            clear BL D b2 b8
            rintro n_ a_ wl0 ⟨i, a, mv, ds, rfl, hc0_0, hc0_1, hc0_2, hc0_3, hc0_4, ⟨s1, rfl⟩, BL, D, b2, b8, R, zl0⟩
            have lR_1 := R.ge
            refine wp_seq_k fun K16 hK16 => ?_
            refine wp_seq_k fun K17 hK17 => ?_
            refine cPlain ?_
            refine sv 48 (.int .u64 ((i : Nat) : Int)) .of ?_
            simp only [sZ, sS]
            refine sv 49 (.int .u64 ((m2 : Nat) : Int)) .of ?_
            simp only [sZ, sS]
            refine sv 50 (.bool (decide (((i : Nat) : Int) < ((m2 : Nat) : Int)))) (Val.cmp .lss 84 _ (.tmp 48) (.tmp 49) rfl .u64 ((i : Nat) : Int) ((m2 : Nat) : Int) (by kernel_rfl) (by kernel_rfl) (by simp) _ rfl) ?_
            simp only [sZ, sS]
            refine wpList_nil ?_
            refine hK17 _ _ ?_
            refine cDec (((i : Nat) : Int) < ((m2 : Nat) : Int)) (by kernel_rfl) (fun c50 => ?_) (fun c50 => ?_)
            · skip
              refine wp_skip ?_
              refine hK16 _ _ ?_
              refine wp_seq_k fun K18 hK18 => ?_
              refine wp_block ?_
              refine wp_seq_k fun K19 hK19 => ?_
              refine cPlain ?_
              refine sv 54 (v) .of ?_
              simp only [sZ, sS]
              refine sv 55 (.int .i64 ((a : Nat) : Int)) .of ?_
              simp only [sZ, sS]
              refine xCall 56 54 #[v, .int .i64 ((a : Nat) : Int)] (by kernel_rfl) ?_
              refine (rget_any v xs (a) wl0 D (by omega) (by omega) hb).mono ?_
              rintro en w9 ⟨hR3, hb1⟩
              rcases hR3 with ⟨m3, s3, k3, hm3, hl3, hk3, rfl⟩ | ⟨hno3, er3, her3, rfl⟩
              · skip
                obtain ⟨hle3, hd3⟩ := drop_front hl3
                rw [← hk3] at hle3 hd3
                have e3 := belE0 hb1
                have ze3 := e3.size
                replace BL := BL.e0 e3
                replace D := D.e0 e3
                replace b2 := b2.e0 e3
                replace b8 := b8.e0 e3
                replace R := R.e0 e3
                clear e3
                refine ⟨.tuple #[.int .u64 ((m3 : Nat) : Int), .int .i64 ((a + k3 : Nat) : Int), .int .i64 0], rfl, ?_⟩
                simp only [sZ, sS]
                refine sv 53 (.tuple #[.int .u64 ((m3 : Nat) : Int), .int .i64 ((a + k3 : Nat) : Int), .int .i64 0]) .of ?_
                simp only [sZ, sS]
                refine sv 57 (.int .u64 ((m3 : Nat) : Int)) .of ?_
                simp only [sZ, sS]
                refine sv 58 (.int .i64 ((a + k3 : Nat) : Int)) .of ?_
                simp only [sZ, sS]
                refine sv 59 (.int .i64 0) .of ?_
                simp only [sZ, sS]
                refine sv 10 (.int .u64 ((m3 : Nat) : Int)) .of ?_
                simp only [sZ, sS]
                refine sv 11 (.int .i64 ((a + k3 : Nat) : Int)) .of ?_
                simp only [sZ, sS]
                refine sv 12 (.int .i64 0) .of ?_
                simp only [sZ, sS]
                refine wpList_nil ?_
                refine hK19 _ _ ?_
                refine wp_seq_k fun K20 hK20 => ?_
                refine wp_seq_k fun K21 hK21 => ?_
                refine cPlain ?_
                refine sv 60 (.int .i64 0) .of ?_
                simp only [sZ, sS]
                refine sv 61 (.bool false) (Val.cmp .neq 37 _ (.tmp 60) _ rfl .i64 0 0 (by kernel_rfl) (by kernel_rfl) (by simp) _ rfl) ?_
                simp only [sZ, sS]
                refine sv 62 (.bool false) .of ?_
                simp only [sZ, sS]
                refine sv 63 (.int .u64 ((m3 : Nat) : Int)) .of ?_
                simp only [sZ, sS]
                refine sv 64 (.bool (decide (1048576 < ((m3 : Nat) : Int)))) (Val.cmp .gtr 84 _ (.tmp 63) _ rfl .u64 ((m3 : Nat) : Int) 1048576 (by kernel_rfl) (by kernel_rfl) (by simp) _ rfl) ?_
                simp only [sZ, sS]
                refine sv 65 (.bool (decide (1048576 < ((m3 : Nat) : Int)))) .of ?_
                simp only [sZ, sS]
                refine wpList_nil ?_
                refine hK21 _ _ ?_
                refine cDec (1048576 < ((m3 : Nat) : Int)) (by kernel_rfl) (fun c65 => ?_) (fun c65 => ?_)
                · skip
                  refine wp_seq_k fun K22 hK22 => ?_
                  refine cPlain ?_
                  refine sv 66 (.agg #[.int .i64 0, .slice none 0 0]) .of ?_
                  simp only [sZ, sS]
                  refine xStoreR 28 (.tmp 2) (.tmp 66) rfl w.heap.size 28 [.int .i64 0, .slice none 0 0] 0 [.int .i64 0, .slice none 0 0] (by kernel_rfl) (by kernel_rfl) b2 (by kernel_rfl) (by simp) rfl [.int .i64 0, .slice none 0 0] rfl ?_
                  intro w10 t5
                  have zt5 := t5.z
                  have BL_ := BL.ev t5.e (fun i h => show w.heap.size ≤ i by have h : i = w.heap.size := h; omega)
                  have D_ := D.ev t5.e (fun i hi => show ¬ (i = w.heap.size) by have := hvl i hi; omega)
                  have b8_ := b8.ev t5.e (show ¬ (w5.heap.size = w.heap.size) by omega)
                  have R_ := R.ev t5.e (fun i hi => show ¬ (i = w.heap.size) by have := lR_1 i hi; omega)
                  replace BL := BL_; clear BL_
                  replace D := D_; clear D_
                  replace b8 := b8_; clear b8_
                  replace R := R_; clear R_
                  replace b2 : Cel w10 w.heap.size 28 [.int .i64 0, .slice none 0 0] := t5.c
                  clear t5
                  refine sv 3 (.int .i64 180) .of ?_
                  simp only [sZ, sS]
                  refine wpList_nil ?_
                  refine hK22 _ _ ?_
                  refine wp_ret ?_
                  (try simp only [Exit.then, Exit.inBlock])
                  refine bodyPost_ret (rCT rfl _ w.heap.size _ _ (.int .i64 180) (by kernel_rfl) (by kernel_rfl) b2 _ Try.underlying28 rfl (by kernel_rfl)) rfl ?_
                  have hQ : readL (nn xs) = none := readLN_no hb fun q ks hr e => by
                    have hrn := rightL_n hr
                    obtain ⟨a, b, c⟩ := lB_two hl1 hl2 hm1 hm2 hr e
                    obtain ⟨k, t, hk, ht⟩ := lB_in hr c hc0_4 hc0_2 (by omega)
                    obtain ⟨d, f⟩ := numN_inj hm3 (show k < 18446744073709551616 by omega) (hl3.symm.trans ht)
                    omega
                  rw [hQ]
                  exact ⟨rfl, BL.b⟩
                · skip
                  refine wp_skip ?_
                  refine hK20 _ _ ?_
                  refine wp_seq_k fun K23 hK23 => ?_
                  refine cPlain ?_
                  refine sv 67 (.int .i64 ((a + k3 : Nat) : Int)) .of ?_
                  simp only [sZ, sS]
                  refine sv 5 (.int .i64 ((a + k3 : Nat) : Int)) .of ?_
                  simp only [sZ, sS]
                  refine wpList_nil ?_
                  refine hK23 _ _ ?_
                  refine cPlain ?_
                  refine sv 68 (.pointer (some ⟨w5.heap.size, 1, none⟩)) .of ?_
                  simp only [sZ, sS]
                  refine sv 69 (mv) (Val.cel1 26 _ rfl w5.heap.size 1 _ (by kernel_rfl) (fun _ => (by kernel_rfl)) b8 rfl) ?_
                  simp only [sZ, sS]
                  refine sv 70 (.int .u64 ((m3 : Nat) : Int)) .of ?_
                  simp only [sZ, sS]
                  refine sv 71 (.int .i64 ((m3 : Nat) : Int)) (Val.conv64 84 3 (.tmp 70) rfl Try.underlying84 Try.underlying3 ((m3 : Nat) : Int) (by kernel_rfl) (by omega)) ?_
                  simp only [sZ, sS]
                  refine xLit 72 26 3 1 _ #[(0, .int .i64 ((m3 : Nat) : Int))] [.int .i64 ((m3 : Nat) : Int)] rfl (by kernel_rfl) (by kernel_rfl) ?_
                  intro w11 n3
                  have zn3 := n3.z
                  have b72 := n3.c
                  replace b72 : Blk .i64 w11 w9.heap.size 3 [((m3 : Nat) : Int)] := b72
                  replace BL := BL.e0 n3.e
                  replace D := D.e0 n3.e
                  replace b2 := b2.e0 n3.e
                  replace b8 := b8.e0 n3.e
                  replace R := R.e0 n3.e
                  have sb72 : SL .i64 w11 (.slice (some ⟨w9.heap.size, 0, none⟩) 1 1) [((m3 : Nat) : Int)] := SL.ofBlk b72 rfl (by unfold maxLen; omega)
                  have lb72 : ∀ i, Value.ownBlock (.slice (some ⟨w9.heap.size, 0, none⟩) 1 1) = some i → w9.heap.size ≤ i ∧ i < w11.heap.size := ownB_lit (by omega)
                  simp only [sZ, sS]
                  refine xApp 73 (.tmp 69) (.tmp 72) 26 3 .i64 8 rfl Try.underlying26 (by kernel_rfl) w8.heap.size mv (nn ds) (by kernel_rfl) R (.slice (some ⟨w9.heap.size, 0, none⟩) 1 1) [((m3 : Nat) : Int)] (by kernel_rfl) sb72 ?va1_1 ?va1_2 ?va1_3 ?_
                  case va1_1 => simp only [nn_len, List.length_append, List.length_cons, List.length_nil]; omega
                  case va1_2 => simp only [nn_len, List.length_append, List.length_cons, List.length_nil]; unfold maxLen; omega
                  case va1_3 => omega
                  intro va1 w12 rva1 e4
                  have ze4 := e4.size
                  have BL_ := BL.ev e4 (fun i h => by have := lR_1 _ h; omega)
                  have D_ := D.ev e4 (fun i hi h => by have := hvl i hi; have := lR_1 _ h; omega)
                  have b2_ := b2.ev e4 (fun h => by have := lR_1 _ h; omega)
                  have b8_ := b8.ev e4 (fun h => by have := lR_1 _ h; omega)
                  have b72_ := b72.ev e4 (fun h => by have := lR_1 _ h; omega)
                  have sb72_ := sb72.ev e4 (fun i hi h => by have := lb72 i hi; have := lR_1 _ h; omega)
                  replace BL := BL_; clear BL_
                  replace D := D_; clear D_
                  replace b2 := b2_; clear b2_
                  replace b8 := b8_; clear b8_
                  replace b72 := b72_; clear b72_
                  replace sb72 := sb72_; clear sb72_
                  replace R := rva1
                  clear rva1 e4
                  have lR_2 := R.ge
                  simp only [sZ, sS]
                  refine sv 74 (.pointer (some ⟨w5.heap.size, 1, none⟩)) .of ?_
                  simp only [sZ, sS]
                  refine xStore 26 (.tmp 74) (.tmp 73) rfl w5.heap.size 28 [.int .i64 ((m1 : Nat) : Int), mv] 1 va1 (by kernel_rfl) (by kernel_rfl) b8 (by kernel_rfl) (by simp) R.sl.oneCell [.int .i64 ((m1 : Nat) : Int), va1] rfl ?_
                  intro w13 t6
                  have zt6 := t6.z
                  have BL_ := BL.ev t6.e (fun i h => show w.heap.size ≤ i by have h : i = w5.heap.size := h; omega)
                  have D_ := D.ev t6.e (fun i hi => show ¬ (i = w5.heap.size) by have := hvl i hi; omega)
                  have b2_ := b2.ev t6.e (show ¬ (w.heap.size = w5.heap.size) by omega)
                  have R_ := R.ev t6.e (fun i hi => show ¬ (i = w5.heap.size) by have := lR_2 i hi; omega)
                  have b72_ := b72.ev t6.e (show ¬ (w9.heap.size = w5.heap.size) by omega)
                  have sb72_ := sb72.ev t6.e (fun i hi => show ¬ (i = w5.heap.size) by have := lb72 i hi; omega)
                  replace BL := BL_; clear BL_
                  replace D := D_; clear D_
                  replace b2 := b2_; clear b2_
                  replace R := R_; clear R_
                  replace b72 := b72_; clear b72_
                  replace sb72 := sb72_; clear sb72_
                  replace b8 : Cel w13 w5.heap.size 28 [.int .i64 ((m1 : Nat) : Int), va1] := t6.c
                  clear t6
                  refine wpList_nil ?_
                  refine hK18 _ _ ?_
                  refine cPlain ?_
                  refine sv 51 (.int .u64 ((i : Nat) : Int)) .of ?_
                  simp only [sZ, sS]
                  refine sv 52 (.int .u64 ((i + 1 : Nat) : Int)) (Val.asN (Val.addN 84 _ (.tmp 51) _ rfl .u64 i 1 18446744073709551616 (by kernel_rfl) (by kernel_rfl)) (Nat.mod_eq_of_lt (by omega))) ?_
                  simp only [sZ, sS]
                  refine sv 9 (.int .u64 ((i + 1 : Nat) : Int)) .of ?_
                  simp only [sZ, sS]
                  refine wpList_nil ?_
                  refine ⟨_, ?_, i + 1, a + k3, va1, ds ++ [m3], rfl, (by omega), (by rw [List.length_append, hc0_1]; rfl), (fun d hd => by rcases List.mem_append.1 hd with h | h; exact hc0_2 d h; rw [List.mem_singleton.1 h]; omega), hle3, (by rw [hd3]; exact numsN_snoc hc0_4 hl3), cutE, BL, D, b2, b8, (R.cast (by rw [nn_app]; rfl)), by omega⟩
                  omega
              · skip
                have e5 := belE0 hb1
                have ze5 := e5.size
                replace BL := BL.e0 e5
                replace D := D.e0 e5
                replace b2 := b2.e0 e5
                replace b8 := b8.e0 e5
                replace R := R.e0 e5
                clear e5
                refine ⟨.tuple #[.int .u64 0, .int .i64 0, .int .i64 er3], rfl, ?_⟩
                simp only [sZ, sS]
                refine sv 53 (.tuple #[.int .u64 0, .int .i64 0, .int .i64 er3]) .of ?_
                simp only [sZ, sS]
                refine sv 57 (.int .u64 0) .of ?_
                simp only [sZ, sS]
                refine sv 58 (.int .i64 0) .of ?_
                simp only [sZ, sS]
                refine sv 59 (.int .i64 er3) .of ?_
                simp only [sZ, sS]
                refine sv 10 (.int .u64 0) .of ?_
                simp only [sZ, sS]
                refine sv 11 (.int .i64 0) .of ?_
                simp only [sZ, sS]
                refine sv 12 (.int .i64 er3) .of ?_
                simp only [sZ, sS]
                refine wpList_nil ?_
                refine hK19 _ _ ?_
                refine wp_seq_k fun K24 hK24 => ?_
                refine wp_seq_k fun K25 hK25 => ?_
                refine cPlain ?_
                refine sv 60 (.int .i64 er3) .of ?_
                simp only [sZ, sS]
                refine sv 61 (.bool true) (Val.cmp .neq 37 _ (.tmp 60) _ rfl .i64 er3 0 (by kernel_rfl) (by kernel_rfl) (by simp) _ (by simp [cmpB, her3])) ?_
                simp only [sZ, sS]
                refine sv 62 (.bool true) .of ?_
                simp only [sZ, sS]
                refine xSkip 63 ?_
                simp only [sZ, sS]
                refine xSkip 64 ?_
                simp only [sZ, sS]
                refine sv 65 (.bool true) .of ?_
                simp only [sZ, sS]
                refine wpList_nil ?_
                refine hK25 _ _ ?_
                refine cT ?_
                refine wp_seq_k fun K26 hK26 => ?_
                refine cPlain ?_
                refine sv 66 (.agg #[.int .i64 0, .slice none 0 0]) .of ?_
                simp only [sZ, sS]
                refine xStoreR 28 (.tmp 2) (.tmp 66) rfl w.heap.size 28 [.int .i64 0, .slice none 0 0] 0 [.int .i64 0, .slice none 0 0] (by kernel_rfl) (by kernel_rfl) b2 (by kernel_rfl) (by simp) rfl [.int .i64 0, .slice none 0 0] rfl ?_
                intro w14 t7
                have zt7 := t7.z
                have BL_ := BL.ev t7.e (fun i h => show w.heap.size ≤ i by have h : i = w.heap.size := h; omega)
                have D_ := D.ev t7.e (fun i hi => show ¬ (i = w.heap.size) by have := hvl i hi; omega)
                have b8_ := b8.ev t7.e (show ¬ (w5.heap.size = w.heap.size) by omega)
                have R_ := R.ev t7.e (fun i hi => show ¬ (i = w.heap.size) by have := lR_1 i hi; omega)
                replace BL := BL_; clear BL_
                replace D := D_; clear D_
                replace b8 := b8_; clear b8_
                replace R := R_; clear R_
                replace b2 : Cel w14 w.heap.size 28 [.int .i64 0, .slice none 0 0] := t7.c
                clear t7
                refine sv 3 (.int .i64 180) .of ?_
                simp only [sZ, sS]
                refine wpList_nil ?_
                refine hK26 _ _ ?_
                refine wp_ret ?_
                (try simp only [Exit.then, Exit.inBlock])
                refine bodyPost_ret (rCT rfl _ w.heap.size _ _ (.int .i64 180) (by kernel_rfl) (by kernel_rfl) b2 _ Try.underlying28 rfl (by kernel_rfl)) rfl ?_
                have hQ : readL (nn xs) = none := readLN_no hb fun q ks hr e => by
                  have hrn := rightL_n hr
                  obtain ⟨a, b, c⟩ := lB_two hl1 hl2 hm1 hm2 hr e
                  obtain ⟨k, t, hk, ht⟩ := lB_in hr c hc0_4 hc0_2 (by omega)
                  exact front_no hno3 k (by omega) _ ht
                rw [hQ]
                exact ⟨rfl, BL.b⟩
            · skip
              refine wp_exit ?_
              simp only [Exit.then, Exit.inBlock, ↓reduceIte, Nat.reduceEqDiff]
              refine hK14 _ _ ?_
              refine wp_seq_k fun K27 hK27 => ?_
              refine cPlain ?_
              refine sv 76 (.agg #[.int .i64 ((m1 : Nat) : Int), mv]) (Val.cel 28 _ rfl 0 2 (by kernel_rfl) b8 _ Try.underlying28 rfl (by kernel_rfl) (by simp) [.int .i64 ((m1 : Nat) : Int), mv] rfl) ?_
              simp only [sZ, sS]
              refine xCall 77 15 #[.agg #[.int .i64 ((m1 : Nat) : Int), mv]] (by kernel_rfl) ?_
              refine (r18listbytes_bp ((m1 : Nat) : Int) mv (nn ds) wl0 R.sl).mono ?_
              rintro en w15 hp
              rcases hp.2 with ⟨hok, rfl⟩ | ⟨hok, u, rfl, hO⟩
              · skip
                have e6 := belE0 hp.1
                have ze6 := e6.size
                replace BL := BL.e0 e6
                replace D := D.e0 e6
                replace b2 := b2.e0 e6
                replace b8 := b8.e0 e6
                replace R := R.e0 e6
                clear e6
                refine ⟨.tuple #[.slice none 0 0, .int .i64 180], rfl, ?_⟩
                simp only [sZ, sS]
                refine sv 75 (.tuple #[.slice none 0 0, .int .i64 180]) .of ?_
                simp only [sZ, sS]
                refine sv 78 (.slice none 0 0) .of ?_
                simp only [sZ, sS]
                refine sv 79 (.int .i64 180) .of ?_
                simp only [sZ, sS]
                refine sv 13 (.slice none 0 0) .of ?_
                simp only [sZ, sS]
                refine sv 6 (.int .i64 180) .of ?_
                simp only [sZ, sS]
                refine wpList_nil ?_
                refine hK27 _ _ ?_
                refine wp_seq_k fun K28 hK28 => ?_
                refine wp_seq_k fun K29 hK29 => ?_
                refine cPlain ?_
                refine sv 80 (.int .i64 180) .of ?_
                simp only [sZ, sS]
                refine sv 81 (.bool true) (Val.cmp .neq 37 _ (.tmp 80) _ rfl .i64 180 0 (by kernel_rfl) (by kernel_rfl) (by simp) _ rfl) ?_
                simp only [sZ, sS]
                refine sv 82 (.bool true) .of ?_
                simp only [sZ, sS]
                refine xSkip 83 ?_
                simp only [sZ, sS]
                refine xSkip 84 ?_
                simp only [sZ, sS]
                refine xSkip 85 ?_
                simp only [sZ, sS]
                refine xSkip 86 ?_
                simp only [sZ, sS]
                refine xSkip 87 ?_
                simp only [sZ, sS]
                refine sv 88 (.bool true) .of ?_
                simp only [sZ, sS]
                refine wpList_nil ?_
                refine hK29 _ _ ?_
                refine cT ?_
                refine wp_seq_k fun K30 hK30 => ?_
                refine cPlain ?_
                refine sv 89 (.agg #[.int .i64 0, .slice none 0 0]) .of ?_
                simp only [sZ, sS]
                refine xStoreR 28 (.tmp 2) (.tmp 89) rfl w.heap.size 28 [.int .i64 0, .slice none 0 0] 0 [.int .i64 0, .slice none 0 0] (by kernel_rfl) (by kernel_rfl) b2 (by kernel_rfl) (by simp) rfl [.int .i64 0, .slice none 0 0] rfl ?_
                intro w16 t8
                have zt8 := t8.z
                have BL_ := BL.ev t8.e (fun i h => show w.heap.size ≤ i by have h : i = w.heap.size := h; omega)
                have D_ := D.ev t8.e (fun i hi => show ¬ (i = w.heap.size) by have := hvl i hi; omega)
                have b8_ := b8.ev t8.e (show ¬ (w5.heap.size = w.heap.size) by omega)
                have R_ := R.ev t8.e (fun i hi => show ¬ (i = w.heap.size) by have := lR_1 i hi; omega)
                replace BL := BL_; clear BL_
                replace D := D_; clear D_
                replace b8 := b8_; clear b8_
                replace R := R_; clear R_
                replace b2 : Cel w16 w.heap.size 28 [.int .i64 0, .slice none 0 0] := t8.c
                clear t8
                refine sv 3 (.int .i64 180) .of ?_
                simp only [sZ, sS]
                refine wpList_nil ?_
                refine hK30 _ _ ?_
                refine wp_ret ?_
                (try simp only [Exit.then, Exit.inBlock])
                refine bodyPost_ret (rCT rfl _ w.heap.size _ _ (.int .i64 180) (by kernel_rfl) (by kernel_rfl) b2 _ Try.underlying28 rfl (by kernel_rfl)) rfl ?_
                have hQ : readL (nn xs) = none := readLN_no hb fun q ks hr e => by
                  have hrn := rightL_n hr
                  obtain ⟨a, b, c⟩ := lB_two hl1 hl2 hm1 hm2 hr e
                  have d := lB_end hr c hc0_4 hc0_2 (by omega)
                  first | (rw [a, ← d] at hok; rw [hr] at hok; cases hok; done) | (refine c88 ?_; rw [a, ← d, e, lB_nn])
                rw [hQ]
                exact ⟨rfl, BL.b⟩
              · skip
                have e7 := belE0 hp.1
                have ze7 := e7.size
                replace BL := BL.e0 e7
                replace D := D.e0 e7
                replace b2 := b2.e0 e7
                replace b8 := b8.e0 e7
                replace R := R.e0 e7
                clear e7
                have U : Own 5 .u8 wl0.heap.size w15 u (listB ((m1 : Nat) : Int) (nn ds)) := hO
                have lU_1 := U.ge
                refine ⟨.tuple #[u, .int .i64 0], rfl, ?_⟩
                simp only [sZ, sS]
                refine sv 75 (.tuple #[u, .int .i64 0]) .of ?_
                simp only [sZ, sS]
                refine sv 78 (u) .of ?_
                simp only [sZ, sS]
                refine sv 79 (.int .i64 0) .of ?_
                simp only [sZ, sS]
                refine sv 13 (u) .of ?_
                simp only [sZ, sS]
                refine sv 6 (.int .i64 0) .of ?_
                simp only [sZ, sS]
                refine wpList_nil ?_
                refine hK27 _ _ ?_
                refine wp_seq_k fun K31 hK31 => ?_
                refine wp_seq_k fun K32 hK32 => ?_
                refine cPlain ?_
                refine sv 80 (.int .i64 0) .of ?_
                simp only [sZ, sS]
                refine sv 81 (.bool false) (Val.cmp .neq 37 _ (.tmp 80) _ rfl .i64 0 0 (by kernel_rfl) (by kernel_rfl) (by simp) _ rfl) ?_
                simp only [sZ, sS]
                refine sv 82 (.bool false) .of ?_
                simp only [sZ, sS]
                refine sv 83 (u) .of ?_
                simp only [sZ, sS]
                refine sv 84 (.string (strOf (listB ((m1 : Nat) : Int) (nn ds)))) (Val.str 29 9 5 (.tmp 83) rfl Try.underlying29 Try.underlying5 Try.underlying9 u _ (by kernel_rfl) U.sl) ?_
                simp only [sZ, sS]
                refine sv 85 (v) .of ?_
                simp only [sZ, sS]
                refine sv 86 (.string (strOf (nn xs))) (Val.str 29 9 5 (.tmp 85) rfl Try.underlying29 Try.underlying5 Try.underlying9 v _ (by kernel_rfl) D) ?_
                simp only [sZ, sS]
                refine sv 87 (.bool (decide (¬ (listB ((m1 : Nat) : Int) (nn ds) = nn xs)))) (Val.eqStr .neq 9 _ (.tmp 84) (.tmp 86) rfl (listB ((m1 : Nat) : Int) (nn ds)) (nn xs) (by kernel_rfl) (by kernel_rfl) (listB_bytes hok) (bytes_nn hb) (.inr rfl) _ (neq_str _ _)) ?_
                simp only [sZ, sS]
                refine sv 88 (.bool (decide (¬ (listB ((m1 : Nat) : Int) (nn ds) = nn xs)))) .of ?_
                simp only [sZ, sS]
                refine wpList_nil ?_
                refine hK32 _ _ ?_
                refine cDec (¬ (listB ((m1 : Nat) : Int) (nn ds) = nn xs)) (by kernel_rfl) (fun c88 => ?_) (fun c88 => ?_)
                · skip
                  refine wp_seq_k fun K33 hK33 => ?_
                  refine cPlain ?_
                  refine sv 89 (.agg #[.int .i64 0, .slice none 0 0]) .of ?_
                  simp only [sZ, sS]
                  refine xStoreR 28 (.tmp 2) (.tmp 89) rfl w.heap.size 28 [.int .i64 0, .slice none 0 0] 0 [.int .i64 0, .slice none 0 0] (by kernel_rfl) (by kernel_rfl) b2 (by kernel_rfl) (by simp) rfl [.int .i64 0, .slice none 0 0] rfl ?_
                  intro w17 t9
                  have zt9 := t9.z
                  have BL_ := BL.ev t9.e (fun i h => show w.heap.size ≤ i by have h : i = w.heap.size := h; omega)
                  have D_ := D.ev t9.e (fun i hi => show ¬ (i = w.heap.size) by have := hvl i hi; omega)
                  have b8_ := b8.ev t9.e (show ¬ (w5.heap.size = w.heap.size) by omega)
                  have R_ := R.ev t9.e (fun i hi => show ¬ (i = w.heap.size) by have := lR_1 i hi; omega)
                  have U_ := U.ev t9.e (fun i hi => show ¬ (i = w.heap.size) by have := lU_1 i hi; omega)
                  replace BL := BL_; clear BL_
                  replace D := D_; clear D_
                  replace b8 := b8_; clear b8_
                  replace R := R_; clear R_
                  replace U := U_; clear U_
                  replace b2 : Cel w17 w.heap.size 28 [.int .i64 0, .slice none 0 0] := t9.c
                  clear t9
                  refine sv 3 (.int .i64 180) .of ?_
                  simp only [sZ, sS]
                  refine wpList_nil ?_
                  refine hK33 _ _ ?_
                  refine wp_ret ?_
                  (try simp only [Exit.then, Exit.inBlock])
                  refine bodyPost_ret (rCT rfl _ w.heap.size _ _ (.int .i64 180) (by kernel_rfl) (by kernel_rfl) b2 _ Try.underlying28 rfl (by kernel_rfl)) rfl ?_
                  have hQ : readL (nn xs) = none := readLN_no hb fun q ks hr e => by
                    have hrn := rightL_n hr
                    obtain ⟨a, b, c⟩ := lB_two hl1 hl2 hm1 hm2 hr e
                    have d := lB_end hr c hc0_4 hc0_2 (by omega)
                    first | (rw [a, ← d] at hok; rw [hr] at hok; cases hok; done) | (refine c88 ?_; rw [a, ← d, e, lB_nn])
                  rw [hQ]
                  exact ⟨rfl, BL.b⟩
                · skip
                  refine wp_skip ?_
                  refine hK31 _ _ ?_
                  refine wp_seq_k fun K34 hK34 => ?_
                  refine cPlain ?_
                  refine sv 90 (.agg #[.int .i64 ((m1 : Nat) : Int), mv]) (Val.cel 28 _ rfl 0 2 (by kernel_rfl) b8 _ Try.underlying28 rfl (by kernel_rfl) (by simp) [.int .i64 ((m1 : Nat) : Int), mv] rfl) ?_
                  simp only [sZ, sS]
                  refine xStoreR 28 (.tmp 2) (.tmp 90) rfl w.heap.size 28 [.int .i64 0, .slice none 0 0] 0 [.int .i64 ((m1 : Nat) : Int), mv] (by kernel_rfl) (by kernel_rfl) b2 (by kernel_rfl) (by simp) (allC rfl (allC R.sl.oneCell allN)) [.int .i64 ((m1 : Nat) : Int), mv] rfl ?_
                  intro w18 t10
                  have zt10 := t10.z
                  have BL_ := BL.ev t10.e (fun i h => show w.heap.size ≤ i by have h : i = w.heap.size := h; omega)
                  have D_ := D.ev t10.e (fun i hi => show ¬ (i = w.heap.size) by have := hvl i hi; omega)
                  have b8_ := b8.ev t10.e (show ¬ (w5.heap.size = w.heap.size) by omega)
                  have R_ := R.ev t10.e (fun i hi => show ¬ (i = w.heap.size) by have := lR_1 i hi; omega)
                  have U_ := U.ev t10.e (fun i hi => show ¬ (i = w.heap.size) by have := lU_1 i hi; omega)
                  replace BL := BL_; clear BL_
                  replace D := D_; clear D_
                  replace b8 := b8_; clear b8_
                  replace R := R_; clear R_
                  replace U := U_; clear U_
                  replace b2 : Cel w18 w.heap.size 28 [.int .i64 ((m1 : Nat) : Int), mv] := t10.c
                  clear t10
                  refine sv 3 (.int .i64 0) .of ?_
                  simp only [sZ, sS]
                  refine wpList_nil ?_
                  refine hK34 _ _ ?_
                  refine wp_ret ?_
                  (try simp only [Exit.then, Exit.inBlock])
                  refine bodyPost_ret (rCT rfl _ w.heap.size _ _ (.int .i64 0) (by kernel_rfl) (by kernel_rfl) b2 _ Try.underlying28 rfl (by kernel_rfl)) rfl ?_
                  have hQ : readL (nn xs) = some (((m1 : Nat) : Int), nn ds) := readLN_put xs m1 ds (nn_inj (by rw [lB_nn]; exact (Classical.not_not.1 c88).symm)) hok
                  rw [hQ]
                  exact ⟨⟨_, rfl, R.mono (by omega)⟩, BL.b⟩
        · skip
          rw [hd1] at hno2
          have e8 := belE0 hb1
          have ze8 := e8.size
          replace BL := BL.e0 e8
          replace D := D.e0 e8
          replace b2 := b2.e0 e8
          clear e8
          refine ⟨.tuple #[.int .u64 0, .int .i64 0, .int .i64 er2], rfl, ?_⟩
          simp only [sZ, sS]
          refine sv 31 (.tuple #[.int .u64 0, .int .i64 0, .int .i64 er2]) .of ?_
          simp only [sZ, sS]
          refine sv 35 (.int .u64 0) .of ?_
          simp only [sZ, sS]
          refine sv 36 (.int .i64 0) .of ?_
          simp only [sZ, sS]
          refine sv 37 (.int .i64 er2) .of ?_
          simp only [sZ, sS]
          refine sv 7 (.int .u64 0) .of ?_
          simp only [sZ, sS]
          refine sv 5 (.int .i64 0) .of ?_
          simp only [sZ, sS]
          refine sv 6 (.int .i64 er2) .of ?_
          simp only [sZ, sS]
          refine wpList_nil ?_
          refine hK9 _ _ ?_
          refine wp_seq_k fun K35 hK35 => ?_
          refine wp_seq_k fun K36 hK36 => ?_
          refine cPlain ?_
          refine sv 38 (.int .i64 er2) .of ?_
          simp only [sZ, sS]
          refine sv 39 (.bool true) (Val.cmp .neq 37 _ (.tmp 38) _ rfl .i64 er2 0 (by kernel_rfl) (by kernel_rfl) (by simp) _ (by simp [cmpB, her2])) ?_
          simp only [sZ, sS]
          refine sv 40 (.bool true) .of ?_
          simp only [sZ, sS]
          refine xSkip 41 ?_
          simp only [sZ, sS]
          refine xSkip 42 ?_
          simp only [sZ, sS]
          refine sv 43 (.bool true) .of ?_
          simp only [sZ, sS]
          refine wpList_nil ?_
          refine hK36 _ _ ?_
          refine cT ?_
          refine wp_seq_k fun K37 hK37 => ?_
          refine cPlain ?_
          refine sv 44 (.agg #[.int .i64 0, .slice none 0 0]) .of ?_
          simp only [sZ, sS]
          refine xStoreR 28 (.tmp 2) (.tmp 44) rfl w.heap.size 28 [.int .i64 0, .slice none 0 0] 0 [.int .i64 0, .slice none 0 0] (by kernel_rfl) (by kernel_rfl) b2 (by kernel_rfl) (by simp) rfl [.int .i64 0, .slice none 0 0] rfl ?_
          intro w19 t11
          have zt11 := t11.z
          have BL_ := BL.ev t11.e (fun i h => show w.heap.size ≤ i by have h : i = w.heap.size := h; omega)
          have D_ := D.ev t11.e (fun i hi => show ¬ (i = w.heap.size) by have := hvl i hi; omega)
          replace BL := BL_; clear BL_
          replace D := D_; clear D_
          replace b2 : Cel w19 w.heap.size 28 [.int .i64 0, .slice none 0 0] := t11.c
          clear t11
          refine sv 3 (.int .i64 180) .of ?_
          simp only [sZ, sS]
          refine wpList_nil ?_
          refine hK37 _ _ ?_
          refine wp_ret ?_
          (try simp only [Exit.then, Exit.inBlock])
          refine bodyPost_ret (rCT rfl _ w.heap.size _ _ (.int .i64 180) (by kernel_rfl) (by kernel_rfl) b2 _ Try.underlying28 rfl (by kernel_rfl)) rfl ?_
          have hQ : readL (nn xs) = none := readLN_no hb fun q ks hr e => by
            have hrn := rightL_n hr
            obtain ⟨a, b⟩ := lB_one hl1 hm1 hr e
            exact front_no hno2 ks.length (by omega) _ b
          rw [hQ]
          exact ⟨rfl, BL.b⟩
    · skip
      have e9 := belE0 hb1
      have ze9 := e9.size
      replace BL := BL.e0 e9
      replace D := D.e0 e9
      replace b2 := b2.e0 e9
      clear e9
      refine ⟨.tuple #[.int .u64 0, .int .i64 0, .int .i64 er1], rfl, ?_⟩
      simp only [sZ, sS]
      refine sv 18 (.tuple #[.int .u64 0, .int .i64 0, .int .i64 er1]) .of ?_
      simp only [sZ, sS]
      refine sv 21 (.int .u64 0) .of ?_
      simp only [sZ, sS]
      refine sv 22 (.int .i64 0) .of ?_
      simp only [sZ, sS]
      refine sv 23 (.int .i64 er1) .of ?_
      simp only [sZ, sS]
      refine sv 4 (.int .u64 0) .of ?_
      simp only [sZ, sS]
      refine sv 5 (.int .i64 0) .of ?_
      simp only [sZ, sS]
      refine sv 6 (.int .i64 er1) .of ?_
      simp only [sZ, sS]
      refine wpList_nil ?_
      refine hK5 _ _ ?_
      refine wp_seq_k fun K38 hK38 => ?_
      refine wp_seq_k fun K39 hK39 => ?_
      refine cPlain ?_
      refine sv 24 (.int .i64 er1) .of ?_
      simp only [sZ, sS]
      refine sv 25 (.bool true) (Val.cmp .neq 37 _ (.tmp 24) _ rfl .i64 er1 0 (by kernel_rfl) (by kernel_rfl) (by simp) _ (by simp [cmpB, her1])) ?_
      simp only [sZ, sS]
      refine sv 26 (.bool true) .of ?_
      simp only [sZ, sS]
      refine xSkip 27 ?_
      simp only [sZ, sS]
      refine xSkip 28 ?_
      simp only [sZ, sS]
      refine sv 29 (.bool true) .of ?_
      simp only [sZ, sS]
      refine wpList_nil ?_
      refine hK39 _ _ ?_
      refine cT ?_
      refine wp_seq_k fun K40 hK40 => ?_
      refine cPlain ?_
      refine sv 30 (.agg #[.int .i64 0, .slice none 0 0]) .of ?_
      simp only [sZ, sS]
      refine xStoreR 28 (.tmp 2) (.tmp 30) rfl w.heap.size 28 [.int .i64 0, .slice none 0 0] 0 [.int .i64 0, .slice none 0 0] (by kernel_rfl) (by kernel_rfl) b2 (by kernel_rfl) (by simp) rfl [.int .i64 0, .slice none 0 0] rfl ?_
      intro w20 t12
      have zt12 := t12.z
      have BL_ := BL.ev t12.e (fun i h => show w.heap.size ≤ i by have h : i = w.heap.size := h; omega)
      have D_ := D.ev t12.e (fun i hi => show ¬ (i = w.heap.size) by have := hvl i hi; omega)
      replace BL := BL_; clear BL_
      replace D := D_; clear D_
      replace b2 : Cel w20 w.heap.size 28 [.int .i64 0, .slice none 0 0] := t12.c
      clear t12
      refine sv 3 (.int .i64 180) .of ?_
      simp only [sZ, sS]
      refine wpList_nil ?_
      refine hK40 _ _ ?_
      refine wp_ret ?_
      (try simp only [Exit.then, Exit.inBlock])
      refine bodyPost_ret (rCT rfl _ w.heap.size _ _ (.int .i64 180) (by kernel_rfl) (by kernel_rfl) b2 _ Try.underlying28 rfl (by kernel_rfl)) rfl ?_
      have hQ : readL (nn xs) = none := readLN_no hb fun q ks hr e => by
        have hrn := rightL_n hr
        exact front_no hno1 q (by omega) _ (by rw [e, lB_drop])
      rw [hQ]
      exact ⟨rfl, BL.b⟩

end Go.Proofs.Ytanggdnmoaflfaa
