/-
  ref18.Bytes, ref18.ListBytes as the program's own; ref18.Read.
-/
import Derived.Test.YtanggdnmoaflfaaCertN
import Derived.Test.YtanggdnmoaflfaaRef18B
namespace Go.Proofs.Ytanggdnmoaflfaa
open Go.RowKit
set_option linter.unusedVariables false
set_option linter.unusedSimpArgs false
set_option maxRecDepth 100000
attribute [local irreducible] wpList Code.wp wpAnyZ
theorem r18bytes_bp (key height : Int) (root : List Int) (hr : root.length = 32) (hb : Bytes root) (w : World) :
    Calls Try.prog 13 #[.agg (certL key root height).toArray] w (BytesPost w (rightC key height) (certB key root height)) := by
  rcases Bool.eq_false_or_eq_true (rightC key height) with h | h
  · obtain ⟨a1, a2, a3, a4⟩ := (rightC_iff key height).1 h
    obtain ⟨ns, rfl, hn⟩ := nn_of (fun x hx => (hb x hx).1)
    obtain ⟨k, rfl⟩ := Int.eq_ofNat_of_zero_le (show 0 ≤ key by omega)
    obtain ⟨g, rfl⟩ := Int.eq_ofNat_of_zero_le (show 0 ≤ height by omega)
    refine (r18bytes_any k g ns (by rw [nn_len] at hr; exact hr) w h (by omega) (by omega)).mono ?_
    rintro e w' ⟨u, rfl, hO, hb1⟩
    exact ⟨hb1, .inr ⟨h, u, rfl, hO.cast (by rw [← cB_nn]; simp only [cB, List.append_assoc])⟩⟩
  · refine (r18bytes_no key height root hr w h).mono ?_
    rintro e w' ⟨rfl, hb1⟩
    exact ⟨hb1, .inl ⟨h, rfl⟩⟩
theorem r18listbytes_bp (seq : Int) (v : Value) (xs : List Int) (w : World) (D : SL .i64 w v xs) :
    Calls Try.prog 15 #[.agg #[.int .i64 seq, v]] w (BytesPost w (rightL seq xs) (listB seq xs)) := by
  obtain ⟨A, C, rfl, hm⟩ := D.len
  rcases Bool.eq_false_or_eq_true (rightL seq xs) with h | h
  · obtain ⟨a1, a2, a3⟩ := rightL_all h
    obtain ⟨ns, rfl, hn⟩ := nn_of (fun x hx => by have := a3 x hx; omega : ∀ x ∈ xs, 0 ≤ x)
    obtain ⟨q, rfl⟩ := Int.eq_ofNat_of_zero_le (show 0 ≤ seq by omega)
    obtain ⟨b1, b2, b3⟩ := rightL_n h
    refine (r18listbytes_any q A C ns w D h b1 b2 b3).mono ?_
    rintro e w' ⟨u, rfl, hO, hb1⟩
    exact ⟨hb1, .inr ⟨h, u, rfl, hO.cast (by rw [← lB_nn]; simp only [lB, List.append_assoc])⟩⟩
  · refine (r18listbytes_no seq A C xs w D h).mono ?_
    rintro e w' ⟨rfl, hb1⟩
    exact ⟨hb1, .inl ⟨h, rfl⟩⟩
theorem z32n : (nn (List.replicate 32 0)).length = 32 := by rw [nn_len]; simp
theorem certL_put (k h : Int) (root : List Nat) (i x : Nat) (hl : root.length = 32) (hi : i < 32) : (certL k (nn root) h).set (1 + i) (.int .u8 (x : Int)) = certL k (nn (root.set i x)) h := by
  unfold certL
  rw [Nat.add_comm 1 i, List.set_cons_succ, List.set_append_left _ _ (by rw [List.length_map, nn_len]; omega), ← nn_set, List.map_set]
theorem put_next (s : List Nat) (i : Nat) (h : i < 32) (hs : s.length = 32) : (s.take i ++ List.replicate (32 - i) 0).set i (s.getD i 0) = s.take (i + 1) ++ List.replicate (32 - (i + 1)) 0 := by
  rw [List.set_append_right _ _ (by rw [List.length_take]; omega), List.length_take, Nat.min_eq_left (by omega), Nat.sub_self, show 32 - i = (32 - (i + 1)) + 1 by omega, List.replicate_succ, List.set_cons_zero, List.take_add_one, List.getElem?_eq_getElem (by omega), List.append_assoc, List.getD_eq_getElem?_getD, List.getElem?_eq_getElem (by omega)]
  rfl
theorem drop_getD (xs s : List Nat) (a i : Nat) (h : xs.drop a = s) : xs.getD (a + i) 0 = s.getD i 0 := by
  rw [← h]; simp [List.getD_eq_getElem?_getD, List.getElem?_drop]
theorem certB_bytes {k h : Int} {root : List Int} (hr : Bytes root) (hok : rightC k h = true) : Bytes (certB k root h) := by
  have := bytes_cert (k := k) (h := h) hr
  rwa [okv_true hok] at this
theorem neq_str (a b : List Int) : (if BinOp.neq = BinOp.eql then decide (a = b) else !decide (a = b)) = decide (¬ (a = b)) := by
  rw [if_neg (by decide), decide_not]
attribute [local irreducible] numN numsN valR cB lB certB listB rightC
set_option maxHeartbeats 8000000 in
theorem r18read_any (v : Value) (xs : List Nat) (w : World) (D : SL .u8 w v (nn xs)) (hlx : xs.length ≤ 3000) (hb : ∀ x ∈ xs, x < 256) :
    Calls Try.prog 23 #[v] w (ReadPost w (readC (nn xs))) := by
  have BL := Bl.refl w
  have hvl := D.lt
  go_enter Try.func23, Try.ntmps23
  refine wp_seq_k fun K1 hK1 => ?_
  refine cPlain ?_
  refine xAlloc 2 25 (certL 0 (List.replicate 32 0) 0) rfl (by kernel_rfl) ?_
  intro w1 n1
  have zn1 := n1.z
  have b2 := n1.c
  replace BL := BL.e0 n1.e
  replace D := D.e0 n1.e
  simp only [sZ, sS]
  refine sv 3 (.int .i64 0) .of ?_
  simp only [sZ, sS]
  refine wpList_nil ?_
  refine hK1 _ _ ?_
  refine wp_seq_k fun K2 hK2 => ?_
  refine wp_seq_k fun K3 hK3 => ?_
  refine cPlain ?_
  refine sv 11 (v) .of ?_
  simp only [sZ, sS]
  refine sv 12 (.int .i64 ((xs.length : Nat) : Int)) (Val.lenS (.tmp 11) 29 rfl (by kernel_rfl) D xs.length (nn_len xs) Try.underlying29) ?_
  simp only [sZ, sS]
  refine sv 13 (.bool (decide (((xs.length : Nat) : Int) < 1))) (Val.cmp .lss 3 _ (.tmp 12) _ rfl .i64 ((xs.length : Nat) : Int) 1 (by kernel_rfl) (by kernel_rfl) (by simp) _ rfl) ?_
  simp only [sZ, sS]
  refine wpList_nil ?_
  refine hK3 _ _ ?_
  refine cDec (((xs.length : Nat) : Int) < 1) (by kernel_rfl) (fun c13 => ?_) (fun c13 => ?_)
  · skip
    refine wp_seq_k fun K4 hK4 => ?_
    refine cPlain ?_
    refine sv 14 (.agg (certL 0 (List.replicate 32 0) 0).toArray) .of ?_
    simp only [sZ, sS]
    refine xStoreR 25 _ _ rfl w.heap.size 25 (certL 0 (List.replicate 32 0) 0) 0 (certL 0 (List.replicate 32 0) 0) (by kernel_rfl) (by kernel_rfl) b2 (by kernel_rfl) (by rw [certL_len _ _ _ z32]; omega) (certL_one _ _ _) (certL 0 (List.replicate 32 0) 0) (certL_whole _ _ _ _ _ _ z32 z32) ?_
    intro w2 t1
    have zt1 := t1.z
    have BL_ := BL.ev t1.e (fun i h => show w.heap.size ≤ i by have h : i = w.heap.size := h; omega)
    have D_ := D.ev t1.e (fun i hi => show ¬ (i = w.heap.size) by have := hvl i hi; omega)
    replace BL := BL_; clear BL_
    replace D := D_; clear D_
    replace b2 : Cel w2 w.heap.size 25 (certL 0 (List.replicate 32 0) 0) := t1.c
    clear t1
    refine sv 3 (.int .i64 180) .of ?_
    simp only [sZ, sS]
    refine wpList_nil ?_
    refine hK4 _ _ ?_
    refine wp_ret ?_
    (try simp only [Exit.then, Exit.inBlock])
    refine bodyPost_ret (rCT rfl _ w.heap.size _ _ (.int .i64 180) (by kernel_rfl) (by kernel_rfl) b2 _ Try.underlying25 rfl (by first | (rw [certL_len _ _ _ z32]; kernel_rfl) | (rw [certL_len _ _ _ hs2n]; kernel_rfl))) rfl ?_
    have hQ : readC (nn xs) = none := readCN_no hb fun k h root hk hh hl hr e => by
      rw [e] at c13
      unfold cB at c13
      simp at c13
      omega
    rw [hQ]
    exact ⟨rfl, BL.b⟩
  · skip
    refine wp_skip ?_
    refine hK2 _ _ ?_
    refine wp_seq_k fun K5 hK5 => ?_
    refine cPlain ?_
    refine sv 16 (v) .of ?_
    simp only [sZ, sS]
    refine xCall 17 54 #[v, .int .i64 1] (by kernel_rfl) ?_
    refine (rget_any v xs (1) w1 D (by omega) (by omega) hb).mono ?_
    rintro en w3 ⟨hR1, hb1⟩
    rcases hR1 with ⟨m1, s1, k1, hm1, hl1, hk1, rfl⟩ | ⟨hno1, er1, her1, rfl⟩
    · skip
      obtain ⟨hle1, hd1⟩ := drop_front hl1
      rw [← hk1] at hle1 hd1
      have e1 := belE0 hb1
      have ze1 := e1.size
      replace BL := BL.e0 e1
      replace D := D.e0 e1
      replace b2 := b2.e0 e1
      clear e1
      refine ⟨.tuple #[.int .u64 ((m1 : Nat) : Int), .int .i64 ((1 + k1 : Nat) : Int), .int .i64 0], rfl, ?_⟩
      simp only [sZ, sS]
      refine sv 15 (.tuple #[.int .u64 ((m1 : Nat) : Int), .int .i64 ((1 + k1 : Nat) : Int), .int .i64 0]) .of ?_
      simp only [sZ, sS]
      refine sv 18 (.int .u64 ((m1 : Nat) : Int)) .of ?_
      simp only [sZ, sS]
      refine sv 19 (.int .i64 ((1 + k1 : Nat) : Int)) .of ?_
      simp only [sZ, sS]
      refine sv 20 (.int .i64 0) .of ?_
      simp only [sZ, sS]
      refine sv 4 (.int .u64 ((m1 : Nat) : Int)) .of ?_
      simp only [sZ, sS]
      refine sv 5 (.int .i64 ((1 + k1 : Nat) : Int)) .of ?_
      simp only [sZ, sS]
      refine sv 6 (.int .i64 0) .of ?_
      simp only [sZ, sS]
      refine wpList_nil ?_
      refine hK5 _ _ ?_
      refine wp_seq_k fun K6 hK6 => ?_
      refine wp_seq_k fun K7 hK7 => ?_
      refine cPlain ?_
      refine sv 21 (.int .i64 0) .of ?_
      simp only [sZ, sS]
      refine sv 22 (.bool false) (Val.cmp .neq 37 _ (.tmp 21) _ rfl .i64 0 0 (by kernel_rfl) (by kernel_rfl) (by simp) _ rfl) ?_
      simp only [sZ, sS]
      refine sv 23 (.bool false) .of ?_
      simp only [sZ, sS]
      refine sv 24 (.int .u64 ((m1 : Nat) : Int)) .of ?_
      simp only [sZ, sS]
      refine sv 25 (.bool (decide (1048576 < ((m1 : Nat) : Int)))) (Val.cmp .gtr 84 _ (.tmp 24) _ rfl .u64 ((m1 : Nat) : Int) 1048576 (by kernel_rfl) (by kernel_rfl) (by simp) _ rfl) ?_
      simp only [sZ, sS]
      refine sv 26 (.bool (decide (1048576 < ((m1 : Nat) : Int)))) .of ?_
      simp only [sZ, sS]
      refine wpList_nil ?_
      refine hK7 _ _ ?_
      refine cDec (1048576 < ((m1 : Nat) : Int)) (by kernel_rfl) (fun c26 => ?_) (fun c26 => ?_)
      · skip
        refine wp_seq_k fun K8 hK8 => ?_
        refine cPlain ?_
        refine sv 27 (.agg (certL 0 (List.replicate 32 0) 0).toArray) .of ?_
        simp only [sZ, sS]
        refine xStoreR 25 _ _ rfl w.heap.size 25 (certL 0 (List.replicate 32 0) 0) 0 (certL 0 (List.replicate 32 0) 0) (by kernel_rfl) (by kernel_rfl) b2 (by kernel_rfl) (by rw [certL_len _ _ _ z32]; omega) (certL_one _ _ _) (certL 0 (List.replicate 32 0) 0) (certL_whole _ _ _ _ _ _ z32 z32) ?_
        intro w4 t2
        have zt2 := t2.z
        have BL_ := BL.ev t2.e (fun i h => show w.heap.size ≤ i by have h : i = w.heap.size := h; omega)
        have D_ := D.ev t2.e (fun i hi => show ¬ (i = w.heap.size) by have := hvl i hi; omega)
        replace BL := BL_; clear BL_
        replace D := D_; clear D_
        replace b2 : Cel w4 w.heap.size 25 (certL 0 (List.replicate 32 0) 0) := t2.c
        clear t2
        refine sv 3 (.int .i64 180) .of ?_
        simp only [sZ, sS]
        refine wpList_nil ?_
        refine hK8 _ _ ?_
        refine wp_ret ?_
        (try simp only [Exit.then, Exit.inBlock])
        refine bodyPost_ret (rCT rfl _ w.heap.size _ _ (.int .i64 180) (by kernel_rfl) (by kernel_rfl) b2 _ Try.underlying25 rfl (by first | (rw [certL_len _ _ _ z32]; kernel_rfl) | (rw [certL_len _ _ _ hs2n]; kernel_rfl))) rfl ?_
        have hQ : readC (nn xs) = none := readCN_no hb fun k h root hk hh hl hr e => by
          obtain ⟨a, b⟩ := cB_one hl1 hm1 hk e
          omega
        rw [hQ]
        exact ⟨rfl, BL.b⟩
      · skip
        refine wp_skip ?_
        refine hK6 _ _ ?_
        refine wp_seq_k fun K9 hK9 => ?_
        refine cPlain ?_
        refine sv 29 (v) .of ?_
        simp only [sZ, sS]
        refine sv 30 (.int .i64 ((1 + k1 : Nat) : Int)) .of ?_
        simp only [sZ, sS]
        refine xCall 31 54 #[v, .int .i64 ((1 + k1 : Nat) : Int)] (by kernel_rfl) ?_
        refine (rget_any v xs (1 + k1) w3 D (by omega) (by omega) hb).mono ?_
        rintro en w5 ⟨hR2, hb1⟩
        rcases hR2 with ⟨m2, s2, k2, hm2, hl2, hk2, rfl⟩ | ⟨hno2, er2, her2, rfl⟩
        · skip
          rw [hd1] at hl2
          obtain ⟨hle2, hd2⟩ := drop_front (hd1.trans hl2)
          rw [← hk2] at hle2 hd2
          have hlen2 : xs.length - (1 + k1 + k2) = s2.length := by rw [← hd2, List.length_drop]
          have e2 := belE0 hb1
          have ze2 := e2.size
          replace BL := BL.e0 e2
          replace D := D.e0 e2
          replace b2 := b2.e0 e2
          clear e2
          refine ⟨.tuple #[.int .u64 ((m2 : Nat) : Int), .int .i64 ((1 + k1 + k2 : Nat) : Int), .int .i64 0], rfl, ?_⟩
          simp only [sZ, sS]
          refine sv 28 (.tuple #[.int .u64 ((m2 : Nat) : Int), .int .i64 ((1 + k1 + k2 : Nat) : Int), .int .i64 0]) .of ?_
          simp only [sZ, sS]
          refine sv 32 (.int .u64 ((m2 : Nat) : Int)) .of ?_
          simp only [sZ, sS]
          refine sv 33 (.int .i64 ((1 + k1 + k2 : Nat) : Int)) .of ?_
          simp only [sZ, sS]
          refine sv 34 (.int .i64 0) .of ?_
          simp only [sZ, sS]
          refine sv 7 (.int .u64 ((m2 : Nat) : Int)) .of ?_
          simp only [sZ, sS]
          refine sv 5 (.int .i64 ((1 + k1 + k2 : Nat) : Int)) .of ?_
          simp only [sZ, sS]
          refine sv 6 (.int .i64 0) .of ?_
          simp only [sZ, sS]
          refine wpList_nil ?_
          refine hK9 _ _ ?_
          refine wp_seq_k fun K10 hK10 => ?_
          refine wp_seq_k fun K11 hK11 => ?_
          refine cPlain ?_
          refine sv 35 (.int .i64 0) .of ?_
          simp only [sZ, sS]
          refine sv 36 (.bool false) (Val.cmp .neq 37 _ (.tmp 35) _ rfl .i64 0 0 (by kernel_rfl) (by kernel_rfl) (by simp) _ rfl) ?_
          simp only [sZ, sS]
          refine sv 37 (.bool false) .of ?_
          simp only [sZ, sS]
          refine sv 38 (.int .u64 ((m2 : Nat) : Int)) .of ?_
          simp only [sZ, sS]
          refine sv 39 (.bool (decide (8 < ((m2 : Nat) : Int)))) (Val.cmp .gtr 84 _ (.tmp 38) _ rfl .u64 ((m2 : Nat) : Int) 8 (by kernel_rfl) (by kernel_rfl) (by simp) _ rfl) ?_
          simp only [sZ, sS]
          refine sv 40 (.bool (decide (8 < ((m2 : Nat) : Int)))) .of ?_
          simp only [sZ, sS]
          refine sv 41 (.bool (decide (8 < ((m2 : Nat) : Int)))) .of ?_
          simp only [sZ, sS]
          by_cases g42 : 8 < ((m2 : Nat) : Int)
          · skip
            have dg42 : decide (8 < ((m2 : Nat) : Int)) = true := decide_eq_true g42
            simp only [dg42]
            clear dg42
            refine xSkip 42 ?_
            simp only [sZ, sS]
            refine xSkip 43 ?_
            simp only [sZ, sS]
            refine xSkip 44 ?_
            simp only [sZ, sS]
            refine xSkip 45 ?_
            simp only [sZ, sS]
            refine xSkip 46 ?_
            simp only [sZ, sS]
            refine sv 47 (.bool true) .of ?_
            simp only [sZ, sS]
            refine wpList_nil ?_
            refine hK11 _ _ ?_
            refine cT ?_
            refine wp_seq_k fun K12 hK12 => ?_
            refine cPlain ?_
            refine sv 48 (.agg (certL 0 (List.replicate 32 0) 0).toArray) .of ?_
            simp only [sZ, sS]
            refine xStoreR 25 _ _ rfl w.heap.size 25 (certL 0 (List.replicate 32 0) 0) 0 (certL 0 (List.replicate 32 0) 0) (by kernel_rfl) (by kernel_rfl) b2 (by kernel_rfl) (by rw [certL_len _ _ _ z32]; omega) (certL_one _ _ _) (certL 0 (List.replicate 32 0) 0) (certL_whole _ _ _ _ _ _ z32 z32) ?_
            intro w6 t3
            have zt3 := t3.z
            have BL_ := BL.ev t3.e (fun i h => show w.heap.size ≤ i by have h : i = w.heap.size := h; omega)
            have D_ := D.ev t3.e (fun i hi => show ¬ (i = w.heap.size) by have := hvl i hi; omega)
            replace BL := BL_; clear BL_
            replace D := D_; clear D_
            replace b2 : Cel w6 w.heap.size 25 (certL 0 (List.replicate 32 0) 0) := t3.c
            clear t3
            refine sv 3 (.int .i64 180) .of ?_
            simp only [sZ, sS]
            refine wpList_nil ?_
            refine hK12 _ _ ?_
            refine wp_ret ?_
            (try simp only [Exit.then, Exit.inBlock])
            refine bodyPost_ret (rCT rfl _ w.heap.size _ _ (.int .i64 180) (by kernel_rfl) (by kernel_rfl) b2 _ Try.underlying25 rfl (by first | (rw [certL_len _ _ _ z32]; kernel_rfl) | (rw [certL_len _ _ _ hs2n]; kernel_rfl))) rfl ?_
            have hQ : readC (nn xs) = none := readCN_no hb fun k h root hk hh hl hr e => by
              obtain ⟨a, b, c⟩ := cB_two hl1 hl2 hm1 hm2 hk hh e
              first | omega | (rw [c, hl] at hlen2; omega)
            rw [hQ]
            exact ⟨rfl, BL.b⟩
          · skip
            have dg42 : decide (8 < ((m2 : Nat) : Int)) = false := decide_eq_false g42
            simp only [dg42]
            clear dg42
            refine sv 42 (v) .of ?_
            simp only [sZ, sS]
            refine sv 43 (.int .i64 ((xs.length : Nat) : Int)) (Val.lenS (.tmp 42) 29 rfl (by kernel_rfl) D xs.length (nn_len xs) Try.underlying29) ?_
            simp only [sZ, sS]
            refine sv 44 (.int .i64 ((1 + k1 + k2 : Nat) : Int)) .of ?_
            simp only [sZ, sS]
            refine sv 45 (.int .i64 (((1 + k1 + k2 : Nat) : Int) + 32)) (Val.add 3 _ (.tmp 44) _ rfl ((1 + k1 + k2 : Nat) : Int) 32 (by kernel_rfl) (by kernel_rfl) (by omega)) ?_
            simp only [sZ, sS]
            refine sv 46 (.bool (decide (¬ (((xs.length : Nat) : Int) = (((1 + k1 + k2 : Nat) : Int) + 32))))) (Val.cmp .neq 3 _ (.tmp 43) (.tmp 45) rfl .i64 ((xs.length : Nat) : Int) (((1 + k1 + k2 : Nat) : Int) + 32) (by kernel_rfl) (by kernel_rfl) (by simp) _ (by simp [cmpB])) ?_
            simp only [sZ, sS]
            refine sv 47 (.bool (decide (¬ (((xs.length : Nat) : Int) = (((1 + k1 + k2 : Nat) : Int) + 32))))) .of ?_
            simp only [sZ, sS]
            refine wpList_nil ?_
            refine hK11 _ _ ?_
            refine cDec (¬ (((xs.length : Nat) : Int) = (((1 + k1 + k2 : Nat) : Int) + 32))) (by kernel_rfl) (fun c47 => ?_) (fun c47 => ?_)
            · skip
              refine wp_seq_k fun K13 hK13 => ?_
              refine cPlain ?_
              refine sv 48 (.agg (certL 0 (List.replicate 32 0) 0).toArray) .of ?_
              simp only [sZ, sS]
              refine xStoreR 25 _ _ rfl w.heap.size 25 (certL 0 (List.replicate 32 0) 0) 0 (certL 0 (List.replicate 32 0) 0) (by kernel_rfl) (by kernel_rfl) b2 (by kernel_rfl) (by rw [certL_len _ _ _ z32]; omega) (certL_one _ _ _) (certL 0 (List.replicate 32 0) 0) (certL_whole _ _ _ _ _ _ z32 z32) ?_
              intro w7 t4
              have zt4 := t4.z
              have BL_ := BL.ev t4.e (fun i h => show w.heap.size ≤ i by have h : i = w.heap.size := h; omega)
              have D_ := D.ev t4.e (fun i hi => show ¬ (i = w.heap.size) by have := hvl i hi; omega)
              replace BL := BL_; clear BL_
              replace D := D_; clear D_
              replace b2 : Cel w7 w.heap.size 25 (certL 0 (List.replicate 32 0) 0) := t4.c
              clear t4
              refine sv 3 (.int .i64 180) .of ?_
              simp only [sZ, sS]
              refine wpList_nil ?_
              refine hK13 _ _ ?_
              refine wp_ret ?_
              (try simp only [Exit.then, Exit.inBlock])
              refine bodyPost_ret (rCT rfl _ w.heap.size _ _ (.int .i64 180) (by kernel_rfl) (by kernel_rfl) b2 _ Try.underlying25 rfl (by first | (rw [certL_len _ _ _ z32]; kernel_rfl) | (rw [certL_len _ _ _ hs2n]; kernel_rfl))) rfl ?_
              have hQ : readC (nn xs) = none := readCN_no hb fun k h root hk hh hl hr e => by
                obtain ⟨a, b, c⟩ := cB_two hl1 hl2 hm1 hm2 hk hh e
                first | omega | (rw [c, hl] at hlen2; omega)
              rw [hQ]
              exact ⟨rfl, BL.b⟩
            · skip
              refine wp_skip ?_
              refine hK10 _ _ ?_
              refine wp_seq_k fun K14 hK14 => ?_
              have hs2 : s2.length = 32 := by omega
              have hs2n : (nn s2).length = 32 := by rw [nn_len]; exact hs2
              have hs2b : ∀ x ∈ s2, x < 256 := fun x hx => hb x (by rw [← hd2] at hx; exact List.mem_of_mem_drop hx)
              refine cPlain ?_
              refine sv 49 (.int .u64 ((m1 : Nat) : Int)) .of ?_
              simp only [sZ, sS]
              refine sv 50 (.int .i64 ((m1 : Nat) : Int)) (Val.conv64 84 3 (.tmp 49) rfl Try.underlying84 Try.underlying3 ((m1 : Nat) : Int) (by kernel_rfl) (by omega)) ?_
              simp only [sZ, sS]
              refine sv 51 (.int .u64 ((m2 : Nat) : Int)) .of ?_
              simp only [sZ, sS]
              refine sv 52 (.int .i64 ((m2 : Nat) : Int)) (Val.conv64 84 3 (.tmp 51) rfl Try.underlying84 Try.underlying3 ((m2 : Nat) : Int) (by kernel_rfl) (by omega)) ?_
              simp only [sZ, sS]
              refine sv 53 (.agg (certL ((m1 : Nat) : Int) (nn (List.replicate 32 0)) ((m2 : Nat) : Int)).toArray) .of ?_
              simp only [sZ, sS]
              refine xAlloc 8 25 (certL 0 (List.replicate 32 0) 0) rfl (by kernel_rfl) ?_
              intro w8 n2
              have zn2 := n2.z
              have b8 := n2.c
              replace BL := BL.e0 n2.e
              replace D := D.e0 n2.e
              replace b2 := b2.e0 n2.e
              simp only [sZ, sS]
              refine xStoreR 25 _ _ rfl w5.heap.size 25 (certL 0 (List.replicate 32 0) 0) 0 (certL ((m1 : Nat) : Int) (nn (List.replicate 32 0)) ((m2 : Nat) : Int)) (by kernel_rfl) (by kernel_rfl) b8 (by rw [certL_len _ _ _ z32n]; kernel_rfl) (by rw [certL_len _ _ _ z32, certL_len _ _ _ z32n]; omega) (certL_one _ _ _) (certL ((m1 : Nat) : Int) (nn (List.replicate 32 0)) ((m2 : Nat) : Int)) (certL_whole _ _ _ _ _ _ z32 z32n) ?_
              intro w9 t5
              have zt5 := t5.z
              have BL_ := BL.ev t5.e (fun i h => show w.heap.size ≤ i by have h : i = w5.heap.size := h; omega)
              have D_ := D.ev t5.e (fun i hi => show ¬ (i = w5.heap.size) by have := hvl i hi; omega)
              have b2_ := b2.ev t5.e (show ¬ (w.heap.size = w5.heap.size) by omega)
              replace BL := BL_; clear BL_
              replace D := D_; clear D_
              replace b2 := b2_; clear b2_
              replace b8 : Cel w9 w5.heap.size 25 (certL ((m1 : Nat) : Int) (nn (List.replicate 32 0)) ((m2 : Nat) : Int)) := t5.c
              clear t5
              refine wpList_nil ?_
              refine hK14 _ _ ?_
              refine wp_seq_k fun K15 hK15 => ?_
              refine wp_seq_k fun K16 hK16 => ?_
              refine cPlain ?_
              refine sv 9 (.int .i64 0) .of ?_
              simp only [sZ, sS]
              refine wpList_nil ?_
              refine hK16 _ _ ?_
              refine wp_block ?_
              refine cLoop (fun N_ A_ w_ => ∃ (i : Nat), (N_ = 32 - i ∧ (i ≤ 32) ∧ (∃ s1 : Nat → Value, A_ = ⟨[v, undef, .pointer (some ⟨w.heap.size, 0, none⟩), .int .i64 0, .int .u64 ((m1 : Nat) : Int), .int .i64 ((1 + k1 + k2 : Nat) : Int), .int .i64 0, .int .u64 ((m2 : Nat) : Int), .pointer (some ⟨w5.heap.size, 0, none⟩), .int .i64 ((i : Nat) : Int), undef, v, .int .i64 ((xs.length : Nat) : Int), .bool (decide (((xs.length : Nat) : Int) < 1)), undef, .tuple #[.int .u64 ((m1 : Nat) : Int), .int .i64 ((1 + k1 : Nat) : Int), .int .i64 0], v, .tuple #[.int .u64 ((m1 : Nat) : Int), .int .i64 ((1 + k1 : Nat) : Int), .int .i64 0], .int .u64 ((m1 : Nat) : Int), .int .i64 ((1 + k1 : Nat) : Int), .int .i64 0, .int .i64 0, .bool false, .bool false, .int .u64 ((m1 : Nat) : Int), .bool (decide (1048576 < ((m1 : Nat) : Int))), .bool (decide (1048576 < ((m1 : Nat) : Int))), undef, .tuple #[.int .u64 ((m2 : Nat) : Int), .int .i64 ((1 + k1 + k2 : Nat) : Int), .int .i64 0], v, .int .i64 ((1 + k1 : Nat) : Int), .tuple #[.int .u64 ((m2 : Nat) : Int), .int .i64 ((1 + k1 + k2 : Nat) : Int), .int .i64 0], .int .u64 ((m2 : Nat) : Int), .int .i64 ((1 + k1 + k2 : Nat) : Int), .int .i64 0, .int .i64 0, .bool false, .bool false, .int .u64 ((m2 : Nat) : Int), .bool false, .bool false, .bool false, v, .int .i64 ((xs.length : Nat) : Int), .int .i64 ((1 + k1 + k2 : Nat) : Int), .int .i64 (((1 + k1 + k2 : Nat) : Int) + 32), .bool (decide (¬ (((xs.length : Nat) : Int) = (((1 + k1 + k2 : Nat) : Int) + 32)))), .bool (decide (¬ (((xs.length : Nat) : Int) = (((1 + k1 + k2 : Nat) : Int) + 32)))), undef, .int .u64 ((m1 : Nat) : Int), .int .i64 ((m1 : Nat) : Int), .int .u64 ((m2 : Nat) : Int), .int .i64 ((m2 : Nat) : Int), .agg (certL ((m1 : Nat) : Int) (nn (List.replicate 32 0)) ((m2 : Nat) : Int)).toArray, (s1 54), (s1 55), (s1 56), (s1 57), (s1 58), (s1 59), (s1 60), (s1 61), (s1 62), (s1 63), (s1 64), (s1 65), (s1 66), undef, undef, undef, undef, undef, undef, undef, undef, undef, undef, undef, undef, undef, undef, undef, undef].toArray, []⟩) ∧ Bl w.heap.size w w_ ∧ SL .u8 w_ v (nn xs) ∧ Cel w_ w.heap.size 25 (certL 0 (List.replicate 32 0) 0) ∧ Cel w_ w5.heap.size 25 (certL ((m1 : Nat) : Int) (nn (s2.take i ++ List.replicate (32 - i) 0)) ((m2 : Nat) : Int)) ∧ w9.heap.size ≤ w_.heap.size)) _ ⟨0, rfl, (Nat.zero_le _), cutE, BL, D, b2, (by rw [List.take_zero, List.nil_append]; exact b8), Nat.le_refl _⟩ ?_
              clear BL D b2 b8
              rintro n_ a_ wl0 ⟨i, rfl, hc0_0, ⟨s1, rfl⟩, BL, D, b2, b8, zl0⟩
              refine wp_seq_k fun K17 hK17 => ?_
              refine wp_seq_k fun K18 hK18 => ?_
              refine cPlain ?_
              refine sv 54 (.int .i64 ((i : Nat) : Int)) .of ?_
              simp only [sZ, sS]
              refine sv 55 (.bool (decide (((i : Nat) : Int) < 32))) (Val.cmp .lss 3 _ (.tmp 54) _ rfl .i64 ((i : Nat) : Int) 32 (by kernel_rfl) (by kernel_rfl) (by simp) _ rfl) ?_
              simp only [sZ, sS]
              refine wpList_nil ?_
              refine hK18 _ _ ?_
              refine cDec (((i : Nat) : Int) < 32) (by kernel_rfl) (fun c55 => ?_) (fun c55 => ?_)
              · skip
                refine wp_skip ?_
                refine hK17 _ _ ?_
                refine wp_seq_k fun K19 hK19 => ?_
                refine wp_block ?_
                have hpl : (s2.take i ++ List.replicate (32 - i) 0).length = 32 := by rw [List.length_append, List.length_take, List.length_replicate]; omega
                refine cPlain ?_
                refine sv 58 (.int .i64 ((i : Nat) : Int)) .of ?_
                simp only [sZ, sS]
                refine sv 59 (v) .of ?_
                simp only [sZ, sS]
                refine sv 60 (.int .i64 ((1 + k1 + k2 : Nat) : Int)) .of ?_
                simp only [sZ, sS]
                refine sv 61 (.int .i64 ((i : Nat) : Int)) .of ?_
                simp only [sZ, sS]
                refine sv 62 (.int .i64 ((1 + k1 + k2 + i : Nat) : Int)) (Val.as (Val.add 3 _ (.tmp 60) (.tmp 61) rfl ((1 + k1 + k2 : Nat) : Int) ((i : Nat) : Int) (by kernel_rfl) (by kernel_rfl) (by omega)) (congrArg (Value.int .i64) (by omega))) ?_
                simp only [sZ, sS]
                refine sv 63 (elemP v (1 + k1 + k2 + i)) (Val.idxE 29 (.tmp 59) (.tmp 62) rfl v (1 + k1 + k2 + i) (by kernel_rfl) (by kernel_rfl) D Try.underlying29 (by kernel_rfl) (by rw [nn_len]; omega)) ?_
                simp only [sZ, sS]
                refine sv 64 (.int .u8 ((xs.getD (1 + k1 + k2 + i) 0 : Nat) : Int)) (Val.nldE 5 _ rfl v (1 + k1 + k2 + i) (by kernel_rfl) (fun _ => (by kernel_rfl)) D (by omega)) ?_
                simp only [sZ, sS]
                refine sv 65 (.pointer (some ⟨w5.heap.size, 1, none⟩)) .of ?_
                simp only [sZ, sS]
                refine sv 66 (.pointer (some ⟨w5.heap.size, 1 + i, none⟩)) (Val.idxA1 23 (.tmp 65) (.tmp 58) rfl w5.heap.size 1 i (by kernel_rfl) (by kernel_rfl) Try.underlying23 (by kernel_rfl) (by omega)) ?_
                simp only [sZ, sS]
                refine xStore 5 _ _ rfl w5.heap.size 25 (certL ((m1 : Nat) : Int) (nn (s2.take i ++ List.replicate (32 - i) 0)) ((m2 : Nat) : Int)) (1 + i) (.int .u8 ((xs.getD (1 + k1 + k2 + i) 0 : Nat) : Int)) (by kernel_rfl) (by kernel_rfl) b8 (by kernel_rfl) (by rw [certL_len _ _ _ (by rw [nn_len]; exact hpl)]; omega) rfl (certL ((m1 : Nat) : Int) (nn (s2.take (i + 1) ++ List.replicate (32 - (i + 1)) 0)) ((m2 : Nat) : Int)) (by rw [certL_put _ _ _ _ _ hpl (by omega), drop_getD xs s2 _ _ hd2, put_next s2 i (by omega) hs2]) ?_
                intro w10 t6
                have zt6 := t6.z
                have BL_ := BL.ev t6.e (fun i h => show w.heap.size ≤ i by have h : i = w5.heap.size := h; omega)
                have D_ := D.ev t6.e (fun i hi => show ¬ (i = w5.heap.size) by have := hvl i hi; omega)
                have b2_ := b2.ev t6.e (show ¬ (w.heap.size = w5.heap.size) by omega)
                replace BL := BL_; clear BL_
                replace D := D_; clear D_
                replace b2 := b2_; clear b2_
                replace b8 : Cel w10 w5.heap.size 25 (certL ((m1 : Nat) : Int) (nn (s2.take (i + 1) ++ List.replicate (32 - (i + 1)) 0)) ((m2 : Nat) : Int)) := t6.c
                clear t6
                refine wpList_nil ?_
                refine hK19 _ _ ?_
                refine cPlain ?_
                refine sv 56 (.int .i64 ((i : Nat) : Int)) .of ?_
                simp only [sZ, sS]
                refine sv 57 (.int .i64 ((i + 1 : Nat) : Int)) (Val.as (Val.add 3 _ (.tmp 56) _ rfl ((i : Nat) : Int) 1 (by kernel_rfl) (by kernel_rfl) (by omega)) (congrArg (Value.int .i64) (by omega))) ?_
                simp only [sZ, sS]
                refine sv 9 (.int .i64 ((i + 1 : Nat) : Int)) .of ?_
                simp only [sZ, sS]
                refine wpList_nil ?_
                refine ⟨_, ?_, i + 1, rfl, (by omega), cutE, BL, D, b2, b8, by omega⟩
                omega
              · skip
                refine wp_exit ?_
                simp only [Exit.then, Exit.inBlock, ↓reduceIte, Nat.reduceEqDiff]
                refine hK15 _ _ ?_
                refine wp_seq_k fun K20 hK20 => ?_
                have hi32 : i = 32 := by omega
                have c8 : Cel wl0 w5.heap.size 25 (certL ((m1 : Nat) : Int) (nn s2) ((m2 : Nat) : Int)) := (by rw [hi32, Nat.sub_self, List.replicate_zero, List.append_nil, List.take_of_length_le (by omega)] at b8; exact b8)
                clear b8
                refine cPlain ?_
                refine sv 68 (.agg (certL ((m1 : Nat) : Int) (nn s2) ((m2 : Nat) : Int)).toArray) (Val.cel 25 _ rfl 0 34 (by kernel_rfl) c8 _ Try.underlying25 rfl (by kernel_rfl) (by rw [certL_len _ _ _ hs2n]; omega) _ (certL_seg _ _ _ hs2n)) ?_
                simp only [sZ, sS]
                refine xCall 69 13 #[.agg (certL ((m1 : Nat) : Int) (nn s2) ((m2 : Nat) : Int)).toArray] (by kernel_rfl) ?_
                refine (r18bytes_bp ((m1 : Nat) : Int) ((m2 : Nat) : Int) (nn s2) (by rw [nn_len]; exact hs2) (bytes_nn hs2b) wl0).mono ?_
                rintro en w11 hp
                rcases hp.2 with ⟨hok, rfl⟩ | ⟨hok, u, rfl, hO⟩
                · skip
                  have e3 := belE0 hp.1
                  have ze3 := e3.size
                  replace BL := BL.e0 e3
                  replace D := D.e0 e3
                  replace b2 := b2.e0 e3
                  replace c8 := c8.e0 e3
                  clear e3
                  refine ⟨.tuple #[.slice none 0 0, .int .i64 180], rfl, ?_⟩
                  simp only [sZ, sS]
                  refine sv 67 (.tuple #[.slice none 0 0, .int .i64 180]) .of ?_
                  simp only [sZ, sS]
                  refine sv 70 (.slice none 0 0) .of ?_
                  simp only [sZ, sS]
                  refine sv 71 (.int .i64 180) .of ?_
                  simp only [sZ, sS]
                  refine sv 10 (.slice none 0 0) .of ?_
                  simp only [sZ, sS]
                  refine sv 6 (.int .i64 180) .of ?_
                  simp only [sZ, sS]
                  refine wpList_nil ?_
                  refine hK20 _ _ ?_
                  refine wp_seq_k fun K21 hK21 => ?_
                  refine wp_seq_k fun K22 hK22 => ?_
                  refine cPlain ?_
                  refine sv 72 (.int .i64 180) .of ?_
                  simp only [sZ, sS]
                  refine sv 73 (.bool true) (Val.cmp .neq 37 _ (.tmp 72) _ rfl .i64 180 0 (by kernel_rfl) (by kernel_rfl) (by simp) _ rfl) ?_
                  simp only [sZ, sS]
                  refine sv 74 (.bool true) .of ?_
                  simp only [sZ, sS]
                  refine xSkip 75 ?_
                  simp only [sZ, sS]
                  refine xSkip 76 ?_
                  simp only [sZ, sS]
                  refine xSkip 77 ?_
                  simp only [sZ, sS]
                  refine xSkip 78 ?_
                  simp only [sZ, sS]
                  refine xSkip 79 ?_
                  simp only [sZ, sS]
                  refine sv 80 (.bool true) .of ?_
                  simp only [sZ, sS]
                  refine wpList_nil ?_
                  refine hK22 _ _ ?_
                  refine cT ?_
                  refine wp_seq_k fun K23 hK23 => ?_
                  refine cPlain ?_
                  refine sv 81 (.agg (certL 0 (List.replicate 32 0) 0).toArray) .of ?_
                  simp only [sZ, sS]
                  refine xStoreR 25 _ _ rfl w.heap.size 25 (certL 0 (List.replicate 32 0) 0) 0 (certL 0 (List.replicate 32 0) 0) (by kernel_rfl) (by kernel_rfl) b2 (by kernel_rfl) (by rw [certL_len _ _ _ z32]; omega) (certL_one _ _ _) (certL 0 (List.replicate 32 0) 0) (certL_whole _ _ _ _ _ _ z32 z32) ?_
                  intro w12 t7
                  have zt7 := t7.z
                  have BL_ := BL.ev t7.e (fun i h => show w.heap.size ≤ i by have h : i = w.heap.size := h; omega)
                  have D_ := D.ev t7.e (fun i hi => show ¬ (i = w.heap.size) by have := hvl i hi; omega)
                  have c8_ := c8.ev t7.e (show ¬ (w5.heap.size = w.heap.size) by omega)
                  replace BL := BL_; clear BL_
                  replace D := D_; clear D_
                  replace c8 := c8_; clear c8_
                  replace b2 : Cel w12 w.heap.size 25 (certL 0 (List.replicate 32 0) 0) := t7.c
                  clear t7
                  refine sv 3 (.int .i64 180) .of ?_
                  simp only [sZ, sS]
                  refine wpList_nil ?_
                  refine hK23 _ _ ?_
                  refine wp_ret ?_
                  (try simp only [Exit.then, Exit.inBlock])
                  refine bodyPost_ret (rCT rfl _ w.heap.size _ _ (.int .i64 180) (by kernel_rfl) (by kernel_rfl) b2 _ Try.underlying25 rfl (by first | (rw [certL_len _ _ _ z32]; kernel_rfl) | (rw [certL_len _ _ _ hs2n]; kernel_rfl))) rfl ?_
                  have hQ : readC (nn xs) = none := readCN_no hb fun k h root hk hh hl hr e => by
                    obtain ⟨a, b, c⟩ := cB_two hl1 hl2 hm1 hm2 hk hh e
                    first | (rw [a, b] at hok; rw [hr] at hok; cases hok; done) | (refine c80 ?_; rw [a, b, c, e, cB_nn])
                  rw [hQ]
                  exact ⟨rfl, BL.b⟩
                · skip
                  have e4 := belE0 hp.1
                  have ze4 := e4.size
                  replace BL := BL.e0 e4
                  replace D := D.e0 e4
                  replace b2 := b2.e0 e4
                  replace c8 := c8.e0 e4
                  clear e4
                  have U : Own 5 .u8 wl0.heap.size w11 u (certB ((m1 : Nat) : Int) (nn s2) ((m2 : Nat) : Int)) := hO
                  have lU_1 := U.ge
                  refine ⟨.tuple #[u, .int .i64 0], rfl, ?_⟩
                  simp only [sZ, sS]
                  refine sv 67 (.tuple #[u, .int .i64 0]) .of ?_
                  simp only [sZ, sS]
                  refine sv 70 (u) .of ?_
                  simp only [sZ, sS]
                  refine sv 71 (.int .i64 0) .of ?_
                  simp only [sZ, sS]
                  refine sv 10 (u) .of ?_
                  simp only [sZ, sS]
                  refine sv 6 (.int .i64 0) .of ?_
                  simp only [sZ, sS]
                  refine wpList_nil ?_
                  refine hK20 _ _ ?_
                  refine wp_seq_k fun K24 hK24 => ?_
                  refine wp_seq_k fun K25 hK25 => ?_
                  refine cPlain ?_
                  refine sv 72 (.int .i64 0) .of ?_
                  simp only [sZ, sS]
                  refine sv 73 (.bool false) (Val.cmp .neq 37 _ (.tmp 72) _ rfl .i64 0 0 (by kernel_rfl) (by kernel_rfl) (by simp) _ rfl) ?_
                  simp only [sZ, sS]
                  refine sv 74 (.bool false) .of ?_
                  simp only [sZ, sS]
                  refine sv 75 (u) .of ?_
                  simp only [sZ, sS]
                  refine sv 76 (.string (strOf (certB ((m1 : Nat) : Int) (nn s2) ((m2 : Nat) : Int)))) (Val.str 29 9 5 (.tmp 75) rfl Try.underlying29 Try.underlying5 Try.underlying9 u _ (by kernel_rfl) U.sl) ?_
                  simp only [sZ, sS]
                  refine sv 77 (v) .of ?_
                  simp only [sZ, sS]
                  refine sv 78 (.string (strOf (nn xs))) (Val.str 29 9 5 (.tmp 77) rfl Try.underlying29 Try.underlying5 Try.underlying9 v _ (by kernel_rfl) D) ?_
                  simp only [sZ, sS]
                  refine sv 79 (.bool (decide (¬ (certB ((m1 : Nat) : Int) (nn s2) ((m2 : Nat) : Int) = nn xs)))) (Val.eqStr .neq 9 _ (.tmp 76) (.tmp 78) rfl (certB ((m1 : Nat) : Int) (nn s2) ((m2 : Nat) : Int)) (nn xs) (by kernel_rfl) (by kernel_rfl) (certB_bytes (bytes_nn hs2b) hok) (bytes_nn hb) (.inr rfl) _ (neq_str _ _)) ?_
                  simp only [sZ, sS]
                  refine sv 80 (.bool (decide (¬ (certB ((m1 : Nat) : Int) (nn s2) ((m2 : Nat) : Int) = nn xs)))) .of ?_
                  simp only [sZ, sS]
                  refine wpList_nil ?_
                  refine hK25 _ _ ?_
                  refine cDec (¬ (certB ((m1 : Nat) : Int) (nn s2) ((m2 : Nat) : Int) = nn xs)) (by kernel_rfl) (fun c80 => ?_) (fun c80 => ?_)
                  · skip
                    refine wp_seq_k fun K26 hK26 => ?_
                    refine cPlain ?_
                    refine sv 81 (.agg (certL 0 (List.replicate 32 0) 0).toArray) .of ?_
                    simp only [sZ, sS]
                    refine xStoreR 25 _ _ rfl w.heap.size 25 (certL 0 (List.replicate 32 0) 0) 0 (certL 0 (List.replicate 32 0) 0) (by kernel_rfl) (by kernel_rfl) b2 (by kernel_rfl) (by rw [certL_len _ _ _ z32]; omega) (certL_one _ _ _) (certL 0 (List.replicate 32 0) 0) (certL_whole _ _ _ _ _ _ z32 z32) ?_
                    intro w13 t8
                    have zt8 := t8.z
                    have BL_ := BL.ev t8.e (fun i h => show w.heap.size ≤ i by have h : i = w.heap.size := h; omega)
                    have D_ := D.ev t8.e (fun i hi => show ¬ (i = w.heap.size) by have := hvl i hi; omega)
                    have c8_ := c8.ev t8.e (show ¬ (w5.heap.size = w.heap.size) by omega)
                    have U_ := U.ev t8.e (fun i hi => show ¬ (i = w.heap.size) by have := lU_1 i hi; omega)
                    replace BL := BL_; clear BL_
                    replace D := D_; clear D_
                    replace c8 := c8_; clear c8_
                    replace U := U_; clear U_
                    replace b2 : Cel w13 w.heap.size 25 (certL 0 (List.replicate 32 0) 0) := t8.c
                    clear t8
                    refine sv 3 (.int .i64 180) .of ?_
                    simp only [sZ, sS]
                    refine wpList_nil ?_
                    refine hK26 _ _ ?_
                    refine wp_ret ?_
                    (try simp only [Exit.then, Exit.inBlock])
                    refine bodyPost_ret (rCT rfl _ w.heap.size _ _ (.int .i64 180) (by kernel_rfl) (by kernel_rfl) b2 _ Try.underlying25 rfl (by first | (rw [certL_len _ _ _ z32]; kernel_rfl) | (rw [certL_len _ _ _ hs2n]; kernel_rfl))) rfl ?_
                    have hQ : readC (nn xs) = none := readCN_no hb fun k h root hk hh hl hr e => by
                      obtain ⟨a, b, c⟩ := cB_two hl1 hl2 hm1 hm2 hk hh e
                      first | (rw [a, b] at hok; rw [hr] at hok; cases hok; done) | (refine c80 ?_; rw [a, b, c, e, cB_nn])
                    rw [hQ]
                    exact ⟨rfl, BL.b⟩
                  · skip
                    refine wp_skip ?_
                    refine hK24 _ _ ?_
                    refine wp_seq_k fun K27 hK27 => ?_
                    refine cPlain ?_
                    refine sv 82 (.agg (certL ((m1 : Nat) : Int) (nn s2) ((m2 : Nat) : Int)).toArray) (Val.cel 25 _ rfl 0 34 (by kernel_rfl) c8 _ Try.underlying25 rfl (by kernel_rfl) (by rw [certL_len _ _ _ hs2n]; omega) _ (certL_seg _ _ _ hs2n)) ?_
                    simp only [sZ, sS]
                    refine xStoreR 25 _ _ rfl w.heap.size 25 (certL 0 (List.replicate 32 0) 0) 0 (certL ((m1 : Nat) : Int) (nn s2) ((m2 : Nat) : Int)) (by kernel_rfl) (by kernel_rfl) b2 (by rw [certL_len _ _ _ hs2n]; kernel_rfl) (by rw [certL_len _ _ _ z32, certL_len _ _ _ hs2n]; omega) (certL_one _ _ _) (certL ((m1 : Nat) : Int) (nn s2) ((m2 : Nat) : Int)) (certL_whole _ _ _ _ _ _ z32 hs2n) ?_
                    intro w14 t9
                    have zt9 := t9.z
                    have BL_ := BL.ev t9.e (fun i h => show w.heap.size ≤ i by have h : i = w.heap.size := h; omega)
                    have D_ := D.ev t9.e (fun i hi => show ¬ (i = w.heap.size) by have := hvl i hi; omega)
                    have c8_ := c8.ev t9.e (show ¬ (w5.heap.size = w.heap.size) by omega)
                    have U_ := U.ev t9.e (fun i hi => show ¬ (i = w.heap.size) by have := lU_1 i hi; omega)
                    replace BL := BL_; clear BL_
                    replace D := D_; clear D_
                    replace c8 := c8_; clear c8_
                    replace U := U_; clear U_
                    replace b2 : Cel w14 w.heap.size 25 (certL ((m1 : Nat) : Int) (nn s2) ((m2 : Nat) : Int)) := t9.c
                    clear t9
                    refine sv 3 (.int .i64 0) .of ?_
                    simp only [sZ, sS]
                    refine wpList_nil ?_
                    refine hK27 _ _ ?_
                    refine wp_ret ?_
                    (try simp only [Exit.then, Exit.inBlock])
                    refine bodyPost_ret (rCT rfl _ w.heap.size _ _ (.int .i64 0) (by kernel_rfl) (by kernel_rfl) b2 _ Try.underlying25 rfl (by first | (rw [certL_len _ _ _ z32]; kernel_rfl) | (rw [certL_len _ _ _ hs2n]; kernel_rfl))) rfl ?_
                    have hQ : readC (nn xs) = some (((m1 : Nat) : Int), nn s2, ((m2 : Nat) : Int)) := readCN_put xs m1 m2 s2 (nn_inj (by rw [cB_nn]; exact (Classical.not_not.1 c80).symm)) hs2 hok
                    rw [hQ]
                    exact ⟨rfl, BL.b⟩
        · skip
          rw [hd1] at hno2
          have e5 := belE0 hb1
          have ze5 := e5.size
          replace BL := BL.e0 e5
          replace D := D.e0 e5
          replace b2 := b2.e0 e5
          clear e5
          refine ⟨.tuple #[.int .u64 0, .int .i64 0, .int .i64 er2], rfl, ?_⟩
          simp only [sZ, sS]
          refine sv 28 (.tuple #[.int .u64 0, .int .i64 0, .int .i64 er2]) .of ?_
          simp only [sZ, sS]
          refine sv 32 (.int .u64 0) .of ?_
          simp only [sZ, sS]
          refine sv 33 (.int .i64 0) .of ?_
          simp only [sZ, sS]
          refine sv 34 (.int .i64 er2) .of ?_
          simp only [sZ, sS]
          refine sv 7 (.int .u64 0) .of ?_
          simp only [sZ, sS]
          refine sv 5 (.int .i64 0) .of ?_
          simp only [sZ, sS]
          refine sv 6 (.int .i64 er2) .of ?_
          simp only [sZ, sS]
          refine wpList_nil ?_
          refine hK9 _ _ ?_
          refine wp_seq_k fun K28 hK28 => ?_
          refine wp_seq_k fun K29 hK29 => ?_
          refine cPlain ?_
          refine sv 35 (.int .i64 er2) .of ?_
          simp only [sZ, sS]
          refine sv 36 (.bool true) (Val.cmp .neq 37 _ (.tmp 35) _ rfl .i64 er2 0 (by kernel_rfl) (by kernel_rfl) (by simp) _ (by simp [cmpB, her2])) ?_
          simp only [sZ, sS]
          refine sv 37 (.bool true) .of ?_
          simp only [sZ, sS]
          refine xSkip 38 ?_
          simp only [sZ, sS]
          refine xSkip 39 ?_
          simp only [sZ, sS]
          refine sv 40 (.bool true) .of ?_
          simp only [sZ, sS]
          refine sv 41 (.bool true) .of ?_
          simp only [sZ, sS]
          refine xSkip 42 ?_
          simp only [sZ, sS]
          refine xSkip 43 ?_
          simp only [sZ, sS]
          refine xSkip 44 ?_
          simp only [sZ, sS]
          refine xSkip 45 ?_
          simp only [sZ, sS]
          refine xSkip 46 ?_
          simp only [sZ, sS]
          refine sv 47 (.bool true) .of ?_
          simp only [sZ, sS]
          refine wpList_nil ?_
          refine hK29 _ _ ?_
          refine cT ?_
          refine wp_seq_k fun K30 hK30 => ?_
          refine cPlain ?_
          refine sv 48 (.agg (certL 0 (List.replicate 32 0) 0).toArray) .of ?_
          simp only [sZ, sS]
          refine xStoreR 25 _ _ rfl w.heap.size 25 (certL 0 (List.replicate 32 0) 0) 0 (certL 0 (List.replicate 32 0) 0) (by kernel_rfl) (by kernel_rfl) b2 (by kernel_rfl) (by rw [certL_len _ _ _ z32]; omega) (certL_one _ _ _) (certL 0 (List.replicate 32 0) 0) (certL_whole _ _ _ _ _ _ z32 z32) ?_
          intro w15 t10
          have zt10 := t10.z
          have BL_ := BL.ev t10.e (fun i h => show w.heap.size ≤ i by have h : i = w.heap.size := h; omega)
          have D_ := D.ev t10.e (fun i hi => show ¬ (i = w.heap.size) by have := hvl i hi; omega)
          replace BL := BL_; clear BL_
          replace D := D_; clear D_
          replace b2 : Cel w15 w.heap.size 25 (certL 0 (List.replicate 32 0) 0) := t10.c
          clear t10
          refine sv 3 (.int .i64 180) .of ?_
          simp only [sZ, sS]
          refine wpList_nil ?_
          refine hK30 _ _ ?_
          refine wp_ret ?_
          (try simp only [Exit.then, Exit.inBlock])
          refine bodyPost_ret (rCT rfl _ w.heap.size _ _ (.int .i64 180) (by kernel_rfl) (by kernel_rfl) b2 _ Try.underlying25 rfl (by first | (rw [certL_len _ _ _ z32]; kernel_rfl) | (rw [certL_len _ _ _ hs2n]; kernel_rfl))) rfl ?_
          have hQ : readC (nn xs) = none := readCN_no hb fun k h root hk hh hl hr e => by
            obtain ⟨a, b⟩ := cB_one hl1 hm1 hk e
            exact front_no hno2 h (by omega) _ b
          rw [hQ]
          exact ⟨rfl, BL.b⟩
    · skip
      have e6 := belE0 hb1
      have ze6 := e6.size
      replace BL := BL.e0 e6
      replace D := D.e0 e6
      replace b2 := b2.e0 e6
      clear e6
      refine ⟨.tuple #[.int .u64 0, .int .i64 0, .int .i64 er1], rfl, ?_⟩
      simp only [sZ, sS]
      refine sv 15 (.tuple #[.int .u64 0, .int .i64 0, .int .i64 er1]) .of ?_
      simp only [sZ, sS]
      refine sv 18 (.int .u64 0) .of ?_
      simp only [sZ, sS]
      refine sv 19 (.int .i64 0) .of ?_
      simp only [sZ, sS]
      refine sv 20 (.int .i64 er1) .of ?_
      simp only [sZ, sS]
      refine sv 4 (.int .u64 0) .of ?_
      simp only [sZ, sS]
      refine sv 5 (.int .i64 0) .of ?_
      simp only [sZ, sS]
      refine sv 6 (.int .i64 er1) .of ?_
      simp only [sZ, sS]
      refine wpList_nil ?_
      refine hK5 _ _ ?_
      refine wp_seq_k fun K31 hK31 => ?_
      refine wp_seq_k fun K32 hK32 => ?_
      refine cPlain ?_
      refine sv 21 (.int .i64 er1) .of ?_
      simp only [sZ, sS]
      refine sv 22 (.bool true) (Val.cmp .neq 37 _ (.tmp 21) _ rfl .i64 er1 0 (by kernel_rfl) (by kernel_rfl) (by simp) _ (by simp [cmpB, her1])) ?_
      simp only [sZ, sS]
      refine sv 23 (.bool true) .of ?_
      simp only [sZ, sS]
      refine xSkip 24 ?_
      simp only [sZ, sS]
      refine xSkip 25 ?_
      simp only [sZ, sS]
      refine sv 26 (.bool true) .of ?_
      simp only [sZ, sS]
      refine wpList_nil ?_
      refine hK32 _ _ ?_
      refine cT ?_
      refine wp_seq_k fun K33 hK33 => ?_
      refine cPlain ?_
      refine sv 27 (.agg (certL 0 (List.replicate 32 0) 0).toArray) .of ?_
      simp only [sZ, sS]
      refine xStoreR 25 _ _ rfl w.heap.size 25 (certL 0 (List.replicate 32 0) 0) 0 (certL 0 (List.replicate 32 0) 0) (by kernel_rfl) (by kernel_rfl) b2 (by kernel_rfl) (by rw [certL_len _ _ _ z32]; omega) (certL_one _ _ _) (certL 0 (List.replicate 32 0) 0) (certL_whole _ _ _ _ _ _ z32 z32) ?_
      intro w16 t11
      have zt11 := t11.z
      have BL_ := BL.ev t11.e (fun i h => show w.heap.size ≤ i by have h : i = w.heap.size := h; omega)
      have D_ := D.ev t11.e (fun i hi => show ¬ (i = w.heap.size) by have := hvl i hi; omega)
      replace BL := BL_; clear BL_
      replace D := D_; clear D_
      replace b2 : Cel w16 w.heap.size 25 (certL 0 (List.replicate 32 0) 0) := t11.c
      clear t11
      refine sv 3 (.int .i64 180) .of ?_
      simp only [sZ, sS]
      refine wpList_nil ?_
      refine hK33 _ _ ?_
      refine wp_ret ?_
      (try simp only [Exit.then, Exit.inBlock])
      refine bodyPost_ret (rCT rfl _ w.heap.size _ _ (.int .i64 180) (by kernel_rfl) (by kernel_rfl) b2 _ Try.underlying25 rfl (by first | (rw [certL_len _ _ _ z32]; kernel_rfl) | (rw [certL_len _ _ _ hs2n]; kernel_rfl))) rfl ?_
      have hQ : readC (nn xs) = none := readCN_no hb fun k h root hk hh hl hr e => by
        exact front_no hno1 k (by omega) _ (by rw [e, cB_drop])
      rw [hQ]
      exact ⟨rfl, BL.b⟩

end Go.Proofs.Ytanggdnmoaflfaa
