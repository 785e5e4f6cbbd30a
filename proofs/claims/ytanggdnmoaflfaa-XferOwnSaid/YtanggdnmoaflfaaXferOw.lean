/-
  XferOwn, the walk.
-/
import Derived.Test.YtanggdnmoaflfaaXferQ
import Derived.Test.YtanggdnmoaflfaaPk1
namespace Go.Proofs.Ytanggdnmoaflfaa
open Go.RowKit
set_option linter.unusedVariables false
set_option linter.unusedSimpArgs false
set_option maxRecDepth 100000
attribute [local irreducible] wpList Code.wp wpAnyZ
theorem own_y {b : List Nat} {K : Nat} (h1 : 1 ≤ b.length) (h2 : b.length ≤ 100) (hK : K < 100) : putX (List.replicate 200 0) [] ((K : Nat) : Int) b = (layB (List.replicate 200 0) K b, [(((K : Nat) : Int), ((K : Nat) : Int) + (b.length : Nat))], 0) ∧ rightX (layB (List.replicate 200 0) K b) [(((K : Nat) : Int), ((K : Nat) : Int) + (b.length : Nat))] = true := by
  have hr := rightX_begin 200 (by omega)
  have hl : (List.replicate 200 0 : List Nat).length = 200 := List.length_replicate
  have hp := putX_ok (a := K) (b := b) hr h1 (by omega) (by rw [hl]; omega) (fun k _ _ hk => by cases hk)
  have hq := putX_right (a := K) (b := b) hr h1 (by rw [hl]; omega)
  exact ⟨hp, hq⟩
theorem own_z {b : List Nat} {K : Nat} (h1 : 1 ≤ b.length) (h2 : b.length ≤ 100) (hK : K < 100) : putX (layB (List.replicate 200 0) K b) [(((K : Nat) : Int), ((K : Nat) : Int) + (b.length : Nat))] 199 [1] = (layB (layB (List.replicate 200 0) K b) 199 [1], putS (199, 199 + 1) [(((K : Nat) : Int), ((K : Nat) : Int) + (b.length : Nat))], 0) := by
  have hl : (layB (List.replicate 200 0) K b).length = 200 := by rw [layB_len (by rw [List.length_replicate]; omega), List.length_replicate]
  exact putX_ok (a := 199) (b := [1]) (own_y h1 h2 hK).2 (by simp) (by simp) (by rw [hl]; simp) (fun k k1 k2 hk => by
    simp only [memS, Bool.or_false, decide_eq_true_eq] at hk
    omega)
theorem own_many {b : List Nat} {K : Nat} (h1 : 1 ≤ b.length) (h2 : b.length ≤ 100) (hK : K < 100) : manyX (layB (List.replicate 200 0) K b) [(((K : Nat) : Int), ((K : Nat) : Int) + (b.length : Nat))] = b.length := by
  unfold manyX
  rw [if_pos (own_y h1 h2 hK).2]
  simp only [manyS]; omega
theorem own_get {b : List Nat} {K : Nat} (h1 : 1 ≤ b.length) (h2 : b.length ≤ 100) (hK : K < 100) : (layB (List.replicate 200 0) K b).getD K 0 = b.getD 0 0 := by
  rw [layB_get (by rw [List.length_replicate]; omega), if_pos (by omega), Nat.sub_self]
theorem own_len {b : List Nat} {K : Nat} (h2 : b.length ≤ 100) (hK : K < 100) : (layB (List.replicate 200 0) K b).length = 200 := by rw [layB_len (by rw [List.length_replicate]; omega), List.length_replicate]
theorem own_len2 {b : List Nat} {K : Nat} (h2 : b.length ≤ 100) (hK : K < 100) : (layB (layB (List.replicate 200 0) K b) 199 [1]).length = 200 := by rw [layB_len (by rw [own_len h2 hK]; simp), own_len h2 hK]
theorem own_zero (K : Nat) : (List.replicate 200 0 : List Nat).getD K 0 = 0 := by
  rw [List.getD_eq_getElem?_getD, List.getElem?_replicate]; split <;> rfl
theorem own_x : manyX (List.replicate 200 0) [] = 0 := by unfold manyX; split <;> rfl
attribute [local irreducible] layB putX manyX putS
set_option maxHeartbeats 4000000 in
theorem xferOwn_walk (w : World) (A : Option Addr) (C t : Nat) (b : List Nat) (D : SL .u8 w (.slice A b.length C) (nn b)) (ht : t < 256) :
    Calls Try.prog 4 #[.slice A b.length C, .int .u8 ((t : Nat) : Int)] w fun e w' => e = .returned (.bool true) ∧ Below w.heap.size w w' := by
  have BL := Bl.refl w
  have hdl := D.lt
  have hnb := nn_len b
  have hma : b.length ≤ maxLen := by obtain ⟨_, _, _, hm⟩ := D.len; rwa [nn_len] at hm
  unfold maxLen at hma
  have hK : t % 100 < 100 := Nat.mod_lt _ (by omega)
  go_enter Try.func4, Try.ntmps4
  refine wp_seq_k fun K1 hK1 => ?_
  refine cPlain ?_
  refine sv 4 (.bool false) .of ?_
  simp only [List.set_cons_zero, List.set_cons_succ]
  refine wpList_nil ?_
  refine hK1 _ _ ?_
  refine wp_seq_k fun K2 hK2 => ?_
  refine wp_seq_k fun K3 hK3 => ?_
  refine cPlain ?_
  refine sv 13 (.slice A b.length C) .of ?_
  simp only [List.set_cons_zero, List.set_cons_succ]
  refine sv 14 (.int .i64 (b.length : Int)) .of ?_
  simp only [List.set_cons_zero, List.set_cons_succ]
  refine sv 15 (.bool (decide ((b.length : Int) = 0))) (Val.cmp .eql 3 _ (.tmp 14) _ rfl .i64 (b.length : Int) 0 (by kernel_rfl) (by kernel_rfl) (by simp) _ rfl) ?_
  simp only [List.set_cons_zero, List.set_cons_succ]
  refine sv 16 (.bool (decide ((b.length : Int) = 0))) .of ?_
  simp only [List.set_cons_zero, List.set_cons_succ]
  by_cases g17 : (b.length : Int) = 0
  · skip
    have dg17 : decide ((b.length : Int) = 0) = true := decide_eq_true g17
    simp only [dg17]
    clear dg17
    refine xSkip 17 ?_
    simp only [List.set_cons_zero, List.set_cons_succ]
    refine xSkip 18 ?_
    simp only [List.set_cons_zero, List.set_cons_succ]
    refine xSkip 19 ?_
    simp only [List.set_cons_zero, List.set_cons_succ]
    refine sv 20 (.bool true) .of ?_
    simp only [List.set_cons_zero, List.set_cons_succ]
    refine wpList_nil ?_
    refine hK3 _ _ ?_
    refine cT ?_
    refine wp_seq_k fun K4 hK4 => ?_
    refine cPlain ?_
    refine xCall 21 31 #[] (by kernel_rfl) ?_
    refine (awake24 w).mono ?_
    rintro en w1 ⟨rfl, hb1⟩
    have e1 := belE0 hb1
    have ze1 := e1.size
    replace BL := BL.e0 e1
    replace D := D.e0 e1
    clear e1
    refine ⟨.bool true, rfl, ?_⟩
    simp only [List.set_cons_zero, List.set_cons_succ]
    refine sv 4 (.bool true) .of ?_
    simp only [List.set_cons_zero, List.set_cons_succ]
    refine wpList_nil ?_
    refine hK4 _ _ ?_
    refine wp_ret ?_
    (try simp only [Exit.then, Exit.inBlock])
    refine bodyPost_ret (v := .bool true) rT rfl ?_
    exact ⟨rfl, BL.b⟩
  · skip
    have dg17 : decide ((b.length : Int) = 0) = false := decide_eq_false g17
    simp only [dg17]
    clear dg17
    refine sv 17 (.slice A b.length C) .of ?_
    simp only [List.set_cons_zero, List.set_cons_succ]
    refine sv 18 (.int .i64 (b.length : Int)) .of ?_
    simp only [List.set_cons_zero, List.set_cons_succ]
    refine sv 19 (.bool (decide (100 < (b.length : Int)))) (Val.cmp .gtr 3 _ (.tmp 18) _ rfl .i64 (b.length : Int) 100 (by kernel_rfl) (by kernel_rfl) (by simp) _ rfl) ?_
    simp only [List.set_cons_zero, List.set_cons_succ]
    refine sv 20 (.bool (decide (100 < (b.length : Int)))) .of ?_
    simp only [List.set_cons_zero, List.set_cons_succ]
    refine wpList_nil ?_
    refine hK3 _ _ ?_
    refine cDec (100 < (b.length : Int)) (by kernel_rfl) (fun c20 => ?_) (fun c20 => ?_)
    · skip
      refine wp_seq_k fun K5 hK5 => ?_
      refine cPlain ?_
      refine xCall 21 31 #[] (by kernel_rfl) ?_
      refine (awake24 w).mono ?_
      rintro en w2 ⟨rfl, hb1⟩
      have e2 := belE0 hb1
      have ze2 := e2.size
      replace BL := BL.e0 e2
      replace D := D.e0 e2
      clear e2
      refine ⟨.bool true, rfl, ?_⟩
      simp only [List.set_cons_zero, List.set_cons_succ]
      refine sv 4 (.bool true) .of ?_
      simp only [List.set_cons_zero, List.set_cons_succ]
      refine wpList_nil ?_
      refine hK5 _ _ ?_
      refine wp_ret ?_
      (try simp only [Exit.then, Exit.inBlock])
      refine bodyPost_ret (v := .bool true) rT rfl ?_
      exact ⟨rfl, BL.b⟩
    · skip
      have h1 : 1 ≤ b.length := by omega
      have h2 : b.length ≤ 100 := by omega
      have hyl := own_len (b := b) (K := (t % 100)) h2 hK
      have hzl := own_len2 (b := b) (K := (t % 100)) h2 hK
      have hnyl := nn_len (layB (List.replicate 200 0) (t % 100) b)
      have hnzl := nn_len (layB (layB (List.replicate 200 0) (t % 100) b) 199 [1])
      have hnr := nn_len (List.replicate 200 0)
      have hnr2 : (List.replicate 200 0 : List Nat).length = 200 := List.length_replicate
      refine wp_skip ?_
      refine hK2 _ _ ?_
      refine wp_seq_k fun K6 hK6 => ?_
      refine cPlain ?_
      refine xCall 23 32 #[.int .i64 200] (by kernel_rfl) ?_
      refine (begin_any 200 (by omega) w).mono ?_
      rintro en w3 ⟨⟨dv0, rfl, O1⟩, hb1⟩
      obtain ⟨X0, Y0, hq⟩ := O1.len
      rw [nn_len, List.length_replicate] at hq
      subst hq
      have O2 := OwnE.nil 70 .i64 2 w.heap.size w3
      have e3 := belE0 hb1
      have ze3 := e3.size
      replace BL := BL.e0 e3
      replace D := D.e0 e3
      clear e3
      have lO1_1 := O1.ge
      have lO2_1 := O2.ge
      refine ⟨.tuple #[.agg #[.slice X0 200 Y0, .slice none 0 0], .int .i64 0], rfl, ?_⟩
      simp only [List.set_cons_zero, List.set_cons_succ]
      refine sv 22 (.tuple #[.agg #[.slice X0 200 Y0, .slice none 0 0], .int .i64 0]) .of ?_
      simp only [List.set_cons_zero, List.set_cons_succ]
      refine sv 24 (.agg #[.slice X0 200 Y0, .slice none 0 0]) .of ?_
      simp only [List.set_cons_zero, List.set_cons_succ]
      refine sv 25 (.int .i64 0) .of ?_
      simp only [List.set_cons_zero, List.set_cons_succ]
      refine xAlloc 5 56 [.slice none 0 0, .slice none 0 0] rfl (by kernel_rfl) ?_
      intro w4 n1
      have zn1 := n1.z
      have b5 := n1.c
      replace BL := BL.e0 n1.e
      replace D := D.e0 n1.e
      replace O1 := O1.e0 n1.e
      replace O2 := O2.e0 n1.e
      simp only [List.set_cons_zero, List.set_cons_succ]
      refine xStoreR 56 (.tmp 5) (.tmp 24) rfl w3.heap.size 56 [.slice none 0 0, .slice none 0 0] 0 [.slice X0 200 Y0, .slice none 0 0] (by kernel_rfl) (by kernel_rfl) b5 (by kernel_rfl) (by simp) rfl [.slice X0 200 Y0, .slice none 0 0] rfl ?_
      intro w5 t1
      have zt1 := t1.z
      have BL_ := BL.ev t1.e (fun i h => show w.heap.size ≤ i by have h : i = w3.heap.size := h; omega)
      have D_ := D.ev t1.e (fun i hi => show ¬ (i = w3.heap.size) by have := hdl i hi; omega)
      have O1_ := O1.ev t1.e (fun i hi => show ¬ (i = w3.heap.size) by have := lO1_1 i hi; omega)
      have O2_ := O2.ev t1.e (fun i hi => show ¬ (i = w3.heap.size) by have := lO2_1 i hi; omega)
      replace BL := BL_; clear BL_
      replace D := D_; clear D_
      replace O1 := O1_; clear O1_
      replace O2 := O2_; clear O2_
      replace b5 : Cel w5 w3.heap.size 56 [.slice X0 200 Y0, .slice none 0 0] := t1.c
      clear t1
      refine sv 6 (.int .i64 0) .of ?_
      simp only [List.set_cons_zero, List.set_cons_succ]
      refine wpList_nil ?_
      refine hK6 _ _ ?_
      refine wp_seq_k fun K7 hK7 => ?_
      refine cPlain ?_
      refine xLit 26 29 5 0 _ #[] [] rfl (by kernel_rfl) (by kernel_rfl) ?_
      intro w6 nw
      have e4 : E0 w5 w6 := nw.e
      have ze4 := e4.size
      replace BL := BL.e0 e4
      replace D := D.e0 e4
      replace O1 := O1.e0 e4
      replace O2 := O2.e0 e4
      replace b5 := b5.e0 e4
      clear e4
      have OA : Own 5 .u8 w5.heap.size w6 (.slice (some ⟨w5.heap.size, 0, none⟩) 0 0) [] := Own.ofNw0 nw (Nat.le_refl _)
      have lOA_1 := OA.ge
      simp only [List.set_cons_zero, List.set_cons_succ]
      refine sv 27 (.slice A b.length C) .of ?_
      simp only [List.set_cons_zero, List.set_cons_succ]
      refine xApp 28 (.tmp 26) (.tmp 27) 29 5 .u8 1 rfl Try.underlying29 (by kernel_rfl) w5.heap.size (.slice (some ⟨w5.heap.size, 0, none⟩) 0 0) [] (by kernel_rfl) OA (.slice A b.length C) (nn b) (by kernel_rfl) D ?va1_1 ?va1_2 ?va1_3 ?_
      case va1_1 => simp only [List.length_nil]; omega
      case va1_2 => unfold maxLen; simp only [List.length_nil]; omega
      case va1_3 => omega
      intro va1 w7 rva1 e5
      have ze5 := e5.size
      have BL_ := BL.ev e5 (fun i h => by have := lOA_1 _ h; omega)
      have D_ := D.ev e5 (fun i hi h => by have := hdl i hi; have := lOA_1 _ h; omega)
      have O1_ := O1.ev e5 (fun i hi h => by have := lO1_1 i hi; have := lOA_1 _ h; omega)
      have O2_ := O2.ev e5 (fun i hi h => by have := lO2_1 i hi; have := lOA_1 _ h; omega)
      have b5_ := b5.ev e5 (fun h => by have := lOA_1 _ h; omega)
      replace BL := BL_; clear BL_
      replace D := D_; clear D_
      replace O1 := O1_; clear O1_
      replace O2 := O2_; clear O2_
      replace b5 := b5_; clear b5_
      rw [List.nil_append] at rva1
      replace OA := rva1
      clear rva1 e5
      have lOA_2 := OA.ge
      simp only [List.set_cons_zero, List.set_cons_succ]
      refine sv 7 (va1) .of ?_
      simp only [List.set_cons_zero, List.set_cons_succ]
      refine wpList_nil ?_
      refine hK7 _ _ ?_
      refine wp_seq_k fun K8 hK8 => ?_
      refine cPlain ?_
      refine sv 30 (.agg #[.slice X0 200 Y0, .slice none 0 0]) (Val.cel 56 _ rfl 0 2 (by kernel_rfl) b5 _ Try.underlying56 rfl (by kernel_rfl) (by simp) [.slice X0 200 Y0, .slice none 0 0] rfl) ?_
      simp only [List.set_cons_zero, List.set_cons_succ]
      refine sv 31 (.int .u8 ((t : Nat) : Int)) .of ?_
      simp only [List.set_cons_zero, List.set_cons_succ]
      refine sv 32 (.int .u8 ((t % 100 : Nat) : Int)) (Val.remN 5 _ (.tmp 31) _ rfl .u8 t 100 (by kernel_rfl) (by kernel_rfl) (by omega)) ?_
      simp only [List.set_cons_zero, List.set_cons_succ]
      refine sv 33 (.int .i64 ((t % 100 : Nat) : Int)) (Val.conv64 5 3 (.tmp 32) rfl Try.underlying5 Try.underlying3 ((t % 100 : Nat) : Int) (by kernel_rfl) (by omega)) ?_
      simp only [List.set_cons_zero, List.set_cons_succ]
      refine sv 34 (va1) .of ?_
      simp only [List.set_cons_zero, List.set_cons_succ]
      refine xCall 35 33 #[.agg #[.slice X0 200 Y0, .slice none 0 0], .int .i64 ((t % 100 : Nat) : Int), va1] (by kernel_rfl) ?_
      refine (put_any _ _ _ (((t % 100) : Nat) : Int) (by omega) (List.replicate 200 0) b [] w7 O1.sl OA.sl O2.se (by rw [List.length_replicate]; omega) (by decide)).mono ?_
      rintro en w8 ⟨⟨dv1, hv1, he, P1, Q1⟩, hb1⟩
      rw [(own_y h1 h2 hK).1] at he P1 Q1
      simp only [] at he P1 Q1
      obtain ⟨X1, Y1, hq⟩ := P1.len
      rw [nn_len, own_len h2 hK] at hq
      subst hq
      obtain ⟨Z1, T1, hq, _⟩ := Q1.len
      rw [spS_len] at hq
      subst hq
      subst he
      have e6 := belE0 hb1
      have ze6 := e6.size
      replace BL := BL.e0 e6
      replace D := D.e0 e6
      replace O1 := O1.e0 e6
      replace O2 := O2.e0 e6
      replace b5 := b5.e0 e6
      replace OA := OA.e0 e6
      clear e6
      have lP1_1 := P1.ge
      have lQ1_1 := Q1.ge
      refine ⟨.tuple #[.agg #[.slice X1 200 Y1, .slice Z1 ([((((t % 100) : Nat) : Int), (((t % 100) : Nat) : Int) + (b.length : Nat))]).length T1], .int .i64 0], rfl, ?_⟩
      simp only [List.set_cons_zero, List.set_cons_succ]
      refine sv 29 (.tuple #[.agg #[.slice X1 200 Y1, .slice Z1 ([((((t % 100) : Nat) : Int), (((t % 100) : Nat) : Int) + (b.length : Nat))]).length T1], .int .i64 0]) .of ?_
      simp only [List.set_cons_zero, List.set_cons_succ]
      refine sv 36 (.agg #[.slice X1 200 Y1, .slice Z1 ([((((t % 100) : Nat) : Int), (((t % 100) : Nat) : Int) + (b.length : Nat))]).length T1]) .of ?_
      simp only [List.set_cons_zero, List.set_cons_succ]
      refine sv 37 (.int .i64 0) .of ?_
      simp only [List.set_cons_zero, List.set_cons_succ]
      refine xAlloc 8 56 [.slice none 0 0, .slice none 0 0] rfl (by kernel_rfl) ?_
      intro w9 n2
      have zn2 := n2.z
      have b8 := n2.c
      replace BL := BL.e0 n2.e
      replace D := D.e0 n2.e
      replace O1 := O1.e0 n2.e
      replace O2 := O2.e0 n2.e
      replace b5 := b5.e0 n2.e
      replace OA := OA.e0 n2.e
      replace P1 := P1.e0 n2.e
      replace Q1 := Q1.e0 n2.e
      simp only [List.set_cons_zero, List.set_cons_succ]
      refine xStoreR 56 (.tmp 8) (.tmp 36) rfl w8.heap.size 56 [.slice none 0 0, .slice none 0 0] 0 [.slice X1 200 Y1, .slice Z1 ([((((t % 100) : Nat) : Int), (((t % 100) : Nat) : Int) + (b.length : Nat))]).length T1] (by kernel_rfl) (by kernel_rfl) b8 (by kernel_rfl) (by simp) rfl [.slice X1 200 Y1, .slice Z1 ([((((t % 100) : Nat) : Int), (((t % 100) : Nat) : Int) + (b.length : Nat))]).length T1] rfl ?_
      intro w10 t2
      have zt2 := t2.z
      have BL_ := BL.ev t2.e (fun i h => show w.heap.size ≤ i by have h : i = w8.heap.size := h; omega)
      have D_ := D.ev t2.e (fun i hi => show ¬ (i = w8.heap.size) by have := hdl i hi; omega)
      have O1_ := O1.ev t2.e (fun i hi => show ¬ (i = w8.heap.size) by have := lO1_1 i hi; omega)
      have O2_ := O2.ev t2.e (fun i hi => show ¬ (i = w8.heap.size) by have := lO2_1 i hi; omega)
      have b5_ := b5.ev t2.e (show ¬ (w3.heap.size = w8.heap.size) by omega)
      have OA_ := OA.ev t2.e (fun i hi => show ¬ (i = w8.heap.size) by have := lOA_2 i hi; omega)
      have P1_ := P1.ev t2.e (fun i hi => show ¬ (i = w8.heap.size) by have := lP1_1 i hi; omega)
      have Q1_ := Q1.ev t2.e (fun i hi => show ¬ (i = w8.heap.size) by have := lQ1_1 i hi; omega)
      replace BL := BL_; clear BL_
      replace D := D_; clear D_
      replace O1 := O1_; clear O1_
      replace O2 := O2_; clear O2_
      replace b5 := b5_; clear b5_
      replace OA := OA_; clear OA_
      replace P1 := P1_; clear P1_
      replace Q1 := Q1_; clear Q1_
      replace b8 : Cel w10 w8.heap.size 56 [.slice X1 200 Y1, .slice Z1 ([((((t % 100) : Nat) : Int), (((t % 100) : Nat) : Int) + (b.length : Nat))]).length T1] := t2.c
      clear t2
      refine sv 9 (.int .i64 0) .of ?_
      simp only [List.set_cons_zero, List.set_cons_succ]
      refine wpList_nil ?_
      refine hK8 _ _ ?_
      refine wp_seq_k fun K9 hK9 => ?_
      refine wp_seq_k fun K10 hK10 => ?_
      refine cPlain ?_
      refine sv 38 (.int .i64 0) .of ?_
      simp only [List.set_cons_zero, List.set_cons_succ]
      refine sv 39 (.bool false) (Val.cmp .neq 37 _ (.tmp 38) _ rfl .i64 0 0 (by kernel_rfl) (by kernel_rfl) (by simp) _ rfl) ?_
      simp only [List.set_cons_zero, List.set_cons_succ]
      refine sv 40 (.bool false) .of ?_
      simp only [List.set_cons_zero, List.set_cons_succ]
      refine sv 41 (.int .i64 0) .of ?_
      simp only [List.set_cons_zero, List.set_cons_succ]
      refine sv 42 (.bool false) (Val.cmp .neq 37 _ (.tmp 41) _ rfl .i64 0 0 (by kernel_rfl) (by kernel_rfl) (by simp) _ rfl) ?_
      simp only [List.set_cons_zero, List.set_cons_succ]
      refine sv 43 (.bool false) .of ?_
      simp only [List.set_cons_zero, List.set_cons_succ]
      refine sv 44 (.bool false) .of ?_
      simp only [List.set_cons_zero, List.set_cons_succ]
      refine sv 45 (.pointer (some ⟨w8.heap.size, 0, none⟩)) .of ?_
      simp only [List.set_cons_zero, List.set_cons_succ]
      refine sv 46 (.slice X1 200 Y1) (Val.cel1 29 _ rfl w8.heap.size 0 _ (by kernel_rfl) (fun _ => (by kernel_rfl)) b8 rfl) ?_
      simp only [List.set_cons_zero, List.set_cons_succ]
      refine sv 47 (.int .i64 (200 : Int)) .of ?_
      simp only [List.set_cons_zero, List.set_cons_succ]
      refine sv 48 (.bool false) (Val.cmp .neq 3 _ (.tmp 47) _ rfl .i64 (200 : Int) 200 (by kernel_rfl) (by kernel_rfl) (by simp) _ (by decide)) ?_
      simp only [List.set_cons_zero, List.set_cons_succ]
      refine sv 49 (.bool false) .of ?_
      simp only [List.set_cons_zero, List.set_cons_succ]
      refine wpList_nil ?_
      refine hK10 _ _ ?_
      refine cF ?_
      refine wp_skip ?_
      refine hK9 _ _ ?_
      refine wp_seq_k fun K11 hK11 => ?_
      refine cPlain ?_
      refine sv 50 (.int .u8 ((t : Nat) : Int)) .of ?_
      simp only [List.set_cons_zero, List.set_cons_succ]
      refine sv 51 (.int .u8 ((t % 100 : Nat) : Int)) (Val.remN 5 _ (.tmp 50) _ rfl .u8 t 100 (by kernel_rfl) (by kernel_rfl) (by omega)) ?_
      simp only [List.set_cons_zero, List.set_cons_succ]
      refine sv 52 (.int .i64 ((t % 100 : Nat) : Int)) (Val.conv64 5 3 (.tmp 51) rfl Try.underlying5 Try.underlying3 ((t % 100 : Nat) : Int) (by kernel_rfl) (by omega)) ?_
      simp only [List.set_cons_zero, List.set_cons_succ]
      refine sv 10 (.int .i64 ((t % 100 : Nat) : Int)) .of ?_
      simp only [List.set_cons_zero, List.set_cons_succ]
      refine wpList_nil ?_
      refine hK11 _ _ ?_
      refine wp_seq_k fun K12 hK12 => ?_
      refine cPlain ?_
      refine sv 53 (va1) .of ?_
      simp only [List.set_cons_zero, List.set_cons_succ]
      refine sv 54 (elemP va1 0) (Val.idxE 29 (.tmp 53) _ rfl va1 0 (by kernel_rfl) (by kernel_rfl) OA.sl Try.underlying29 (by kernel_rfl) (by omega)) ?_
      simp only [List.set_cons_zero, List.set_cons_succ]
      refine sv 55 (.int .u8 ((b.getD 0 0 : Nat) : Int)) (Val.nldE 5 _ rfl va1 0 (by kernel_rfl) (fun _ => (by kernel_rfl)) OA.sl (by omega)) ?_
      simp only [List.set_cons_zero, List.set_cons_succ]
      refine sv 56 (.int .u8 ((((b.getD 0 0) ^^^ 255) % 256 : Nat) : Int)) (Val.xorN 5 _ (.tmp 55) _ rfl .u8 (b.getD 0 0) 255 256 (by kernel_rfl) (by kernel_rfl)) ?_
      simp only [List.set_cons_zero, List.set_cons_succ]
      refine sv 57 (elemP va1 0) (Val.idxE 29 (.tmp 53) _ rfl va1 0 (by kernel_rfl) (by kernel_rfl) OA.sl Try.underlying29 (by kernel_rfl) (by omega)) ?_
      simp only [List.set_cons_zero, List.set_cons_succ]
      refine xStoreE 5 (.tmp 57) (.tmp 56) rfl va1 0 ((((b.getD 0 0) ^^^ 255) % 256 : Nat) : Int) (by kernel_rfl) (by kernel_rfl) OA (by kernel_rfl) (by omega) ?_
      intro w11 OA_ e7 ze7
      have BL_ := BL.ev e7 (fun i h => by have := lOA_2 _ h; omega)
      have D_ := D.ev e7 (fun i hi h => by have := hdl i hi; have := lOA_2 _ h; omega)
      have O1_ := O1.ev e7 (fun i hi h => by have := lO1_1 i hi; have := lOA_2 _ h; omega)
      have O2_ := O2.ev e7 (fun i hi h => by have := lO2_1 i hi; have := lOA_2 _ h; omega)
      have b5_ := b5.ev e7 (fun h => by have := lOA_2 _ h; omega)
      have P1_ := P1.ev e7 (fun i hi h => by have := lP1_1 i hi; have := lOA_2 _ h; omega)
      have Q1_ := Q1.ev e7 (fun i hi h => by have := lQ1_1 i hi; have := lOA_2 _ h; omega)
      have b8_ := b8.ev e7 (fun h => by have := lOA_2 _ h; omega)
      replace BL := BL_; clear BL_
      replace D := D_; clear D_
      replace O1 := O1_; clear O1_
      replace O2 := O2_; clear O2_
      replace b5 := b5_; clear b5_
      replace P1 := P1_; clear P1_
      replace Q1 := Q1_; clear Q1_
      replace b8 := b8_; clear b8_
      replace OA := OA_; clear OA_ e7
      refine wpList_nil ?_
      refine hK12 _ _ ?_
      refine wp_seq_k fun K13 hK13 => ?_
      refine cPlain ?_
      refine sv 59 (.agg #[.slice X1 200 Y1, .slice Z1 ([((((t % 100) : Nat) : Int), (((t % 100) : Nat) : Int) + (b.length : Nat))]).length T1]) (Val.cel 56 _ rfl 0 2 (by kernel_rfl) b8 _ Try.underlying56 rfl (by kernel_rfl) (by simp) [.slice X1 200 Y1, .slice Z1 ([((((t % 100) : Nat) : Int), (((t % 100) : Nat) : Int) + (b.length : Nat))]).length T1] rfl) ?_
      simp only [List.set_cons_zero, List.set_cons_succ]
      refine xLit 60 29 5 1 _ #[(0, .int .u8 1)] [.int .u8 1] rfl (by kernel_rfl) (by kernel_rfl) ?_
      intro w12 n3
      have zn3 := n3.z
      have b60 := n3.c
      replace b60 : Blk .u8 w12 w11.heap.size 5 [1] := b60
      replace BL := BL.e0 n3.e
      replace D := D.e0 n3.e
      replace O1 := O1.e0 n3.e
      replace O2 := O2.e0 n3.e
      replace b5 := b5.e0 n3.e
      replace OA := OA.e0 n3.e
      replace P1 := P1.e0 n3.e
      replace Q1 := Q1.e0 n3.e
      replace b8 := b8.e0 n3.e
      have sb60 : SL .u8 w12 (.slice (some ⟨w11.heap.size, 0, none⟩) 1 1) [1] := SL.ofBlk b60 rfl (by unfold maxLen; omega)
      have lb60 : ∀ i, Value.ownBlock (.slice (some ⟨w11.heap.size, 0, none⟩) 1 1) = some i → w11.heap.size ≤ i ∧ i < w12.heap.size := ownB_lit (by omega)
      simp only [List.set_cons_zero, List.set_cons_succ]
      refine xCall 61 33 #[.agg #[.slice X1 200 Y1, .slice Z1 ([((((t % 100) : Nat) : Int), (((t % 100) : Nat) : Int) + (b.length : Nat))]).length T1], .int .i64 199, .slice (some ⟨w11.heap.size, 0, none⟩) 1 1] (by kernel_rfl) ?_
      refine (put_any _ _ _ 199 (by decide) (layB (List.replicate 200 0) (t % 100) b) [1] [((((t % 100) : Nat) : Int), (((t % 100) : Nat) : Int) + (b.length : Nat))] w12 P1.sl sb60 Q1.se (by rw [own_len h2 hK]; omega) (by simp)).mono ?_
      rintro en w13 ⟨⟨dv3, hv3, he, P3, Q3⟩, hb1⟩
      rw [own_z h1 h2 hK] at he P3 Q3
      simp only [] at he P3 Q3
      obtain ⟨X3, Y3, hq⟩ := P3.len
      rw [nn_len, own_len2 h2 hK] at hq
      subst hq
      obtain ⟨Z3, T3, hq, _⟩ := Q3.len
      rw [spS_len] at hq
      subst hq
      subst he
      have e8 := belE0 hb1
      have ze8 := e8.size
      replace BL := BL.e0 e8
      replace D := D.e0 e8
      replace O1 := O1.e0 e8
      replace O2 := O2.e0 e8
      replace b5 := b5.e0 e8
      replace OA := OA.e0 e8
      replace P1 := P1.e0 e8
      replace Q1 := Q1.e0 e8
      replace b8 := b8.e0 e8
      replace b60 := b60.e0 e8
      replace sb60 := sb60.e0 e8
      clear e8
      have lP3_1 := P3.ge
      refine ⟨.tuple #[.agg #[.slice X3 200 Y3, .slice Z3 ((putS (199, 199 + 1) [((((t % 100) : Nat) : Int), (((t % 100) : Nat) : Int) + (b.length : Nat))])).length T3], .int .i64 0], rfl, ?_⟩
      simp only [List.set_cons_zero, List.set_cons_succ]
      refine sv 58 (.tuple #[.agg #[.slice X3 200 Y3, .slice Z3 ((putS (199, 199 + 1) [((((t % 100) : Nat) : Int), (((t % 100) : Nat) : Int) + (b.length : Nat))])).length T3], .int .i64 0]) .of ?_
      simp only [List.set_cons_zero, List.set_cons_succ]
      refine sv 62 (.agg #[.slice X3 200 Y3, .slice Z3 ((putS (199, 199 + 1) [((((t % 100) : Nat) : Int), (((t % 100) : Nat) : Int) + (b.length : Nat))])).length T3]) .of ?_
      simp only [List.set_cons_zero, List.set_cons_succ]
      refine sv 63 (.int .i64 0) .of ?_
      simp only [List.set_cons_zero, List.set_cons_succ]
      refine xAlloc 11 56 [.slice none 0 0, .slice none 0 0] rfl (by kernel_rfl) ?_
      intro w14 n4
      have zn4 := n4.z
      have b11 := n4.c
      replace BL := BL.e0 n4.e
      replace D := D.e0 n4.e
      replace O1 := O1.e0 n4.e
      replace O2 := O2.e0 n4.e
      replace b5 := b5.e0 n4.e
      replace OA := OA.e0 n4.e
      replace P1 := P1.e0 n4.e
      replace Q1 := Q1.e0 n4.e
      replace b8 := b8.e0 n4.e
      replace b60 := b60.e0 n4.e
      replace sb60 := sb60.e0 n4.e
      replace P3 := P3.e0 n4.e
      simp only [List.set_cons_zero, List.set_cons_succ]
      refine xStoreR 56 (.tmp 11) (.tmp 62) rfl w13.heap.size 56 [.slice none 0 0, .slice none 0 0] 0 [.slice X3 200 Y3, .slice Z3 ((putS (199, 199 + 1) [((((t % 100) : Nat) : Int), (((t % 100) : Nat) : Int) + (b.length : Nat))])).length T3] (by kernel_rfl) (by kernel_rfl) b11 (by kernel_rfl) (by simp) rfl [.slice X3 200 Y3, .slice Z3 ((putS (199, 199 + 1) [((((t % 100) : Nat) : Int), (((t % 100) : Nat) : Int) + (b.length : Nat))])).length T3] rfl ?_
      intro w15 t3
      have zt3 := t3.z
      have BL_ := BL.ev t3.e (fun i h => show w.heap.size ≤ i by have h : i = w13.heap.size := h; omega)
      have D_ := D.ev t3.e (fun i hi => show ¬ (i = w13.heap.size) by have := hdl i hi; omega)
      have O1_ := O1.ev t3.e (fun i hi => show ¬ (i = w13.heap.size) by have := lO1_1 i hi; omega)
      have O2_ := O2.ev t3.e (fun i hi => show ¬ (i = w13.heap.size) by have := lO2_1 i hi; omega)
      have b5_ := b5.ev t3.e (show ¬ (w3.heap.size = w13.heap.size) by omega)
      have OA_ := OA.ev t3.e (fun i hi => show ¬ (i = w13.heap.size) by have := lOA_2 i hi; omega)
      have P1_ := P1.ev t3.e (fun i hi => show ¬ (i = w13.heap.size) by have := lP1_1 i hi; omega)
      have Q1_ := Q1.ev t3.e (fun i hi => show ¬ (i = w13.heap.size) by have := lQ1_1 i hi; omega)
      have b8_ := b8.ev t3.e (show ¬ (w8.heap.size = w13.heap.size) by omega)
      have b60_ := b60.ev t3.e (show ¬ (w11.heap.size = w13.heap.size) by omega)
      have sb60_ := sb60.ev t3.e (fun i hi => show ¬ (i = w13.heap.size) by have := lb60 i hi; omega)
      have P3_ := P3.ev t3.e (fun i hi => show ¬ (i = w13.heap.size) by have := lP3_1 i hi; omega)
      replace BL := BL_; clear BL_
      replace D := D_; clear D_
      replace O1 := O1_; clear O1_
      replace O2 := O2_; clear O2_
      replace b5 := b5_; clear b5_
      replace OA := OA_; clear OA_
      replace P1 := P1_; clear P1_
      replace Q1 := Q1_; clear Q1_
      replace b8 := b8_; clear b8_
      replace b60 := b60_; clear b60_
      replace sb60 := sb60_; clear sb60_
      replace P3 := P3_; clear P3_
      replace b11 : Cel w15 w13.heap.size 56 [.slice X3 200 Y3, .slice Z3 ((putS (199, 199 + 1) [((((t % 100) : Nat) : Int), (((t % 100) : Nat) : Int) + (b.length : Nat))])).length T3] := t3.c
      clear t3
      refine sv 12 (.int .i64 0) .of ?_
      simp only [List.set_cons_zero, List.set_cons_succ]
      refine wpList_nil ?_
      refine hK13 _ _ ?_
      refine wp_seq_k fun K14 hK14 => ?_
      refine wp_seq_k fun K15 hK15 => ?_
      refine cPlain ?_
      refine sv 64 (.int .i64 0) .of ?_
      simp only [List.set_cons_zero, List.set_cons_succ]
      refine sv 65 (.bool false) (Val.cmp .neq 37 _ (.tmp 64) _ rfl .i64 0 0 (by kernel_rfl) (by kernel_rfl) (by simp) _ rfl) ?_
      simp only [List.set_cons_zero, List.set_cons_succ]
      refine sv 66 (.bool false) .of ?_
      simp only [List.set_cons_zero, List.set_cons_succ]
      refine sv 67 (.pointer (some ⟨w13.heap.size, 0, none⟩)) .of ?_
      simp only [List.set_cons_zero, List.set_cons_succ]
      refine sv 68 (.slice X3 200 Y3) (Val.cel1 29 _ rfl w13.heap.size 0 _ (by kernel_rfl) (fun _ => (by kernel_rfl)) b11 rfl) ?_
      simp only [List.set_cons_zero, List.set_cons_succ]
      refine sv 69 (.int .i64 (200 : Int)) .of ?_
      simp only [List.set_cons_zero, List.set_cons_succ]
      refine sv 70 (.bool false) (Val.cmp .neq 3 _ (.tmp 69) _ rfl .i64 (200 : Int) 200 (by kernel_rfl) (by kernel_rfl) (by simp) _ (by decide)) ?_
      simp only [List.set_cons_zero, List.set_cons_succ]
      refine sv 71 (.bool false) .of ?_
      simp only [List.set_cons_zero, List.set_cons_succ]
      refine wpList_nil ?_
      refine hK15 _ _ ?_
      refine cF ?_
      refine wp_skip ?_
      refine hK14 _ _ ?_
      refine wp_seq_k fun K16 hK16 => ?_
      refine cPlain ?_
      refine sv 72 (.pointer (some ⟨w13.heap.size, 0, none⟩)) .of ?_
      simp only [List.set_cons_zero, List.set_cons_succ]
      refine sv 73 (.slice X3 200 Y3) (Val.cel1 29 _ rfl w13.heap.size 0 _ (by kernel_rfl) (fun _ => (by kernel_rfl)) b11 rfl) ?_
      simp only [List.set_cons_zero, List.set_cons_succ]
      refine sv 74 (.int .i64 ((t % 100 : Nat) : Int)) .of ?_
      simp only [List.set_cons_zero, List.set_cons_succ]
      refine sv 75 (elemP (.slice X3 200 Y3) (t % 100)) (Val.idxE 29 (.tmp 73) (.tmp 74) rfl (.slice X3 200 Y3) (t % 100) (by kernel_rfl) (by kernel_rfl) P3.sl Try.underlying29 (by kernel_rfl) (by omega)) ?_
      simp only [List.set_cons_zero, List.set_cons_succ]
      refine sv 76 (.int .u8 (((layB (layB (List.replicate 200 0) (t % 100) b) 199 [1]).getD (t % 100) 0 : Nat) : Int)) (Val.nldE 5 _ rfl (.slice X3 200 Y3) (t % 100) (by kernel_rfl) (fun _ => (by kernel_rfl)) P3.sl (by omega)) ?_
      simp only [List.set_cons_zero, List.set_cons_succ]
      refine sv 77 (.int .u8 (((((layB (layB (List.replicate 200 0) (t % 100) b) 199 [1]).getD (t % 100) 0) ^^^ 255) % 256 : Nat) : Int)) (Val.xorN 5 _ (.tmp 76) _ rfl .u8 ((layB (layB (List.replicate 200 0) (t % 100) b) 199 [1]).getD (t % 100) 0) 255 256 (by kernel_rfl) (by kernel_rfl)) ?_
      simp only [List.set_cons_zero, List.set_cons_succ]
      refine sv 78 (elemP (.slice X3 200 Y3) (t % 100)) (Val.idxE 29 (.tmp 73) (.tmp 74) rfl (.slice X3 200 Y3) (t % 100) (by kernel_rfl) (by kernel_rfl) P3.sl Try.underlying29 (by kernel_rfl) (by omega)) ?_
      simp only [List.set_cons_zero, List.set_cons_succ]
      refine xStoreE 5 (.tmp 78) (.tmp 77) rfl (.slice X3 200 Y3) (t % 100) (((((layB (layB (List.replicate 200 0) (t % 100) b) 199 [1]).getD (t % 100) 0) ^^^ 255) % 256 : Nat) : Int) (by kernel_rfl) (by kernel_rfl) P3 (by kernel_rfl) (by omega) ?_
      intro w16 P3_ e9 ze9
      have BL_ := BL.ev e9 (fun i h => by have := lP3_1 _ h; omega)
      have D_ := D.ev e9 (fun i hi h => by have := hdl i hi; have := lP3_1 _ h; omega)
      have O1_ := O1.ev e9 (fun i hi h => by have := lO1_1 i hi; have := lP3_1 _ h; omega)
      have O2_ := O2.ev e9 (fun i hi h => by have := lO2_1 i hi; have := lP3_1 _ h; omega)
      have b5_ := b5.ev e9 (fun h => by have := lP3_1 _ h; omega)
      have OA_ := OA.ev e9 (fun i hi h => by have := lOA_2 i hi; have := lP3_1 _ h; omega)
      have P1_ := P1.ev e9 (fun i hi h => by have := lP1_1 i hi; have := lP3_1 _ h; omega)
      have Q1_ := Q1.ev e9 (fun i hi h => by have := lQ1_1 i hi; have := lP3_1 _ h; omega)
      have b8_ := b8.ev e9 (fun h => by have := lP3_1 _ h; omega)
      have b60_ := b60.ev e9 (fun h => by have := lP3_1 _ h; omega)
      have sb60_ := sb60.ev e9 (fun i hi h => by have := lb60 i hi; have := lP3_1 _ h; omega)
      have b11_ := b11.ev e9 (fun h => by have := lP3_1 _ h; omega)
      replace BL := BL_; clear BL_
      replace D := D_; clear D_
      replace O1 := O1_; clear O1_
      replace O2 := O2_; clear O2_
      replace b5 := b5_; clear b5_
      replace OA := OA_; clear OA_
      replace P1 := P1_; clear P1_
      replace Q1 := Q1_; clear Q1_
      replace b8 := b8_; clear b8_
      replace b60 := b60_; clear b60_
      replace sb60 := sb60_; clear sb60_
      replace b11 := b11_; clear b11_
      replace P3 := P3_; clear P3_ e9
      refine wpList_nil ?_
      refine hK16 _ _ ?_
      refine wp_seq_k fun K17 hK17 => ?_
      have e10 := drew_e0 w16
      refine zg (fun w_ => Bl w.heap.size w w_ ∧ SL .u8 w_ (.slice A b.length C) (nn b) ∧ Own 5 .u8 w.heap.size w_ (.slice X0 200 Y0) (nn (List.replicate 200 0)) ∧ OwnE 70 .i64 2 w.heap.size w_ (.slice none 0 0) (spS []) ∧ Cel w_ w3.heap.size 56 [.slice X0 200 Y0, .slice none 0 0] ∧ Own 5 .u8 w5.heap.size w_ va1 ((nn b).set 0 ((((b.getD 0 0) ^^^ 255) % 256 : Nat) : Int)) ∧ Own 5 .u8 w7.heap.size w_ (.slice X1 200 Y1) (nn (layB (List.replicate 200 0) (t % 100) b)) ∧ OwnE 70 .i64 2 w7.heap.size w_ (.slice Z1 ([((((t % 100) : Nat) : Int), (((t % 100) : Nat) : Int) + (b.length : Nat))]).length T1) (spS [((((t % 100) : Nat) : Int), (((t % 100) : Nat) : Int) + (b.length : Nat))]) ∧ Cel w_ w8.heap.size 56 [.slice X1 200 Y1, .slice Z1 ([((((t % 100) : Nat) : Int), (((t % 100) : Nat) : Int) + (b.length : Nat))]).length T1] ∧ Blk .u8 w_ w11.heap.size 5 [1] ∧ SL .u8 w_ (.slice (some ⟨w11.heap.size, 0, none⟩) 1 1) [1] ∧ Own 5 .u8 w12.heap.size w_ (.slice X3 200 Y3) ((nn (layB (layB (List.replicate 200 0) (t % 100) b) 199 [1])).set (t % 100) (((((layB (layB (List.replicate 200 0) (t % 100) b) 199 [1]).getD (t % 100) 0) ^^^ 255) % 256 : Nat) : Int)) ∧ Cel w_ w13.heap.size 56 [.slice X3 200 Y3, .slice Z3 ((putS (199, 199 + 1) [((((t % 100) : Nat) : Int), (((t % 100) : Nat) : Int) + (b.length : Nat))])).length T3] ∧ w16.heap.size ≤ w_.heap.size) (fun w_ => Bl w.heap.size w w_ ∧ SL .u8 w_ (.slice A b.length C) (nn b) ∧ Own 5 .u8 w.heap.size w_ (.slice X0 200 Y0) (nn (List.replicate 200 0)) ∧ OwnE 70 .i64 2 w.heap.size w_ (.slice none 0 0) (spS []) ∧ Cel w_ w3.heap.size 56 [.slice X0 200 Y0, .slice none 0 0] ∧ Own 5 .u8 w5.heap.size w_ va1 ((nn b).set 0 ((((b.getD 0 0) ^^^ 255) % 256 : Nat) : Int)) ∧ Own 5 .u8 w7.heap.size w_ (.slice X1 200 Y1) (nn (layB (List.replicate 200 0) (t % 100) b)) ∧ OwnE 70 .i64 2 w7.heap.size w_ (.slice Z1 ([((((t % 100) : Nat) : Int), (((t % 100) : Nat) : Int) + (b.length : Nat))]).length T1) (spS [((((t % 100) : Nat) : Int), (((t % 100) : Nat) : Int) + (b.length : Nat))]) ∧ Cel w_ w8.heap.size 56 [.slice X1 200 Y1, .slice Z1 ([((((t % 100) : Nat) : Int), (((t % 100) : Nat) : Int) + (b.length : Nat))]).length T1] ∧ Blk .u8 w_ w11.heap.size 5 [1] ∧ SL .u8 w_ (.slice (some ⟨w11.heap.size, 0, none⟩) 1 1) [1] ∧ Own 5 .u8 w12.heap.size w_ (.slice X3 200 Y3) ((nn (layB (layB (List.replicate 200 0) (t % 100) b) 199 [1])).set (t % 100) (((((layB (layB (List.replicate 200 0) (t % 100) b) 199 [1]).getD (t % 100) 0) ^^^ 255) % 256 : Nat) : Int)) ∧ Cel w_ w13.heap.size 56 [.slice X3 200 Y3, .slice Z3 ((putS (199, 199 + 1) [((((t % 100) : Nat) : Int), (((t % 100) : Nat) : Int) + (b.length : Nat))])).length T3] ∧ w16.heap.size ≤ w_.heap.size) 100000 33 ⟨BL.e0 e10, D.e0 e10, O1.e0 e10, O2.e0 e10, b5.e0 e10, OA.e0 e10, P1.e0 e10, Q1.e0 e10, b8.e0 e10, b60.e0 e10, sb60.e0 e10, P3.e0 e10, b11.e0 e10, Nat.le_refl _⟩ ?_
      clear BL D O1 O2 b5 OA P1 Q1 b8 b60 sb60 P3 b11
      clear e10
      intro w17
      rintro ⟨BL, D, O1, O2, b5, OA, P1, Q1, b8, b60, sb60, P3, b11, z1⟩
      refine zv 0 79 (.pointer (some ⟨w8.heap.size, 0, none⟩)) (fun _ _ => .of) ⟨BL, D, O1, O2, b5, OA, P1, Q1, b8, b60, sb60, P3, b11, by omega⟩ ?_
      simp only [List.set_cons_zero, List.set_cons_succ]
      refine zv 1 80 (.slice X1 200 Y1) (fun _ ⟨BL, D, O1, O2, b5, OA, P1, Q1, b8, b60, sb60, P3, b11, z1⟩ => Val.cel1 29 _ rfl w8.heap.size 0 _ (by kernel_rfl) (fun _ => (by kernel_rfl)) b8 rfl) ⟨BL, D, O1, O2, b5, OA, P1, Q1, b8, b60, sb60, P3, b11, by omega⟩ ?_
      simp only [List.set_cons_zero, List.set_cons_succ]
      refine zv 2 81 (.int .i64 ((t % 100 : Nat) : Int)) (fun _ _ => .of) ⟨BL, D, O1, O2, b5, OA, P1, Q1, b8, b60, sb60, P3, b11, by omega⟩ ?_
      simp only [List.set_cons_zero, List.set_cons_succ]
      refine zv 3 82 (elemP (.slice X1 200 Y1) (t % 100)) (fun _ ⟨BL, D, O1, O2, b5, OA, P1, Q1, b8, b60, sb60, P3, b11, z1⟩ => Val.idxE 29 (.tmp 80) (.tmp 81) rfl (.slice X1 200 Y1) (t % 100) (by kernel_rfl) (by kernel_rfl) P1.sl Try.underlying29 (by kernel_rfl) (by omega)) ⟨BL, D, O1, O2, b5, OA, P1, Q1, b8, b60, sb60, P3, b11, by omega⟩ ?_
      simp only [List.set_cons_zero, List.set_cons_succ]
      refine zv 4 83 (.int .u8 (((layB (List.replicate 200 0) (t % 100) b).getD (t % 100) 0 : Nat) : Int)) (fun _ ⟨BL, D, O1, O2, b5, OA, P1, Q1, b8, b60, sb60, P3, b11, z1⟩ => Val.nldE 5 _ rfl (.slice X1 200 Y1) (t % 100) (by kernel_rfl) (fun _ => (by kernel_rfl)) P1.sl (by omega)) ⟨BL, D, O1, O2, b5, OA, P1, Q1, b8, b60, sb60, P3, b11, by omega⟩ ?_
      simp only [List.set_cons_zero, List.set_cons_succ]
      refine zv 5 84 (.slice A b.length C) (fun _ _ => .of) ⟨BL, D, O1, O2, b5, OA, P1, Q1, b8, b60, sb60, P3, b11, by omega⟩ ?_
      simp only [List.set_cons_zero, List.set_cons_succ]
      refine zv 6 85 (elemP (.slice A b.length C) 0) (fun _ ⟨BL, D, O1, O2, b5, OA, P1, Q1, b8, b60, sb60, P3, b11, z1⟩ => Val.idxE 29 (.tmp 84) _ rfl (.slice A b.length C) 0 (by kernel_rfl) (by kernel_rfl) D Try.underlying29 (by kernel_rfl) (by omega)) ⟨BL, D, O1, O2, b5, OA, P1, Q1, b8, b60, sb60, P3, b11, by omega⟩ ?_
      simp only [List.set_cons_zero, List.set_cons_succ]
      refine zv 7 86 (.int .u8 ((b.getD 0 0 : Nat) : Int)) (fun _ ⟨BL, D, O1, O2, b5, OA, P1, Q1, b8, b60, sb60, P3, b11, z1⟩ => Val.nldE 5 _ rfl (.slice A b.length C) 0 (by kernel_rfl) (fun _ => (by kernel_rfl)) D (by omega)) ⟨BL, D, O1, O2, b5, OA, P1, Q1, b8, b60, sb60, P3, b11, by omega⟩ ?_
      simp only [List.set_cons_zero, List.set_cons_succ]
      refine zv 8 87 (.bool true) (fun _ ⟨BL, D, O1, O2, b5, OA, P1, Q1, b8, b60, sb60, P3, b11, z1⟩ => Val.cmp .eql 5 _ (.tmp 83) (.tmp 86) rfl .u8 (((layB (List.replicate 200 0) (t % 100) b).getD (t % 100) 0 : Nat) : Int) ((b.getD 0 0 : Nat) : Int) (by kernel_rfl) (by kernel_rfl) (by simp) _ (by rw [own_get h1 h2 hK]; simp [cmpB])) ⟨BL, D, O1, O2, b5, OA, P1, Q1, b8, b60, sb60, P3, b11, by omega⟩ ?_
      simp only [List.set_cons_zero, List.set_cons_succ]
      refine zv 9 88 (.bool true) (fun _ _ => .of) ⟨BL, D, O1, O2, b5, OA, P1, Q1, b8, b60, sb60, P3, b11, by omega⟩ ?_
      simp only [List.set_cons_zero, List.set_cons_succ]
      refine zv 10 89 (.pointer (some ⟨w3.heap.size, 0, none⟩)) (fun _ _ => .of) ⟨BL, D, O1, O2, b5, OA, P1, Q1, b8, b60, sb60, P3, b11, by omega⟩ ?_
      simp only [List.set_cons_zero, List.set_cons_succ]
      refine zv 11 90 (.slice X0 200 Y0) (fun _ ⟨BL, D, O1, O2, b5, OA, P1, Q1, b8, b60, sb60, P3, b11, z1⟩ => Val.cel1 29 _ rfl w3.heap.size 0 _ (by kernel_rfl) (fun _ => (by kernel_rfl)) b5 rfl) ⟨BL, D, O1, O2, b5, OA, P1, Q1, b8, b60, sb60, P3, b11, by omega⟩ ?_
      simp only [List.set_cons_zero, List.set_cons_succ]
      refine zv 12 91 (.int .i64 ((t % 100 : Nat) : Int)) (fun _ _ => .of) ⟨BL, D, O1, O2, b5, OA, P1, Q1, b8, b60, sb60, P3, b11, by omega⟩ ?_
      simp only [List.set_cons_zero, List.set_cons_succ]
      refine zv 13 92 (elemP (.slice X0 200 Y0) (t % 100)) (fun _ ⟨BL, D, O1, O2, b5, OA, P1, Q1, b8, b60, sb60, P3, b11, z1⟩ => Val.idxE 29 (.tmp 90) (.tmp 91) rfl (.slice X0 200 Y0) (t % 100) (by kernel_rfl) (by kernel_rfl) O1.sl Try.underlying29 (by kernel_rfl) (by omega)) ⟨BL, D, O1, O2, b5, OA, P1, Q1, b8, b60, sb60, P3, b11, by omega⟩ ?_
      simp only [List.set_cons_zero, List.set_cons_succ]
      refine zv 14 93 (.int .u8 (((List.replicate 200 0).getD (t % 100) 0 : Nat) : Int)) (fun _ ⟨BL, D, O1, O2, b5, OA, P1, Q1, b8, b60, sb60, P3, b11, z1⟩ => Val.nldE 5 _ rfl (.slice X0 200 Y0) (t % 100) (by kernel_rfl) (fun _ => (by kernel_rfl)) O1.sl (by omega)) ⟨BL, D, O1, O2, b5, OA, P1, Q1, b8, b60, sb60, P3, b11, by omega⟩ ?_
      simp only [List.set_cons_zero, List.set_cons_succ]
      refine zv 15 94 (.bool true) (fun _ ⟨BL, D, O1, O2, b5, OA, P1, Q1, b8, b60, sb60, P3, b11, z1⟩ => Val.cmp .eql 5 _ (.tmp 93) _ rfl .u8 (((List.replicate 200 0).getD (t % 100) 0 : Nat) : Int) 0 (by kernel_rfl) (by kernel_rfl) (by simp) _ (by rw [own_zero]; simp [cmpB])) ⟨BL, D, O1, O2, b5, OA, P1, Q1, b8, b60, sb60, P3, b11, by omega⟩ ?_
      simp only [List.set_cons_zero, List.set_cons_succ]
      refine zv 16 95 (.bool true) (fun _ _ => .of) ⟨BL, D, O1, O2, b5, OA, P1, Q1, b8, b60, sb60, P3, b11, by omega⟩ ?_
      simp only [List.set_cons_zero, List.set_cons_succ]
      refine zv 17 96 (.bool true) (fun _ _ => .of) ⟨BL, D, O1, O2, b5, OA, P1, Q1, b8, b60, sb60, P3, b11, by omega⟩ ?_
      simp only [List.set_cons_zero, List.set_cons_succ]
      refine zv 18 97 (.agg #[.slice X0 200 Y0, .slice none 0 0]) (fun _ ⟨BL, D, O1, O2, b5, OA, P1, Q1, b8, b60, sb60, P3, b11, z1⟩ => Val.cel 56 _ rfl 0 2 (by kernel_rfl) b5 _ Try.underlying56 rfl (by kernel_rfl) (by simp) [.slice X0 200 Y0, .slice none 0 0] rfl) ⟨BL, D, O1, O2, b5, OA, P1, Q1, b8, b60, sb60, P3, b11, by omega⟩ ?_
      simp only [List.set_cons_zero, List.set_cons_succ]
      refine zo1 19 rfl ?_
      refine xCall 98 34 #[.agg #[.slice X0 200 Y0, .slice none 0 0]] (by kernel_rfl) ?_
      refine (xmany_any _ _ (List.replicate 200 0) [] w17 O1.sl O2.se).mono ?_
      rintro en w18 ⟨he, hb1⟩
      rw [own_x] at he
      subst he
      have e11 := belE0 hb1
      have ze11 := e11.size
      replace BL := BL.e0 e11
      replace D := D.e0 e11
      replace O1 := O1.e0 e11
      replace O2 := O2.e0 e11
      replace b5 := b5.e0 e11
      replace OA := OA.e0 e11
      replace P1 := P1.e0 e11
      replace Q1 := Q1.e0 e11
      replace b8 := b8.e0 e11
      replace b60 := b60.e0 e11
      replace sb60 := sb60.e0 e11
      replace P3 := P3.e0 e11
      replace b11 := b11.e0 e11
      clear e11
      refine ⟨.int .i64 0, rfl, ?_⟩
      refine ze 19 ⟨BL, D, O1, O2, b5, OA, P1, Q1, b8, b60, sb60, P3, b11, by omega⟩ ?_
      simp only [List.set_cons_zero, List.set_cons_succ]
      refine zv 20 99 (.bool true) (fun _ ⟨BL, D, O1, O2, b5, OA, P1, Q1, b8, b60, sb60, P3, b11, z1⟩ => Val.cmp .eql 3 _ (.tmp 98) _ rfl .i64 0 0 (by kernel_rfl) (by kernel_rfl) (by simp) _ rfl) ⟨BL, D, O1, O2, b5, OA, P1, Q1, b8, b60, sb60, P3, b11, by omega⟩ ?_
      simp only [List.set_cons_zero, List.set_cons_succ]
      refine zv 21 100 (.bool true) (fun _ _ => .of) ⟨BL, D, O1, O2, b5, OA, P1, Q1, b8, b60, sb60, P3, b11, by omega⟩ ?_
      simp only [List.set_cons_zero, List.set_cons_succ]
      refine zv 22 101 (.bool true) (fun _ _ => .of) ⟨BL, D, O1, O2, b5, OA, P1, Q1, b8, b60, sb60, P3, b11, by omega⟩ ?_
      simp only [List.set_cons_zero, List.set_cons_succ]
      refine zv 23 102 (.agg #[.slice X1 200 Y1, .slice Z1 ([((((t % 100) : Nat) : Int), (((t % 100) : Nat) : Int) + (b.length : Nat))]).length T1]) (fun _ ⟨BL, D, O1, O2, b5, OA, P1, Q1, b8, b60, sb60, P3, b11, z1⟩ => Val.cel 56 _ rfl 0 2 (by kernel_rfl) b8 _ Try.underlying56 rfl (by kernel_rfl) (by simp) [.slice X1 200 Y1, .slice Z1 ([((((t % 100) : Nat) : Int), (((t % 100) : Nat) : Int) + (b.length : Nat))]).length T1] rfl) ⟨BL, D, O1, O2, b5, OA, P1, Q1, b8, b60, sb60, P3, b11, by omega⟩ ?_
      simp only [List.set_cons_zero, List.set_cons_succ]
      refine zv 25 104 (.slice A b.length C) (fun _ _ => .of) ⟨BL, D, O1, O2, b5, OA, P1, Q1, b8, b60, sb60, P3, b11, by omega⟩ ?_
      simp only [List.set_cons_zero, List.set_cons_succ]
      refine zv 26 105 (.int .i64 (b.length : Int)) (fun _ _ => .of) ⟨BL, D, O1, O2, b5, OA, P1, Q1, b8, b60, sb60, P3, b11, by omega⟩ ?_
      simp only [List.set_cons_zero, List.set_cons_succ]
      refine zo1 24 rfl ?_
      refine xCall 103 34 #[.agg #[.slice X1 200 Y1, .slice Z1 ([((((t % 100) : Nat) : Int), (((t % 100) : Nat) : Int) + (b.length : Nat))]).length T1]] (by kernel_rfl) ?_
      refine (xmany_any _ _ (layB (List.replicate 200 0) (t % 100) b) [((((t % 100) : Nat) : Int), (((t % 100) : Nat) : Int) + (b.length : Nat))] w18 P1.sl Q1.se).mono ?_
      rintro en w19 ⟨he, hb1⟩
      rw [own_many h1 h2 hK] at he
      subst he
      have e12 := belE0 hb1
      have ze12 := e12.size
      replace BL := BL.e0 e12
      replace D := D.e0 e12
      replace O1 := O1.e0 e12
      replace O2 := O2.e0 e12
      replace b5 := b5.e0 e12
      replace OA := OA.e0 e12
      replace P1 := P1.e0 e12
      replace Q1 := Q1.e0 e12
      replace b8 := b8.e0 e12
      replace b60 := b60.e0 e12
      replace sb60 := sb60.e0 e12
      replace P3 := P3.e0 e12
      replace b11 := b11.e0 e12
      clear e12
      refine ⟨.int .i64 ((b.length : Nat) : Int), rfl, ?_⟩
      refine ze 24 ⟨BL, D, O1, O2, b5, OA, P1, Q1, b8, b60, sb60, P3, b11, by omega⟩ ?_
      simp only [List.set_cons_zero, List.set_cons_succ]
      refine zv 27 106 (.bool true) (fun _ ⟨BL, D, O1, O2, b5, OA, P1, Q1, b8, b60, sb60, P3, b11, z1⟩ => Val.cmp .eql 3 _ (.tmp 103) (.tmp 105) rfl .i64 ((b.length : Nat) : Int) (b.length : Int) (by kernel_rfl) (by kernel_rfl) (by simp) _ (by simp [cmpB])) ⟨BL, D, O1, O2, b5, OA, P1, Q1, b8, b60, sb60, P3, b11, by omega⟩ ?_
      simp only [List.set_cons_zero, List.set_cons_succ]
      refine zv 28 107 (.bool true) (fun _ _ => .of) ⟨BL, D, O1, O2, b5, OA, P1, Q1, b8, b60, sb60, P3, b11, by omega⟩ ?_
      simp only [List.set_cons_zero, List.set_cons_succ]
      refine zv 29 108 (.bool true) (fun _ _ => .of) ⟨BL, D, O1, O2, b5, OA, P1, Q1, b8, b60, sb60, P3, b11, by omega⟩ ?_
      simp only [List.set_cons_zero, List.set_cons_succ]
      refine zo1 30 rfl ?_
      refine xCall 109 31 #[] (by kernel_rfl) ?_
      refine (awake24 w19).mono ?_
      rintro en w20 ⟨rfl, hb1⟩
      have e13 := belE0 hb1
      have ze13 := e13.size
      replace BL := BL.e0 e13
      replace D := D.e0 e13
      replace O1 := O1.e0 e13
      replace O2 := O2.e0 e13
      replace b5 := b5.e0 e13
      replace OA := OA.e0 e13
      replace P1 := P1.e0 e13
      replace Q1 := Q1.e0 e13
      replace b8 := b8.e0 e13
      replace b60 := b60.e0 e13
      replace sb60 := sb60.e0 e13
      replace P3 := P3.e0 e13
      replace b11 := b11.e0 e13
      clear e13
      refine ⟨.bool true, rfl, ?_⟩
      refine ze 30 ⟨BL, D, O1, O2, b5, OA, P1, Q1, b8, b60, sb60, P3, b11, by omega⟩ ?_
      simp only [List.set_cons_zero, List.set_cons_succ]
      refine zv 31 110 (.bool true) (fun _ _ => .of) ⟨BL, D, O1, O2, b5, OA, P1, Q1, b8, b60, sb60, P3, b11, by omega⟩ ?_
      simp only [List.set_cons_zero, List.set_cons_succ]
      refine zv 32 4 (.bool true) (fun _ _ => .of) ⟨BL, D, O1, O2, b5, OA, P1, Q1, b8, b60, sb60, P3, b11, by omega⟩ ?_
      simp only [List.set_cons_zero, List.set_cons_succ]
      refine zd (by kernel_rfl) ?_ _
      refine hK17 _ _ ?_
      refine wp_ret ?_
      (try simp only [Exit.then, Exit.inBlock])
      refine bodyPost_ret (v := .bool true) rT rfl ?_
      exact ⟨rfl, BL.b⟩

theorem xferOwn_any (w : World) (v0 : Value) (x0 : List Int) (D0 : SL .u8 w v0 x0) (h0 : ∀ y ∈ x0, 0 ≤ y ∧ y < 256) (t : Int) (h1 : 0 ≤ t ∧ t ≤ 255) :
    Calls Try.prog 4 #[v0, .int .u8 t] w fun e w' => e = .returned (.bool true) ∧ Below w.heap.size w w' := by
  obtain ⟨all, rfl, _⟩ := nn_of (fun y hy => (h0 y hy).1)
  obtain ⟨A, C, hq, _⟩ := D0.len
  rw [nn_len] at hq
  subst hq
  obtain ⟨k, rfl⟩ := Int.eq_ofNat_of_zero_le h1.1
  exact xferOwn_walk w A C k all D0 (by omega)
end Go.Proofs.Ytanggdnmoaflfaa
