/-
  slices.Equal at bytes, slices.IndexFunc and ContainsFunc at spans (xfer's two closures), xfer.clash, slices.Clone, xfer.own.
-/
import Derived.Test.YtanggdnmoaflfaaXferC
import Derived.Test.YtanggdnmoaflfaaReplS
import Derived.Test.YtanggdnmoaflfaaShaGrow
namespace Go.Proofs.Ytanggdnmoaflfaa
open Go.RowKit
set_option linter.unusedVariables false
set_option linter.unusedSimpArgs false
set_option maxRecDepth 100000
attribute [local irreducible] wpList Code.wp wpAnyZ
theorem takeN_next {xs ys : List Nat} {k : Nat} (h : xs.length = ys.length) (hk : k < xs.length) (h1 : xs.take k = ys.take k) (h2 : xs.getD k 0 = ys.getD k 0) : xs.take (k + 1) = ys.take (k + 1) := by
  have hy : k < ys.length := by omega
  rw [List.take_add_one, List.take_add_one, h1, List.getElem?_eq_getElem hk, List.getElem?_eq_getElem hy]
  rw [List.getD_eq_getElem?_getD, List.getD_eq_getElem?_getD, List.getElem?_eq_getElem hk, List.getElem?_eq_getElem hy] at h2
  simp only [Option.getD_some] at h2
  rw [h2]

theorem equalB_any (v0 v1 : Value) (xs ys : List Nat) (w : World) (H0 : SL .u8 w v0 (nn xs)) (H1 : SL .u8 w v1 (nn ys)) :
    Calls Try.prog 88 #[v0, v1] w fun e w' => e = .returned (.bool (decide (xs = ys))) ∧ Below w.heap.size w w' := by
  have BL := Bl.refl w
  have h0 := H0.lt
  have h1 := H1.lt
  have hx := nn_len xs
  have hy := nn_len ys
  obtain ⟨A0, C0, hv0, hc0⟩ := H0.len
  obtain ⟨A1, C1, hv1, hc1⟩ := H1.len
  rw [nn_len] at hv0 hv1 hc0 hc1
  subst hv0 hv1
  unfold maxLen at hc0
  go_enter Try.func88, Try.ntmps88
  refine wp_seq_k fun K1 hK1 => ?_
  refine cPlain ?_
  refine sv 4 (.bool false) .of ?_
  simp only [List.set_cons_zero, List.set_cons_succ]
  refine wpList_nil ?_
  refine hK1 _ _ ?_
  refine wp_seq_k fun K2 hK2 => ?_
  refine wp_seq_k fun K3 hK3 => ?_
  refine cPlain ?_
  refine sv 6 (.slice A0 xs.length C0) .of ?_
  simp only [List.set_cons_zero, List.set_cons_succ]
  refine sv 7 (.int .i64 (xs.length : Int)) .of ?_
  simp only [List.set_cons_zero, List.set_cons_succ]
  refine sv 8 (.slice A1 ys.length C1) .of ?_
  simp only [List.set_cons_zero, List.set_cons_succ]
  refine sv 9 (.int .i64 (ys.length : Int)) .of ?_
  simp only [List.set_cons_zero, List.set_cons_succ]
  refine sv 10 (.bool (decide (¬ ((xs.length : Int) = (ys.length : Int))))) (Val.cmp .neq 3 _ (.tmp 7) (.tmp 9) rfl .i64 (xs.length : Int) (ys.length : Int) (by kernel_rfl) (by kernel_rfl) (by simp) _ (by simp [cmpB])) ?_
  simp only [List.set_cons_zero, List.set_cons_succ]
  refine wpList_nil ?_
  refine hK3 _ _ ?_
  refine cDec (¬ ((xs.length : Int) = (ys.length : Int))) (by kernel_rfl) (fun c10 => ?_) (fun c10 => ?_)
  · skip
    refine wp_seq_k fun K4 hK4 => ?_
    refine cPlain ?_
    refine sv 4 (.bool false) .of ?_
    simp only [List.set_cons_zero, List.set_cons_succ]
    refine wpList_nil ?_
    refine hK4 _ _ ?_
    refine wp_ret ?_
    (try simp only [Exit.then, Exit.inBlock])
    refine bodyPost_ret (v := .bool false) rT rfl ?_
    rw [decide_eq_false (fun h => by subst h; first | exact c10 rfl | exact c24 rfl)]
    exact ⟨rfl, BL.b⟩
  · skip
    refine wp_skip ?_
    refine hK2 _ _ ?_
    refine wp_seq_k fun K5 hK5 => ?_
    refine wp_seq_k fun K6 hK6 => ?_
    refine cPlain ?_
    refine sv 11 (.slice A0 xs.length C0) .of ?_
    simp only [List.set_cons_zero, List.set_cons_succ]
    refine sv 12 (.int .i64 (xs.length : Int)) .of ?_
    simp only [List.set_cons_zero, List.set_cons_succ]
    refine sv 13 (.int .i64 0) .of ?_
    simp only [List.set_cons_zero, List.set_cons_succ]
    refine wpList_nil ?_
    refine hK6 _ _ ?_
    refine wp_block ?_
    refine cLoop (fun N_ A_ w_ => ∃ (k : Nat), (N_ = xs.length - k ∧ (k ≤ xs.length) ∧ (xs.take k = ys.take k) ∧ (∃ s1 : Nat → Value, A_ = ⟨[.slice A0 xs.length C0, .slice A1 ys.length C1, undef, undef, (s1 4), (s1 5), .slice A0 xs.length C0, .int .i64 (xs.length : Int), .slice A1 ys.length C1, .int .i64 (ys.length : Int), .bool (decide (¬ ((xs.length : Int) = (ys.length : Int)))), .slice A0 xs.length C0, .int .i64 (xs.length : Int), .int .i64 ((k : Nat) : Int), (s1 14), (s1 15), (s1 16), (s1 17), (s1 18), (s1 19), (s1 20), (s1 21), (s1 22), (s1 23), (s1 24), (s1 25)].toArray, []⟩) ∧ Bl w.heap.size w w_ ∧ SL .u8 w_ (.slice A0 xs.length C0) (nn xs) ∧ SL .u8 w_ (.slice A1 ys.length C1) (nn ys) ∧ w.heap.size ≤ w_.heap.size)) _ ⟨0, rfl, (Nat.zero_le _), (by simp), cutE, BL, H0, H1, Nat.le_refl _⟩ ?_
    clear BL H0 H1
    rintro n_ a_ wl0 ⟨k, rfl, hc0_0, hc0_1, ⟨s1, rfl⟩, BL, H0, H1, zl0⟩
    refine wp_seq_k fun K7 hK7 => ?_
    refine cPlain ?_
    refine sv 14 (.bool (decide (((k : Nat) : Int) < (xs.length : Int)))) (Val.cmp .lss 3 _ (.tmp 13) (.tmp 12) rfl .i64 ((k : Nat) : Int) (xs.length : Int) (by kernel_rfl) (by kernel_rfl) (by simp) _ rfl) ?_
    simp only [List.set_cons_zero, List.set_cons_succ]
    refine wpList_nil ?_
    refine hK7 _ _ ?_
    refine wp_seq_k fun K8 hK8 => ?_
    refine cDec (((k : Nat) : Int) < (xs.length : Int)) (by kernel_rfl) (fun c14 => ?_) (fun c14 => ?_)
    · skip
      refine wp_skip ?_
      refine hK8 _ _ ?_
      refine wp_seq_k fun K9 hK9 => ?_
      refine wp_block ?_
      refine wp_seq_k fun K10 hK10 => ?_
      refine cPlain ?_
      refine sv 15 (.int .i64 ((k : Nat) : Int)) .of ?_
      simp only [List.set_cons_zero, List.set_cons_succ]
      refine sv 5 (.int .i64 ((k : Nat) : Int)) .of ?_
      simp only [List.set_cons_zero, List.set_cons_succ]
      refine wpList_nil ?_
      refine hK10 _ _ ?_
      refine wp_seq_k fun K11 hK11 => ?_
      have e1 := drew_e0 wl0
      refine zg (fun w_ => Bl w.heap.size w w_ ∧ SL .u8 w_ (.slice A0 xs.length C0) (nn xs) ∧ SL .u8 w_ (.slice A1 ys.length C1) (nn ys) ∧ wl0.heap.size ≤ w_.heap.size) (fun w_ => Bl w.heap.size w w_ ∧ SL .u8 w_ (.slice A0 xs.length C0) (nn xs) ∧ SL .u8 w_ (.slice A1 ys.length C1) (nn ys) ∧ wl0.heap.size ≤ w_.heap.size) 100000 9 ⟨BL.e0 e1, H0.e0 e1, H1.e0 e1, Nat.le_refl _⟩ ?_
      clear BL H0 H1
      clear e1
      intro w1
      rintro ⟨BL, H0, H1, z1⟩
      refine zv 0 16 (.slice A0 xs.length C0) (fun _ _ => .of) ⟨BL, H0, H1, by omega⟩ ?_
      simp only [List.set_cons_zero, List.set_cons_succ]
      refine zv 1 17 (.int .i64 ((k : Nat) : Int)) (fun _ _ => .of) ⟨BL, H0, H1, by omega⟩ ?_
      simp only [List.set_cons_zero, List.set_cons_succ]
      refine zv 2 18 (elemP (.slice A0 xs.length C0) k) (fun _ ⟨BL, H0, H1, z1⟩ => Val.idxE 29 (.tmp 16) (.tmp 17) rfl (.slice A0 xs.length C0) k (by kernel_rfl) (by kernel_rfl) H0 Try.underlying29 (by kernel_rfl) (by omega)) ⟨BL, H0, H1, by omega⟩ ?_
      simp only [List.set_cons_zero, List.set_cons_succ]
      refine zv 3 19 (.int .u8 ((xs.getD k 0 : Nat) : Int)) (fun _ ⟨BL, H0, H1, z1⟩ => Val.nldE 5 _ rfl (.slice A0 xs.length C0) k (by kernel_rfl) (fun _ => (by kernel_rfl)) H0 (by omega)) ⟨BL, H0, H1, by omega⟩ ?_
      simp only [List.set_cons_zero, List.set_cons_succ]
      refine zv 4 20 (.slice A1 ys.length C1) (fun _ _ => .of) ⟨BL, H0, H1, by omega⟩ ?_
      simp only [List.set_cons_zero, List.set_cons_succ]
      refine zv 5 21 (.int .i64 ((k : Nat) : Int)) (fun _ _ => .of) ⟨BL, H0, H1, by omega⟩ ?_
      simp only [List.set_cons_zero, List.set_cons_succ]
      refine zv 6 22 (elemP (.slice A1 ys.length C1) k) (fun _ ⟨BL, H0, H1, z1⟩ => Val.idxE 29 (.tmp 20) (.tmp 21) rfl (.slice A1 ys.length C1) k (by kernel_rfl) (by kernel_rfl) H1 Try.underlying29 (by kernel_rfl) (by omega)) ⟨BL, H0, H1, by omega⟩ ?_
      simp only [List.set_cons_zero, List.set_cons_succ]
      refine zv 7 23 (.int .u8 ((ys.getD k 0 : Nat) : Int)) (fun _ ⟨BL, H0, H1, z1⟩ => Val.nldE 5 _ rfl (.slice A1 ys.length C1) k (by kernel_rfl) (fun _ => (by kernel_rfl)) H1 (by omega)) ⟨BL, H0, H1, by omega⟩ ?_
      simp only [List.set_cons_zero, List.set_cons_succ]
      refine zv 8 24 (.bool (decide (¬ (((xs.getD k 0 : Nat) : Int) = ((ys.getD k 0 : Nat) : Int))))) (fun _ ⟨BL, H0, H1, z1⟩ => Val.cmp .neq 5 _ (.tmp 19) (.tmp 23) rfl .u8 ((xs.getD k 0 : Nat) : Int) ((ys.getD k 0 : Nat) : Int) (by kernel_rfl) (by kernel_rfl) (by simp) _ (by simp [cmpB])) ⟨BL, H0, H1, by omega⟩ ?_
      simp only [List.set_cons_zero, List.set_cons_succ]
      refine zd (by kernel_rfl) ?_ _
      refine hK11 _ _ ?_
      refine cDec (¬ (((xs.getD k 0 : Nat) : Int) = ((ys.getD k 0 : Nat) : Int))) (by kernel_rfl) (fun c24 => ?_) (fun c24 => ?_)
      · skip
        refine wp_seq_k fun K12 hK12 => ?_
        refine cPlain ?_
        refine sv 4 (.bool false) .of ?_
        simp only [List.set_cons_zero, List.set_cons_succ]
        refine wpList_nil ?_
        refine hK12 _ _ ?_
        refine wp_ret ?_
        (try simp only [Exit.then, Exit.inBlock])
        refine bodyPost_ret (v := .bool false) rT rfl ?_
        rw [decide_eq_false (fun h => by subst h; first | exact c10 rfl | exact c24 rfl)]
        exact ⟨rfl, BL.b⟩
      · skip
        refine wp_skip ?_
        refine hK9 _ _ ?_
        refine cPlain ?_
        refine sv 25 (.int .i64 (((k : Nat) : Int) + 1)) (Val.add 3 _ (.tmp 13) _ rfl ((k : Nat) : Int) 1 (by kernel_rfl) (by kernel_rfl) (by omega)) ?_
        simp only [List.set_cons_zero, List.set_cons_succ]
        refine sv 13 (.int .i64 (((k : Nat) : Int) + 1)) .of ?_
        simp only [List.set_cons_zero, List.set_cons_succ]
        refine wpList_nil ?_
        refine ⟨_, ?_, k + 1, rfl, (by omega), (takeN_next (by omega) (by omega) hc0_1 (by omega)), cutE, BL, H0, H1, by omega⟩
        omega
    · skip
      rw [show k = xs.length by omega, List.take_length, List.take_of_length_le (by omega)] at hc0_1
      refine wp_exit ?_
      simp only [Exit.then, Exit.inBlock, ↓reduceIte, Nat.reduceEqDiff]
      refine hK5 _ _ ?_
      refine wp_seq_k fun K13 hK13 => ?_
      refine cPlain ?_
      refine sv 4 (.bool true) .of ?_
      simp only [List.set_cons_zero, List.set_cons_succ]
      refine wpList_nil ?_
      refine hK13 _ _ ?_
      refine wp_ret ?_
      (try simp only [Exit.then, Exit.inBlock])
      refine bodyPost_ret (v := .bool true) rT rfl ?_
      exact ⟨by rw [decide_eq_true hc0_1], BL.b⟩

theorem clash1_any (s : Int × Int) (A0 A1 A2 : Option Addr) (C0 C1 C2 : Nat) (P1 P2 P3 a : Nat) (d b : List Nat) (h : List (Int × Int)) (w : World) (B1 : Cel w P1 3 [.int .i64 ((a : Nat) : Int)]) (B2 : Cel w P2 29 [.slice A1 b.length C1]) (B3 : Cel w P3 56 [.slice A0 d.length C0, .slice A2 h.length C2]) (D : SL .u8 w (.slice A0 d.length C0) (nn d)) (Bb : SL .u8 w (.slice A1 b.length C1) (nn b)) (ha : a + b.length ≤ d.length) (hs1 : 0 ≤ s.1) (hs2 : s.2 ≤ d.length) :
    Calls Try.prog 87 #[.agg #[.int .i64 s.1, .int .i64 s.2], .pointer (some ⟨P1, 0, none⟩), .pointer (some ⟨P2, 0, none⟩), .pointer (some ⟨P3, 0, none⟩)] w fun e w' => e = .returned (.bool (clash1 d a b s)) ∧ Below w.heap.size w w' := by
  skip
  have BL := Bl.refl w
  have hdl := D.lt
  have hbl := Bb.lt
  have l1 := Cel.lt B1
  have l2 := Cel.lt B2
  have l3 := Cel.lt B3
  have hnd := nn_len d
  have hnb := nn_len b
  have hmd : d.length ≤ maxLen := by obtain ⟨_, _, _, hm⟩ := D.len; rwa [nn_len] at hm
  unfold maxLen at hmd
  go_enter Try.func87, Try.ntmps87
  refine wp_seq_k fun K1 hK1 => ?_
  refine cPlain ?_
  refine xBox 4 70 _ [.int .i64 s.1, .int .i64 s.2] rfl (by kernel_rfl) ?_
  intro w1 n1
  have zn1 := n1.z
  have b4 := n1.c
  replace BL := BL.e0 n1.e
  replace B1 := B1.e0 n1.e
  replace B2 := B2.e0 n1.e
  replace B3 := B3.e0 n1.e
  replace D := D.e0 n1.e
  replace Bb := Bb.e0 n1.e
  simp only [List.set_cons_zero, List.set_cons_succ]
  refine sv 5 (.bool false) .of ?_
  simp only [List.set_cons_zero, List.set_cons_succ]
  refine wpList_nil ?_
  refine hK1 _ _ ?_
  refine wp_seq_k fun K2 hK2 => ?_
  have e1 := drew_e0 w1
  refine zg (fun w_ => Bl w.heap.size w w_ ∧ Cel w_ P1 3 [.int .i64 ((a : Nat) : Int)] ∧ Cel w_ P2 29 [.slice A1 b.length C1] ∧ Cel w_ P3 56 [.slice A0 d.length C0, .slice A2 h.length C2] ∧ SL .u8 w_ (.slice A0 d.length C0) (nn d) ∧ SL .u8 w_ (.slice A1 b.length C1) (nn b) ∧ Cel w_ w.heap.size 70 [.int .i64 s.1, .int .i64 s.2] ∧ w1.heap.size ≤ w_.heap.size) (fun w_ => Bl w.heap.size w w_ ∧ Cel w_ P1 3 [.int .i64 ((a : Nat) : Int)] ∧ Cel w_ P2 29 [.slice A1 b.length C1] ∧ Cel w_ P3 56 [.slice A0 d.length C0, .slice A2 h.length C2] ∧ SL .u8 w_ (.slice A0 d.length C0) (nn d) ∧ SL .u8 w_ (.slice A1 b.length C1) (nn b) ∧ Cel w_ w.heap.size 70 [.int .i64 s.1, .int .i64 s.2] ∧ w1.heap.size ≤ w_.heap.size) 100000 13 ⟨BL.e0 e1, B1.e0 e1, B2.e0 e1, B3.e0 e1, D.e0 e1, Bb.e0 e1, b4.e0 e1, Nat.le_refl _⟩ ?_
  clear BL B1 B2 B3 D Bb b4
  clear e1
  intro w2
  rintro ⟨BL, B1, B2, B3, D, Bb, b4, z1⟩
  refine zv 0 8 (.pointer (some ⟨w.heap.size, 0, none⟩)) (fun _ _ => .of) ⟨BL, B1, B2, B3, D, Bb, b4, by omega⟩ ?_
  simp only [List.set_cons_zero, List.set_cons_succ]
  refine zv 1 9 (.int .i64 s.1) (fun _ ⟨BL, B1, B2, B3, D, Bb, b4, z1⟩ => Val.cel1 3 _ rfl w.heap.size 0 _ (by kernel_rfl) (fun _ => (by kernel_rfl)) b4 rfl) ⟨BL, B1, B2, B3, D, Bb, b4, by omega⟩ ?_
  simp only [List.set_cons_zero, List.set_cons_succ]
  refine zv 2 10 (.int .i64 ((a : Nat) : Int)) (fun _ ⟨BL, B1, B2, B3, D, Bb, b4, z1⟩ => Val.cel1 3 _ rfl P1 0 _ (by kernel_rfl) (fun _ => (by kernel_rfl)) B1 rfl) ⟨BL, B1, B2, B3, D, Bb, b4, by omega⟩ ?_
  simp only [List.set_cons_zero, List.set_cons_succ]
  refine zv 3 11 (.int .i64 (max s.1 ((a : Nat) : Int))) (fun _ ⟨BL, B1, B2, B3, D, Bb, b4, z1⟩ => Val.maxI (.tmp 9) (.tmp 10) _ rfl s.1 ((a : Nat) : Int) (by kernel_rfl) (by kernel_rfl)) ⟨BL, B1, B2, B3, D, Bb, b4, by omega⟩ ?_
  simp only [List.set_cons_zero, List.set_cons_succ]
  refine zv 4 12 (.pointer (some ⟨w.heap.size, 1, none⟩)) (fun _ _ => .of) ⟨BL, B1, B2, B3, D, Bb, b4, by omega⟩ ?_
  simp only [List.set_cons_zero, List.set_cons_succ]
  refine zv 5 13 (.int .i64 s.2) (fun _ ⟨BL, B1, B2, B3, D, Bb, b4, z1⟩ => Val.cel1 3 _ rfl w.heap.size 1 _ (by kernel_rfl) (fun _ => (by kernel_rfl)) b4 rfl) ⟨BL, B1, B2, B3, D, Bb, b4, by omega⟩ ?_
  simp only [List.set_cons_zero, List.set_cons_succ]
  refine zv 6 14 (.int .i64 ((a : Nat) : Int)) (fun _ ⟨BL, B1, B2, B3, D, Bb, b4, z1⟩ => Val.cel1 3 _ rfl P1 0 _ (by kernel_rfl) (fun _ => (by kernel_rfl)) B1 rfl) ⟨BL, B1, B2, B3, D, Bb, b4, by omega⟩ ?_
  simp only [List.set_cons_zero, List.set_cons_succ]
  refine zv 7 15 (.slice A1 b.length C1) (fun _ ⟨BL, B1, B2, B3, D, Bb, b4, z1⟩ => Val.cel1 29 _ rfl P2 0 _ (by kernel_rfl) (fun _ => (by kernel_rfl)) B2 rfl) ⟨BL, B1, B2, B3, D, Bb, b4, by omega⟩ ?_
  simp only [List.set_cons_zero, List.set_cons_succ]
  refine zv 8 16 (.int .i64 (b.length : Int)) (fun _ _ => .of) ⟨BL, B1, B2, B3, D, Bb, b4, by omega⟩ ?_
  simp only [List.set_cons_zero, List.set_cons_succ]
  refine zv 9 17 (.int .i64 (((a : Nat) : Int) + (b.length : Int))) (fun _ ⟨BL, B1, B2, B3, D, Bb, b4, z1⟩ => Val.add 3 _ (.tmp 14) (.tmp 16) rfl ((a : Nat) : Int) (b.length : Int) (by kernel_rfl) (by kernel_rfl) (by omega)) ⟨BL, B1, B2, B3, D, Bb, b4, by omega⟩ ?_
  simp only [List.set_cons_zero, List.set_cons_succ]
  refine zv 10 18 (.int .i64 (min s.2 (((a : Nat) : Int) + (b.length : Int)))) (fun _ ⟨BL, B1, B2, B3, D, Bb, b4, z1⟩ => Val.minI (.tmp 13) (.tmp 17) _ rfl s.2 (((a : Nat) : Int) + (b.length : Int)) (by kernel_rfl) (by kernel_rfl)) ⟨BL, B1, B2, B3, D, Bb, b4, by omega⟩ ?_
  simp only [List.set_cons_zero, List.set_cons_succ]
  refine zv 11 6 (.int .i64 (max s.1 ((a : Nat) : Int))) (fun _ _ => .of) ⟨BL, B1, B2, B3, D, Bb, b4, by omega⟩ ?_
  simp only [List.set_cons_zero, List.set_cons_succ]
  refine zv 12 7 (.int .i64 (min s.2 (((a : Nat) : Int) + (b.length : Int)))) (fun _ _ => .of) ⟨BL, B1, B2, B3, D, Bb, b4, by omega⟩ ?_
  simp only [List.set_cons_zero, List.set_cons_succ]
  refine zd (by kernel_rfl) ?_ _
  refine hK2 _ _ ?_
  refine wp_seq_k fun K3 hK3 => ?_
  have e2 := drew_e0 w2
  refine zg (fun w_ => Bl w.heap.size w w_ ∧ Cel w_ P1 3 [.int .i64 ((a : Nat) : Int)] ∧ Cel w_ P2 29 [.slice A1 b.length C1] ∧ Cel w_ P3 56 [.slice A0 d.length C0, .slice A2 h.length C2] ∧ SL .u8 w_ (.slice A0 d.length C0) (nn d) ∧ SL .u8 w_ (.slice A1 b.length C1) (nn b) ∧ Cel w_ w.heap.size 70 [.int .i64 s.1, .int .i64 s.2] ∧ w2.heap.size ≤ w_.heap.size) (fun w_ => Bl w.heap.size w w_ ∧ Cel w_ P1 3 [.int .i64 ((a : Nat) : Int)] ∧ Cel w_ P2 29 [.slice A1 b.length C1] ∧ Cel w_ P3 56 [.slice A0 d.length C0, .slice A2 h.length C2] ∧ SL .u8 w_ (.slice A0 d.length C0) (nn d) ∧ SL .u8 w_ (.slice A1 b.length C1) (nn b) ∧ Cel w_ w.heap.size 70 [.int .i64 s.1, .int .i64 s.2] ∧ w2.heap.size ≤ w_.heap.size) 100000 21 ⟨BL.e0 e2, B1.e0 e2, B2.e0 e2, B3.e0 e2, D.e0 e2, Bb.e0 e2, b4.e0 e2, Nat.le_refl _⟩ ?_
  clear BL B1 B2 B3 D Bb b4
  clear e2
  intro w3
  rintro ⟨BL, B1, B2, B3, D, Bb, b4, z2⟩
  refine zv 0 19 (.int .i64 (max s.1 ((a : Nat) : Int))) (fun _ _ => .of) ⟨BL, B1, B2, B3, D, Bb, b4, by omega⟩ ?_
  simp only [List.set_cons_zero, List.set_cons_succ]
  refine zv 1 20 (.int .i64 (min s.2 (((a : Nat) : Int) + (b.length : Int)))) (fun _ _ => .of) ⟨BL, B1, B2, B3, D, Bb, b4, by omega⟩ ?_
  simp only [List.set_cons_zero, List.set_cons_succ]
  refine zv 2 21 (.bool (decide ((max s.1 ((a : Nat) : Int)) < (min s.2 (((a : Nat) : Int) + (b.length : Int)))))) (fun _ ⟨BL, B1, B2, B3, D, Bb, b4, z2⟩ => Val.cmp .lss 3 _ (.tmp 19) (.tmp 20) rfl .i64 (max s.1 ((a : Nat) : Int)) (min s.2 (((a : Nat) : Int) + (b.length : Int))) (by kernel_rfl) (by kernel_rfl) (by simp) _ rfl) ⟨BL, B1, B2, B3, D, Bb, b4, by omega⟩ ?_
  simp only [List.set_cons_zero, List.set_cons_succ]
  refine zv 3 22 (.bool (decide ((max s.1 ((a : Nat) : Int)) < (min s.2 (((a : Nat) : Int) + (b.length : Int)))))) (fun _ _ => .of) ⟨BL, B1, B2, B3, D, Bb, b4, by omega⟩ ?_
  simp only [List.set_cons_zero, List.set_cons_succ]
  by_cases g23 : (max s.1 ((a : Nat) : Int)) < (min s.2 (((a : Nat) : Int) + (b.length : Int)))
  · skip
    have dg23 : decide ((max s.1 ((a : Nat) : Int)) < (min s.2 (((a : Nat) : Int) + (b.length : Int)))) = true := decide_eq_true g23
    simp only [dg23]
    clear dg23
    refine zv 4 23 (.pointer (some ⟨P3, 0, none⟩)) (fun _ _ => .of) ⟨BL, B1, B2, B3, D, Bb, b4, by omega⟩ ?_
    simp only [List.set_cons_zero, List.set_cons_succ]
    refine zv 5 24 (.slice A0 d.length C0) (fun _ ⟨BL, B1, B2, B3, D, Bb, b4, z2⟩ => Val.cel1 29 _ rfl P3 0 _ (by kernel_rfl) (fun _ => (by kernel_rfl)) B3 rfl) ⟨BL, B1, B2, B3, D, Bb, b4, by omega⟩ ?_
    simp only [List.set_cons_zero, List.set_cons_succ]
    refine zv 6 25 (.int .i64 (((max s.1 ((a : Nat) : Int)).toNat : Nat) : Int)) (fun _ ⟨BL, B1, B2, B3, D, Bb, b4, z2⟩ => Val.as (Val.of) (congrArg (Value.int .i64) (show ((max s.1 ((a : Nat) : Int)) : Int) = (((max s.1 ((a : Nat) : Int)).toNat : Nat) : Int) by omega))) ⟨BL, B1, B2, B3, D, Bb, b4, by omega⟩ ?_
    simp only [List.set_cons_zero, List.set_cons_succ]
    refine zv 7 26 (.int .i64 (((min s.2 (((a : Nat) : Int) + (b.length : Nat))).toNat : Nat) : Int)) (fun _ ⟨BL, B1, B2, B3, D, Bb, b4, z2⟩ => Val.as (Val.of) (congrArg (Value.int .i64) (show ((min s.2 (((a : Nat) : Int) + (b.length : Int))) : Int) = (((min s.2 (((a : Nat) : Int) + (b.length : Nat))).toNat : Nat) : Int) by omega))) ⟨BL, B1, B2, B3, D, Bb, b4, by omega⟩ ?_
    simp only [List.set_cons_zero, List.set_cons_succ]
    refine zv 8 27 (sliceV (.slice A0 d.length C0) ((max s.1 ((a : Nat) : Int)).toNat) ((min s.2 (((a : Nat) : Int) + (b.length : Nat))).toNat)) (fun _ ⟨BL, B1, B2, B3, D, Bb, b4, z2⟩ => Val.slc 29 (.tmp 24) (some (.tmp 25)) (some (.tmp 26)) rfl (.slice A0 d.length C0) (by kernel_rfl) D ((max s.1 ((a : Nat) : Int)).toNat) ((min s.2 (((a : Nat) : Int) + (b.length : Nat))).toNat) (.inl (by kernel_rfl)) (.inl (by kernel_rfl)) (by omega) (by rw [nn_len]; omega) Try.underlying29 (by kernel_rfl)) ⟨BL, B1, B2, B3, D, Bb, b4, by omega⟩ ?_
    simp only [List.set_cons_zero, List.set_cons_succ]
    refine zv 9 28 (.slice A1 b.length C1) (fun _ ⟨BL, B1, B2, B3, D, Bb, b4, z2⟩ => Val.cel1 29 _ rfl P2 0 _ (by kernel_rfl) (fun _ => (by kernel_rfl)) B2 rfl) ⟨BL, B1, B2, B3, D, Bb, b4, by omega⟩ ?_
    simp only [List.set_cons_zero, List.set_cons_succ]
    refine zv 10 29 (.int .i64 (max s.1 ((a : Nat) : Int))) (fun _ _ => .of) ⟨BL, B1, B2, B3, D, Bb, b4, by omega⟩ ?_
    simp only [List.set_cons_zero, List.set_cons_succ]
    refine zv 11 30 (.int .i64 ((a : Nat) : Int)) (fun _ ⟨BL, B1, B2, B3, D, Bb, b4, z2⟩ => Val.cel1 3 _ rfl P1 0 _ (by kernel_rfl) (fun _ => (by kernel_rfl)) B1 rfl) ⟨BL, B1, B2, B3, D, Bb, b4, by omega⟩ ?_
    simp only [List.set_cons_zero, List.set_cons_succ]
    refine zv 12 31 (.int .i64 ((((max s.1 ((a : Nat) : Int)) - ((a : Nat) : Int)).toNat : Nat) : Int)) (fun _ ⟨BL, B1, B2, B3, D, Bb, b4, z2⟩ => Val.as (Val.sub 3 _ (.tmp 29) (.tmp 30) rfl (max s.1 ((a : Nat) : Int)) ((a : Nat) : Int) (by kernel_rfl) (by kernel_rfl) (by omega)) (congrArg (Value.int .i64) (show (((max s.1 ((a : Nat) : Int)) - ((a : Nat) : Int)) : Int) = ((((max s.1 ((a : Nat) : Int)) - ((a : Nat) : Int)).toNat : Nat) : Int) by omega))) ⟨BL, B1, B2, B3, D, Bb, b4, by omega⟩ ?_
    simp only [List.set_cons_zero, List.set_cons_succ]
    refine zv 13 32 (.int .i64 (min s.2 (((a : Nat) : Int) + (b.length : Int)))) (fun _ _ => .of) ⟨BL, B1, B2, B3, D, Bb, b4, by omega⟩ ?_
    simp only [List.set_cons_zero, List.set_cons_succ]
    refine zv 14 33 (.int .i64 ((a : Nat) : Int)) (fun _ ⟨BL, B1, B2, B3, D, Bb, b4, z2⟩ => Val.cel1 3 _ rfl P1 0 _ (by kernel_rfl) (fun _ => (by kernel_rfl)) B1 rfl) ⟨BL, B1, B2, B3, D, Bb, b4, by omega⟩ ?_
    simp only [List.set_cons_zero, List.set_cons_succ]
    refine zv 15 34 (.int .i64 ((((min s.2 (((a : Nat) : Int) + (b.length : Nat))) - ((a : Nat) : Int)).toNat : Nat) : Int)) (fun _ ⟨BL, B1, B2, B3, D, Bb, b4, z2⟩ => Val.as (Val.sub 3 _ (.tmp 32) (.tmp 33) rfl (min s.2 (((a : Nat) : Int) + (b.length : Int))) ((a : Nat) : Int) (by kernel_rfl) (by kernel_rfl) (by omega)) (congrArg (Value.int .i64) (show (((min s.2 (((a : Nat) : Int) + (b.length : Int))) - ((a : Nat) : Int)) : Int) = ((((min s.2 (((a : Nat) : Int) + (b.length : Nat))) - ((a : Nat) : Int)).toNat : Nat) : Int) by omega))) ⟨BL, B1, B2, B3, D, Bb, b4, by omega⟩ ?_
    simp only [List.set_cons_zero, List.set_cons_succ]
    refine zv 16 35 (sliceV (.slice A1 b.length C1) (((max s.1 ((a : Nat) : Int)) - ((a : Nat) : Int)).toNat) (((min s.2 (((a : Nat) : Int) + (b.length : Nat))) - ((a : Nat) : Int)).toNat)) (fun _ ⟨BL, B1, B2, B3, D, Bb, b4, z2⟩ => Val.slc 29 (.tmp 28) (some (.tmp 31)) (some (.tmp 34)) rfl (.slice A1 b.length C1) (by kernel_rfl) Bb (((max s.1 ((a : Nat) : Int)) - ((a : Nat) : Int)).toNat) (((min s.2 (((a : Nat) : Int) + (b.length : Nat))) - ((a : Nat) : Int)).toNat) (.inl (by kernel_rfl)) (.inl (by kernel_rfl)) (by omega) (by rw [nn_len]; omega) Try.underlying29 (by kernel_rfl)) ⟨BL, B1, B2, B3, D, Bb, b4, by omega⟩ ?_
    simp only [List.set_cons_zero, List.set_cons_succ]
    refine zo1 17 rfl ?_
    refine xCall 36 88 #[sliceV (.slice A0 d.length C0) ((max s.1 ((a : Nat) : Int)).toNat) ((min s.2 (((a : Nat) : Int) + (b.length : Nat))).toNat), sliceV (.slice A1 b.length C1) (((max s.1 ((a : Nat) : Int)) - ((a : Nat) : Int)).toNat) (((min s.2 (((a : Nat) : Int) + (b.length : Nat))) - ((a : Nat) : Int)).toNat)] (by kernel_rfl) ?_
    refine (equalB_any _ _ ((d.drop (max s.1 ((a : Nat) : Int)).toNat).take ((min s.2 (((a : Nat) : Int) + (b.length : Nat))).toNat - (max s.1 ((a : Nat) : Int)).toNat)) ((b.drop ((max s.1 ((a : Nat) : Int)) - ((a : Nat) : Int)).toNat).take (((min s.2 (((a : Nat) : Int) + (b.length : Nat))) - ((a : Nat) : Int)).toNat - ((max s.1 ((a : Nat) : Int)) - ((a : Nat) : Int)).toNat)) w3 ((D.slice (max s.1 ((a : Nat) : Int)).toNat (min s.2 (((a : Nat) : Int) + (b.length : Nat))).toNat (by omega) (by rw [nn_len]; omega)).castX (nn_seg _ _ _)) ((Bb.slice ((max s.1 ((a : Nat) : Int)) - ((a : Nat) : Int)).toNat ((min s.2 (((a : Nat) : Int) + (b.length : Nat))) - ((a : Nat) : Int)).toNat (by omega) (by rw [nn_len]; omega)).castX (nn_seg _ _ _))).mono ?_
    rintro en w4 ⟨rfl, hb1⟩
    have e3 := belE0 hb1
    have ze3 := e3.size
    replace BL := BL.e0 e3
    replace B1 := B1.e0 e3
    replace B2 := B2.e0 e3
    replace B3 := B3.e0 e3
    replace D := D.e0 e3
    replace Bb := Bb.e0 e3
    replace b4 := b4.e0 e3
    clear e3
    refine ⟨.bool (decide ((d.drop (max s.1 ((a : Nat) : Int)).toNat).take ((min s.2 (((a : Nat) : Int) + (b.length : Nat))).toNat - (max s.1 ((a : Nat) : Int)).toNat) = (b.drop ((max s.1 ((a : Nat) : Int)) - ((a : Nat) : Int)).toNat).take (((min s.2 (((a : Nat) : Int) + (b.length : Nat))) - ((a : Nat) : Int)).toNat - ((max s.1 ((a : Nat) : Int)) - ((a : Nat) : Int)).toNat))), rfl, ?_⟩
    refine ze 17 ⟨BL, B1, B2, B3, D, Bb, b4, by omega⟩ ?_
    simp only [List.set_cons_zero, List.set_cons_succ]
    refine zv 18 37 (.bool (decide (¬ ((d.drop (max s.1 ((a : Nat) : Int)).toNat).take ((min s.2 (((a : Nat) : Int) + (b.length : Nat))).toNat - (max s.1 ((a : Nat) : Int)).toNat) = (b.drop ((max s.1 ((a : Nat) : Int)) - ((a : Nat) : Int)).toNat).take (((min s.2 (((a : Nat) : Int) + (b.length : Nat))) - ((a : Nat) : Int)).toNat - ((max s.1 ((a : Nat) : Int)) - ((a : Nat) : Int)).toNat))))) (fun _ ⟨BL, B1, B2, B3, D, Bb, b4, z2⟩ => Val.not _ _ rfl (decide ((d.drop (max s.1 ((a : Nat) : Int)).toNat).take ((min s.2 (((a : Nat) : Int) + (b.length : Nat))).toNat - (max s.1 ((a : Nat) : Int)).toNat) = (b.drop ((max s.1 ((a : Nat) : Int)) - ((a : Nat) : Int)).toNat).take (((min s.2 (((a : Nat) : Int) + (b.length : Nat))) - ((a : Nat) : Int)).toNat - ((max s.1 ((a : Nat) : Int)) - ((a : Nat) : Int)).toNat))) (decide (¬ ((d.drop (max s.1 ((a : Nat) : Int)).toNat).take ((min s.2 (((a : Nat) : Int) + (b.length : Nat))).toNat - (max s.1 ((a : Nat) : Int)).toNat) = (b.drop ((max s.1 ((a : Nat) : Int)) - ((a : Nat) : Int)).toNat).take (((min s.2 (((a : Nat) : Int) + (b.length : Nat))) - ((a : Nat) : Int)).toNat - ((max s.1 ((a : Nat) : Int)) - ((a : Nat) : Int)).toNat)))) (by kernel_rfl) (by first | rw [decide_not] | simp)) ⟨BL, B1, B2, B3, D, Bb, b4, by omega⟩ ?_
    simp only [List.set_cons_zero, List.set_cons_succ]
    refine zv 19 38 (.bool (decide (¬ ((d.drop (max s.1 ((a : Nat) : Int)).toNat).take ((min s.2 (((a : Nat) : Int) + (b.length : Nat))).toNat - (max s.1 ((a : Nat) : Int)).toNat) = (b.drop ((max s.1 ((a : Nat) : Int)) - ((a : Nat) : Int)).toNat).take (((min s.2 (((a : Nat) : Int) + (b.length : Nat))) - ((a : Nat) : Int)).toNat - ((max s.1 ((a : Nat) : Int)) - ((a : Nat) : Int)).toNat))))) (fun _ _ => .of) ⟨BL, B1, B2, B3, D, Bb, b4, by omega⟩ ?_
    simp only [List.set_cons_zero, List.set_cons_succ]
    refine zv 20 5 (.bool (decide (¬ ((d.drop (max s.1 ((a : Nat) : Int)).toNat).take ((min s.2 (((a : Nat) : Int) + (b.length : Nat))).toNat - (max s.1 ((a : Nat) : Int)).toNat) = (b.drop ((max s.1 ((a : Nat) : Int)) - ((a : Nat) : Int)).toNat).take (((min s.2 (((a : Nat) : Int) + (b.length : Nat))) - ((a : Nat) : Int)).toNat - ((max s.1 ((a : Nat) : Int)) - ((a : Nat) : Int)).toNat))))) (fun _ _ => .of) ⟨BL, B1, B2, B3, D, Bb, b4, by omega⟩ ?_
    simp only [List.set_cons_zero, List.set_cons_succ]
    refine zd (by kernel_rfl) ?_ _
    refine hK3 _ _ ?_
    refine wp_ret ?_
    (try simp only [Exit.then, Exit.inBlock])
    refine bodyPost_ret (v := .bool (decide (¬ ((d.drop (max s.1 ((a : Nat) : Int)).toNat).take ((min s.2 (((a : Nat) : Int) + (b.length : Nat))).toNat - (max s.1 ((a : Nat) : Int)).toNat) = (b.drop ((max s.1 ((a : Nat) : Int)) - ((a : Nat) : Int)).toNat).take (((min s.2 (((a : Nat) : Int) + (b.length : Nat))) - ((a : Nat) : Int)).toNat - ((max s.1 ((a : Nat) : Int)) - ((a : Nat) : Int)).toNat))))) rT rfl ?_
    unfold clash1
    rw [decide_eq_true g23, Bool.true_and, ← decide_not]
    exact ⟨rfl, BL.b⟩
  · skip
    have dg23 : decide ((max s.1 ((a : Nat) : Int)) < (min s.2 (((a : Nat) : Int) + (b.length : Int)))) = false := decide_eq_false g23
    simp only [dg23]
    clear dg23
    refine zs 4 23 ⟨BL, B1, B2, B3, D, Bb, b4, by omega⟩ ?_
    simp only [List.set_cons_zero, List.set_cons_succ]
    refine zs 5 24 ⟨BL, B1, B2, B3, D, Bb, b4, by omega⟩ ?_
    simp only [List.set_cons_zero, List.set_cons_succ]
    refine zs 6 25 ⟨BL, B1, B2, B3, D, Bb, b4, by omega⟩ ?_
    simp only [List.set_cons_zero, List.set_cons_succ]
    refine zs 7 26 ⟨BL, B1, B2, B3, D, Bb, b4, by omega⟩ ?_
    simp only [List.set_cons_zero, List.set_cons_succ]
    refine zs 8 27 ⟨BL, B1, B2, B3, D, Bb, b4, by omega⟩ ?_
    simp only [List.set_cons_zero, List.set_cons_succ]
    refine zs 9 28 ⟨BL, B1, B2, B3, D, Bb, b4, by omega⟩ ?_
    simp only [List.set_cons_zero, List.set_cons_succ]
    refine zs 10 29 ⟨BL, B1, B2, B3, D, Bb, b4, by omega⟩ ?_
    simp only [List.set_cons_zero, List.set_cons_succ]
    refine zs 11 30 ⟨BL, B1, B2, B3, D, Bb, b4, by omega⟩ ?_
    simp only [List.set_cons_zero, List.set_cons_succ]
    refine zs 12 31 ⟨BL, B1, B2, B3, D, Bb, b4, by omega⟩ ?_
    simp only [List.set_cons_zero, List.set_cons_succ]
    refine zs 13 32 ⟨BL, B1, B2, B3, D, Bb, b4, by omega⟩ ?_
    simp only [List.set_cons_zero, List.set_cons_succ]
    refine zs 14 33 ⟨BL, B1, B2, B3, D, Bb, b4, by omega⟩ ?_
    simp only [List.set_cons_zero, List.set_cons_succ]
    refine zs 15 34 ⟨BL, B1, B2, B3, D, Bb, b4, by omega⟩ ?_
    simp only [List.set_cons_zero, List.set_cons_succ]
    refine zs 16 35 ⟨BL, B1, B2, B3, D, Bb, b4, by omega⟩ ?_
    simp only [List.set_cons_zero, List.set_cons_succ]
    refine zs 17 36 ⟨BL, B1, B2, B3, D, Bb, b4, by omega⟩ ?_
    simp only [List.set_cons_zero, List.set_cons_succ]
    refine zs 18 37 ⟨BL, B1, B2, B3, D, Bb, b4, by omega⟩ ?_
    simp only [List.set_cons_zero, List.set_cons_succ]
    refine zv 19 38 (.bool false) (fun _ _ => .of) ⟨BL, B1, B2, B3, D, Bb, b4, by omega⟩ ?_
    simp only [List.set_cons_zero, List.set_cons_succ]
    refine zv 20 5 (.bool false) (fun _ _ => .of) ⟨BL, B1, B2, B3, D, Bb, b4, by omega⟩ ?_
    simp only [List.set_cons_zero, List.set_cons_succ]
    refine zd (by kernel_rfl) ?_ _
    refine hK3 _ _ ?_
    refine wp_ret ?_
    (try simp only [Exit.then, Exit.inBlock])
    refine bodyPost_ret (v := .bool false) rT rfl ?_
    unfold clash1
    rw [decide_eq_false g23, Bool.false_and]
    exact ⟨rfl, BL.b⟩

theorem clash1_dec (s : Int × Int) (A0 A1 A2 : Option Addr) (C0 C1 C2 : Nat) (P1 P2 P3 a : Nat) (d b : List Nat) (h : List (Int × Int)) (w : World) (B1 : Cel w P1 3 [.int .i64 ((a : Nat) : Int)]) (B2 : Cel w P2 29 [.slice A1 b.length C1]) (B3 : Cel w P3 56 [.slice A0 d.length C0, .slice A2 h.length C2]) (D : SL .u8 w (.slice A0 d.length C0) (nn d)) (Bb : SL .u8 w (.slice A1 b.length C1) (nn b)) (ha : a + b.length ≤ d.length) (hs1 : 0 ≤ s.1) (hs2 : s.2 ≤ d.length) :
    Calls Try.prog 87 #[.agg #[.int .i64 s.1, .int .i64 s.2], .pointer (some ⟨P1, 0, none⟩), .pointer (some ⟨P2, 0, none⟩), .pointer (some ⟨P3, 0, none⟩)] w fun e w' => e = .returned (.bool (decide (clash1 d a b s = true))) ∧ Below w.heap.size w w' := by
  have := clash1_any s A0 A1 A2 C0 C1 C2 P1 P2 P3 a d b h w B1 B2 B3 D Bb ha hs1 hs2
  rwa [← Bool.decide_eq_true (b := clash1 d a b s)] at this

theorem any_at2 {d b : List Nat} {h : List (Int × Int)} {a : Int} {k : Nat} (hk : k < h.length) (hc : clash1 d a b (h.getD k (0, 0)) = true) : clashX d h a b = true := by
  refine List.any_eq_true.2 ⟨h.getD k (0, 0), ?_, hc⟩
  rw [List.getD_eq_getElem?_getD, List.getElem?_eq_getElem hk]; exact List.getElem_mem hk
theorem any_none2 {d b : List Nat} {h : List (Int × Int)} {a : Int} {k : Nat} (hk : k = h.length) (hc : ∀ j, j < k → ¬ clash1 d a b (h.getD j (0, 0)) = true) : clashX d h a b = false := by
  subst hk
  refine List.any_eq_false.2 fun q hq => ?_
  obtain ⟨j, hj, rfl⟩ := List.getElem_of_mem hq
  have := hc j hj
  rw [List.getD_eq_getElem?_getD, List.getElem?_eq_getElem hj] at this
  exact this
attribute [local irreducible] clash1 clashX
theorem cidx_any (A0 A1 A2 : Option Addr) (C0 C1 C2 : Nat) (P1 P2 P3 a : Nat) (d b : List Nat) (h : List (Int × Int)) (w : World) (B1 : Cel w P1 3 [.int .i64 ((a : Nat) : Int)]) (B2 : Cel w P2 29 [.slice A1 b.length C1]) (B3 : Cel w P3 56 [.slice A0 d.length C0, .slice A2 h.length C2]) (D : SL .u8 w (.slice A0 d.length C0) (nn d)) (Bb : SL .u8 w (.slice A1 b.length C1) (nn b)) (ha : a + b.length ≤ d.length) (H : SE .i64 2 w (.slice A2 h.length C2) (spS h)) (hbd : ∀ j, j < h.length → 0 ≤ (h.getD j (0, 0)).1 ∧ (h.getD j (0, 0)).2 ≤ d.length) :
    Calls Try.prog 59 #[.slice A2 h.length C2, .func (.func 87) #[] #[.pointer (some ⟨P1, 0, none⟩), .pointer (some ⟨P2, 0, none⟩), .pointer (some ⟨P3, 0, none⟩)]] w fun e w' => (∃ k : Int, e = .returned (.int .i64 k) ∧ ((0 ≤ k ∧ clashX d h a b = true) ∨ (k < 0 ∧ clashX d h a b = false))) ∧ Below w.heap.size w w' := by
  skip
  have BL := Bl.refl w
  have hdl := D.lt
  have hbl := Bb.lt
  have l1 := Cel.lt B1
  have l2 := Cel.lt B2
  have l3 := Cel.lt B3
  have hnd := nn_len d
  have hnb := nn_len b
  have hmd : d.length ≤ maxLen := by obtain ⟨_, _, _, hm⟩ := D.len; rwa [nn_len] at hm
  unfold maxLen at hmd
  have hhl := H.lt
  have hmh := H.cap.2.2
  unfold maxLen at hmh
  go_enter Try.func59, Try.ntmps59
  refine wp_seq_k fun K1 hK1 => ?_
  refine cPlain ?_
  refine sv 4 (.int .i64 0) .of ?_
  simp only [List.set_cons_zero, List.set_cons_succ]
  refine wpList_nil ?_
  refine hK1 _ _ ?_
  refine wp_seq_k fun K2 hK2 => ?_
  refine wp_seq_k fun K3 hK3 => ?_
  refine cPlain ?_
  refine sv 6 (.slice A2 h.length C2) .of ?_
  simp only [List.set_cons_zero, List.set_cons_succ]
  refine sv 7 (.int .i64 (h.length : Int)) .of ?_
  simp only [List.set_cons_zero, List.set_cons_succ]
  refine sv 8 (.int .i64 0) .of ?_
  simp only [List.set_cons_zero, List.set_cons_succ]
  refine wpList_nil ?_
  refine hK3 _ _ ?_
  refine wp_block ?_
  refine cLoop (fun N_ A_ w_ => ∃ (k : Nat), (N_ = h.length - k ∧ (k ≤ h.length) ∧ (∀ j, j < k → ¬ clash1 d a b (h.getD j (0, 0)) = true) ∧ (∃ s1 : Nat → Value, A_ = ⟨[.slice A2 h.length C2, .func (.func 87) #[] #[.pointer (some ⟨P1, 0, none⟩), .pointer (some ⟨P2, 0, none⟩), .pointer (some ⟨P3, 0, none⟩)], undef, undef, (s1 4), (s1 5), .slice A2 h.length C2, .int .i64 (h.length : Int), .int .i64 (k : Int), (s1 9), (s1 10), (s1 11), (s1 12), (s1 13), (s1 14), (s1 15), (s1 16), (s1 17), (s1 18)].toArray, []⟩) ∧ Bl w.heap.size w w_ ∧ Cel w_ P1 3 [.int .i64 ((a : Nat) : Int)] ∧ Cel w_ P2 29 [.slice A1 b.length C1] ∧ Cel w_ P3 56 [.slice A0 d.length C0, .slice A2 h.length C2] ∧ SL .u8 w_ (.slice A0 d.length C0) (nn d) ∧ SL .u8 w_ (.slice A1 b.length C1) (nn b) ∧ SE .i64 2 w_ (.slice A2 h.length C2) (spS h) ∧ w.heap.size ≤ w_.heap.size)) _ ⟨0, rfl, by omega, fun j hj => by omega, cutE, BL, B1, B2, B3, D, Bb, H, Nat.le_refl _⟩ ?_
  clear BL B1 B2 B3 D Bb H
  rintro n_ a_ wl0 ⟨k, rfl, hc0_0, hc0_1, ⟨s1, rfl⟩, BL, B1, B2, B3, D, Bb, H, zl0⟩
  refine wp_seq_k fun K4 hK4 => ?_
  refine cPlain ?_
  refine sv 9 (.bool (decide ((k : Int) < (h.length : Int)))) (Val.cmp .lss 3 _ (.tmp 8) (.tmp 7) rfl .i64 (k : Int) (h.length : Int) (by kernel_rfl) (by kernel_rfl) (by simp) _ rfl) ?_
  simp only [List.set_cons_zero, List.set_cons_succ]
  refine wpList_nil ?_
  refine hK4 _ _ ?_
  refine wp_seq_k fun K5 hK5 => ?_
  refine cDec ((k : Int) < (h.length : Int)) (by kernel_rfl) (fun c9 => ?_) (fun c9 => ?_)
  · skip
    refine wp_skip ?_
    refine hK5 _ _ ?_
    refine wp_seq_k fun K6 hK6 => ?_
    refine wp_block ?_
    refine wp_seq_k fun K7 hK7 => ?_
    refine cPlain ?_
    refine sv 10 (.int .i64 (k : Int)) .of ?_
    simp only [List.set_cons_zero, List.set_cons_succ]
    refine sv 5 (.int .i64 (k : Int)) .of ?_
    simp only [List.set_cons_zero, List.set_cons_succ]
    refine wpList_nil ?_
    refine hK7 _ _ ?_
    refine wp_seq_k fun K8 hK8 => ?_
    refine cPlain ?_
    refine sv 11 (.func (.func 87) #[] #[.pointer (some ⟨P1, 0, none⟩), .pointer (some ⟨P2, 0, none⟩), .pointer (some ⟨P3, 0, none⟩)]) .of ?_
    simp only [List.set_cons_zero, List.set_cons_succ]
    refine sv 12 (.slice A2 h.length C2) .of ?_
    simp only [List.set_cons_zero, List.set_cons_succ]
    refine sv 13 (.int .i64 (k : Int)) .of ?_
    simp only [List.set_cons_zero, List.set_cons_succ]
    refine sv 14 (elemE 2 (.slice A2 h.length C2) k) (Val.ixE 54 (.tmp 12) (.tmp 13) rfl (.slice A2 h.length C2) k (by kernel_rfl) (by kernel_rfl) H Try.underlying54 (by kernel_rfl) (by simp only [spS_len]; omega)) ?_
    simp only [List.set_cons_zero, List.set_cons_succ]
    refine sv 15 (.agg #[.int .i64 (h.getD k (0, 0)).1, .int .i64 (h.getD k (0, 0)).2]) (Val.ldS 70 _ rfl (.slice A2 h.length C2) k (by kernel_rfl) H _ Try.underlying70 rfl (by kernel_rfl) (by omega)) ?_
    simp only [List.set_cons_zero, List.set_cons_succ]
    refine xCall 16 87 #[.agg #[.int .i64 (h.getD k (0, 0)).1, .int .i64 (h.getD k (0, 0)).2], .pointer (some ⟨P1, 0, none⟩), .pointer (some ⟨P2, 0, none⟩), .pointer (some ⟨P3, 0, none⟩)] (by kernel_rfl) ?_
    refine (clash1_dec (h.getD k (0, 0)) A0 A1 A2 C0 C1 C2 P1 P2 P3 a d b h wl0 B1 B2 B3 D Bb ha (hbd k (by omega)).1 (hbd k (by omega)).2).mono ?_
    rintro en w1 ⟨rfl, hb1⟩
    have e1 := belE0 hb1
    have ze1 := e1.size
    replace BL := BL.e0 e1
    replace B1 := B1.e0 e1
    replace B2 := B2.e0 e1
    replace B3 := B3.e0 e1
    replace D := D.e0 e1
    replace Bb := Bb.e0 e1
    replace H := H.e0 e1
    clear e1
    refine ⟨.bool (decide (clash1 d a b (h.getD k (0, 0)) = true)), rfl, ?_⟩
    simp only [List.set_cons_zero, List.set_cons_succ]
    refine wpList_nil ?_
    refine hK8 _ _ ?_
    refine cDec (clash1 d a b (h.getD k (0, 0)) = true) (by kernel_rfl) (fun c16 => ?_) (fun c16 => ?_)
    · skip
      refine wp_seq_k fun K9 hK9 => ?_
      refine cPlain ?_
      refine sv 17 (.int .i64 (k : Int)) .of ?_
      simp only [List.set_cons_zero, List.set_cons_succ]
      refine sv 4 (.int .i64 (k : Int)) .of ?_
      simp only [List.set_cons_zero, List.set_cons_succ]
      refine wpList_nil ?_
      refine hK9 _ _ ?_
      refine wp_ret ?_
      (try simp only [Exit.then, Exit.inBlock])
      refine bodyPost_ret (v := .int .i64 (k : Int)) rT rfl ?_
      refine ⟨⟨_, rfl, .inl ⟨by omega, any_at2 (k := k) (by omega) c16⟩⟩, BL.b⟩
    · skip
      refine wp_skip ?_
      refine hK6 _ _ ?_
      refine cPlain ?_
      refine sv 18 (.int .i64 ((k : Int) + 1)) (Val.add 3 _ (.tmp 8) _ rfl (k : Int) 1 (by kernel_rfl) (by kernel_rfl) (by omega)) ?_
      simp only [List.set_cons_zero, List.set_cons_succ]
      refine sv 8 (.int .i64 ((k : Int) + 1)) .of ?_
      simp only [List.set_cons_zero, List.set_cons_succ]
      refine wpList_nil ?_
      refine ⟨_, ?_, k + 1, rfl, by omega, fun j hj => by rcases Nat.lt_succ_iff_lt_or_eq.1 hj with h | rfl; exact hc0_1 j h; exact c16, cutE, BL, B1, B2, B3, D, Bb, H, by omega⟩
      omega
  · skip
    refine wp_exit ?_
    simp only [Exit.then, Exit.inBlock, ↓reduceIte, Nat.reduceEqDiff]
    refine hK2 _ _ ?_
    refine wp_seq_k fun K10 hK10 => ?_
    refine cPlain ?_
    refine sv 4 (.int .i64 (-1)) .of ?_
    simp only [List.set_cons_zero, List.set_cons_succ]
    refine wpList_nil ?_
    refine hK10 _ _ ?_
    refine wp_ret ?_
    (try simp only [Exit.then, Exit.inBlock])
    refine bodyPost_ret (v := .int .i64 (-1)) rT rfl ?_
    refine ⟨⟨_, rfl, .inr ⟨by omega, any_none2 (k := k) (by omega) hc0_1⟩⟩, BL.b⟩

theorem ccont_any (A0 A1 A2 : Option Addr) (C0 C1 C2 : Nat) (P1 P2 P3 a : Nat) (d b : List Nat) (h : List (Int × Int)) (w : World) (B1 : Cel w P1 3 [.int .i64 ((a : Nat) : Int)]) (B2 : Cel w P2 29 [.slice A1 b.length C1]) (B3 : Cel w P3 56 [.slice A0 d.length C0, .slice A2 h.length C2]) (D : SL .u8 w (.slice A0 d.length C0) (nn d)) (Bb : SL .u8 w (.slice A1 b.length C1) (nn b)) (ha : a + b.length ≤ d.length) (H : SE .i64 2 w (.slice A2 h.length C2) (spS h)) (hbd : ∀ j, j < h.length → 0 ≤ (h.getD j (0, 0)).1 ∧ (h.getD j (0, 0)).2 ≤ d.length) :
    Calls Try.prog 86 #[.slice A2 h.length C2, .func (.func 87) #[] #[.pointer (some ⟨P1, 0, none⟩), .pointer (some ⟨P2, 0, none⟩), .pointer (some ⟨P3, 0, none⟩)]] w fun e w' => e = .returned (.bool (clashX d h a b)) ∧ Below w.heap.size w w' := by
  skip
  have BL := Bl.refl w
  have hdl := D.lt
  have hbl := Bb.lt
  have l1 := Cel.lt B1
  have l2 := Cel.lt B2
  have l3 := Cel.lt B3
  have hnd := nn_len d
  have hnb := nn_len b
  have hmd : d.length ≤ maxLen := by obtain ⟨_, _, _, hm⟩ := D.len; rwa [nn_len] at hm
  unfold maxLen at hmd
  have hhl := H.lt
  have hmh := H.cap.2.2
  unfold maxLen at hmh
  go_enter Try.func86, Try.ntmps86
  refine wp_seq_k fun K1 hK1 => ?_
  refine cPlain ?_
  refine sv 4 (.bool false) .of ?_
  simp only [List.set_cons_zero, List.set_cons_succ]
  refine wpList_nil ?_
  refine hK1 _ _ ?_
  refine wp_seq_k fun K2 hK2 => ?_
  refine cPlain ?_
  refine sv 5 (.slice A2 h.length C2) .of ?_
  simp only [List.set_cons_zero, List.set_cons_succ]
  refine sv 6 (.func (.func 87) #[] #[.pointer (some ⟨P1, 0, none⟩), .pointer (some ⟨P2, 0, none⟩), .pointer (some ⟨P3, 0, none⟩)]) .of ?_
  simp only [List.set_cons_zero, List.set_cons_succ]
  refine xCall 7 59 #[.slice A2 h.length C2, .func (.func 87) #[] #[.pointer (some ⟨P1, 0, none⟩), .pointer (some ⟨P2, 0, none⟩), .pointer (some ⟨P3, 0, none⟩)]] (by kernel_rfl) ?_
  refine (cidx_any A0 A1 A2 C0 C1 C2 P1 P2 P3 a d b h w B1 B2 B3 D Bb ha H hbd).mono ?_
  rintro en w1 ⟨⟨k, rfl, hk⟩, hb1⟩
  have e1 := belE0 hb1
  have ze1 := e1.size
  replace BL := BL.e0 e1
  replace B1 := B1.e0 e1
  replace B2 := B2.e0 e1
  replace B3 := B3.e0 e1
  replace D := D.e0 e1
  replace Bb := Bb.e0 e1
  replace H := H.e0 e1
  clear e1
  refine ⟨.int .i64 k, rfl, ?_⟩
  simp only [List.set_cons_zero, List.set_cons_succ]
  refine sv 8 (.bool (decide (0 ≤ k))) (Val.cmp .geq 3 _ (.tmp 7) _ rfl .i64 k 0 (by kernel_rfl) (by kernel_rfl) (by simp) _ rfl) ?_
  simp only [List.set_cons_zero, List.set_cons_succ]
  refine sv 4 (.bool (decide (0 ≤ k))) .of ?_
  simp only [List.set_cons_zero, List.set_cons_succ]
  refine wpList_nil ?_
  refine hK2 _ _ ?_
  refine wp_ret ?_
  (try simp only [Exit.then, Exit.inBlock])
  refine bodyPost_ret (v := .bool (decide (0 ≤ k))) rT rfl ?_
  have hR : decide (0 ≤ k) = clashX d h a b := by
    rcases hk with ⟨h, h'⟩ | ⟨h, h'⟩
    · rw [h']; exact decide_eq_true h
    · rw [h']; exact decide_eq_false (by omega)
  rw [hR]
  exact ⟨rfl, BL.b⟩

theorem clash_any (A0 A1 A2 : Option Addr) (C0 C1 C2 : Nat) (a : Nat) (d b : List Nat) (h : List (Int × Int)) (w : World) (D : SL .u8 w (.slice A0 d.length C0) (nn d)) (Bb : SL .u8 w (.slice A1 b.length C1) (nn b)) (H : SE .i64 2 w (.slice A2 h.length C2) (spS h)) (ha : a + b.length ≤ d.length) (hbd : ∀ j, j < h.length → 0 ≤ (h.getD j (0, 0)).1 ∧ (h.getD j (0, 0)).2 ≤ d.length) :
    Calls Try.prog 58 #[.agg #[.slice A0 d.length C0, .slice A2 h.length C2], .int .i64 ((a : Nat) : Int), .slice A1 b.length C1] w fun e w' => e = .returned (.bool (clashX d h a b)) ∧ Below w.heap.size w w' := by
  have BL := Bl.refl w
  have hdl := D.lt
  have hbl := Bb.lt
  have hhl := H.lt
  go_enter Try.func58, Try.ntmps58
  refine wp_seq_k fun K1 hK1 => ?_
  refine cPlain ?_
  refine xBox 3 56 _ [.slice A0 d.length C0, .slice A2 h.length C2] rfl (by kernel_rfl) ?_
  intro w1 n1
  have zn1 := n1.z
  have b3 := n1.c
  replace BL := BL.e0 n1.e
  replace D := D.e0 n1.e
  replace Bb := Bb.e0 n1.e
  replace H := H.e0 n1.e
  simp only [List.set_cons_zero, List.set_cons_succ]
  refine xBox 4 3 _ [.int .i64 ((a : Nat) : Int)] rfl (by kernel_rfl) ?_
  intro w2 n2
  have zn2 := n2.z
  have b4 := n2.c
  replace BL := BL.e0 n2.e
  replace D := D.e0 n2.e
  replace Bb := Bb.e0 n2.e
  replace H := H.e0 n2.e
  replace b3 := b3.e0 n2.e
  simp only [List.set_cons_zero, List.set_cons_succ]
  refine xBox 5 29 _ [.slice A1 b.length C1] rfl (by kernel_rfl) ?_
  intro w3 n3
  have zn3 := n3.z
  have b5 := n3.c
  replace BL := BL.e0 n3.e
  replace D := D.e0 n3.e
  replace Bb := Bb.e0 n3.e
  replace H := H.e0 n3.e
  replace b3 := b3.e0 n3.e
  replace b4 := b4.e0 n3.e
  simp only [List.set_cons_zero, List.set_cons_succ]
  refine sv 6 (.bool false) .of ?_
  simp only [List.set_cons_zero, List.set_cons_succ]
  refine wpList_nil ?_
  refine hK1 _ _ ?_
  refine wp_seq_k fun K2 hK2 => ?_
  refine cPlain ?_
  refine sv 7 (.pointer (some ⟨w.heap.size, 1, none⟩)) .of ?_
  simp only [List.set_cons_zero, List.set_cons_succ]
  refine sv 8 (.slice A2 h.length C2) (Val.cel1 54 _ rfl w.heap.size 1 _ (by kernel_rfl) (fun _ => (by kernel_rfl)) b3 rfl) ?_
  simp only [List.set_cons_zero, List.set_cons_succ]
  refine sv 9 (.func (.func 87) #[] #[.pointer (some ⟨w1.heap.size, 0, none⟩), .pointer (some ⟨w2.heap.size, 0, none⟩), .pointer (some ⟨w.heap.size, 0, none⟩)]) .of ?_
  simp only [List.set_cons_zero, List.set_cons_succ]
  refine xCall 10 86 #[.slice A2 h.length C2, .func (.func 87) #[] #[.pointer (some ⟨w1.heap.size, 0, none⟩), .pointer (some ⟨w2.heap.size, 0, none⟩), .pointer (some ⟨w.heap.size, 0, none⟩)]] (by kernel_rfl) ?_
  refine (ccont_any A0 A1 A2 C0 C1 C2 _ _ _ a d b h w3 b4 b5 b3 D Bb ha H hbd).mono ?_
  rintro en w4 ⟨rfl, hb1⟩
  have e1 := belE0 hb1
  have ze1 := e1.size
  replace BL := BL.e0 e1
  replace D := D.e0 e1
  replace Bb := Bb.e0 e1
  replace H := H.e0 e1
  replace b3 := b3.e0 e1
  replace b4 := b4.e0 e1
  replace b5 := b5.e0 e1
  clear e1
  refine ⟨.bool (clashX d h a b), rfl, ?_⟩
  simp only [List.set_cons_zero, List.set_cons_succ]
  refine sv 6 (.bool (clashX d h a b)) .of ?_
  simp only [List.set_cons_zero, List.set_cons_succ]
  refine wpList_nil ?_
  refine hK2 _ _ ?_
  refine wp_ret ?_
  (try simp only [Exit.then, Exit.inBlock])
  refine bodyPost_ret (v := .bool (clashX d h a b)) rT rfl ?_
  exact ⟨rfl, BL.b⟩

def fidx (a : Int) : List (Int × Int) → Nat
  | [] => 0
  | t :: h => if a ≤ t.2 then 0 else fidx a h + 1
theorem fidx_of {a : Int} : ∀ {h : List (Int × Int)} {k : Nat}, k ≤ h.length → (∀ j, j < k → ¬ a ≤ (h.getD j (0, 0)).2) → (k = h.length ∨ a ≤ (h.getD k (0, 0)).2) → fidx a h = k
  | [], k, hk, _, _ => by simp at hk; rw [hk]; rfl
  | t :: h, 0, _, _, hq => by
    unfold fidx
    rw [if_pos]
    rcases hq with hq | hq
    · simp at hq
    · simpa using hq
  | t :: h, k + 1, hk, hj, hq => by
    unfold fidx
    rw [if_neg (by simpa using hj 0 (by omega)), fidx_of (h := h) (k := k) (by simpa using hk) (fun j hjk => by simpa using hj (j + 1) (by omega)) (by simpa using hq)]
theorem fidx_le (a : Int) : ∀ h : List (Int × Int), fidx a h ≤ h.length
  | [] => Nat.le_refl _
  | t :: h => by unfold fidx; split; exact Nat.zero_le _; have := fidx_le a h; rw [List.length_cons]; omega
theorem putS_fidx (s : Int × Int) : ∀ h : List (Int × Int), putS s h = h.take (fidx s.1 h) ++ mrgS s (h.drop (fidx s.1 h))
  | [] => rfl
  | t :: h => by
    unfold putS fidx
    by_cases hq : t.2 < s.1
    · rw [if_pos hq, if_neg (by omega), putS_fidx s h]; rfl
    · rw [if_neg hq, if_pos (by omega)]; rfl
theorem mrgS_go {s : Int × Int} {h : List (Int × Int)} {q : Nat} (hq : q < h.length) (hc : (h.getD q (0, 0)).1 ≤ s.2) : mrgS s (h.drop q) = mrgS (min s.1 (h.getD q (0, 0)).1, max s.2 (h.getD q (0, 0)).2) (h.drop (q + 1)) := by
  rw [List.getD_eq_getElem?_getD, List.getElem?_eq_getElem hq] at hc ⊢
  simp only [Option.getD_some] at hc ⊢
  rw [List.drop_eq_getElem_cons hq]
  conv => lhs; unfold mrgS
  rw [if_pos hc]
theorem mrgS_stop {s : Int × Int} {h : List (Int × Int)} {q : Nat} (hc : h.length ≤ q ∨ ¬ (h.getD q (0, 0)).1 ≤ s.2) : mrgS s (h.drop q) = s :: h.drop q := by
  by_cases hq : q < h.length
  · rcases hc with hc | hc
    · omega
    · rw [List.getD_eq_getElem?_getD, List.getElem?_eq_getElem hq] at hc
      simp only [Option.getD_some] at hc
      rw [List.drop_eq_getElem_cons hq]
      conv => lhs; unfold mrgS
      rw [if_neg hc]
  · rw [List.drop_of_length_le (by omega)]; rfl

theorem put1_any (t : Int × Int) (w : World) (g : Nat) (sa sb : Int) (B1 : Cel w g 70 [.int .i64 sa, .int .i64 sb]) :
    Calls Try.prog 60 #[.agg #[.int .i64 t.1, .int .i64 t.2], .pointer (some ⟨g, 0, none⟩)] w fun e w' => e = .returned (.bool (decide (sa ≤ t.2))) ∧ Below w.heap.size w w' := by
  have BL := Bl.refl w
  have l1 := Cel.lt B1
  go_enter Try.func60, Try.ntmps60
  refine wp_seq_k fun K1 hK1 => ?_
  refine cPlain ?_
  refine xBox 2 70 _ [.int .i64 t.1, .int .i64 t.2] rfl (by kernel_rfl) ?_
  intro w1 n1
  have zn1 := n1.z
  have b2 := n1.c
  replace BL := BL.e0 n1.e
  replace B1 := B1.e0 n1.e
  simp only [List.set_cons_zero, List.set_cons_succ]
  refine sv 3 (.bool false) .of ?_
  simp only [List.set_cons_zero, List.set_cons_succ]
  refine wpList_nil ?_
  refine hK1 _ _ ?_
  refine wp_seq_k fun K2 hK2 => ?_
  refine cPlain ?_
  refine sv 4 (.pointer (some ⟨w.heap.size, 1, none⟩)) .of ?_
  simp only [List.set_cons_zero, List.set_cons_succ]
  refine sv 5 (.int .i64 t.2) (Val.cel1 3 _ rfl w.heap.size 1 _ (by kernel_rfl) (fun _ => (by kernel_rfl)) b2 rfl) ?_
  simp only [List.set_cons_zero, List.set_cons_succ]
  refine sv 6 (.pointer (some ⟨g, 0, none⟩)) .of ?_
  simp only [List.set_cons_zero, List.set_cons_succ]
  refine sv 7 (.int .i64 sa) (Val.cel1 3 _ rfl g 0 _ (by kernel_rfl) (fun _ => (by kernel_rfl)) B1 rfl) ?_
  simp only [List.set_cons_zero, List.set_cons_succ]
  refine sv 8 (.bool (decide (sa ≤ t.2))) (Val.cmp .geq 3 _ (.tmp 5) (.tmp 7) rfl .i64 t.2 sa (by kernel_rfl) (by kernel_rfl) (by simp) _ rfl) ?_
  simp only [List.set_cons_zero, List.set_cons_succ]
  refine sv 3 (.bool (decide (sa ≤ t.2))) .of ?_
  simp only [List.set_cons_zero, List.set_cons_succ]
  refine wpList_nil ?_
  refine hK2 _ _ ?_
  refine wp_ret ?_
  (try simp only [Exit.then, Exit.inBlock])
  refine bodyPost_ret (v := .bool (decide (sa ≤ t.2))) rT rfl ?_
  exact ⟨rfl, BL.b⟩

theorem pidx_any (A2 : Option Addr) (C2 : Nat) (h : List (Int × Int)) (w : World) (g : Nat) (sa sb : Int) (B1 : Cel w g 70 [.int .i64 sa, .int .i64 sb]) (H : SE .i64 2 w (.slice A2 h.length C2) (spS h)) :
    Calls Try.prog 59 #[.slice A2 h.length C2, .func (.func 60) #[] #[.pointer (some ⟨g, 0, none⟩)]] w fun e w' => ((fidx sa h < h.length ∧ e = .returned (.int .i64 ((fidx sa h : Nat) : Int))) ∨ (fidx sa h = h.length ∧ e = .returned (.int .i64 (-1)))) ∧ Below w.heap.size w w' := by
  have BL := Bl.refl w
  have l1 := Cel.lt B1
  have hhl := H.lt
  have hmh := H.cap.2.2
  unfold maxLen at hmh
  go_enter Try.func59, Try.ntmps59
  refine wp_seq_k fun K1 hK1 => ?_
  refine cPlain ?_
  refine sv 4 (.int .i64 0) .of ?_
  simp only [List.set_cons_zero, List.set_cons_succ]
  refine wpList_nil ?_
  refine hK1 _ _ ?_
  refine wp_seq_k fun K2 hK2 => ?_
  refine wp_seq_k fun K3 hK3 => ?_
  refine cPlain ?_
  refine sv 6 (.slice A2 h.length C2) .of ?_
  simp only [List.set_cons_zero, List.set_cons_succ]
  refine sv 7 (.int .i64 (h.length : Int)) .of ?_
  simp only [List.set_cons_zero, List.set_cons_succ]
  refine sv 8 (.int .i64 0) .of ?_
  simp only [List.set_cons_zero, List.set_cons_succ]
  refine wpList_nil ?_
  refine hK3 _ _ ?_
  refine wp_block ?_
  refine cLoop (fun N_ A_ w_ => ∃ (k : Nat), (N_ = h.length - k ∧ (k ≤ h.length) ∧ (∀ j, j < k → ¬ sa ≤ (h.getD j (0, 0)).2) ∧ (∃ s1 : Nat → Value, A_ = ⟨[.slice A2 h.length C2, .func (.func 60) #[] #[.pointer (some ⟨g, 0, none⟩)], undef, undef, (s1 4), (s1 5), .slice A2 h.length C2, .int .i64 (h.length : Int), .int .i64 (k : Int), (s1 9), (s1 10), (s1 11), (s1 12), (s1 13), (s1 14), (s1 15), (s1 16), (s1 17), (s1 18)].toArray, []⟩) ∧ Bl w.heap.size w w_ ∧ Cel w_ g 70 [.int .i64 sa, .int .i64 sb] ∧ SE .i64 2 w_ (.slice A2 h.length C2) (spS h) ∧ w.heap.size ≤ w_.heap.size)) _ ⟨0, rfl, by omega, fun j hj => by omega, cutE, BL, B1, H, Nat.le_refl _⟩ ?_
  clear BL B1 H
  rintro n_ a_ wl0 ⟨k, rfl, hc0_0, hc0_1, ⟨s1, rfl⟩, BL, B1, H, zl0⟩
  refine wp_seq_k fun K4 hK4 => ?_
  refine cPlain ?_
  refine sv 9 (.bool (decide ((k : Int) < (h.length : Int)))) (Val.cmp .lss 3 _ (.tmp 8) (.tmp 7) rfl .i64 (k : Int) (h.length : Int) (by kernel_rfl) (by kernel_rfl) (by simp) _ rfl) ?_
  simp only [List.set_cons_zero, List.set_cons_succ]
  refine wpList_nil ?_
  refine hK4 _ _ ?_
  refine wp_seq_k fun K5 hK5 => ?_
  refine cDec ((k : Int) < (h.length : Int)) (by kernel_rfl) (fun c9 => ?_) (fun c9 => ?_)
  · skip
    refine wp_skip ?_
    refine hK5 _ _ ?_
    refine wp_seq_k fun K6 hK6 => ?_
    refine wp_block ?_
    refine wp_seq_k fun K7 hK7 => ?_
    refine cPlain ?_
    refine sv 10 (.int .i64 (k : Int)) .of ?_
    simp only [List.set_cons_zero, List.set_cons_succ]
    refine sv 5 (.int .i64 (k : Int)) .of ?_
    simp only [List.set_cons_zero, List.set_cons_succ]
    refine wpList_nil ?_
    refine hK7 _ _ ?_
    refine wp_seq_k fun K8 hK8 => ?_
    refine cPlain ?_
    refine sv 11 (.func (.func 60) #[] #[.pointer (some ⟨g, 0, none⟩)]) .of ?_
    simp only [List.set_cons_zero, List.set_cons_succ]
    refine sv 12 (.slice A2 h.length C2) .of ?_
    simp only [List.set_cons_zero, List.set_cons_succ]
    refine sv 13 (.int .i64 (k : Int)) .of ?_
    simp only [List.set_cons_zero, List.set_cons_succ]
    refine sv 14 (elemE 2 (.slice A2 h.length C2) k) (Val.ixE 54 (.tmp 12) (.tmp 13) rfl (.slice A2 h.length C2) k (by kernel_rfl) (by kernel_rfl) H Try.underlying54 (by kernel_rfl) (by simp only [spS_len]; omega)) ?_
    simp only [List.set_cons_zero, List.set_cons_succ]
    refine sv 15 (.agg #[.int .i64 (h.getD k (0, 0)).1, .int .i64 (h.getD k (0, 0)).2]) (Val.ldS 70 _ rfl (.slice A2 h.length C2) k (by kernel_rfl) H _ Try.underlying70 rfl (by kernel_rfl) (by omega)) ?_
    simp only [List.set_cons_zero, List.set_cons_succ]
    refine xCall 16 60 #[.agg #[.int .i64 (h.getD k (0, 0)).1, .int .i64 (h.getD k (0, 0)).2], .pointer (some ⟨g, 0, none⟩)] (by kernel_rfl) ?_
    refine (put1_any (h.getD k (0, 0)) wl0 g sa sb B1).mono ?_
    rintro en w1 ⟨rfl, hb1⟩
    have e1 := belE0 hb1
    have ze1 := e1.size
    replace BL := BL.e0 e1
    replace B1 := B1.e0 e1
    replace H := H.e0 e1
    clear e1
    refine ⟨.bool (decide (sa ≤ (h.getD k (0, 0)).2)), rfl, ?_⟩
    simp only [List.set_cons_zero, List.set_cons_succ]
    refine wpList_nil ?_
    refine hK8 _ _ ?_
    refine cDec (sa ≤ (h.getD k (0, 0)).2) (by kernel_rfl) (fun c16 => ?_) (fun c16 => ?_)
    · skip
      refine wp_seq_k fun K9 hK9 => ?_
      refine cPlain ?_
      refine sv 17 (.int .i64 (k : Int)) .of ?_
      simp only [List.set_cons_zero, List.set_cons_succ]
      refine sv 4 (.int .i64 (k : Int)) .of ?_
      simp only [List.set_cons_zero, List.set_cons_succ]
      refine wpList_nil ?_
      refine hK9 _ _ ?_
      refine wp_ret ?_
      (try simp only [Exit.then, Exit.inBlock])
      refine bodyPost_ret (v := .int .i64 (k : Int)) rT rfl ?_
      have hf := fidx_of hc0_0 hc0_1 (.inr c16)
      rw [hf]
      exact ⟨.inl ⟨by omega, rfl⟩, BL.b⟩
    · skip
      refine wp_skip ?_
      refine hK6 _ _ ?_
      refine cPlain ?_
      refine sv 18 (.int .i64 ((k : Int) + 1)) (Val.add 3 _ (.tmp 8) _ rfl (k : Int) 1 (by kernel_rfl) (by kernel_rfl) (by omega)) ?_
      simp only [List.set_cons_zero, List.set_cons_succ]
      refine sv 8 (.int .i64 ((k : Int) + 1)) .of ?_
      simp only [List.set_cons_zero, List.set_cons_succ]
      refine wpList_nil ?_
      refine ⟨_, ?_, k + 1, rfl, by omega, fun j hj => by rcases Nat.lt_succ_iff_lt_or_eq.1 hj with h | rfl; exact hc0_1 j h; exact c16, cutE, BL, B1, H, by omega⟩
      omega
  · skip
    refine wp_exit ?_
    simp only [Exit.then, Exit.inBlock, ↓reduceIte, Nat.reduceEqDiff]
    refine hK2 _ _ ?_
    refine wp_seq_k fun K10 hK10 => ?_
    refine cPlain ?_
    refine sv 4 (.int .i64 (-1)) .of ?_
    simp only [List.set_cons_zero, List.set_cons_succ]
    refine wpList_nil ?_
    refine hK10 _ _ ?_
    refine wp_ret ?_
    (try simp only [Exit.then, Exit.inBlock])
    refine bodyPost_ret (v := .int .i64 (-1)) rT rfl ?_
    have hf := fidx_of hc0_0 hc0_1 (.inl (by omega))
    exact ⟨.inr ⟨by omega, rfl⟩, BL.b⟩

theorem cloneS_nil (w : World) :
    Calls Try.prog 85 #[.slice none 0 0] w fun e w' => e = .returned (.slice none 0 0) ∧ w' = w := by
  go_enter Try.func85, Try.ntmps85
  refine wp_seq_k fun K1 hK1 => ?_
  refine cPlain ?_
  refine sv 2 (.slice none 0 0) .of ?_
  simp only [List.set_cons_zero, List.set_cons_succ]
  refine wpList_nil ?_
  refine hK1 _ _ ?_
  refine wp_seq_k fun K2 hK2 => ?_
  refine wp_seq_k fun K3 hK3 => ?_
  refine cPlain ?_
  refine sv 3 (.slice none 0 0) .of ?_
  simp only [List.set_cons_zero, List.set_cons_succ]
  refine sv 4 (.bool true) .of ?_
  simp only [List.set_cons_zero, List.set_cons_succ]
  refine wpList_nil ?_
  refine hK3 _ _ ?_
  refine cT ?_
  refine wp_seq_k fun K4 hK4 => ?_
  refine cPlain ?_
  refine sv 2 (.slice none 0 0) .of ?_
  simp only [List.set_cons_zero, List.set_cons_succ]
  refine wpList_nil ?_
  refine hK4 _ _ ?_
  refine wp_ret ?_
  (try simp only [Exit.then, Exit.inBlock])
  refine bodyPost_ret (v := .slice none 0 0) rT rfl ?_
  exact ⟨rfl, rfl⟩

theorem cloneS_some (a : Addr) (n c : Nat) (h : List (Int × Int)) (w : World) (hv : SE .i64 2 w (.slice (some a) n c) (spS h)) (hl : h.length ≤ 1000000) :
    Calls Try.prog 85 #[.slice (some a) n c] w fun e w' => ∃ r, e = .returned r ∧ OwnE 70 .i64 2 w.heap.size w' r (spS h) ∧ Below w.heap.size w w' := by
  have BL := Bl.refl w
  go_enter Try.func85, Try.ntmps85
  refine wp_seq_k fun K1 hK1 => ?_
  refine cPlain ?_
  refine sv 2 (.slice none 0 0) .of ?_
  simp only [List.set_cons_zero, List.set_cons_succ]
  refine wpList_nil ?_
  refine hK1 _ _ ?_
  refine wp_seq_k fun K2 hK2 => ?_
  refine wp_seq_k fun K3 hK3 => ?_
  refine cPlain ?_
  refine sv 3 (.slice (some a) n c) .of ?_
  simp only [List.set_cons_zero, List.set_cons_succ]
  refine sv 4 (.bool false) .of ?_
  simp only [List.set_cons_zero, List.set_cons_succ]
  refine wpList_nil ?_
  refine hK3 _ _ ?_
  refine cF ?_
  refine wp_skip ?_
  refine hK2 _ _ ?_
  refine wp_seq_k fun K4 hK4 => ?_
  refine cPlain ?_
  refine xLit 5 54 70 0 _ #[] [] rfl (by kernel_rfl) (by kernel_rfl) ?_
  intro w1 nw
  have e1 : E0 w w1 := nw.e
  have ze1 := e1.size
  replace BL := BL.e0 e1
  clear e1
  have OA : OwnE 70 .i64 2 w.heap.size w1 (.slice (some ⟨w.heap.size, 0, none⟩) 0 0) (spS []) := OwnE.ofCel (ds := spS []) nw.c (fun d h => by cases h) rfl (Nat.le_refl _) (Nat.zero_le _)
  have lOA_1 := OA.ge
  simp only [List.set_cons_zero, List.set_cons_succ]
  refine sv 6 (.slice (some a) n c) .of ?_
  simp only [List.set_cons_zero, List.set_cons_succ]
  refine xAppE 7 (.tmp 5) (.tmp 6) 54 70 .i64 2 16 rfl Try.underlying54 (by kernel_rfl) (by omega) w.heap.size (.slice (some ⟨w.heap.size, 0, none⟩) 0 0) (spS []) (by kernel_rfl) OA (.slice (some a) n c) (spS h) (by kernel_rfl) (hv.below BL.b) ?va1_1 ?va1_2 ?va1_3 ?_
  case va1_1 => simp only [spS_len, List.length_append, List.length_cons, List.length_nil]; omega
  case va1_2 => simp only [spS_len, List.length_append, List.length_cons, List.length_nil]; unfold maxLen; omega
  case va1_3 => omega
  intro va1 w2 rva1 e2
  have ze2 := e2.size
  have BL_ := BL.ev e2 (fun i h => by have := lOA_1 _ h; omega)
  replace BL := BL_; clear BL_
  rw [← spS_app] at rva1
  replace OA := rva1
  clear rva1 e2
  have lOA_2 := OA.ge
  simp only [List.set_cons_zero, List.set_cons_succ]
  refine sv 2 (va1) .of ?_
  simp only [List.set_cons_zero, List.set_cons_succ]
  refine wpList_nil ?_
  refine hK4 _ _ ?_
  refine wp_ret ?_
  (try simp only [Exit.then, Exit.inBlock])
  refine bodyPost_ret (v := va1) rT rfl ?_
  exact ⟨_, rfl, OA.cast (by rw [List.nil_append]), BL.b⟩

theorem cloneS_any (v : Value) (h : List (Int × Int)) (w : World) (hv : SE .i64 2 w v (spS h)) (hl : h.length ≤ 1000000) :
    Calls Try.prog 85 #[v] w fun e w' => ∃ r, e = .returned r ∧ OwnE 70 .i64 2 w.heap.size w' r (spS h) ∧ Below w.heap.size w w' := by
  have hv' := hv
  obtain ⟨_, hh⟩ := hv
  rcases hh with ⟨rfl, he⟩ | ⟨b, o, c, rfl, _⟩
  · have h0 : h = [] := List.eq_nil_of_length_eq_zero (by rw [← spS_len, he]; rfl)
    subst h0
    refine (cloneS_nil w).mono ?_
    rintro _ _ ⟨rfl, rfl⟩
    exact ⟨_, rfl, OwnE.nil _ _ _ _ _, Below.refl _ _⟩
  · exact cloneS_some _ _ _ h w hv' hl
theorem own_any (dv hv : Value) (d : List Nat) (h : List (Int × Int)) (w : World) (D : SL .u8 w dv (nn d)) (H : SE .i64 2 w hv (spS h)) (hd : d.length ≤ 1000000) (hh : h.length ≤ 1000000) :
    Calls Try.prog 57 #[.agg #[dv, hv]] w fun e w' => (∃ r1 r2 m, e = .returned (.agg #[r1, r2]) ∧ Own 5 .u8 w.heap.size w' r1 (nn d) ∧ OwnE 70 .i64 2 w.heap.size w' r2 (spS h) ∧ (∀ i, r1.ownBlock = some i → i < m) ∧ (∀ i, r2.ownBlock = some i → m ≤ i) ∧ w.heap.size ≤ m ∧ m ≤ w'.heap.size) ∧ Below w.heap.size w w' := by
  have BL := Bl.refl w
  have hdl := D.lt
  have hhl := H.lt
  go_enter Try.func57, Try.ntmps57
  refine wp_seq_k fun K1 hK1 => ?_
  refine cPlain ?_
  refine xBox 1 56 _ [dv, hv] rfl (by kernel_rfl) ?_
  intro w1 n1
  have zn1 := n1.z
  have b1 := n1.c
  replace BL := BL.e0 n1.e
  replace D := D.e0 n1.e
  replace H := H.e0 n1.e
  simp only [List.set_cons_zero, List.set_cons_succ]
  refine xAlloc 2 56 [.slice none 0 0, .slice none 0 0] rfl (by kernel_rfl) ?_
  intro w2 n2
  have zn2 := n2.z
  have b2 := n2.c
  replace BL := BL.e0 n2.e
  replace D := D.e0 n2.e
  replace H := H.e0 n2.e
  replace b1 := b1.e0 n2.e
  simp only [List.set_cons_zero, List.set_cons_succ]
  refine wpList_nil ?_
  refine hK1 _ _ ?_
  refine wp_seq_k fun K2 hK2 => ?_
  have e1 := drew_e0 w2
  refine zg (fun w_ => Bl w.heap.size w w_ ∧ SL .u8 w_ dv (nn d) ∧ SE .i64 2 w_ hv (spS h) ∧ Cel w_ w.heap.size 56 [dv, hv] ∧ Cel w_ w1.heap.size 56 [.slice none 0 0, .slice none 0 0] ∧ w2.heap.size ≤ w_.heap.size) (fun w_ => Bl w.heap.size w w_ ∧ SL .u8 w_ dv (nn d) ∧ SE .i64 2 w_ hv (spS h) ∧ Cel w_ w.heap.size 56 [dv, hv] ∧ Cel w_ w1.heap.size 56 [.slice none 0 0, .slice none 0 0] ∧ w2.heap.size ≤ w_.heap.size) 7 8 ⟨BL.e0 e1, D.e0 e1, H.e0 e1, b1.e0 e1, b2.e0 e1, Nat.le_refl _⟩ ?_
  clear BL D H b1 b2
  clear e1
  intro w3
  rintro ⟨BL, D, H, b1, b2, z1⟩
  refine zv 0 3 (.pointer (some ⟨w.heap.size, 0, none⟩)) (fun _ _ => .of) ⟨BL, D, H, b1, b2, by omega⟩ ?_
  simp only [List.set_cons_zero, List.set_cons_succ]
  refine zv 1 4 (dv) (fun _ ⟨BL, D, H, b1, b2, z1⟩ => Val.cel1 29 _ rfl w.heap.size 0 _ (by kernel_rfl) (fun _ => (by kernel_rfl)) b1 rfl) ⟨BL, D, H, b1, b2, by omega⟩ ?_
  simp only [List.set_cons_zero, List.set_cons_succ]
  refine zv 3 6 (.pointer (some ⟨w.heap.size, 1, none⟩)) (fun _ _ => .of) ⟨BL, D, H, b1, b2, by omega⟩ ?_
  simp only [List.set_cons_zero, List.set_cons_succ]
  refine zv 4 7 (hv) (fun _ ⟨BL, D, H, b1, b2, z1⟩ => Val.cel1 54 _ rfl w.heap.size 1 _ (by kernel_rfl) (fun _ => (by kernel_rfl)) b1 rfl) ⟨BL, D, H, b1, b2, by omega⟩ ?_
  simp only [List.set_cons_zero, List.set_cons_succ]
  refine zo1 2 rfl ?_
  refine xCall 5 84 #[dv] (by kernel_rfl) ?_
  refine (cloneB_any dv (nn d) w3 D (by rw [nn_len]; omega)).mono ?_
  rintro en w4 ⟨r1, rfl, O1, hb1⟩
  obtain ⟨X1, Y1, hq1⟩ := O1.len
  rw [nn_len] at hq1
  subst hq1
  have e2 := belE0 hb1
  have ze2 := e2.size
  replace BL := BL.e0 e2
  replace D := D.e0 e2
  replace H := H.e0 e2
  replace b1 := b1.e0 e2
  replace b2 := b2.e0 e2
  clear e2
  have lO1_1 := O1.ge
  have hm1 : ∀ i, Value.ownBlock (.slice X1 d.length Y1) = some i → i < w4.heap.size := fun i hi => (O1.ge i hi).2
  refine ⟨.slice X1 d.length Y1, rfl, ?_⟩
  refine ze 2 ⟨BL, D, H, b1, b2, by omega⟩ ?_
  simp only [List.set_cons_zero, List.set_cons_succ]
  refine zo1 5 rfl ?_
  refine xCall 8 85 #[hv] (by kernel_rfl) ?_
  refine (cloneS_any hv h w4 H (by omega)).mono ?_
  rintro en w5 ⟨r2, rfl, O2, hb1⟩
  obtain ⟨X2, Y2, hq2, _⟩ := O2.len
  rw [spS_len] at hq2
  subst hq2
  have e3 := belE0 hb1
  have ze3 := e3.size
  replace BL := BL.e0 e3
  replace D := D.e0 e3
  replace H := H.e0 e3
  replace b1 := b1.e0 e3
  replace b2 := b2.e0 e3
  replace O1 := O1.e0 e3
  clear e3
  have lO2_1 := O2.ge
  have hm2 : ∀ i, Value.ownBlock (.slice X2 h.length Y2) = some i → w4.heap.size ≤ i := fun i hi => (O2.ge i hi).1
  refine ⟨.slice X2 h.length Y2, rfl, ?_⟩
  refine ze 5 ⟨BL, D, H, b1, b2, by omega⟩ ?_
  simp only [List.set_cons_zero, List.set_cons_succ]
  refine zv 6 9 (.agg #[.slice X1 d.length Y1, .slice X2 h.length Y2]) (fun _ _ => .of) ⟨BL, D, H, b1, b2, by omega⟩ ?_
  simp only [List.set_cons_zero, List.set_cons_succ]
  refine zo1 7 rfl ?_
  refine xStoreR 56 (.tmp 2) (.tmp 9) rfl w1.heap.size 56 [.slice none 0 0, .slice none 0 0] 0 [.slice X1 d.length Y1, .slice X2 h.length Y2] (by kernel_rfl) (by kernel_rfl) b2 (by kernel_rfl) (by simp) rfl [.slice X1 d.length Y1, .slice X2 h.length Y2] rfl ?_
  intro w6 t1
  have zt1 := t1.z
  have BL_ := BL.ev t1.e (fun i h => show w.heap.size ≤ i by have h : i = w1.heap.size := h; omega)
  have D_ := D.ev t1.e (fun i hi => show ¬ (i = w1.heap.size) by have := hdl i hi; omega)
  have H_ := H.ev t1.e (fun i hi => show ¬ (i = w1.heap.size) by have := hhl i hi; omega)
  have b1_ := b1.ev t1.e (show ¬ (w.heap.size = w1.heap.size) by omega)
  have O1_ := O1.ev t1.e (fun i hi => show ¬ (i = w1.heap.size) by have := lO1_1 i hi; omega)
  have O2_ := O2.ev t1.e (fun i hi => show ¬ (i = w1.heap.size) by have := lO2_1 i hi; omega)
  replace BL := BL_; clear BL_
  replace D := D_; clear D_
  replace H := H_; clear H_
  replace b1 := b1_; clear b1_
  replace O1 := O1_; clear O1_
  replace O2 := O2_; clear O2_
  replace b2 : Cel w6 w1.heap.size 56 [.slice X1 d.length Y1, .slice X2 h.length Y2] := t1.c
  clear t1
  refine zz 7 ?_
  refine zd (by kernel_rfl) ?_ _
  refine hK2 _ _ ?_
  refine wp_ret ?_
  (try simp only [Exit.then, Exit.inBlock])
  refine bodyPost_ret (rC rfl _ w1.heap.size _ _ (by kernel_rfl) b2 _ Try.underlying56 rfl (by kernel_rfl)) rfl ?_
  exact ⟨⟨_, _, _, rfl, O1.mono (by omega), O2.mono (by omega), hm1, hm2, by omega, by omega⟩, BL.b⟩

end Go.Proofs.Ytanggdnmoaflfaa
