/-
  ref02: digits, times, digit, greater, root, prime, Table.
-/
import Derived.Test.YteaijjefbadnbaaTabR
namespace Go.Proofs.Yteaijjefbadnbaa
open Go.RowKit
set_option linter.unusedVariables false
set_option linter.unusedSimpArgs false
set_option maxRecDepth 100000
attribute [local irreducible] wpList Code.wp wpAnyZ
theorem dgsR_pos {f m : Nat} (h : 0 < m) : dgsR (f + 1) m = m % 65536 :: dgsR f (m / 65536) := by
  show (if m = 0 then [] else _) = _
  rw [if_neg (by omega)]
theorem dgsR_zero (f : Nat) : dgsR f 0 = [] := by cases f <;> rfl

set_option maxHeartbeats 4000000 in
theorem rdigits_any (n : Nat) (hn : n < 18446744073709551616) (w : World) :
    Calls Try.prog 113 #[.int .u64 ((n : Nat) : Int)] w fun e w' => ∃ u, e = .returned u ∧ Own 22 .u32 w.heap.size w' u (nn (dgsR 4 n)) ∧ Below w.heap.size w w' := by
  have BL := Bl.refl w
  have O := Own.nil 22 .u32 w.heap.size w
  have lO_1 := O.ge
  go_enter Try.func113, Try.ntmps113
  refine wp_seq_k fun K1 hK1 => ?_
  refine cPlain ?_
  refine sv 2 (.slice none 0 0) .of ?_
  simp only [List.set_cons_zero, List.set_cons_succ]
  refine wpList_nil ?_
  refine hK1 _ _ ?_
  refine wp_seq_k fun K2 hK2 => ?_
  refine cPlain ?_
  refine sv 3 (.slice none 0 0) .of ?_
  simp only [List.set_cons_zero, List.set_cons_succ]
  refine wpList_nil ?_
  refine hK2 _ _ ?_
  refine wp_seq_k fun K3 hK3 => ?_
  refine wp_block ?_
  refine cLoop (fun N_ A_ w_ => ∃ (m f : Nat) (acc : List Nat) (u : Value), (N_ = f + 1 ∧ (m < 65536 ^ f) ∧ (dgsR 4 n = acc ++ dgsR f m) ∧ (acc.length + f = 4) ∧ (m < 18446744073709551616) ∧ (∃ s1 : Nat → Value, A_ = ⟨[.int .u64 ((m : Nat) : Int), undef, .slice none 0 0, u, (s1 4), (s1 5), (s1 6), (s1 7), (s1 8), (s1 9), (s1 10), (s1 11), (s1 12), (s1 13), undef].toArray, []⟩) ∧ Bl w.heap.size w w_ ∧ Own 22 .u32 w.heap.size w_ u (nn acc) ∧ w.heap.size ≤ w_.heap.size)) _ ⟨n, 4, [], .slice none 0 0, rfl, (by omega), (List.nil_append _).symm, rfl, hn, cutE, BL, O, Nat.le_refl _⟩ ?_
  clear BL O
  rintro n_ a_ wl0 ⟨m, f, acc, u, rfl, hc0_0, hc0_1, hc0_2, hc0_3, ⟨s1, rfl⟩, BL, O, zl0⟩
  have lO_2 := O.ge
  refine wp_seq_k fun K4 hK4 => ?_
  refine wp_seq_k fun K5 hK5 => ?_
  refine cPlain ?_
  refine sv 4 (.int .u64 ((m : Nat) : Int)) .of ?_
  simp only [List.set_cons_zero, List.set_cons_succ]
  refine sv 5 (.bool (decide (0 < ((m : Nat) : Int)))) (Val.cmp .gtr 109 _ (.tmp 4) _ rfl .u64 ((m : Nat) : Int) 0 (by kernel_rfl) (by kernel_rfl) (by simp) _ rfl) ?_
  simp only [List.set_cons_zero, List.set_cons_succ]
  refine wpList_nil ?_
  refine hK5 _ _ ?_
  refine cDec (0 < ((m : Nat) : Int)) (by kernel_rfl) (fun c5 => ?_) (fun c5 => ?_)
  · skip
    have hf0 : f ≠ 0 := fun e => by subst e; rw [Nat.pow_zero] at hc0_0; omega
    obtain ⟨g, rfl⟩ : ∃ g, f = g + 1 := ⟨f - 1, by omega⟩
    rw [Nat.pow_succ] at hc0_0
    rw [dgsR_pos (f := g) (m := m) (by omega)] at hc0_1
    have hm2 : m / 65536 < 65536 ^ g := by rw [Nat.div_lt_iff_lt_mul (by omega)]; exact hc0_0
    refine wp_skip ?_
    refine hK4 _ _ ?_
    refine wp_block ?_
    refine wp_seq_k fun K6 hK6 => ?_
    refine cPlain ?_
    refine sv 6 (u) .of ?_
    simp only [List.set_cons_zero, List.set_cons_succ]
    refine sv 7 (.int .u64 ((m : Nat) : Int)) .of ?_
    simp only [List.set_cons_zero, List.set_cons_succ]
    refine sv 8 (.int .u64 ((m % 65536 : Nat) : Int)) (Val.remN 109 _ (.tmp 7) _ rfl .u64 m 65536 (by kernel_rfl) (by kernel_rfl) (by omega)) ?_
    simp only [List.set_cons_zero, List.set_cons_succ]
    refine sv 9 (.int .u32 ((m % 65536 : Nat) : Int)) (Val.asN (Val.convN 109 22 (.tmp 8) rfl .u32 (m % 65536) 4294967296 Try.underlying109 Try.underlying22 (by kernel_rfl)) (Nat.mod_eq_of_lt (by omega))) ?_
    simp only [List.set_cons_zero, List.set_cons_succ]
    refine xLit 10 147 22 1 _ #[(0, .int .u32 ((m % 65536 : Nat) : Int))] [.int .u32 ((m % 65536 : Nat) : Int)] rfl (by kernel_rfl) (by kernel_rfl) ?_
    intro w1 n1
    have zn1 := n1.z
    have b10 := n1.c
    replace b10 : Blk .u32 w1 wl0.heap.size 22 [((m % 65536 : Nat) : Int)] := b10
    replace BL := BL.e0 n1.e
    replace O := O.e0 n1.e
    have sb10 : SL .u32 w1 (.slice (some ⟨wl0.heap.size, 0, none⟩) 1 1) [((m % 65536 : Nat) : Int)] := SL.ofBlk b10 rfl (by unfold maxLen; omega)
    have lb10 : ∀ i, Value.ownBlock (.slice (some ⟨wl0.heap.size, 0, none⟩) 1 1) = some i → wl0.heap.size ≤ i ∧ i < w1.heap.size := ownB_lit (by omega)
    simp only [List.set_cons_zero, List.set_cons_succ]
    refine xApp 11 (.tmp 6) (.tmp 10) 147 22 .u32 4 rfl Try.underlying147 (by kernel_rfl) w.heap.size u (nn acc) (by kernel_rfl) O (.slice (some ⟨wl0.heap.size, 0, none⟩) 1 1) [((m % 65536 : Nat) : Int)] (by kernel_rfl) sb10 ?va1_1 ?va1_2 ?va1_3 ?_
    case va1_1 => simp only [nn_len, List.length_cons, List.length_nil]; omega
    case va1_2 => simp only [nn_len, List.length_cons, List.length_nil]; unfold maxLen; omega
    case va1_3 => omega
    intro va1 w2 rva1 e1
    have ze1 := e1.size
    have BL_ := BL.ev e1 (fun i h => by have := lO_2 _ h; omega)
    have b10_ := b10.ev e1 (fun h => by have := lO_2 _ h; omega)
    have sb10_ := sb10.ev e1 (fun i hi h => by have := lb10 i hi; have := lO_2 _ h; omega)
    replace BL := BL_; clear BL_
    replace b10 := b10_; clear b10_
    replace sb10 := sb10_; clear sb10_
    replace O := rva1
    clear rva1 e1
    have lO_3 := O.ge
    simp only [List.set_cons_zero, List.set_cons_succ]
    refine sv 3 (va1) .of ?_
    simp only [List.set_cons_zero, List.set_cons_succ]
    refine wpList_nil ?_
    refine hK6 _ _ ?_
    refine cPlain ?_
    refine sv 12 (.int .u64 ((m : Nat) : Int)) .of ?_
    simp only [List.set_cons_zero, List.set_cons_succ]
    refine sv 13 (.int .u64 ((m / 65536 : Nat) : Int)) (Val.asN (Val.quoN 109 _ (.tmp 12) _ rfl .u64 m 65536 18446744073709551616 (by kernel_rfl) (by kernel_rfl) (by omega)) (Nat.mod_eq_of_lt (by omega))) ?_
    simp only [List.set_cons_zero, List.set_cons_succ]
    refine sv 0 (.int .u64 ((m / 65536 : Nat) : Int)) .of ?_
    simp only [List.set_cons_zero, List.set_cons_succ]
    refine wpList_nil ?_
    refine ⟨_, ?_, m / 65536, g, acc ++ [m % 65536], va1, rfl, hm2, (by rw [hc0_1, List.append_assoc]; rfl), (by simp only [List.length_append, List.length_cons, List.length_nil]; omega), (by omega), cutE, BL, (O.cast (by rw [nn_app]; rfl)), by omega⟩
    omega
  · skip
    have hm0 : m = 0 := by omega
    rw [hm0, dgsR_zero, List.append_nil] at hc0_1
    refine wp_exit ?_
    simp only [Exit.then, Exit.inBlock, ↓reduceIte, Nat.reduceEqDiff]
    refine hK3 _ _ ?_
    refine wp_seq_k fun K7 hK7 => ?_
    refine cPlain ?_
    refine sv 14 (u) .of ?_
    simp only [List.set_cons_zero, List.set_cons_succ]
    refine sv 2 (u) .of ?_
    simp only [List.set_cons_zero, List.set_cons_succ]
    refine wpList_nil ?_
    refine hK7 _ _ ?_
    refine wp_ret ?_
    (try simp only [Exit.then, Exit.inBlock])
    refine bodyPost_ret (v := u) rT rfl ?_
    rw [← hc0_1] at O
    exact ⟨_, rfl, O, BL.b⟩

theorem rdigit_any (a : List Nat) (v : Value) (i : Nat) (w : World) (D : SL .u32 w v (nn a)) :
    Calls Try.prog 134 #[v, .int .i64 ((i : Nat) : Int)] w fun e w' => e = .returned (.int .u32 ((a.getD i 0 : Nat) : Int)) ∧ w' = w := by
  have WW : w = w := rfl
  go_enter Try.func134, Try.ntmps134
  refine wp_seq_k fun K1 hK1 => ?_
  refine cPlain ?_
  refine sv 4 (.int .u32 0) .of ?_
  simp only [List.set_cons_zero, List.set_cons_succ]
  refine wpList_nil ?_
  refine hK1 _ _ ?_
  refine wp_seq_k fun K2 hK2 => ?_
  refine wp_seq_k fun K3 hK3 => ?_
  refine cPlain ?_
  refine sv 5 (.int .i64 ((i : Nat) : Int)) .of ?_
  simp only [List.set_cons_zero, List.set_cons_succ]
  refine sv 6 (v) .of ?_
  simp only [List.set_cons_zero, List.set_cons_succ]
  refine sv 7 (.int .i64 ((a.length : Nat) : Int)) (Val.lenS (.tmp 6) 147 rfl (by kernel_rfl) D a.length (nn_len a) Try.underlying147) ?_
  simp only [List.set_cons_zero, List.set_cons_succ]
  refine sv 8 (.bool (decide (((i : Nat) : Int) < ((a.length : Nat) : Int)))) (Val.cmp .lss 3 _ (.tmp 5) (.tmp 7) rfl .i64 ((i : Nat) : Int) ((a.length : Nat) : Int) (by kernel_rfl) (by kernel_rfl) (by simp) _ rfl) ?_
  simp only [List.set_cons_zero, List.set_cons_succ]
  refine wpList_nil ?_
  refine hK3 _ _ ?_
  refine cDec (((i : Nat) : Int) < ((a.length : Nat) : Int)) (by kernel_rfl) (fun c8 => ?_) (fun c8 => ?_)
  · skip
    refine wp_seq_k fun K4 hK4 => ?_
    refine cPlain ?_
    refine sv 9 (v) .of ?_
    simp only [List.set_cons_zero, List.set_cons_succ]
    refine sv 10 (.int .i64 ((i : Nat) : Int)) .of ?_
    simp only [List.set_cons_zero, List.set_cons_succ]
    refine sv 11 (elemP v i) (Val.idxE 147 (.tmp 9) (.tmp 10) rfl v i (by kernel_rfl) (by kernel_rfl) D Try.underlying147 (by kernel_rfl) (by rw [nn_len]; omega)) ?_
    simp only [List.set_cons_zero, List.set_cons_succ]
    refine sv 12 (.int .u32 ((a.getD i 0 : Nat) : Int)) (Val.nldE 22 _ rfl v i (by kernel_rfl) (fun _ => (by kernel_rfl)) D (by omega)) ?_
    simp only [List.set_cons_zero, List.set_cons_succ]
    refine sv 4 (.int .u32 ((a.getD i 0 : Nat) : Int)) .of ?_
    simp only [List.set_cons_zero, List.set_cons_succ]
    refine wpList_nil ?_
    refine hK4 _ _ ?_
    refine wp_ret ?_
    (try simp only [Exit.then, Exit.inBlock])
    refine bodyPost_ret (v := .int .u32 ((a.getD i 0 : Nat) : Int)) rT rfl ?_
    exact ⟨rfl, rfl⟩
  · skip
    refine wp_skip ?_
    refine hK2 _ _ ?_
    refine wp_seq_k fun K5 hK5 => ?_
    refine cPlain ?_
    refine sv 4 (.int .u32 0) .of ?_
    simp only [List.set_cons_zero, List.set_cons_succ]
    refine wpList_nil ?_
    refine hK5 _ _ ?_
    refine wp_ret ?_
    (try simp only [Exit.then, Exit.inBlock])
    refine bodyPost_ret (v := .int .u32 0) rT rfl ?_
    have h0 : a.getD i 0 = 0 := by rw [List.getD_eq_getElem?_getD, List.getElem?_eq_none (by omega)]; rfl
    rw [h0]
    exact ⟨rfl, rfl⟩

theorem grtR_zero (a b : List Nat) : grtR a b 0 = false := rfl
theorem grtR_same {a b : List Nat} {n : Nat} (h : a.getD n 0 = b.getD n 0) : grtR a b (n + 1) = grtR a b n := by
  show (if a.getD n 0 = b.getD n 0 then grtR a b n else _) = _
  rw [if_pos h]
theorem grtR_diff {a b : List Nat} {n : Nat} (h : ¬ a.getD n 0 = b.getD n 0) : grtR a b (n + 1) = decide (b.getD n 0 < a.getD n 0) := by
  show (if a.getD n 0 = b.getD n 0 then grtR a b n else _) = _
  rw [if_neg h]

attribute [local irreducible] dgsR grtR greaterR primeR
set_option maxHeartbeats 4000000 in
theorem rgreater_any (a b : List Nat) (va vb : Value) (w : World) (D : SL .u32 w va (nn a)) (D2 : SL .u32 w vb (nn b)) (ha : a.length ≤ 1000) (hb : b.length ≤ 1000) :
    Calls Try.prog 115 #[va, vb] w fun e w' => e = .returned (.bool (greaterR a b)) ∧ Below w.heap.size w w' := by
  have BL := Bl.refl w
  have hd := D.lt
  have hd2 := D2.lt
  go_enter Try.func115, Try.ntmps115
  refine wp_seq_k fun K1 hK1 => ?_
  refine cPlain ?_
  refine sv 4 (.bool false) .of ?_
  simp only [List.set_cons_zero, List.set_cons_succ]
  refine wpList_nil ?_
  refine hK1 _ _ ?_
  refine wp_seq_k fun K2 hK2 => ?_
  refine cPlain ?_
  refine sv 7 (va) .of ?_
  simp only [List.set_cons_zero, List.set_cons_succ]
  refine sv 8 (.int .i64 ((a.length : Nat) : Int)) (Val.lenS (.tmp 7) 147 rfl (by kernel_rfl) D a.length (nn_len a) Try.underlying147) ?_
  simp only [List.set_cons_zero, List.set_cons_succ]
  refine sv 5 (.int .i64 ((a.length : Nat) : Int)) .of ?_
  simp only [List.set_cons_zero, List.set_cons_succ]
  refine wpList_nil ?_
  refine hK2 _ _ ?_
  refine cCut (fun A_ w_ => ∃ (m : Nat), ((m = max a.length b.length) ∧ (∃ s1 : Nat → Value, A_ = ⟨[va, vb, undef, undef, .bool false, .int .i64 ((m : Nat) : Int), undef, va, .int .i64 ((a.length : Nat) : Int), (s1 9), (s1 10), (s1 11), (s1 12), (s1 13), (s1 14), undef, undef, undef, undef, undef, undef, undef, undef, undef, undef, undef, undef, undef, undef, undef, undef, undef, undef, undef, undef].toArray, []⟩) ∧ Bl w.heap.size w w_ ∧ SL .u32 w_ va (nn a) ∧ SL .u32 w_ vb (nn b) ∧ w.heap.size ≤ w_.heap.size)) ?_ ?_
  · skip
    refine wp_seq_k fun K3 hK3 => ?_
    refine cPlain ?_
    refine sv 9 (vb) .of ?_
    simp only [List.set_cons_zero, List.set_cons_succ]
    refine sv 10 (.int .i64 ((b.length : Nat) : Int)) (Val.lenS (.tmp 9) 147 rfl (by kernel_rfl) D2 b.length (nn_len b) Try.underlying147) ?_
    simp only [List.set_cons_zero, List.set_cons_succ]
    refine sv 11 (.int .i64 ((a.length : Nat) : Int)) .of ?_
    simp only [List.set_cons_zero, List.set_cons_succ]
    refine sv 12 (.bool (decide (((a.length : Nat) : Int) < ((b.length : Nat) : Int)))) (Val.cmp .gtr 3 _ (.tmp 10) (.tmp 11) rfl .i64 ((b.length : Nat) : Int) ((a.length : Nat) : Int) (by kernel_rfl) (by kernel_rfl) (by simp) _ rfl) ?_
    simp only [List.set_cons_zero, List.set_cons_succ]
    refine wpList_nil ?_
    refine hK3 _ _ ?_
    refine cDec (((a.length : Nat) : Int) < ((b.length : Nat) : Int)) (by kernel_rfl) (fun c12 => ?_) (fun c12 => ?_)
    · skip
      refine cPlain ?_
      refine sv 13 (vb) .of ?_
      simp only [List.set_cons_zero, List.set_cons_succ]
      refine sv 14 (.int .i64 ((b.length : Nat) : Int)) (Val.lenS (.tmp 13) 147 rfl (by kernel_rfl) D2 b.length (nn_len b) Try.underlying147) ?_
      simp only [List.set_cons_zero, List.set_cons_succ]
      refine sv 5 (.int .i64 ((b.length : Nat) : Int)) .of ?_
      simp only [List.set_cons_zero, List.set_cons_succ]
      refine wpList_nil ?_
      exact ⟨b.length, (by omega), cutE, BL, D, D2, by omega⟩
    · skip
      refine wp_skip ?_
      exact ⟨a.length, (by omega), cutE, BL, D, D2, by omega⟩
  · skip
    clear BL D D2
    rintro a_ wJ1 ⟨m, hJ1_0, ⟨s1, rfl⟩, BL, D, D2, zJ1⟩
    refine wp_seq_k fun K4 hK4 => ?_
    refine wp_seq_k fun K5 hK5 => ?_
    refine cPlain ?_
    refine sv 15 (.int .i64 ((m : Nat) : Int)) .of ?_
    simp only [List.set_cons_zero, List.set_cons_succ]
    refine sv 16 (.int .i64 ((m : Int) - 1)) (Val.sub 3 _ (.tmp 15) _ rfl ((m : Nat) : Int) 1 (by kernel_rfl) (by kernel_rfl) (by omega)) ?_
    simp only [List.set_cons_zero, List.set_cons_succ]
    refine sv 6 (.int .i64 ((m : Int) - 1)) .of ?_
    simp only [List.set_cons_zero, List.set_cons_succ]
    refine wpList_nil ?_
    refine hK5 _ _ ?_
    refine wp_block ?_
    refine cLoop (fun N_ A_ w_ => ∃ (k : Nat), (N_ = k + 1 ∧ (grtR a b k = greaterR a b) ∧ (k ≤ 1000) ∧ (∃ s2 : Nat → Value, A_ = ⟨[va, vb, undef, undef, (s2 4), .int .i64 ((m : Nat) : Int), .int .i64 ((k : Int) - 1), va, .int .i64 ((a.length : Nat) : Int), (s1 9), (s1 10), (s1 11), (s1 12), (s1 13), (s1 14), .int .i64 ((m : Nat) : Int), .int .i64 ((m : Int) - 1), (s2 17), (s2 18), (s2 19), (s2 20), (s2 21), (s2 22), (s2 23), (s2 24), (s2 25), (s2 26), (s2 27), (s2 28), (s2 29), (s2 30), (s2 31), (s2 32), (s2 33), (s2 34)].toArray, []⟩) ∧ Bl w.heap.size w w_ ∧ SL .u32 w_ va (nn a) ∧ SL .u32 w_ vb (nn b) ∧ wJ1.heap.size ≤ w_.heap.size)) _ ⟨m, rfl, (by unfold greaterR; rw [hJ1_0]), (by omega), cutE, BL, D, D2, Nat.le_refl _⟩ ?_
    clear BL D D2
    rintro n_ a_ wl0 ⟨k, rfl, hc0_0, hc0_1, ⟨s2, rfl⟩, BL, D, D2, zl0⟩
    refine wp_seq_k fun K6 hK6 => ?_
    refine wp_seq_k fun K7 hK7 => ?_
    refine cPlain ?_
    refine sv 17 (.int .i64 ((k : Int) - 1)) .of ?_
    simp only [List.set_cons_zero, List.set_cons_succ]
    refine sv 18 (.bool (decide (0 < k))) (Val.cmp .geq 3 _ (.tmp 17) _ rfl .i64 ((k : Int) - 1) 0 (by kernel_rfl) (by kernel_rfl) (by simp) _ (by simp only [cmpB, decide_eq_decide]; omega)) ?_
    simp only [List.set_cons_zero, List.set_cons_succ]
    refine wpList_nil ?_
    refine hK7 _ _ ?_
    refine cDec (0 < k) (by kernel_rfl) (fun c18 => ?_) (fun c18 => ?_)
    · skip
      refine wp_skip ?_
      refine hK6 _ _ ?_
      refine wp_seq_k fun K8 hK8 => ?_
      refine wp_block ?_
      refine wp_seq_k fun K9 hK9 => ?_
      refine cPlain ?_
      refine sv 21 (va) .of ?_
      simp only [List.set_cons_zero, List.set_cons_succ]
      refine sv 22 (.int .i64 ((k : Int) - 1)) .of ?_
      simp only [List.set_cons_zero, List.set_cons_succ]
      refine xCall 23 134 #[va, .int .i64 ((k : Int) - 1)] (by kernel_rfl) ?_
      obtain ⟨j, hk⟩ : ∃ j, k = j + 1 := ⟨k - 1, by omega⟩
      have hj : (k : Int) - 1 = ((j : Nat) : Int) := by omega
      have hcd := rdigit_any a va j wl0 D
      rw [← hj] at hcd
      refine (hcd).mono ?_
      rintro en w1 ⟨rfl, hw⟩
      have e1 : E0 wl0 w1 := (hw ▸ Ev.refl _ _)
      have ze1 := e1.size
      replace BL := BL.e0 e1
      replace D := D.e0 e1
      replace D2 := D2.e0 e1
      clear e1
      refine ⟨.int .u32 ((a.getD j 0 : Nat) : Int), rfl, ?_⟩
      simp only [List.set_cons_zero, List.set_cons_succ]
      refine sv 24 (vb) .of ?_
      simp only [List.set_cons_zero, List.set_cons_succ]
      refine sv 25 (.int .i64 ((k : Int) - 1)) .of ?_
      simp only [List.set_cons_zero, List.set_cons_succ]
      refine xCall 26 134 #[vb, .int .i64 ((k : Int) - 1)] (by kernel_rfl) ?_
      have hcd := rdigit_any b vb j w1 D2
      rw [← hj] at hcd
      refine (hcd).mono ?_
      rintro en w2 ⟨rfl, hw⟩
      have e2 : E0 w1 w2 := (hw ▸ Ev.refl _ _)
      have ze2 := e2.size
      replace BL := BL.e0 e2
      replace D := D.e0 e2
      replace D2 := D2.e0 e2
      clear e2
      refine ⟨.int .u32 ((b.getD j 0 : Nat) : Int), rfl, ?_⟩
      simp only [List.set_cons_zero, List.set_cons_succ]
      refine sv 27 (.bool (decide (¬ (((a.getD j 0 : Nat) : Int) = ((b.getD j 0 : Nat) : Int))))) (Val.cmp .neq 22 _ (.tmp 23) (.tmp 26) rfl .u32 ((a.getD j 0 : Nat) : Int) ((b.getD j 0 : Nat) : Int) (by kernel_rfl) (by kernel_rfl) (by simp) _ (by simp [cmpB])) ?_
      simp only [List.set_cons_zero, List.set_cons_succ]
      refine wpList_nil ?_
      refine hK9 _ _ ?_
      refine cDec (¬ (((a.getD j 0 : Nat) : Int) = ((b.getD j 0 : Nat) : Int))) (by kernel_rfl) (fun c27 => ?_) (fun c27 => ?_)
      · skip
        refine wp_seq_k fun K10 hK10 => ?_
        refine cPlain ?_
        refine sv 28 (va) .of ?_
        simp only [List.set_cons_zero, List.set_cons_succ]
        refine sv 29 (.int .i64 ((k : Int) - 1)) .of ?_
        simp only [List.set_cons_zero, List.set_cons_succ]
        refine xCall 30 134 #[va, .int .i64 ((k : Int) - 1)] (by kernel_rfl) ?_
        have hcd := rdigit_any a va j w2 D
        rw [← hj] at hcd
        refine (hcd).mono ?_
        rintro en w3 ⟨rfl, hw⟩
        have e3 : E0 w2 w3 := (hw ▸ Ev.refl _ _)
        have ze3 := e3.size
        replace BL := BL.e0 e3
        replace D := D.e0 e3
        replace D2 := D2.e0 e3
        clear e3
        refine ⟨.int .u32 ((a.getD j 0 : Nat) : Int), rfl, ?_⟩
        simp only [List.set_cons_zero, List.set_cons_succ]
        refine sv 31 (vb) .of ?_
        simp only [List.set_cons_zero, List.set_cons_succ]
        refine sv 32 (.int .i64 ((k : Int) - 1)) .of ?_
        simp only [List.set_cons_zero, List.set_cons_succ]
        refine xCall 33 134 #[vb, .int .i64 ((k : Int) - 1)] (by kernel_rfl) ?_
        have hcd := rdigit_any b vb j w3 D2
        rw [← hj] at hcd
        refine (hcd).mono ?_
        rintro en w4 ⟨rfl, hw⟩
        have e4 : E0 w3 w4 := (hw ▸ Ev.refl _ _)
        have ze4 := e4.size
        replace BL := BL.e0 e4
        replace D := D.e0 e4
        replace D2 := D2.e0 e4
        clear e4
        refine ⟨.int .u32 ((b.getD j 0 : Nat) : Int), rfl, ?_⟩
        simp only [List.set_cons_zero, List.set_cons_succ]
        refine sv 34 (.bool (decide (((b.getD j 0 : Nat) : Int) < ((a.getD j 0 : Nat) : Int)))) (Val.cmp .gtr 22 _ (.tmp 30) (.tmp 33) rfl .u32 ((a.getD j 0 : Nat) : Int) ((b.getD j 0 : Nat) : Int) (by kernel_rfl) (by kernel_rfl) (by simp) _ rfl) ?_
        simp only [List.set_cons_zero, List.set_cons_succ]
        refine sv 4 (.bool (decide (((b.getD j 0 : Nat) : Int) < ((a.getD j 0 : Nat) : Int)))) .of ?_
        simp only [List.set_cons_zero, List.set_cons_succ]
        refine wpList_nil ?_
        refine hK10 _ _ ?_
        refine wp_ret ?_
        (try simp only [Exit.then, Exit.inBlock])
        refine bodyPost_ret (v := .bool (decide (((b.getD j 0 : Nat) : Int) < ((a.getD j 0 : Nat) : Int)))) rT rfl ?_
        rw [← hc0_0, hk, grtR_diff (by omega)]
        refine ⟨congrArg (fun b => Ending.returned (.bool b)) (decide_eq_decide.2 (by omega)), BL.b⟩
      · skip
        refine wp_skip ?_
        refine hK8 _ _ ?_
        refine cPlain ?_
        refine sv 19 (.int .i64 ((k : Int) - 1)) .of ?_
        simp only [List.set_cons_zero, List.set_cons_succ]
        refine sv 20 (.int .i64 ((j : Int) - 1)) (Val.as (Val.sub 3 _ (.tmp 19) _ rfl ((k : Int) - 1) 1 (by kernel_rfl) (by kernel_rfl) (by omega)) (congrArg (Value.int .i64) (by omega))) ?_
        simp only [List.set_cons_zero, List.set_cons_succ]
        refine sv 6 (.int .i64 ((j : Int) - 1)) .of ?_
        simp only [List.set_cons_zero, List.set_cons_succ]
        refine wpList_nil ?_
        refine ⟨_, ?_, j, rfl, (by rw [← hc0_0, hk]; exact (grtR_same (by omega)).symm), (by omega), cutE, BL, D, D2, by omega⟩
        omega
    · skip
      refine wp_exit ?_
      simp only [Exit.then, Exit.inBlock, ↓reduceIte, Nat.reduceEqDiff]
      refine hK4 _ _ ?_
      refine wp_seq_k fun K11 hK11 => ?_
      refine cPlain ?_
      refine sv 4 (.bool false) .of ?_
      simp only [List.set_cons_zero, List.set_cons_succ]
      refine wpList_nil ?_
      refine hK11 _ _ ?_
      refine wp_ret ?_
      (try simp only [Exit.then, Exit.inBlock])
      refine bodyPost_ret (v := .bool false) rT rfl ?_
      rw [← hc0_0, show k = 0 by omega, grtR_zero]
      exact ⟨rfl, BL.b⟩

theorem rprime_any (n : Nat) (hn : n ≤ 1000) (w : World) :
    Calls Try.prog 78 #[.int .u64 ((n : Nat) : Int)] w fun e w' => e = .returned (.bool (primeR n)) ∧ w' = w := by
  have WW : w = w := rfl
  go_enter Try.func78, Try.ntmps78
  refine wp_seq_k fun K1 hK1 => ?_
  refine cPlain ?_
  refine sv 2 (.bool false) .of ?_
  simp only [List.set_cons_zero, List.set_cons_succ]
  refine wpList_nil ?_
  refine hK1 _ _ ?_
  refine wp_seq_k fun K2 hK2 => ?_
  refine wp_seq_k fun K3 hK3 => ?_
  refine cPlain ?_
  refine sv 3 (.int .u64 2) .of ?_
  simp only [List.set_cons_zero, List.set_cons_succ]
  refine wpList_nil ?_
  refine hK3 _ _ ?_
  refine wp_block ?_
  refine cLoop (fun N_ A_ w_ => ∃ (k : Nat), (N_ = 1001 - k ∧ (2 ≤ k) ∧ (∀ j, 2 ≤ j → j < k → n % j ≠ 0) ∧ (k ≤ n ∨ k = 2) ∧ (∃ s1 : Nat → Value, A_ = ⟨[.int .u64 ((n : Nat) : Int), undef, (s1 2), .int .u64 ((k : Nat) : Int), (s1 4), (s1 5), (s1 6), (s1 7), (s1 8), (s1 9), (s1 10), (s1 11), (s1 12)].toArray, []⟩) ∧ w_ = w ∧ w.heap.size ≤ w_.heap.size)) _ ⟨2, rfl, (Nat.le_refl _), (fun j h1 h2 => by omega), (.inr rfl), cutE, WW, Nat.le_refl _⟩ ?_
  clear WW
  rintro n_ a_ wl0 ⟨k, rfl, hc0_0, hc0_1, hc0_2, ⟨s1, rfl⟩, WW, zl0⟩
  refine wp_seq_k fun K4 hK4 => ?_
  refine wp_seq_k fun K5 hK5 => ?_
  refine cPlain ?_
  refine sv 4 (.int .u64 ((k : Nat) : Int)) .of ?_
  simp only [List.set_cons_zero, List.set_cons_succ]
  refine sv 5 (.int .u64 ((n : Nat) : Int)) .of ?_
  simp only [List.set_cons_zero, List.set_cons_succ]
  refine sv 6 (.bool (decide (((k : Nat) : Int) < ((n : Nat) : Int)))) (Val.cmp .lss 109 _ (.tmp 4) (.tmp 5) rfl .u64 ((k : Nat) : Int) ((n : Nat) : Int) (by kernel_rfl) (by kernel_rfl) (by simp) _ rfl) ?_
  simp only [List.set_cons_zero, List.set_cons_succ]
  refine wpList_nil ?_
  refine hK5 _ _ ?_
  refine cDec (((k : Nat) : Int) < ((n : Nat) : Int)) (by kernel_rfl) (fun c6 => ?_) (fun c6 => ?_)
  · skip
    refine wp_skip ?_
    refine hK4 _ _ ?_
    refine wp_seq_k fun K6 hK6 => ?_
    refine wp_block ?_
    refine wp_seq_k fun K7 hK7 => ?_
    refine cPlain ?_
    refine sv 9 (.int .u64 ((n : Nat) : Int)) .of ?_
    simp only [List.set_cons_zero, List.set_cons_succ]
    refine sv 10 (.int .u64 ((k : Nat) : Int)) .of ?_
    simp only [List.set_cons_zero, List.set_cons_succ]
    refine sv 11 (.int .u64 ((n % k : Nat) : Int)) (Val.remN 109 _ (.tmp 9) (.tmp 10) rfl .u64 n k (by kernel_rfl) (by kernel_rfl) (by omega)) ?_
    simp only [List.set_cons_zero, List.set_cons_succ]
    refine sv 12 (.bool (decide (((n % k : Nat) : Int) = 0))) (Val.cmp .eql 109 _ (.tmp 11) _ rfl .u64 ((n % k : Nat) : Int) 0 (by kernel_rfl) (by kernel_rfl) (by simp) _ rfl) ?_
    simp only [List.set_cons_zero, List.set_cons_succ]
    refine wpList_nil ?_
    refine hK7 _ _ ?_
    refine cDec (((n % k : Nat) : Int) = 0) (by kernel_rfl) (fun c12 => ?_) (fun c12 => ?_)
    · skip
      refine wp_seq_k fun K8 hK8 => ?_
      refine cPlain ?_
      refine sv 2 (.bool false) .of ?_
      simp only [List.set_cons_zero, List.set_cons_succ]
      refine wpList_nil ?_
      refine hK8 _ _ ?_
      refine wp_ret ?_
      (try simp only [Exit.then, Exit.inBlock])
      refine bodyPost_ret (v := .bool false) rT rfl ?_
      have hp : primeR n = false := by
        unfold primeR
        rw [List.all_eq_false]
        exact ⟨k, List.mem_range.2 (by omega), by simp; omega⟩
      rw [hp]
      exact ⟨rfl, WW⟩
    · skip
      refine wp_skip ?_
      refine hK6 _ _ ?_
      refine cPlain ?_
      refine sv 7 (.int .u64 ((k : Nat) : Int)) .of ?_
      simp only [List.set_cons_zero, List.set_cons_succ]
      refine sv 8 (.int .u64 ((k + 1 : Nat) : Int)) (Val.asN (Val.addN 109 _ (.tmp 7) _ rfl .u64 k 1 18446744073709551616 (by kernel_rfl) (by kernel_rfl)) (Nat.mod_eq_of_lt (by omega))) ?_
      simp only [List.set_cons_zero, List.set_cons_succ]
      refine sv 3 (.int .u64 ((k + 1 : Nat) : Int)) .of ?_
      simp only [List.set_cons_zero, List.set_cons_succ]
      refine wpList_nil ?_
      refine ⟨_, ?_, k + 1, rfl, (by omega), (fun j h1 h2 => by rcases Nat.lt_or_ge j k with h3 | h3; exact hc0_1 j h1 h3; obtain rfl : j = k := (by omega); omega), (by omega), cutE, WW, by omega⟩
      omega
  · skip
    refine wp_exit ?_
    simp only [Exit.then, Exit.inBlock, ↓reduceIte, Nat.reduceEqDiff]
    refine hK2 _ _ ?_
    refine wp_seq_k fun K9 hK9 => ?_
    refine cPlain ?_
    refine sv 2 (.bool true) .of ?_
    simp only [List.set_cons_zero, List.set_cons_succ]
    refine wpList_nil ?_
    refine hK9 _ _ ?_
    refine wp_ret ?_
    (try simp only [Exit.then, Exit.inBlock])
    refine bodyPost_ret (v := .bool true) rT rfl ?_
    have hp : primeR n = true := by
      unfold primeR
      rw [List.all_eq_true]
      intro j hj
      have hj := List.mem_range.1 hj
      rcases Nat.lt_or_ge j 2 with h | h
      · simp [h]
      · have := hc0_1 j h (by omega)
        simp [this]
    rw [hp]
    exact ⟨rfl, WW⟩

end Go.Proofs.Yteaijjefbadnbaa
