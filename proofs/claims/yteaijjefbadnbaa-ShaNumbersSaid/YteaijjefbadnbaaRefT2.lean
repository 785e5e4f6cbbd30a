/-
  ref02.times.
-/
import Derived.Test.YteaijjefbadnbaaRefT
import Derived.Test.YteaijjefbadnbaaPk2
namespace Go.Proofs.Yteaijjefbadnbaa
open Go.RowKit
set_option linter.unusedVariables false
set_option linter.unusedSimpArgs false
set_option maxRecDepth 100000
attribute [local irreducible] wpList Code.wp wpAnyZ
theorem innR_step {ai : Nat} {b : List Nat} {i f : Nat} {out : List Nat} {k c : Nat} (h : k < b.length ∨ 0 < c) : innR ai b i (f + 1) out k c =
    innR ai b i f (out.set (i + k) ((out.getD (i + k) 0 + c + (if k < b.length then ai * b.getD k 0 else 0)) % 65536)) (k + 1) ((out.getD (i + k) 0 + c + (if k < b.length then ai * b.getD k 0 else 0)) / 65536) := by
  show (if k < b.length ∨ 0 < c then _ else _) = _
  rw [if_pos h]
/-- digits of sixteen bits -/
def D16 (l : List Nat) : Prop := ∀ d ∈ l, d < 65536
theorem D16.at {l : List Nat} (h : D16 l) (j : Nat) : l.getD j 0 < 65536 := by
  rw [List.getD_eq_getElem?_getD]
  by_cases hj : j < l.length
  · rw [List.getElem?_eq_getElem hj]; exact h _ (List.getElem_mem hj)
  · rw [List.getElem?_eq_none (by omega)]; decide
theorem D16.set {l : List Nat} (h : D16 l) (j v : Nat) (hv : v < 65536) : D16 (l.set j v) := fun d hd => by
  rcases List.mem_or_eq_of_mem_set hd with hd | rfl
  · exact h d hd
  · exact hv
theorem getD_set_ne {l : List Nat} {j m v : Nat} (h : m ≠ j) : (l.set m v).getD j 0 = l.getD j 0 := by
  simp only [List.getD_eq_getElem?_getD, List.getElem?_set_ne h]
attribute [local irreducible] innR timesG D16
set_option maxHeartbeats 4000000 in
theorem rtimes_any (a b : List Nat) (va vb : Value) (w : World) (D : SL .u32 w va (nn a)) (D2 : SL .u32 w vb (nn b)) (ha : a.length ≤ 1000) (hb : b.length ≤ 1000) (ha16 : D16 a) (hb16 : D16 b) :
    Calls Try.prog 114 #[va, vb] w fun e w' => ∃ u, e = .returned u ∧ Own 22 .u32 w.heap.size w' u (nn (timesR a b)) ∧ D16 (timesR a b) ∧ Below w.heap.size w w' := by
  have BL := Bl.refl w
  have hd := D.lt
  have hd2 := D2.lt
  go_enter Try.func114, Try.ntmps114
  refine wp_seq_k fun K1 hK1 => ?_
  refine cPlain ?_
  refine sv 4 (.slice none 0 0) .of ?_
  simp only [List.set_cons_zero, List.set_cons_succ]
  refine wpList_nil ?_
  refine hK1 _ _ ?_
  refine wp_seq_k fun K2 hK2 => ?_
  refine cPlain ?_
  refine sv 10 (va) .of ?_
  simp only [List.set_cons_zero, List.set_cons_succ]
  refine sv 11 (.int .i64 ((a.length : Nat) : Int)) (Val.lenS (.tmp 10) 147 rfl (by kernel_rfl) D a.length (nn_len a) Try.underlying147) ?_
  simp only [List.set_cons_zero, List.set_cons_succ]
  refine sv 12 (vb) .of ?_
  simp only [List.set_cons_zero, List.set_cons_succ]
  refine sv 13 (.int .i64 ((b.length : Nat) : Int)) (Val.lenS (.tmp 12) 147 rfl (by kernel_rfl) D2 b.length (nn_len b) Try.underlying147) ?_
  simp only [List.set_cons_zero, List.set_cons_succ]
  refine sv 14 (.int .i64 ((a.length + b.length : Nat) : Int)) (Val.as (Val.add 3 _ (.tmp 11) (.tmp 13) rfl ((a.length : Nat) : Int) ((b.length : Nat) : Int) (by kernel_rfl) (by kernel_rfl) (by omega)) (congrArg (Value.int .i64) (by omega))) ?_
  simp only [List.set_cons_zero, List.set_cons_succ]
  refine sv 15 (.int .i64 ((a.length + b.length + 1 : Nat) : Int)) (Val.as (Val.add 3 _ (.tmp 14) _ rfl ((a.length + b.length : Nat) : Int) 1 (by kernel_rfl) (by kernel_rfl) (by omega)) (congrArg (Value.int .i64) (by omega))) ?_
  simp only [List.set_cons_zero, List.set_cons_succ]
  refine xMakeN 16 (.tmp 15) (.tmp 15) 147 22 .u32 4 rfl Try.underlying147 (by kernel_rfl) (a.length + b.length + 1) (by kernel_rfl) (by kernel_rfl) (by unfold maxLen; omega) (by omega) ?_
  intro w1 n1
  have zn1 := n1.z
  have O := Own.ofNw n1 (Nat.le_refl _) (by unfold maxLen; simp only [List.length_replicate]; omega)
  rw [List.length_replicate] at O
  replace BL := BL.e0 n1.e
  replace D := D.e0 n1.e
  replace D2 := D2.e0 n1.e
  have lO_1 := O.ge
  simp only [List.set_cons_zero, List.set_cons_succ]
  refine sv 5 (.slice (some ⟨w.heap.size, 0, none⟩) (a.length + b.length + 1) (a.length + b.length + 1)) .of ?_
  simp only [List.set_cons_zero, List.set_cons_succ]
  refine wpList_nil ?_
  refine hK2 _ _ ?_
  refine wp_seq_k fun K3 hK3 => ?_
  refine wp_seq_k fun K4 hK4 => ?_
  refine cPlain ?_
  refine sv 6 (.int .i64 0) .of ?_
  simp only [List.set_cons_zero, List.set_cons_succ]
  refine wpList_nil ?_
  refine hK4 _ _ ?_
  refine wp_block ?_
  refine cLoop (fun N_ A_ w_ => ∃ (i : Nat) (o0 : List Nat), (N_ = a.length - i ∧ (i ≤ a.length) ∧ (timesG a b i = o0) ∧ (D16 o0) ∧ (o0.length = a.length + b.length + 1) ∧ (∀ j, i + b.length ≤ j → o0.getD j 0 = 0) ∧ (∃ s1 : Nat → Value, A_ = ⟨[va, vb, undef, undef, .slice none 0 0, .slice (some ⟨w.heap.size, 0, none⟩) (a.length + b.length + 1) (a.length + b.length + 1), .int .i64 ((i : Nat) : Int), (s1 7), (s1 8), (s1 9), va, .int .i64 ((a.length : Nat) : Int), vb, .int .i64 ((b.length : Nat) : Int), .int .i64 ((a.length + b.length : Nat) : Int), .int .i64 ((a.length + b.length + 1 : Nat) : Int), .slice (some ⟨w.heap.size, 0, none⟩) (a.length + b.length + 1) (a.length + b.length + 1), (s1 17), (s1 18), (s1 19), (s1 20), (s1 21), (s1 22), (s1 23), (s1 24), (s1 25), (s1 26), (s1 27), (s1 28), (s1 29), (s1 30), (s1 31), (s1 32), (s1 33), (s1 34), (s1 35), (s1 36), (s1 37), (s1 38), (s1 39), (s1 40), (s1 41), (s1 42), (s1 43), (s1 44), (s1 45), (s1 46), (s1 47), (s1 48), (s1 49), (s1 50), (s1 51), (s1 52), (s1 53), (s1 54), (s1 55), (s1 56), (s1 57), (s1 58), (s1 59), (s1 60), (s1 61), (s1 62), (s1 63), (s1 64), (s1 65), (s1 66), (s1 67), (s1 68), undef].toArray, []⟩) ∧ Bl w.heap.size w w_ ∧ SL .u32 w_ va (nn a) ∧ SL .u32 w_ vb (nn b) ∧ Own 22 .u32 w.heap.size w_ (.slice (some ⟨w.heap.size, 0, none⟩) (a.length + b.length + 1) (a.length + b.length + 1)) (nn o0) ∧ w1.heap.size ≤ w_.heap.size)) _ ⟨0, List.replicate (a.length + b.length + 1) 0, rfl, (Nat.zero_le _), (by unfold timesG; rfl), (by unfold D16; intro d hd; rw [List.eq_of_mem_replicate hd]; decide), List.length_replicate, (fun j _ => by simp [List.getD_eq_getElem?_getD, List.getElem?_replicate]; split <;> rfl), cutE, BL, D, D2, (O.cast (by rw [nn_rep])), Nat.le_refl _⟩ ?_
  clear BL D D2 O
  rintro n_ a_ wl0 ⟨i, o0, rfl, hc0_0, hc0_1, hc0_2, hc0_3, hc0_4, ⟨s1, rfl⟩, BL, D, D2, O, zl0⟩
  have lO_2 := O.ge
  refine wp_seq_k fun K5 hK5 => ?_
  refine wp_seq_k fun K6 hK6 => ?_
  refine cPlain ?_
  refine sv 17 (.int .i64 ((i : Nat) : Int)) .of ?_
  simp only [List.set_cons_zero, List.set_cons_succ]
  refine sv 18 (va) .of ?_
  simp only [List.set_cons_zero, List.set_cons_succ]
  refine sv 19 (.int .i64 ((a.length : Nat) : Int)) (Val.lenS (.tmp 18) 147 rfl (by kernel_rfl) D a.length (nn_len a) Try.underlying147) ?_
  simp only [List.set_cons_zero, List.set_cons_succ]
  refine sv 20 (.bool (decide (((i : Nat) : Int) < ((a.length : Nat) : Int)))) (Val.cmp .lss 3 _ (.tmp 17) (.tmp 19) rfl .i64 ((i : Nat) : Int) ((a.length : Nat) : Int) (by kernel_rfl) (by kernel_rfl) (by simp) _ rfl) ?_
  simp only [List.set_cons_zero, List.set_cons_succ]
  refine wpList_nil ?_
  refine hK6 _ _ ?_
  refine cDec (((i : Nat) : Int) < ((a.length : Nat) : Int)) (by kernel_rfl) (fun c20 => ?_) (fun c20 => ?_)
  · skip
    refine wp_skip ?_
    refine hK5 _ _ ?_
    refine wp_seq_k fun K7 hK7 => ?_
    refine wp_block ?_
    refine wp_seq_k fun K8 hK8 => ?_
    refine cPlain ?_
    refine sv 7 (.int .u64 0) .of ?_
    simp only [List.set_cons_zero, List.set_cons_succ]
    refine wpList_nil ?_
    refine hK8 _ _ ?_
    refine wp_seq_k fun K9 hK9 => ?_
    refine cPlain ?_
    refine sv 8 (.int .i64 0) .of ?_
    simp only [List.set_cons_zero, List.set_cons_succ]
    refine wpList_nil ?_
    refine hK9 _ _ ?_
    refine wp_block ?_
    refine cLoop (fun N_ A_ w_ => ∃ (k c f : Nat) (out : List Nat), (N_ = f + 1 ∧ (f + k = b.length + 2) ∧ (innR (a.getD i 0) b i f out k c = innR (a.getD i 0) b i (b.length + 2) o0 0 0) ∧ (c < 65536 ∧ (k ≤ b.length ∨ c = 0)) ∧ (D16 out) ∧ (out.length = a.length + b.length + 1) ∧ (∀ j, i + b.length + 1 ≤ j → out.getD j 0 = 0) ∧ (k ≤ b.length → out.getD (i + b.length) 0 = 0) ∧ (∃ s2 : Nat → Value, A_ = ⟨[va, vb, undef, undef, .slice none 0 0, .slice (some ⟨w.heap.size, 0, none⟩) (a.length + b.length + 1) (a.length + b.length + 1), .int .i64 ((i : Nat) : Int), .int .u64 ((c : Nat) : Int), .int .i64 ((k : Nat) : Int), (s2 9), va, .int .i64 ((a.length : Nat) : Int), vb, .int .i64 ((b.length : Nat) : Int), .int .i64 ((a.length + b.length : Nat) : Int), .int .i64 ((a.length + b.length + 1 : Nat) : Int), .slice (some ⟨w.heap.size, 0, none⟩) (a.length + b.length + 1) (a.length + b.length + 1), .int .i64 ((i : Nat) : Int), va, .int .i64 ((a.length : Nat) : Int), .bool (decide (((i : Nat) : Int) < ((a.length : Nat) : Int))), (s1 21), (s1 22), (s2 23), (s2 24), (s2 25), (s2 26), (s2 27), (s2 28), (s2 29), (s2 30), (s2 31), (s2 32), (s2 33), (s2 34), (s2 35), (s2 36), (s2 37), (s2 38), (s2 39), (s2 40), (s2 41), (s2 42), (s2 43), (s2 44), (s2 45), (s2 46), (s2 47), (s2 48), (s2 49), (s2 50), (s2 51), (s2 52), (s2 53), (s2 54), (s2 55), (s2 56), (s2 57), (s2 58), (s2 59), (s2 60), (s2 61), (s2 62), (s2 63), (s2 64), (s2 65), (s2 66), (s2 67), (s2 68), undef].toArray, []⟩) ∧ Bl w.heap.size w w_ ∧ SL .u32 w_ va (nn a) ∧ SL .u32 w_ vb (nn b) ∧ Own 22 .u32 w.heap.size w_ (.slice (some ⟨w.heap.size, 0, none⟩) (a.length + b.length + 1) (a.length + b.length + 1)) (nn out) ∧ wl0.heap.size ≤ w_.heap.size)) _ ⟨0, 0, b.length + 2, o0, rfl, (by omega), rfl, (by omega), hc0_2, hc0_3, (fun j hj => hc0_4 j (by omega)), (fun _ => hc0_4 _ (by omega)), cutE, BL, D, D2, O, Nat.le_refl _⟩ ?_
    clear BL D D2 O
    rintro n_ a_ wl1 ⟨k, c, f, out, rfl, hc1_0, hc1_1, hc1_2, hc1_3, hc1_4, hc1_5, hc1_6, ⟨s2, rfl⟩, BL, D, D2, O, zl1⟩
    have lO_3 := O.ge
    refine wp_seq_k fun K10 hK10 => ?_
    refine wp_seq_k fun K11 hK11 => ?_
    refine cPlain ?_
    refine sv 23 (.int .i64 ((k : Nat) : Int)) .of ?_
    simp only [List.set_cons_zero, List.set_cons_succ]
    refine sv 24 (vb) .of ?_
    simp only [List.set_cons_zero, List.set_cons_succ]
    refine sv 25 (.int .i64 ((b.length : Nat) : Int)) (Val.lenS (.tmp 24) 147 rfl (by kernel_rfl) D2 b.length (nn_len b) Try.underlying147) ?_
    simp only [List.set_cons_zero, List.set_cons_succ]
    refine sv 26 (.bool (decide (((k : Nat) : Int) < ((b.length : Nat) : Int)))) (Val.cmp .lss 3 _ (.tmp 23) (.tmp 25) rfl .i64 ((k : Nat) : Int) ((b.length : Nat) : Int) (by kernel_rfl) (by kernel_rfl) (by simp) _ rfl) ?_
    simp only [List.set_cons_zero, List.set_cons_succ]
    refine sv 27 (.bool (decide (((k : Nat) : Int) < ((b.length : Nat) : Int)))) .of ?_
    simp only [List.set_cons_zero, List.set_cons_succ]
    by_cases g28 : ((k : Nat) : Int) < ((b.length : Nat) : Int)
    · skip
      have dg28 : decide (((k : Nat) : Int) < ((b.length : Nat) : Int)) = true := decide_eq_true g28
      simp only [dg28]
      clear dg28
      refine xSkip 28 ?_
      simp only [List.set_cons_zero, List.set_cons_succ]
      refine xSkip 29 ?_
      simp only [List.set_cons_zero, List.set_cons_succ]
      refine sv 30 (.bool true) .of ?_
      simp only [List.set_cons_zero, List.set_cons_succ]
      refine wpList_nil ?_
      refine hK11 _ _ ?_
      refine cT ?_
      refine wp_skip ?_
      refine hK10 _ _ ?_
      refine wp_seq_k fun K12 hK12 => ?_
      refine wp_block ?_
      refine wp_seq_k fun K13 hK13 => ?_
      have hog := hc1_3.at (i + k)
      have hag := ha16.at i
      have hbg := hb16.at k
      have hcont : k < b.length ∨ 0 < c := by omega
      obtain ⟨g, hg⟩ : ∃ g, f = g + 1 := ⟨f - 1, by omega⟩
      have hik : i + k < out.length := by omega
      refine cPlain ?_
      refine sv 33 (.slice (some ⟨w.heap.size, 0, none⟩) (a.length + b.length + 1) (a.length + b.length + 1)) .of ?_
      simp only [List.set_cons_zero, List.set_cons_succ]
      refine sv 34 (.int .i64 ((i : Nat) : Int)) .of ?_
      simp only [List.set_cons_zero, List.set_cons_succ]
      refine sv 35 (.int .i64 ((k : Nat) : Int)) .of ?_
      simp only [List.set_cons_zero, List.set_cons_succ]
      refine sv 36 (.int .i64 ((i + k : Nat) : Int)) (Val.as (Val.add 3 _ (.tmp 34) (.tmp 35) rfl ((i : Nat) : Int) ((k : Nat) : Int) (by kernel_rfl) (by kernel_rfl) (by omega)) (congrArg (Value.int .i64) (by omega))) ?_
      simp only [List.set_cons_zero, List.set_cons_succ]
      refine sv 37 (elemP (.slice (some ⟨w.heap.size, 0, none⟩) (a.length + b.length + 1) (a.length + b.length + 1)) (i + k)) (Val.idxE 147 (.tmp 33) (.tmp 36) rfl (.slice (some ⟨w.heap.size, 0, none⟩) (a.length + b.length + 1) (a.length + b.length + 1)) (i + k) (by kernel_rfl) (by kernel_rfl) O.sl Try.underlying147 (by kernel_rfl) (by rw [nn_len]; omega)) ?_
      simp only [List.set_cons_zero, List.set_cons_succ]
      refine sv 38 (.int .u32 ((out.getD (i + k) 0 : Nat) : Int)) (Val.nldE 22 _ rfl (.slice (some ⟨w.heap.size, 0, none⟩) (a.length + b.length + 1) (a.length + b.length + 1)) (i + k) (by kernel_rfl) (fun _ => (by kernel_rfl)) O.sl (by omega)) ?_
      simp only [List.set_cons_zero, List.set_cons_succ]
      refine sv 39 (.int .u64 ((out.getD (i + k) 0 : Nat) : Int)) (Val.asN (Val.convN 22 109 (.tmp 38) rfl .u64 (out.getD (i + k) 0) 18446744073709551616 Try.underlying22 Try.underlying109 (by kernel_rfl)) (Nat.mod_eq_of_lt (by omega))) ?_
      simp only [List.set_cons_zero, List.set_cons_succ]
      refine sv 40 (.int .u64 ((c : Nat) : Int)) .of ?_
      simp only [List.set_cons_zero, List.set_cons_succ]
      refine sv 41 (.int .u64 ((out.getD (i + k) 0 + c : Nat) : Int)) (Val.asN (Val.addN 109 _ (.tmp 39) (.tmp 40) rfl .u64 (out.getD (i + k) 0) c 18446744073709551616 (by kernel_rfl) (by kernel_rfl)) (Nat.mod_eq_of_lt (by omega))) ?_
      simp only [List.set_cons_zero, List.set_cons_succ]
      refine sv 9 (.int .u64 ((out.getD (i + k) 0 + c : Nat) : Int)) .of ?_
      simp only [List.set_cons_zero, List.set_cons_succ]
      refine wpList_nil ?_
      refine hK13 _ _ ?_
      refine cCut (fun A_ w_ => ∃ (x : Nat), ((x = out.getD (i + k) 0 + c + (if k < b.length then a.getD i 0 * b.getD k 0 else 0)) ∧ (x < 4294967296) ∧ (∃ s3 : Nat → Value, A_ = ⟨[va, vb, undef, undef, .slice none 0 0, .slice (some ⟨w.heap.size, 0, none⟩) (a.length + b.length + 1) (a.length + b.length + 1), .int .i64 ((i : Nat) : Int), .int .u64 ((c : Nat) : Int), .int .i64 ((k : Nat) : Int), .int .u64 ((x : Nat) : Int), va, .int .i64 ((a.length : Nat) : Int), vb, .int .i64 ((b.length : Nat) : Int), .int .i64 ((a.length + b.length : Nat) : Int), .int .i64 ((a.length + b.length + 1 : Nat) : Int), .slice (some ⟨w.heap.size, 0, none⟩) (a.length + b.length + 1) (a.length + b.length + 1), .int .i64 ((i : Nat) : Int), va, .int .i64 ((a.length : Nat) : Int), .bool (decide (((i : Nat) : Int) < ((a.length : Nat) : Int))), (s1 21), (s1 22), .int .i64 ((k : Nat) : Int), vb, .int .i64 ((b.length : Nat) : Int), .bool true, .bool true, undef, undef, .bool true, (s2 31), (s2 32), .slice (some ⟨w.heap.size, 0, none⟩) (a.length + b.length + 1) (a.length + b.length + 1), .int .i64 ((i : Nat) : Int), .int .i64 ((k : Nat) : Int), .int .i64 ((i + k : Nat) : Int), elemP (.slice (some ⟨w.heap.size, 0, none⟩) (a.length + b.length + 1) (a.length + b.length + 1)) (i + k), .int .u32 ((out.getD (i + k) 0 : Nat) : Int), .int .u64 ((out.getD (i + k) 0 : Nat) : Int), .int .u64 ((c : Nat) : Int), .int .u64 ((out.getD (i + k) 0 + c : Nat) : Int), (s3 42), (s3 43), (s3 44), (s3 45), (s3 46), (s3 47), (s3 48), (s3 49), (s3 50), (s3 51), (s3 52), (s3 53), (s3 54), (s3 55), (s3 56), (s3 57), (s3 58), (s2 59), (s2 60), (s2 61), (s2 62), (s2 63), (s2 64), (s2 65), (s2 66), (s2 67), (s2 68), undef].toArray, []⟩) ∧ Bl w.heap.size w w_ ∧ SL .u32 w_ va (nn a) ∧ SL .u32 w_ vb (nn b) ∧ Own 22 .u32 w.heap.size w_ (.slice (some ⟨w.heap.size, 0, none⟩) (a.length + b.length + 1) (a.length + b.length + 1)) (nn out) ∧ wl1.heap.size ≤ w_.heap.size)) ?_ ?_
      · skip
        refine wp_seq_k fun K14 hK14 => ?_
        refine cPlain ?_
        refine sv 42 (.int .i64 ((k : Nat) : Int)) .of ?_
        simp only [List.set_cons_zero, List.set_cons_succ]
        refine sv 43 (vb) .of ?_
        simp only [List.set_cons_zero, List.set_cons_succ]
        refine sv 44 (.int .i64 ((b.length : Nat) : Int)) (Val.lenS (.tmp 43) 147 rfl (by kernel_rfl) D2 b.length (nn_len b) Try.underlying147) ?_
        simp only [List.set_cons_zero, List.set_cons_succ]
        refine sv 45 (.bool (decide (((k : Nat) : Int) < ((b.length : Nat) : Int)))) (Val.cmp .lss 3 _ (.tmp 42) (.tmp 44) rfl .i64 ((k : Nat) : Int) ((b.length : Nat) : Int) (by kernel_rfl) (by kernel_rfl) (by simp) _ rfl) ?_
        simp only [List.set_cons_zero, List.set_cons_succ]
        refine wpList_nil ?_
        refine hK14 _ _ ?_
        refine cDec (((k : Nat) : Int) < ((b.length : Nat) : Int)) (by kernel_rfl) (fun c45 => ?_) (fun c45 => ?_)
        · skip
          have hprod : a.getD i 0 * b.getD k 0 ≤ 65535 * 65535 := Nat.mul_le_mul (by omega) (by omega)
          have e1 := drew_e0 wl1
          refine zg (fun w_ => Bl w.heap.size w w_ ∧ SL .u32 w_ va (nn a) ∧ SL .u32 w_ vb (nn b) ∧ Own 22 .u32 w.heap.size w_ (.slice (some ⟨w.heap.size, 0, none⟩) (a.length + b.length + 1) (a.length + b.length + 1)) (nn out) ∧ wl1.heap.size ≤ w_.heap.size) (fun w_ => Bl w.heap.size w w_ ∧ SL .u32 w_ va (nn a) ∧ SL .u32 w_ vb (nn b) ∧ Own 22 .u32 w.heap.size w_ (.slice (some ⟨w.heap.size, 0, none⟩) (a.length + b.length + 1) (a.length + b.length + 1)) (nn out) ∧ wl1.heap.size ≤ w_.heap.size) 100000 14 ⟨BL.e0 e1, D.e0 e1, D2.e0 e1, O.e0 e1, Nat.le_refl _⟩ ?_
          clear BL D D2 O
          clear e1
          intro w2
          rintro ⟨BL, D, D2, O, z1⟩
          refine zv 0 46 (.int .u64 ((out.getD (i + k) 0 + c : Nat) : Int)) (fun _ _ => .of) ⟨BL, D, D2, O, by omega⟩ ?_
          simp only [List.set_cons_zero, List.set_cons_succ]
          refine zv 1 47 (va) (fun _ _ => .of) ⟨BL, D, D2, O, by omega⟩ ?_
          simp only [List.set_cons_zero, List.set_cons_succ]
          refine zv 2 48 (.int .i64 ((i : Nat) : Int)) (fun _ _ => .of) ⟨BL, D, D2, O, by omega⟩ ?_
          simp only [List.set_cons_zero, List.set_cons_succ]
          refine zv 3 49 (elemP va i) (fun _ ⟨BL, D, D2, O, z1⟩ => Val.idxE 147 (.tmp 47) (.tmp 48) rfl va i (by kernel_rfl) (by kernel_rfl) D Try.underlying147 (by kernel_rfl) (by rw [nn_len]; omega)) ⟨BL, D, D2, O, by omega⟩ ?_
          simp only [List.set_cons_zero, List.set_cons_succ]
          refine zv 4 50 (.int .u32 ((a.getD i 0 : Nat) : Int)) (fun _ ⟨BL, D, D2, O, z1⟩ => Val.nldE 22 _ rfl va i (by kernel_rfl) (fun _ => (by kernel_rfl)) D (by omega)) ⟨BL, D, D2, O, by omega⟩ ?_
          simp only [List.set_cons_zero, List.set_cons_succ]
          refine zv 5 51 (.int .u64 ((a.getD i 0 : Nat) : Int)) (fun _ ⟨BL, D, D2, O, z1⟩ => Val.asN (Val.convN 22 109 (.tmp 50) rfl .u64 (a.getD i 0) 18446744073709551616 Try.underlying22 Try.underlying109 (by kernel_rfl)) (Nat.mod_eq_of_lt (by omega))) ⟨BL, D, D2, O, by omega⟩ ?_
          simp only [List.set_cons_zero, List.set_cons_succ]
          refine zv 6 52 (vb) (fun _ _ => .of) ⟨BL, D, D2, O, by omega⟩ ?_
          simp only [List.set_cons_zero, List.set_cons_succ]
          refine zv 7 53 (.int .i64 ((k : Nat) : Int)) (fun _ _ => .of) ⟨BL, D, D2, O, by omega⟩ ?_
          simp only [List.set_cons_zero, List.set_cons_succ]
          refine zv 8 54 (elemP vb k) (fun _ ⟨BL, D, D2, O, z1⟩ => Val.idxE 147 (.tmp 52) (.tmp 53) rfl vb k (by kernel_rfl) (by kernel_rfl) D2 Try.underlying147 (by kernel_rfl) (by rw [nn_len]; omega)) ⟨BL, D, D2, O, by omega⟩ ?_
          simp only [List.set_cons_zero, List.set_cons_succ]
          refine zv 9 55 (.int .u32 ((b.getD k 0 : Nat) : Int)) (fun _ ⟨BL, D, D2, O, z1⟩ => Val.nldE 22 _ rfl vb k (by kernel_rfl) (fun _ => (by kernel_rfl)) D2 (by omega)) ⟨BL, D, D2, O, by omega⟩ ?_
          simp only [List.set_cons_zero, List.set_cons_succ]
          refine zv 10 56 (.int .u64 ((b.getD k 0 : Nat) : Int)) (fun _ ⟨BL, D, D2, O, z1⟩ => Val.asN (Val.convN 22 109 (.tmp 55) rfl .u64 (b.getD k 0) 18446744073709551616 Try.underlying22 Try.underlying109 (by kernel_rfl)) (Nat.mod_eq_of_lt (by omega))) ⟨BL, D, D2, O, by omega⟩ ?_
          simp only [List.set_cons_zero, List.set_cons_succ]
          refine zv 11 57 (.int .u64 ((a.getD i 0 * b.getD k 0 : Nat) : Int)) (fun _ ⟨BL, D, D2, O, z1⟩ => Val.asN (Val.mulN 109 _ (.tmp 51) (.tmp 56) rfl .u64 (a.getD i 0) (b.getD k 0) 18446744073709551616 (by kernel_rfl) (by kernel_rfl)) (Nat.mod_eq_of_lt (by omega))) ⟨BL, D, D2, O, by omega⟩ ?_
          simp only [List.set_cons_zero, List.set_cons_succ]
          refine zv 12 58 (.int .u64 ((out.getD (i + k) 0 + c + a.getD i 0 * b.getD k 0 : Nat) : Int)) (fun _ ⟨BL, D, D2, O, z1⟩ => Val.asN (Val.addN 109 _ (.tmp 46) (.tmp 57) rfl .u64 (out.getD (i + k) 0 + c) (a.getD i 0 * b.getD k 0) 18446744073709551616 (by kernel_rfl) (by kernel_rfl)) (Nat.mod_eq_of_lt (by omega))) ⟨BL, D, D2, O, by omega⟩ ?_
          simp only [List.set_cons_zero, List.set_cons_succ]
          refine zv 13 9 (.int .u64 ((out.getD (i + k) 0 + c + a.getD i 0 * b.getD k 0 : Nat) : Int)) (fun _ _ => .of) ⟨BL, D, D2, O, by omega⟩ ?_
          simp only [List.set_cons_zero, List.set_cons_succ]
          refine zd (by kernel_rfl) ?_ _
          exact ⟨out.getD (i + k) 0 + c + a.getD i 0 * b.getD k 0, (by split <;> omega), (by omega), cutE, BL, D, D2, O, by omega⟩
        · skip
          refine wp_skip ?_
          exact ⟨out.getD (i + k) 0 + c, (by split <;> omega), (by omega), cutE, BL, D, D2, O, by omega⟩
      · skip
        clear BL D D2 O
        rintro a_ wJ1 ⟨x, hJ1_0, hJ1_1, ⟨s3, rfl⟩, BL, D, D2, O, zJ1⟩
        have lO_4 := O.ge
        refine wp_seq_k fun K15 hK15 => ?_
        have hX : x = out.getD (i + k) 0 + c + (if k < b.length then a.getD i 0 * b.getD k 0 else 0) := by assumption
        have hX2 : x < 4294967296 := by assumption
        refine cPlain ?_
        refine sv 59 (.slice (some ⟨w.heap.size, 0, none⟩) (a.length + b.length + 1) (a.length + b.length + 1)) .of ?_
        simp only [List.set_cons_zero, List.set_cons_succ]
        refine sv 60 (.int .i64 ((i : Nat) : Int)) .of ?_
        simp only [List.set_cons_zero, List.set_cons_succ]
        refine sv 61 (.int .i64 ((k : Nat) : Int)) .of ?_
        simp only [List.set_cons_zero, List.set_cons_succ]
        refine sv 62 (.int .i64 ((i + k : Nat) : Int)) (Val.as (Val.add 3 _ (.tmp 60) (.tmp 61) rfl ((i : Nat) : Int) ((k : Nat) : Int) (by kernel_rfl) (by kernel_rfl) (by omega)) (congrArg (Value.int .i64) (by omega))) ?_
        simp only [List.set_cons_zero, List.set_cons_succ]
        refine sv 63 (.int .u64 ((x : Nat) : Int)) .of ?_
        simp only [List.set_cons_zero, List.set_cons_succ]
        refine sv 64 (.int .u64 ((x % 65536 : Nat) : Int)) (Val.remN 109 _ (.tmp 63) _ rfl .u64 x 65536 (by kernel_rfl) (by kernel_rfl) (by omega)) ?_
        simp only [List.set_cons_zero, List.set_cons_succ]
        refine sv 65 (.int .u32 ((x % 65536 : Nat) : Int)) (Val.asN (Val.convN 109 22 (.tmp 64) rfl .u32 (x % 65536) 4294967296 Try.underlying109 Try.underlying22 (by kernel_rfl)) (Nat.mod_eq_of_lt (by omega))) ?_
        simp only [List.set_cons_zero, List.set_cons_succ]
        refine sv 66 (elemP (.slice (some ⟨w.heap.size, 0, none⟩) (a.length + b.length + 1) (a.length + b.length + 1)) (i + k)) (Val.idxE 147 (.tmp 59) (.tmp 62) rfl (.slice (some ⟨w.heap.size, 0, none⟩) (a.length + b.length + 1) (a.length + b.length + 1)) (i + k) (by kernel_rfl) (by kernel_rfl) O.sl Try.underlying147 (by kernel_rfl) (by rw [nn_len]; omega)) ?_
        simp only [List.set_cons_zero, List.set_cons_succ]
        refine xStoreE 22 (.tmp 66) (.tmp 65) rfl (.slice (some ⟨w.heap.size, 0, none⟩) (a.length + b.length + 1) (a.length + b.length + 1)) (i + k) ((x % 65536 : Nat) : Int) (by kernel_rfl) (by kernel_rfl) O (by kernel_rfl) (by rw [nn_len]; omega) ?_
        intro w3 O_ e2 ze2
        have BL_ := BL.ev e2 (fun i h => by have := lO_4 _ h; omega)
        have D_ := D.ev e2 (fun i hi h => by have := hd i hi; have := lO_4 _ h; omega)
        have D2_ := D2.ev e2 (fun i hi h => by have := hd2 i hi; have := lO_4 _ h; omega)
        replace BL := BL_; clear BL_
        replace D := D_; clear D_
        replace D2 := D2_; clear D2_
        replace O := O_; clear O_ e2
        refine wpList_nil ?_
        refine hK15 _ _ ?_
        refine cPlain ?_
        refine sv 67 (.int .u64 ((x : Nat) : Int)) .of ?_
        simp only [List.set_cons_zero, List.set_cons_succ]
        refine sv 68 (.int .u64 ((x / 65536 : Nat) : Int)) (Val.asN (Val.quoN 109 _ (.tmp 67) _ rfl .u64 x 65536 18446744073709551616 (by kernel_rfl) (by kernel_rfl) (by omega)) (Nat.mod_eq_of_lt (by omega))) ?_
        simp only [List.set_cons_zero, List.set_cons_succ]
        refine sv 7 (.int .u64 ((x / 65536 : Nat) : Int)) .of ?_
        simp only [List.set_cons_zero, List.set_cons_succ]
        refine wpList_nil ?_
        refine hK12 _ _ ?_
        refine cPlain ?_
        refine sv 31 (.int .i64 ((k : Nat) : Int)) .of ?_
        simp only [List.set_cons_zero, List.set_cons_succ]
        refine sv 32 (.int .i64 ((k + 1 : Nat) : Int)) (Val.as (Val.add 3 _ (.tmp 31) _ rfl ((k : Nat) : Int) 1 (by kernel_rfl) (by kernel_rfl) (by omega)) (congrArg (Value.int .i64) (by omega))) ?_
        simp only [List.set_cons_zero, List.set_cons_succ]
        refine sv 8 (.int .i64 ((k + 1 : Nat) : Int)) .of ?_
        simp only [List.set_cons_zero, List.set_cons_succ]
        refine wpList_nil ?_
        have hnx : x / 65536 < 65536 ∧ (k + 1 ≤ b.length ∨ x / 65536 = 0) := by
          refine ⟨by omega, ?_⟩
          rcases Nat.lt_or_ge k b.length with h1 | h1
          · exact .inl (by omega)
          · have hkb : k = b.length := by omega
            have h0 := hc1_6 (by omega)
            rw [← hkb] at h0
            rw [if_neg (by omega)] at hX
            exact .inr (by omega)
        refine ⟨_, ?_, k + 1, x / 65536, g, out.set (i + k) (x % 65536), rfl, (by omega), (by rw [← hc1_1, hg, innR_step hcont, ← hX]), hnx, (hc1_3.set _ _ (by omega)), (by rw [List.length_set]; exact hc1_4), (fun j hj => by rw [getD_set_ne (by omega)]; exact hc1_5 j hj), (fun hk => by rw [getD_set_ne (by omega)]; exact hc1_6 (by omega)), cutE, BL, D, D2, (O.cast (nn_set _ _ _)), by omega⟩
        omega
    · skip
      have dg28 : decide (((k : Nat) : Int) < ((b.length : Nat) : Int)) = false := decide_eq_false g28
      simp only [dg28]
      clear dg28
      refine sv 28 (.int .u64 ((c : Nat) : Int)) .of ?_
      simp only [List.set_cons_zero, List.set_cons_succ]
      refine sv 29 (.bool (decide (0 < ((c : Nat) : Int)))) (Val.cmp .gtr 109 _ (.tmp 28) _ rfl .u64 ((c : Nat) : Int) 0 (by kernel_rfl) (by kernel_rfl) (by simp) _ rfl) ?_
      simp only [List.set_cons_zero, List.set_cons_succ]
      refine sv 30 (.bool (decide (0 < ((c : Nat) : Int)))) .of ?_
      simp only [List.set_cons_zero, List.set_cons_succ]
      refine wpList_nil ?_
      refine hK11 _ _ ?_
      refine cDec (0 < ((c : Nat) : Int)) (by kernel_rfl) (fun c30 => ?_) (fun c30 => ?_)
      · skip
        refine wp_skip ?_
        refine hK10 _ _ ?_
        refine wp_seq_k fun K16 hK16 => ?_
        refine wp_block ?_
        refine wp_seq_k fun K17 hK17 => ?_
        have hog := hc1_3.at (i + k)
        have hag := ha16.at i
        have hbg := hb16.at k
        have hcont : k < b.length ∨ 0 < c := by omega
        obtain ⟨g, hg⟩ : ∃ g, f = g + 1 := ⟨f - 1, by omega⟩
        have hik : i + k < out.length := by omega
        refine cPlain ?_
        refine sv 33 (.slice (some ⟨w.heap.size, 0, none⟩) (a.length + b.length + 1) (a.length + b.length + 1)) .of ?_
        simp only [List.set_cons_zero, List.set_cons_succ]
        refine sv 34 (.int .i64 ((i : Nat) : Int)) .of ?_
        simp only [List.set_cons_zero, List.set_cons_succ]
        refine sv 35 (.int .i64 ((k : Nat) : Int)) .of ?_
        simp only [List.set_cons_zero, List.set_cons_succ]
        refine sv 36 (.int .i64 ((i + k : Nat) : Int)) (Val.as (Val.add 3 _ (.tmp 34) (.tmp 35) rfl ((i : Nat) : Int) ((k : Nat) : Int) (by kernel_rfl) (by kernel_rfl) (by omega)) (congrArg (Value.int .i64) (by omega))) ?_
        simp only [List.set_cons_zero, List.set_cons_succ]
        refine sv 37 (elemP (.slice (some ⟨w.heap.size, 0, none⟩) (a.length + b.length + 1) (a.length + b.length + 1)) (i + k)) (Val.idxE 147 (.tmp 33) (.tmp 36) rfl (.slice (some ⟨w.heap.size, 0, none⟩) (a.length + b.length + 1) (a.length + b.length + 1)) (i + k) (by kernel_rfl) (by kernel_rfl) O.sl Try.underlying147 (by kernel_rfl) (by rw [nn_len]; omega)) ?_
        simp only [List.set_cons_zero, List.set_cons_succ]
        refine sv 38 (.int .u32 ((out.getD (i + k) 0 : Nat) : Int)) (Val.nldE 22 _ rfl (.slice (some ⟨w.heap.size, 0, none⟩) (a.length + b.length + 1) (a.length + b.length + 1)) (i + k) (by kernel_rfl) (fun _ => (by kernel_rfl)) O.sl (by omega)) ?_
        simp only [List.set_cons_zero, List.set_cons_succ]
        refine sv 39 (.int .u64 ((out.getD (i + k) 0 : Nat) : Int)) (Val.asN (Val.convN 22 109 (.tmp 38) rfl .u64 (out.getD (i + k) 0) 18446744073709551616 Try.underlying22 Try.underlying109 (by kernel_rfl)) (Nat.mod_eq_of_lt (by omega))) ?_
        simp only [List.set_cons_zero, List.set_cons_succ]
        refine sv 40 (.int .u64 ((c : Nat) : Int)) .of ?_
        simp only [List.set_cons_zero, List.set_cons_succ]
        refine sv 41 (.int .u64 ((out.getD (i + k) 0 + c : Nat) : Int)) (Val.asN (Val.addN 109 _ (.tmp 39) (.tmp 40) rfl .u64 (out.getD (i + k) 0) c 18446744073709551616 (by kernel_rfl) (by kernel_rfl)) (Nat.mod_eq_of_lt (by omega))) ?_
        simp only [List.set_cons_zero, List.set_cons_succ]
        refine sv 9 (.int .u64 ((out.getD (i + k) 0 + c : Nat) : Int)) .of ?_
        simp only [List.set_cons_zero, List.set_cons_succ]
        refine wpList_nil ?_
        refine hK17 _ _ ?_
        refine cCut (fun A_ w_ => ∃ (x : Nat), ((x = out.getD (i + k) 0 + c + (if k < b.length then a.getD i 0 * b.getD k 0 else 0)) ∧ (x < 4294967296) ∧ (∃ s4 : Nat → Value, A_ = ⟨[va, vb, undef, undef, .slice none 0 0, .slice (some ⟨w.heap.size, 0, none⟩) (a.length + b.length + 1) (a.length + b.length + 1), .int .i64 ((i : Nat) : Int), .int .u64 ((c : Nat) : Int), .int .i64 ((k : Nat) : Int), .int .u64 ((x : Nat) : Int), va, .int .i64 ((a.length : Nat) : Int), vb, .int .i64 ((b.length : Nat) : Int), .int .i64 ((a.length + b.length : Nat) : Int), .int .i64 ((a.length + b.length + 1 : Nat) : Int), .slice (some ⟨w.heap.size, 0, none⟩) (a.length + b.length + 1) (a.length + b.length + 1), .int .i64 ((i : Nat) : Int), va, .int .i64 ((a.length : Nat) : Int), .bool (decide (((i : Nat) : Int) < ((a.length : Nat) : Int))), (s1 21), (s1 22), .int .i64 ((k : Nat) : Int), vb, .int .i64 ((b.length : Nat) : Int), .bool false, .bool false, .int .u64 ((c : Nat) : Int), .bool (decide (0 < ((c : Nat) : Int))), .bool (decide (0 < ((c : Nat) : Int))), (s2 31), (s2 32), .slice (some ⟨w.heap.size, 0, none⟩) (a.length + b.length + 1) (a.length + b.length + 1), .int .i64 ((i : Nat) : Int), .int .i64 ((k : Nat) : Int), .int .i64 ((i + k : Nat) : Int), elemP (.slice (some ⟨w.heap.size, 0, none⟩) (a.length + b.length + 1) (a.length + b.length + 1)) (i + k), .int .u32 ((out.getD (i + k) 0 : Nat) : Int), .int .u64 ((out.getD (i + k) 0 : Nat) : Int), .int .u64 ((c : Nat) : Int), .int .u64 ((out.getD (i + k) 0 + c : Nat) : Int), (s4 42), (s4 43), (s4 44), (s4 45), (s4 46), (s4 47), (s4 48), (s4 49), (s4 50), (s4 51), (s4 52), (s4 53), (s4 54), (s4 55), (s4 56), (s4 57), (s4 58), (s2 59), (s2 60), (s2 61), (s2 62), (s2 63), (s2 64), (s2 65), (s2 66), (s2 67), (s2 68), undef].toArray, []⟩) ∧ Bl w.heap.size w w_ ∧ SL .u32 w_ va (nn a) ∧ SL .u32 w_ vb (nn b) ∧ Own 22 .u32 w.heap.size w_ (.slice (some ⟨w.heap.size, 0, none⟩) (a.length + b.length + 1) (a.length + b.length + 1)) (nn out) ∧ wl1.heap.size ≤ w_.heap.size)) ?_ ?_
        · skip
          refine wp_seq_k fun K18 hK18 => ?_
          refine cPlain ?_
          refine sv 42 (.int .i64 ((k : Nat) : Int)) .of ?_
          simp only [List.set_cons_zero, List.set_cons_succ]
          refine sv 43 (vb) .of ?_
          simp only [List.set_cons_zero, List.set_cons_succ]
          refine sv 44 (.int .i64 ((b.length : Nat) : Int)) (Val.lenS (.tmp 43) 147 rfl (by kernel_rfl) D2 b.length (nn_len b) Try.underlying147) ?_
          simp only [List.set_cons_zero, List.set_cons_succ]
          refine sv 45 (.bool (decide (((k : Nat) : Int) < ((b.length : Nat) : Int)))) (Val.cmp .lss 3 _ (.tmp 42) (.tmp 44) rfl .i64 ((k : Nat) : Int) ((b.length : Nat) : Int) (by kernel_rfl) (by kernel_rfl) (by simp) _ rfl) ?_
          simp only [List.set_cons_zero, List.set_cons_succ]
          refine wpList_nil ?_
          refine hK18 _ _ ?_
          refine cDec (((k : Nat) : Int) < ((b.length : Nat) : Int)) (by kernel_rfl) (fun c45 => ?_) (fun c45 => ?_)
          · skip
            have hprod : a.getD i 0 * b.getD k 0 ≤ 65535 * 65535 := Nat.mul_le_mul (by omega) (by omega)
            have e3 := drew_e0 wl1
            refine zg (fun w_ => Bl w.heap.size w w_ ∧ SL .u32 w_ va (nn a) ∧ SL .u32 w_ vb (nn b) ∧ Own 22 .u32 w.heap.size w_ (.slice (some ⟨w.heap.size, 0, none⟩) (a.length + b.length + 1) (a.length + b.length + 1)) (nn out) ∧ wl1.heap.size ≤ w_.heap.size) (fun w_ => Bl w.heap.size w w_ ∧ SL .u32 w_ va (nn a) ∧ SL .u32 w_ vb (nn b) ∧ Own 22 .u32 w.heap.size w_ (.slice (some ⟨w.heap.size, 0, none⟩) (a.length + b.length + 1) (a.length + b.length + 1)) (nn out) ∧ wl1.heap.size ≤ w_.heap.size) 100000 14 ⟨BL.e0 e3, D.e0 e3, D2.e0 e3, O.e0 e3, Nat.le_refl _⟩ ?_
            clear BL D D2 O
            clear e3
            intro w4
            rintro ⟨BL, D, D2, O, z2⟩
            refine zv 0 46 (.int .u64 ((out.getD (i + k) 0 + c : Nat) : Int)) (fun _ _ => .of) ⟨BL, D, D2, O, by omega⟩ ?_
            simp only [List.set_cons_zero, List.set_cons_succ]
            refine zv 1 47 (va) (fun _ _ => .of) ⟨BL, D, D2, O, by omega⟩ ?_
            simp only [List.set_cons_zero, List.set_cons_succ]
            refine zv 2 48 (.int .i64 ((i : Nat) : Int)) (fun _ _ => .of) ⟨BL, D, D2, O, by omega⟩ ?_
            simp only [List.set_cons_zero, List.set_cons_succ]
            refine zv 3 49 (elemP va i) (fun _ ⟨BL, D, D2, O, z2⟩ => Val.idxE 147 (.tmp 47) (.tmp 48) rfl va i (by kernel_rfl) (by kernel_rfl) D Try.underlying147 (by kernel_rfl) (by rw [nn_len]; omega)) ⟨BL, D, D2, O, by omega⟩ ?_
            simp only [List.set_cons_zero, List.set_cons_succ]
            refine zv 4 50 (.int .u32 ((a.getD i 0 : Nat) : Int)) (fun _ ⟨BL, D, D2, O, z2⟩ => Val.nldE 22 _ rfl va i (by kernel_rfl) (fun _ => (by kernel_rfl)) D (by omega)) ⟨BL, D, D2, O, by omega⟩ ?_
            simp only [List.set_cons_zero, List.set_cons_succ]
            refine zv 5 51 (.int .u64 ((a.getD i 0 : Nat) : Int)) (fun _ ⟨BL, D, D2, O, z2⟩ => Val.asN (Val.convN 22 109 (.tmp 50) rfl .u64 (a.getD i 0) 18446744073709551616 Try.underlying22 Try.underlying109 (by kernel_rfl)) (Nat.mod_eq_of_lt (by omega))) ⟨BL, D, D2, O, by omega⟩ ?_
            simp only [List.set_cons_zero, List.set_cons_succ]
            refine zv 6 52 (vb) (fun _ _ => .of) ⟨BL, D, D2, O, by omega⟩ ?_
            simp only [List.set_cons_zero, List.set_cons_succ]
            refine zv 7 53 (.int .i64 ((k : Nat) : Int)) (fun _ _ => .of) ⟨BL, D, D2, O, by omega⟩ ?_
            simp only [List.set_cons_zero, List.set_cons_succ]
            refine zv 8 54 (elemP vb k) (fun _ ⟨BL, D, D2, O, z2⟩ => Val.idxE 147 (.tmp 52) (.tmp 53) rfl vb k (by kernel_rfl) (by kernel_rfl) D2 Try.underlying147 (by kernel_rfl) (by rw [nn_len]; omega)) ⟨BL, D, D2, O, by omega⟩ ?_
            simp only [List.set_cons_zero, List.set_cons_succ]
            refine zv 9 55 (.int .u32 ((b.getD k 0 : Nat) : Int)) (fun _ ⟨BL, D, D2, O, z2⟩ => Val.nldE 22 _ rfl vb k (by kernel_rfl) (fun _ => (by kernel_rfl)) D2 (by omega)) ⟨BL, D, D2, O, by omega⟩ ?_
            simp only [List.set_cons_zero, List.set_cons_succ]
            refine zv 10 56 (.int .u64 ((b.getD k 0 : Nat) : Int)) (fun _ ⟨BL, D, D2, O, z2⟩ => Val.asN (Val.convN 22 109 (.tmp 55) rfl .u64 (b.getD k 0) 18446744073709551616 Try.underlying22 Try.underlying109 (by kernel_rfl)) (Nat.mod_eq_of_lt (by omega))) ⟨BL, D, D2, O, by omega⟩ ?_
            simp only [List.set_cons_zero, List.set_cons_succ]
            refine zv 11 57 (.int .u64 ((a.getD i 0 * b.getD k 0 : Nat) : Int)) (fun _ ⟨BL, D, D2, O, z2⟩ => Val.asN (Val.mulN 109 _ (.tmp 51) (.tmp 56) rfl .u64 (a.getD i 0) (b.getD k 0) 18446744073709551616 (by kernel_rfl) (by kernel_rfl)) (Nat.mod_eq_of_lt (by omega))) ⟨BL, D, D2, O, by omega⟩ ?_
            simp only [List.set_cons_zero, List.set_cons_succ]
            refine zv 12 58 (.int .u64 ((out.getD (i + k) 0 + c + a.getD i 0 * b.getD k 0 : Nat) : Int)) (fun _ ⟨BL, D, D2, O, z2⟩ => Val.asN (Val.addN 109 _ (.tmp 46) (.tmp 57) rfl .u64 (out.getD (i + k) 0 + c) (a.getD i 0 * b.getD k 0) 18446744073709551616 (by kernel_rfl) (by kernel_rfl)) (Nat.mod_eq_of_lt (by omega))) ⟨BL, D, D2, O, by omega⟩ ?_
            simp only [List.set_cons_zero, List.set_cons_succ]
            refine zv 13 9 (.int .u64 ((out.getD (i + k) 0 + c + a.getD i 0 * b.getD k 0 : Nat) : Int)) (fun _ _ => .of) ⟨BL, D, D2, O, by omega⟩ ?_
            simp only [List.set_cons_zero, List.set_cons_succ]
            refine zd (by kernel_rfl) ?_ _
            exact ⟨out.getD (i + k) 0 + c + a.getD i 0 * b.getD k 0, (by split <;> omega), (by omega), cutE, BL, D, D2, O, by omega⟩
          · skip
            refine wp_skip ?_
            exact ⟨out.getD (i + k) 0 + c, (by split <;> omega), (by omega), cutE, BL, D, D2, O, by omega⟩
        · skip
          clear BL D D2 O
          rintro a_ wJ2 ⟨x, hJ2_0, hJ2_1, ⟨s4, rfl⟩, BL, D, D2, O, zJ2⟩
          have lO_5 := O.ge
          refine wp_seq_k fun K19 hK19 => ?_
          have hX : x = out.getD (i + k) 0 + c + (if k < b.length then a.getD i 0 * b.getD k 0 else 0) := by assumption
          have hX2 : x < 4294967296 := by assumption
          refine cPlain ?_
          refine sv 59 (.slice (some ⟨w.heap.size, 0, none⟩) (a.length + b.length + 1) (a.length + b.length + 1)) .of ?_
          simp only [List.set_cons_zero, List.set_cons_succ]
          refine sv 60 (.int .i64 ((i : Nat) : Int)) .of ?_
          simp only [List.set_cons_zero, List.set_cons_succ]
          refine sv 61 (.int .i64 ((k : Nat) : Int)) .of ?_
          simp only [List.set_cons_zero, List.set_cons_succ]
          refine sv 62 (.int .i64 ((i + k : Nat) : Int)) (Val.as (Val.add 3 _ (.tmp 60) (.tmp 61) rfl ((i : Nat) : Int) ((k : Nat) : Int) (by kernel_rfl) (by kernel_rfl) (by omega)) (congrArg (Value.int .i64) (by omega))) ?_
          simp only [List.set_cons_zero, List.set_cons_succ]
          refine sv 63 (.int .u64 ((x : Nat) : Int)) .of ?_
          simp only [List.set_cons_zero, List.set_cons_succ]
          refine sv 64 (.int .u64 ((x % 65536 : Nat) : Int)) (Val.remN 109 _ (.tmp 63) _ rfl .u64 x 65536 (by kernel_rfl) (by kernel_rfl) (by omega)) ?_
          simp only [List.set_cons_zero, List.set_cons_succ]
          refine sv 65 (.int .u32 ((x % 65536 : Nat) : Int)) (Val.asN (Val.convN 109 22 (.tmp 64) rfl .u32 (x % 65536) 4294967296 Try.underlying109 Try.underlying22 (by kernel_rfl)) (Nat.mod_eq_of_lt (by omega))) ?_
          simp only [List.set_cons_zero, List.set_cons_succ]
          refine sv 66 (elemP (.slice (some ⟨w.heap.size, 0, none⟩) (a.length + b.length + 1) (a.length + b.length + 1)) (i + k)) (Val.idxE 147 (.tmp 59) (.tmp 62) rfl (.slice (some ⟨w.heap.size, 0, none⟩) (a.length + b.length + 1) (a.length + b.length + 1)) (i + k) (by kernel_rfl) (by kernel_rfl) O.sl Try.underlying147 (by kernel_rfl) (by rw [nn_len]; omega)) ?_
          simp only [List.set_cons_zero, List.set_cons_succ]
          refine xStoreE 22 (.tmp 66) (.tmp 65) rfl (.slice (some ⟨w.heap.size, 0, none⟩) (a.length + b.length + 1) (a.length + b.length + 1)) (i + k) ((x % 65536 : Nat) : Int) (by kernel_rfl) (by kernel_rfl) O (by kernel_rfl) (by rw [nn_len]; omega) ?_
          intro w5 O_ e4 ze4
          have BL_ := BL.ev e4 (fun i h => by have := lO_5 _ h; omega)
          have D_ := D.ev e4 (fun i hi h => by have := hd i hi; have := lO_5 _ h; omega)
          have D2_ := D2.ev e4 (fun i hi h => by have := hd2 i hi; have := lO_5 _ h; omega)
          replace BL := BL_; clear BL_
          replace D := D_; clear D_
          replace D2 := D2_; clear D2_
          replace O := O_; clear O_ e4
          refine wpList_nil ?_
          refine hK19 _ _ ?_
          refine cPlain ?_
          refine sv 67 (.int .u64 ((x : Nat) : Int)) .of ?_
          simp only [List.set_cons_zero, List.set_cons_succ]
          refine sv 68 (.int .u64 ((x / 65536 : Nat) : Int)) (Val.asN (Val.quoN 109 _ (.tmp 67) _ rfl .u64 x 65536 18446744073709551616 (by kernel_rfl) (by kernel_rfl) (by omega)) (Nat.mod_eq_of_lt (by omega))) ?_
          simp only [List.set_cons_zero, List.set_cons_succ]
          refine sv 7 (.int .u64 ((x / 65536 : Nat) : Int)) .of ?_
          simp only [List.set_cons_zero, List.set_cons_succ]
          refine wpList_nil ?_
          refine hK16 _ _ ?_
          refine cPlain ?_
          refine sv 31 (.int .i64 ((k : Nat) : Int)) .of ?_
          simp only [List.set_cons_zero, List.set_cons_succ]
          refine sv 32 (.int .i64 ((k + 1 : Nat) : Int)) (Val.as (Val.add 3 _ (.tmp 31) _ rfl ((k : Nat) : Int) 1 (by kernel_rfl) (by kernel_rfl) (by omega)) (congrArg (Value.int .i64) (by omega))) ?_
          simp only [List.set_cons_zero, List.set_cons_succ]
          refine sv 8 (.int .i64 ((k + 1 : Nat) : Int)) .of ?_
          simp only [List.set_cons_zero, List.set_cons_succ]
          refine wpList_nil ?_
          have hnx : x / 65536 < 65536 ∧ (k + 1 ≤ b.length ∨ x / 65536 = 0) := by
            refine ⟨by omega, ?_⟩
            rcases Nat.lt_or_ge k b.length with h1 | h1
            · exact .inl (by omega)
            · have hkb : k = b.length := by omega
              have h0 := hc1_6 (by omega)
              rw [← hkb] at h0
              rw [if_neg (by omega)] at hX
              exact .inr (by omega)
          refine ⟨_, ?_, k + 1, x / 65536, g, out.set (i + k) (x % 65536), rfl, (by omega), (by rw [← hc1_1, hg, innR_step hcont, ← hX]), hnx, (hc1_3.set _ _ (by omega)), (by rw [List.length_set]; exact hc1_4), (fun j hj => by rw [getD_set_ne (by omega)]; exact hc1_5 j hj), (fun hk => by rw [getD_set_ne (by omega)]; exact hc1_6 (by omega)), cutE, BL, D, D2, (O.cast (nn_set _ _ _)), by omega⟩
          omega
      · skip
        have hstop := innR_stop (ai := a.getD i 0) (b := b) (i := i) (f := f) (out := out) (k := k) (c := c) (by omega)
        refine wp_exit ?_
        simp only [Exit.then, Exit.inBlock, ↓reduceIte, Nat.reduceEqDiff]
        refine hK7 _ _ ?_
        refine cPlain ?_
        refine sv 21 (.int .i64 ((i : Nat) : Int)) .of ?_
        simp only [List.set_cons_zero, List.set_cons_succ]
        refine sv 22 (.int .i64 ((i + 1 : Nat) : Int)) (Val.as (Val.add 3 _ (.tmp 21) _ rfl ((i : Nat) : Int) 1 (by kernel_rfl) (by kernel_rfl) (by omega)) (congrArg (Value.int .i64) (by omega))) ?_
        simp only [List.set_cons_zero, List.set_cons_succ]
        refine sv 6 (.int .i64 ((i + 1 : Nat) : Int)) .of ?_
        simp only [List.set_cons_zero, List.set_cons_succ]
        refine wpList_nil ?_
        refine ⟨_, ?_, i + 1, out, rfl, (by omega), (by rw [timesG_succ, hc0_1, ← hc1_1, hstop]), hc1_3, (by omega), (fun j hj => hc1_5 j (by omega)), cutE, BL, D, D2, O, by omega⟩
        omega
  · skip
    have hia : i = a.length := by omega
    refine wp_exit ?_
    simp only [Exit.then, Exit.inBlock, ↓reduceIte, Nat.reduceEqDiff]
    refine hK3 _ _ ?_
    refine wp_seq_k fun K20 hK20 => ?_
    refine cPlain ?_
    refine sv 69 (.slice (some ⟨w.heap.size, 0, none⟩) (a.length + b.length + 1) (a.length + b.length + 1)) .of ?_
    simp only [List.set_cons_zero, List.set_cons_succ]
    refine sv 4 (.slice (some ⟨w.heap.size, 0, none⟩) (a.length + b.length + 1) (a.length + b.length + 1)) .of ?_
    simp only [List.set_cons_zero, List.set_cons_succ]
    refine wpList_nil ?_
    refine hK20 _ _ ?_
    refine wp_ret ?_
    (try simp only [Exit.then, Exit.inBlock])
    refine bodyPost_ret (v := .slice (some ⟨w.heap.size, 0, none⟩) (a.length + b.length + 1) (a.length + b.length + 1)) rT rfl ?_
    rw [hia] at hc0_1
    have hT : timesR a b = o0 := hc0_1
    rw [hT]
    exact ⟨_, rfl, O.mono (by omega), hc0_2, BL.b⟩

end Go.Proofs.Yteaijjefbadnbaa
