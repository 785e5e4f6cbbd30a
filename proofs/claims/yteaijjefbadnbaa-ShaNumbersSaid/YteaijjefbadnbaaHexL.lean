/-
  low.Hex.
-/
import Derived.Test.YteaijjefbadnbaaPk2
import Derived.Test.YteaijjefbadnbaaProg
namespace Go.Proofs.Yteaijjefbadnbaa
open Go.RowKit
set_option linter.unusedVariables false
set_option linter.unusedSimpArgs false
set_option maxRecDepth 100000
attribute [local irreducible] wpList Code.wp wpAnyZ
def hexD : ByteArray := {data := #[48, 49, 50, 51, 52, 53, 54, 55, 56, 57, 97, 98, 99, 100, 101, 102]}
def hexStep (b : Nat) (S : ByteArray) : ByteArray := (S ++ hexD.extract (b / 16) (b / 16 + 1)) ++ hexD.extract (b % 16) (b % 16 + 1)
/-- Hex digits. -/
def hexA (bs : List Nat) : Nat → ByteArray
  | 0 => {data := #[]}
  | k + 1 => hexStep (bs.getD k 0) (hexA bs k)
theorem hexD_ext (i : Nat) : (hexD.extract i (i + 1)).size ≤ 1 := by rw [ByteArray.size_extract]; omega
theorem hexStep_size (b : Nat) (S : ByteArray) : (hexStep b S).size ≤ S.size + 2 := by
  have h1 := hexD_ext (b / 16)
  have h2 := hexD_ext (b % 16)
  unfold hexStep
  rw [ByteArray.size_append, ByteArray.size_append]; omega
theorem hexA_size (bs : List Nat) : ∀ k, (hexA bs k).size ≤ 2 * k
  | 0 => Nat.le_refl 0
  | k + 1 => by
    have := hexA_size bs k
    have := hexStep_size (bs.getD k 0) (hexA bs k)
    simp only [hexA]; omega
theorem hexCat (S : ByteArray) (i : Nat) (h : S.size ≤ 281474976710656) : S.size + (hexD.extract i (i + 1)).size ≤ 9223372036854775807 := by have := hexD_ext i; omega
theorem hexCat2 (S : ByteArray) (i j : Nat) (h : S.size ≤ 281474976710656) : (S ++ hexD.extract i (i + 1)).size + (hexD.extract j (j + 1)).size ≤ 9223372036854775807 := by
  have := hexD_ext i; have := hexD_ext j; rw [ByteArray.size_append]; omega

theorem hex_any (bs : List Nat) (v : Value) (w : World) (R : SL .u8 w v (nn bs)) (hb : ∀ k, k < bs.length → bs.getD k 0 < 256) (hl : bs.length ≤ 140737488355328) :
    Calls Try.prog 80 #[v] w fun e w' => e = .returned (.string (hexA bs bs.length)) ∧ Below w.heap.size w w' := by
  have BL := Bl.refl w
  have hrl := R.lt
  have hln := nn_len bs
  obtain ⟨A, C, rfl, hmx⟩ := R.len
  unfold maxLen at hmx
  go_enter Try.func80, Try.ntmps80
  refine wp_seq_k fun K1 hK1 => ?_
  refine cPlain ?_
  refine sv 2 (.string {data := #[]}) .of ?_
  simp only [List.set_cons_zero, List.set_cons_succ]
  refine wpList_nil ?_
  refine hK1 _ _ ?_
  refine wp_seq_k fun K2 hK2 => ?_
  refine cPlain ?_
  refine sv 3 (.string {data := #[]}) .of ?_
  simp only [List.set_cons_zero, List.set_cons_succ]
  refine wpList_nil ?_
  refine hK2 _ _ ?_
  refine wp_seq_k fun K3 hK3 => ?_
  refine wp_seq_k fun K4 hK4 => ?_
  refine cPlain ?_
  refine sv 4 (.int .i64 0) .of ?_
  simp only [List.set_cons_zero, List.set_cons_succ]
  refine wpList_nil ?_
  refine hK4 _ _ ?_
  refine wp_block ?_
  refine cLoop (fun N_ A_ w_ => ∃ (k : Nat) (S : ByteArray), (N_ = bs.length - k ∧ (k ≤ bs.length) ∧ (S = hexA bs k) ∧ (∃ s1 : Nat → Value, A_ = ⟨[.slice A (nn bs).length C, undef, .string {data := #[]}, .string S, .int .i64 (k : Int), (s1 5), (s1 6), (s1 7), (s1 8), (s1 9), (s1 10), (s1 11), (s1 12), (s1 13), (s1 14), (s1 15), (s1 16), (s1 17), (s1 18), (s1 19), (s1 20), (s1 21), (s1 22), (s1 23), (s1 24), (s1 25), (s1 26), (s1 27), (s1 28), (s1 29), (s1 30), (s1 31), (s1 32), (s1 33), (s1 34), (s1 35), (s1 36), (s1 37), undef].toArray, []⟩) ∧ Bl w.heap.size w w_ ∧ SL .u8 w_ (.slice A (nn bs).length C) (nn bs) ∧ w.heap.size ≤ w_.heap.size)) _ ⟨0, {data := #[]}, rfl, by omega, rfl, cutE, BL, R, Nat.le_refl _⟩ ?_
  clear BL R
  rintro n_ a_ wl0 ⟨k, S, rfl, hc0_0, hc0_1, ⟨s1, rfl⟩, BL, R, zl0⟩
  refine wp_seq_k fun K5 hK5 => ?_
  refine wp_seq_k fun K6 hK6 => ?_
  refine cPlain ?_
  refine sv 5 (.int .i64 (k : Int)) .of ?_
  simp only [List.set_cons_zero, List.set_cons_succ]
  refine sv 6 (.slice A (nn bs).length C) .of ?_
  simp only [List.set_cons_zero, List.set_cons_succ]
  refine sv 7 (.int .i64 ((bs.length : Nat) : Int)) (Val.lenS (.tmp 6) 30 rfl (by kernel_rfl) R bs.length (nn_len bs) Try.underlying30) ?_
  simp only [List.set_cons_zero, List.set_cons_succ]
  refine sv 8 (.bool (decide ((k : Int) < ((bs.length : Nat) : Int)))) (Val.cmp .lss 3 _ (.tmp 5) (.tmp 7) rfl .i64 (k : Int) ((bs.length : Nat) : Int) (by kernel_rfl) (by kernel_rfl) (by simp) _ rfl) ?_
  simp only [List.set_cons_zero, List.set_cons_succ]
  refine wpList_nil ?_
  refine hK6 _ _ ?_
  refine cDec ((k : Int) < ((bs.length : Nat) : Int)) (by kernel_rfl) (fun c8 => ?_) (fun c8 => ?_)
  · skip
    have hb1 := hb k (by omega)
    have hS2 : S.size ≤ 281474976710656 := by have := hexA_size bs k; rw [hc0_1]; omega
    refine wp_skip ?_
    refine hK5 _ _ ?_
    refine wp_seq_k fun K7 hK7 => ?_
    refine wp_block ?_
    have e1 := drew_e0 wl0
    refine zg (fun w_ => Bl w.heap.size w w_ ∧ SL .u8 w_ (.slice A (nn bs).length C) (nn bs) ∧ wl0.heap.size ≤ w_.heap.size) (fun w_ => Bl w.heap.size w w_ ∧ SL .u8 w_ (.slice A (nn bs).length C) (nn bs) ∧ wl0.heap.size ≤ w_.heap.size) 100000 28 ⟨BL.e0 e1, R.e0 e1, Nat.le_refl _⟩ ?_
    clear BL R
    clear e1
    intro w1
    rintro ⟨BL, R, z1⟩
    refine zv 0 11 (.string S) (fun _ _ => .of) ⟨BL, R, by omega⟩ ?_
    simp only [List.set_cons_zero, List.set_cons_succ]
    refine zv 1 12 (.slice A (nn bs).length C) (fun _ _ => .of) ⟨BL, R, by omega⟩ ?_
    simp only [List.set_cons_zero, List.set_cons_succ]
    refine zv 2 13 (.int .i64 (k : Int)) (fun _ _ => .of) ⟨BL, R, by omega⟩ ?_
    simp only [List.set_cons_zero, List.set_cons_succ]
    refine zv 3 14 (elemP (.slice A (nn bs).length C) k) (fun _ ⟨BL, R, z1⟩ => Val.idxE 30 (.tmp 12) (.tmp 13) rfl (.slice A (nn bs).length C) k (by kernel_rfl) (by kernel_rfl) R Try.underlying30 (by kernel_rfl) (by omega)) ⟨BL, R, by omega⟩ ?_
    simp only [List.set_cons_zero, List.set_cons_succ]
    refine zv 4 15 (.int .u8 ((bs.getD k 0 : Nat) : Int)) (fun _ ⟨BL, R, z1⟩ => Val.nldE 5 _ rfl (.slice A (nn bs).length C) k (by kernel_rfl) (fun _ => (by kernel_rfl)) R (by omega)) ⟨BL, R, by omega⟩ ?_
    simp only [List.set_cons_zero, List.set_cons_succ]
    refine zv 5 16 (.int .u8 (((bs.getD k 0) / 16 : Nat) : Int)) (fun _ ⟨BL, R, z1⟩ => Val.asN (Val.quoN 5 _ (.tmp 15) _ rfl .u8 (bs.getD k 0) 16 256 (by kernel_rfl) (by kernel_rfl) (by omega)) (by omega)) ⟨BL, R, by omega⟩ ?_
    simp only [List.set_cons_zero, List.set_cons_succ]
    refine zv 6 17 (.slice A (nn bs).length C) (fun _ _ => .of) ⟨BL, R, by omega⟩ ?_
    simp only [List.set_cons_zero, List.set_cons_succ]
    refine zv 7 18 (.int .i64 (k : Int)) (fun _ _ => .of) ⟨BL, R, by omega⟩ ?_
    simp only [List.set_cons_zero, List.set_cons_succ]
    refine zv 8 19 (elemP (.slice A (nn bs).length C) k) (fun _ ⟨BL, R, z1⟩ => Val.idxE 30 (.tmp 17) (.tmp 18) rfl (.slice A (nn bs).length C) k (by kernel_rfl) (by kernel_rfl) R Try.underlying30 (by kernel_rfl) (by omega)) ⟨BL, R, by omega⟩ ?_
    simp only [List.set_cons_zero, List.set_cons_succ]
    refine zv 9 20 (.int .u8 ((bs.getD k 0 : Nat) : Int)) (fun _ ⟨BL, R, z1⟩ => Val.nldE 5 _ rfl (.slice A (nn bs).length C) k (by kernel_rfl) (fun _ => (by kernel_rfl)) R (by omega)) ⟨BL, R, by omega⟩ ?_
    simp only [List.set_cons_zero, List.set_cons_succ]
    refine zv 10 21 (.int .u8 (((bs.getD k 0) / 16 : Nat) : Int)) (fun _ ⟨BL, R, z1⟩ => Val.asN (Val.quoN 5 _ (.tmp 20) _ rfl .u8 (bs.getD k 0) 16 256 (by kernel_rfl) (by kernel_rfl) (by omega)) (by omega)) ⟨BL, R, by omega⟩ ?_
    simp only [List.set_cons_zero, List.set_cons_succ]
    refine zv 11 22 (.int .u8 (((bs.getD k 0) / 16 + 1 : Nat) : Int)) (fun _ ⟨BL, R, z1⟩ => Val.asN (Val.addN 5 _ (.tmp 21) _ rfl .u8 ((bs.getD k 0) / 16) 1 256 (by kernel_rfl) (by kernel_rfl)) (by omega)) ⟨BL, R, by omega⟩ ?_
    simp only [List.set_cons_zero, List.set_cons_succ]
    refine zv 12 23 (.string (hexD.extract ((bs.getD k 0) / 16) ((bs.getD k 0) / 16 + 1))) (fun _ ⟨BL, R, z1⟩ => Val.slStr (k1 := .u8) (k2 := .u8) 9 _ (.tmp 16) (.tmp 22) rfl hexD (by kernel_rfl) ((bs.getD k 0) / 16) ((bs.getD k 0) / 16 + 1) (by kernel_rfl) (by kernel_rfl) (by omega) (show _ ≤ 16 by omega) Try.underlying9) ⟨BL, R, by omega⟩ ?_
    simp only [List.set_cons_zero, List.set_cons_succ]
    refine zv 13 24 (.string (S ++ hexD.extract ((bs.getD k 0) / 16) ((bs.getD k 0) / 16 + 1))) (fun _ ⟨BL, R, z1⟩ => Val.catStr 9 _ (.tmp 11) (.tmp 23) rfl _ _ (by kernel_rfl) (by kernel_rfl) (hexCat _ _ hS2)) ⟨BL, R, by omega⟩ ?_
    simp only [List.set_cons_zero, List.set_cons_succ]
    refine zv 14 25 (.slice A (nn bs).length C) (fun _ _ => .of) ⟨BL, R, by omega⟩ ?_
    simp only [List.set_cons_zero, List.set_cons_succ]
    refine zv 15 26 (.int .i64 (k : Int)) (fun _ _ => .of) ⟨BL, R, by omega⟩ ?_
    simp only [List.set_cons_zero, List.set_cons_succ]
    refine zv 16 27 (elemP (.slice A (nn bs).length C) k) (fun _ ⟨BL, R, z1⟩ => Val.idxE 30 (.tmp 25) (.tmp 26) rfl (.slice A (nn bs).length C) k (by kernel_rfl) (by kernel_rfl) R Try.underlying30 (by kernel_rfl) (by omega)) ⟨BL, R, by omega⟩ ?_
    simp only [List.set_cons_zero, List.set_cons_succ]
    refine zv 17 28 (.int .u8 ((bs.getD k 0 : Nat) : Int)) (fun _ ⟨BL, R, z1⟩ => Val.nldE 5 _ rfl (.slice A (nn bs).length C) k (by kernel_rfl) (fun _ => (by kernel_rfl)) R (by omega)) ⟨BL, R, by omega⟩ ?_
    simp only [List.set_cons_zero, List.set_cons_succ]
    refine zv 18 29 (.int .u8 (((bs.getD k 0) % 16 : Nat) : Int)) (fun _ ⟨BL, R, z1⟩ => Val.asN (Val.remN 5 _ (.tmp 28) _ rfl .u8 (bs.getD k 0) 16 (by kernel_rfl) (by kernel_rfl) (by omega)) (by omega)) ⟨BL, R, by omega⟩ ?_
    simp only [List.set_cons_zero, List.set_cons_succ]
    refine zv 19 30 (.slice A (nn bs).length C) (fun _ _ => .of) ⟨BL, R, by omega⟩ ?_
    simp only [List.set_cons_zero, List.set_cons_succ]
    refine zv 20 31 (.int .i64 (k : Int)) (fun _ _ => .of) ⟨BL, R, by omega⟩ ?_
    simp only [List.set_cons_zero, List.set_cons_succ]
    refine zv 21 32 (elemP (.slice A (nn bs).length C) k) (fun _ ⟨BL, R, z1⟩ => Val.idxE 30 (.tmp 30) (.tmp 31) rfl (.slice A (nn bs).length C) k (by kernel_rfl) (by kernel_rfl) R Try.underlying30 (by kernel_rfl) (by omega)) ⟨BL, R, by omega⟩ ?_
    simp only [List.set_cons_zero, List.set_cons_succ]
    refine zv 22 33 (.int .u8 ((bs.getD k 0 : Nat) : Int)) (fun _ ⟨BL, R, z1⟩ => Val.nldE 5 _ rfl (.slice A (nn bs).length C) k (by kernel_rfl) (fun _ => (by kernel_rfl)) R (by omega)) ⟨BL, R, by omega⟩ ?_
    simp only [List.set_cons_zero, List.set_cons_succ]
    refine zv 23 34 (.int .u8 (((bs.getD k 0) % 16 : Nat) : Int)) (fun _ ⟨BL, R, z1⟩ => Val.asN (Val.remN 5 _ (.tmp 33) _ rfl .u8 (bs.getD k 0) 16 (by kernel_rfl) (by kernel_rfl) (by omega)) (by omega)) ⟨BL, R, by omega⟩ ?_
    simp only [List.set_cons_zero, List.set_cons_succ]
    refine zv 24 35 (.int .u8 (((bs.getD k 0) % 16 + 1 : Nat) : Int)) (fun _ ⟨BL, R, z1⟩ => Val.asN (Val.addN 5 _ (.tmp 34) _ rfl .u8 ((bs.getD k 0) % 16) 1 256 (by kernel_rfl) (by kernel_rfl)) (by omega)) ⟨BL, R, by omega⟩ ?_
    simp only [List.set_cons_zero, List.set_cons_succ]
    refine zv 25 36 (.string (hexD.extract ((bs.getD k 0) % 16) ((bs.getD k 0) % 16 + 1))) (fun _ ⟨BL, R, z1⟩ => Val.slStr (k1 := .u8) (k2 := .u8) 9 _ (.tmp 29) (.tmp 35) rfl hexD (by kernel_rfl) ((bs.getD k 0) % 16) ((bs.getD k 0) % 16 + 1) (by kernel_rfl) (by kernel_rfl) (by omega) (show _ ≤ 16 by omega) Try.underlying9) ⟨BL, R, by omega⟩ ?_
    simp only [List.set_cons_zero, List.set_cons_succ]
    refine zv 26 37 (.string (hexStep (bs.getD k 0) S)) (fun _ ⟨BL, R, z1⟩ => Val.catStr 9 _ (.tmp 24) (.tmp 36) rfl (S ++ hexD.extract ((bs.getD k 0) / 16) ((bs.getD k 0) / 16 + 1)) (hexD.extract ((bs.getD k 0) % 16) ((bs.getD k 0) % 16 + 1)) (by kernel_rfl) (by kernel_rfl) (hexCat2 _ _ _ hS2)) ⟨BL, R, by omega⟩ ?_
    simp only [List.set_cons_zero, List.set_cons_succ]
    refine zv 27 3 (.string (hexStep (bs.getD k 0) S)) (fun _ _ => .of) ⟨BL, R, by omega⟩ ?_
    simp only [List.set_cons_zero, List.set_cons_succ]
    refine zd (by kernel_rfl) ?_ _
    refine hK7 _ _ ?_
    refine cPlain ?_
    refine sv 9 (.int .i64 (k : Int)) .of ?_
    simp only [List.set_cons_zero, List.set_cons_succ]
    refine sv 10 (.int .i64 ((k : Int) + 1)) (Val.add 3 _ (.tmp 9) _ rfl (k : Int) 1 (by kernel_rfl) (by kernel_rfl) (by omega)) ?_
    simp only [List.set_cons_zero, List.set_cons_succ]
    refine sv 4 (.int .i64 ((k : Int) + 1)) .of ?_
    simp only [List.set_cons_zero, List.set_cons_succ]
    refine wpList_nil ?_
    refine ⟨_, ?_, k + 1, hexStep (bs.getD k 0) S, rfl, by omega, by rw [hc0_1]; rfl, cutE, BL, R, by omega⟩
    omega
  · skip
    have hke : k = bs.length := by omega
    rw [hke] at hc0_1
    refine wp_exit ?_
    simp only [Exit.then, Exit.inBlock, ↓reduceIte, Nat.reduceEqDiff]
    refine hK3 _ _ ?_
    refine wp_seq_k fun K8 hK8 => ?_
    refine cPlain ?_
    refine sv 38 (.string S) .of ?_
    simp only [List.set_cons_zero, List.set_cons_succ]
    refine sv 2 (.string S) .of ?_
    simp only [List.set_cons_zero, List.set_cons_succ]
    refine wpList_nil ?_
    refine hK8 _ _ ?_
    refine wp_ret ?_
    (try simp only [Exit.then, Exit.inBlock])
    refine bodyPost_ret (v := .string S) rT rfl ?_
    rw [hc0_1]
    exact ⟨rfl, BL.b⟩

end Go.Proofs.Yteaijjefbadnbaa
