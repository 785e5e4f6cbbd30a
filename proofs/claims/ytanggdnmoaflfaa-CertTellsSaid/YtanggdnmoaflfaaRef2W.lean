/-
  ref02: ror, shr, words, Block.
-/
import Derived.Test.YtanggdnmoaflfaaShaBlk
import Derived.Test.YtanggdnmoaflfaaPk1
namespace Go.Proofs.Ytanggdnmoaflfaa
open Go.RowKit
set_option linter.unusedVariables false
set_option linter.unusedSimpArgs false
set_option maxRecDepth 100000
attribute [local irreducible] wpList Code.wp wpAnyZ
/-- A word of a block. -/
def w32 (b : List Nat) (i : Nat) : Nat := ((((((((b.getD (4 * i) 0) % 4294967296) <<< 24) % 4294967296) + ((((b.getD (4 * i + 1) 0) % 4294967296) <<< 16) % 4294967296)) % 4294967296) + ((((b.getD (4 * i + 2) 0) % 4294967296) <<< 8) % 4294967296)) % 4294967296 + ((b.getD (4 * i + 3) 0) % 4294967296)) % 4294967296
def wR (b : List Nat) (n : Nat) : List Nat := (List.range n).map (w32 b)
/-- The next word. -/
def eR (W : List Nat) (k : Nat) : Nat := ((((((shr3 (W.getD (14 + k) 0) 17 19 10) + (W.getD (9 + k) 0)) % 4294967296) + (shr3 (W.getD (1 + k) 0) 7 18 3)) % 4294967296) + (W.getD k 0)) % 4294967296
def wordsR (b : List Nat) : Nat → List Nat
  | 0 => wR b 16
  | k + 1 => wordsR b k ++ [eR (wordsR b k) k]
theorem wR_len (b : List Nat) (n : Nat) : (wR b n).length = n := by simp [wR]
theorem wR_succ (b : List Nat) (n : Nat) : wR b (n + 1) = wR b n ++ [w32 b n] := by simp [wR, List.range_succ]
theorem wordsR_len (b : List Nat) : ∀ k, (wordsR b k).length = 16 + k
  | 0 => by simp [wordsR, wR_len]
  | k + 1 => by simp [wordsR, wordsR_len b k]; omega
/-- A word so far. -/
def partW (b : List Nat) (j : Nat) : Nat → Nat
  | 0 => 0
  | t + 1 => (((partW b j t <<< 8) % 4294967296) ||| ((b.getD (4 * j + t) 0) % 4294967296)) % 4294967296
theorem getD_set (W : List Nat) (i j n : Nat) (hi : i < W.length) : (W.set i n).getD j 0 = if i = j then n else W.getD j 0 := by
  simp only [List.getD_eq_getElem?_getD, List.getElem?_set]
  split
  · rename_i h; subst h; simp [hi]
  · rfl
theorem wordsA_at (b : List Nat) : ∀ k, k ≤ 64 → ∀ j, (wordsA b k).getD j 0 = partW b j (min (k - 4 * j) 4)
  | 0, _, j => by
    rw [Nat.zero_sub, Nat.zero_min]
    show (List.replicate 64 0).getD j 0 = 0
    rw [List.getD_eq_getElem?_getD, List.getElem?_replicate]; split <;> rfl
  | k + 1, hk, j => by
    have ih := wordsA_at b k (by omega)
    show (stepA b k (wordsA b k)).getD j 0 = _
    unfold stepA
    rw [getD_set _ _ _ _ (by rw [wordsA_len]; omega)]
    split
    · rename_i h
      subst h
      rw [ih, show min (k - 4 * (k / 4)) 4 = k % 4 by omega, show min (k + 1 - 4 * (k / 4)) 4 = k % 4 + 1 by omega]
      show _ = (((partW b (k / 4) (k % 4) <<< 8) % 4294967296) ||| ((b.getD (4 * (k / 4) + k % 4) 0) % 4294967296)) % 4294967296
      rw [show 4 * (k / 4) + k % 4 = k by omega]
    · rename_i h
      rw [ih]
      rcases (by omega : k < 4 * j ∨ 4 * j + 4 ≤ k) with h1 | h1
      · rw [show min (k - 4 * j) 4 = 0 by omega, show min (k + 1 - 4 * j) 4 = 0 by omega]
      · rw [show min (k - 4 * j) 4 = 4 by omega, show min (k + 1 - 4 * j) 4 = 4 by omega]
theorem or_low (a c : Nat) (hc : c < 256) : (a <<< 8) ||| c = a * 256 + c := by
  rw [← Nat.shiftLeft_add_eq_or_of_lt (i := 8) hc, Nat.shiftLeft_eq]
theorem getD_b {b : List Nat} (hb : ∀ x ∈ b, x < 256) (i : Nat) : b.getD i 0 < 256 := by
  rw [List.getD_eq_getElem?_getD]
  cases e : b[i]? with
  | none => simp
  | some x => exact hb x (List.mem_of_getElem? e)
theorem part_4 {b : List Nat} (hb : ∀ x ∈ b, x < 256) (j : Nat) : partW b j 4 = w32 b j := by
  have h0 := getD_b hb (4 * j)
  have h1 := getD_b hb (4 * j + 1)
  have h2 := getD_b hb (4 * j + 2)
  have h3 := getD_b hb (4 * j + 3)
  unfold w32
  simp only [partW, Nat.add_zero]
  generalize b.getD (4 * j) 0 = x0 at *
  generalize b.getD (4 * j + 1) 0 = x1 at *
  generalize b.getD (4 * j + 2) 0 = x2 at *
  generalize b.getD (4 * j + 3) 0 = x3 at *
  have e0 : (((0 <<< 8) % 4294967296 ||| x0 % 4294967296) % 4294967296) = x0 := by
    rw [Nat.zero_shiftLeft, Nat.zero_mod, Nat.zero_or]; omega
  rw [e0]
  have st : ∀ a c, a < 16777216 → c < 256 → (((a <<< 8) % 4294967296 ||| c % 4294967296) % 4294967296) = a * 256 + c := by
    intro a c ha hc
    rw [Nat.mod_eq_of_lt (show a <<< 8 < 4294967296 by rw [Nat.shiftLeft_eq]; omega), Nat.mod_eq_of_lt (show c < 4294967296 by omega), or_low a c hc]
    omega
  rw [st _ _ (by omega) h1, st _ _ (by omega) h2, st _ _ (by omega) h3]
  simp only [Nat.shiftLeft_eq]
  omega
theorem wordsA_16 {b : List Nat} (hb : ∀ x ∈ b, x < 256) : (wordsA b 64).take 16 = wR b 16 := by
  apply List.ext_getElem?
  intro j
  by_cases hj : j < 16
  · have := wordsA_at b 64 (Nat.le_refl _) j
    rw [show min (64 - 4 * j) 4 = 4 by omega, part_4 hb] at this
    rw [List.getElem?_take_of_lt hj]
    have hl : j < (wordsA b 64).length := by rw [wordsA_len]; omega
    rw [List.getD_eq_getElem?_getD, List.getElem?_eq_getElem hl, Option.getD_some] at this
    rw [List.getElem?_eq_getElem hl, this]
    simp [wR, hj]
  · rw [List.getElem?_eq_none (by rw [List.length_take]; omega), List.getElem?_eq_none (by rw [wR_len]; omega)]
theorem take_getD (W : List Nat) (n i : Nat) (h : i < n) : (W.take n).getD i 0 = W.getD i 0 := by
  rw [List.getD_eq_getElem?_getD, List.getElem?_take_of_lt h, List.getD_eq_getElem?_getD]
attribute [local irreducible] wordsA
theorem wordsR_succ (b : List Nat) (k : Nat) : wordsR b (k + 1) = wordsR b k ++ [eR (wordsR b k) k] := rfl
theorem wordsR_0 (b : List Nat) : wordsR b 0 = wR b 16 := rfl
attribute [local irreducible] shr3 in
theorem wordsB_take {b : List Nat} (hb : ∀ x ∈ b, x < 256) : ∀ k, k ≤ 48 → (wordsB (wordsA b 64) k).take (16 + k) = wordsR b k
  | 0, _ => wordsA_16 hb
  | k + 1, hk => by
    have ih := wordsB_take hb k (by omega)
    have hl := wordsB_len (wordsA b 64) (wordsA_len b 64) k
    rw [wordsR_succ, show wordsB (wordsA b 64) (k + 1) = stepB k (wordsB (wordsA b 64) k) from rfl]
    generalize wordsB (wordsA b 64) k = X at *
    unfold stepB
    rw [show 16 + (k + 1) = 16 + k + 1 by omega, List.take_add_one, List.getElem?_set_self (by omega), List.take_set_of_le (Nat.le_refl _), ih]
    congr 1
    rw [← ih]
    unfold eR
    rw [take_getD _ _ _ (by omega), take_getD _ _ _ (by omega), take_getD _ _ _ (by omega), take_getD _ _ _ (by omega)]
    rfl
theorem wR_0 (b : List Nat) : nn (wR b 0) = [] := rfl
theorem words_eq {b : List Nat} (hb : ∀ x ∈ b, x < 256) : wordsB (wordsA b 64) 48 = wordsR b 48 := by
  rw [← wordsB_take hb 48 (Nat.le_refl _), List.take_of_length_le (by rw [wordsB_len _ (wordsA_len _ _)]; omega)]

attribute [local irreducible] wordsR wordsB wR
set_option maxHeartbeats 1600000 in
theorem rror_any (x n : Nat) (hn : 0 < n ∧ n < 32) (w : World) : Calls Try.prog 121 #[.int .u32 ((x : Nat) : Int), .int .i64 (n : Int)] w fun e w' => e = .returned (.int .u32 ((rotR x n : Nat) : Int)) ∧ Below w.heap.size w w' := by
  have BL := Bl.refl w
  go_enter Try.func121, Try.ntmps121
  refine wp_seq_k fun K1 hK1 => ?_
  refine cPlain ?_
  refine sv 4 (.int .u32 0) .of ?_
  simp only [sZ, sS]
  refine wpList_nil ?_
  refine hK1 _ _ ?_
  refine wp_seq_k fun K2 hK2 => ?_
  have e1 := drew_e0 w
  refine zg (fun w_ => Bl w.heap.size w w_ ∧ w.heap.size ≤ w_.heap.size) (fun w_ => Bl w.heap.size w w_ ∧ w.heap.size ≤ w_.heap.size) 100000 9 ⟨BL.e0 e1, Nat.le_refl _⟩ ?_
  clear BL
  clear e1
  intro w1
  rintro ⟨BL, z1⟩
  refine zv 0 5 (.int .u32 ((x : Nat) : Int)) (fun _ _ => .of) ⟨BL, by omega⟩ ?_
  simp only [sZ, sS]
  refine zv 1 6 (.int .i64 (n : Int)) (fun _ _ => .of) ⟨BL, by omega⟩ ?_
  simp only [sZ, sS]
  refine zv 2 7 (.int .u32 ((x >>> n : Nat) : Int)) (fun _ ⟨BL, z1⟩ => Val.shrN 31 _ (.tmp 5) (.tmp 6) rfl .u32 .i64 x n (by kernel_rfl) (by kernel_rfl) (by simp only [IntKind.bits]; omega)) ⟨BL, by omega⟩ ?_
  simp only [sZ, sS]
  refine zv 3 8 (.int .u32 ((x : Nat) : Int)) (fun _ _ => .of) ⟨BL, by omega⟩ ?_
  simp only [sZ, sS]
  refine zv 4 9 (.int .i64 (n : Int)) (fun _ _ => .of) ⟨BL, by omega⟩ ?_
  simp only [sZ, sS]
  refine zv 5 10 (.int .i64 ((32 - n : Nat) : Int)) (fun _ ⟨BL, z1⟩ => Val.as (Val.sub 3 _ _ (.tmp 9) rfl 32 (n : Int) (by kernel_rfl) (by kernel_rfl) (by omega)) (congrArg (Value.int .i64) (by omega))) ⟨BL, by omega⟩ ?_
  simp only [sZ, sS]
  refine zv 6 11 (.int .u32 (((x <<< (32 - n)) % 4294967296 : Nat) : Int)) (fun _ ⟨BL, z1⟩ => Val.shlN 31 _ (.tmp 8) (.tmp 10) rfl .u32 .i64 x (32 - n) 4294967296 (by kernel_rfl) (by kernel_rfl)) ⟨BL, by omega⟩ ?_
  simp only [sZ, sS]
  refine zv 7 12 (.int .u32 ((rotR x n : Nat) : Int)) (fun _ ⟨BL, z1⟩ => Val.asN (Val.orN 31 _ (.tmp 7) (.tmp 11) rfl .u32 (x >>> n) ((x <<< (32 - n)) % 4294967296) 4294967296 (by kernel_rfl) (by kernel_rfl)) (by unfold rotR; rw [Nat.or_comm])) ⟨BL, by omega⟩ ?_
  simp only [sZ, sS]
  refine zv 8 4 (.int .u32 ((rotR x n : Nat) : Int)) (fun _ _ => .of) ⟨BL, by omega⟩ ?_
  simp only [sZ, sS]
  refine zd (by kernel_rfl) ?_ _
  refine hK2 _ _ ?_
  refine wp_ret ?_
  (try simp only [Exit.then, Exit.inBlock])
  refine bodyPost_ret (v := .int .u32 ((rotR x n : Nat) : Int)) rT rfl ?_
  exact ⟨rfl, BL.b⟩

theorem rshr_any (x n : Nat) (hn : 0 < n ∧ n < 32) (w : World) : Calls Try.prog 124 #[.int .u32 ((x : Nat) : Int), .int .i64 (n : Int)] w fun e w' => e = .returned (.int .u32 ((x >>> n : Nat) : Int)) ∧ Below w.heap.size w w' := by
  have BL := Bl.refl w
  go_enter Try.func124, Try.ntmps124
  refine wp_seq_k fun K1 hK1 => ?_
  refine cPlain ?_
  refine sv 4 (.int .u32 0) .of ?_
  simp only [sZ, sS]
  refine wpList_nil ?_
  refine hK1 _ _ ?_
  refine wp_seq_k fun K2 hK2 => ?_
  refine cPlain ?_
  refine sv 5 (.int .u32 ((x : Nat) : Int)) .of ?_
  simp only [sZ, sS]
  refine sv 6 (.int .i64 (n : Int)) .of ?_
  simp only [sZ, sS]
  refine sv 7 (.int .u32 ((x >>> n : Nat) : Int)) (Val.shrN 31 _ (.tmp 5) (.tmp 6) rfl .u32 .i64 x n (by kernel_rfl) (by kernel_rfl) (by simp only [IntKind.bits]; omega)) ?_
  simp only [sZ, sS]
  refine sv 4 (.int .u32 ((x >>> n : Nat) : Int)) .of ?_
  simp only [sZ, sS]
  refine wpList_nil ?_
  refine hK2 _ _ ?_
  refine wp_ret ?_
  (try simp only [Exit.then, Exit.inBlock])
  refine bodyPost_ret (v := .int .u32 ((x >>> n : Nat) : Int)) rT rfl ?_
  exact ⟨rfl, BL.b⟩

set_option maxHeartbeats 4000000 in
theorem rwords_any (b : List Nat) (v : Value) (hb : b.length = 64) (w : World) (D : SL .u8 w v (nn b)) :
    Calls Try.prog 120 #[v] w fun e w' => ∃ u, e = .returned u ∧ Own 31 .u32 w.heap.size w' u (nn (wordsR b 48)) ∧ Below w.heap.size w w' := by
  have BL := Bl.refl w
  have hd := D.lt
  go_enter Try.func120, Try.ntmps120
  refine wp_seq_k fun K1 hK1 => ?_
  refine cPlain ?_
  refine sv 2 (.slice none 0 0) .of ?_
  simp only [sZ, sS]
  refine wpList_nil ?_
  refine hK1 _ _ ?_
  refine wp_seq_k fun K2 hK2 => ?_
  refine cPlain ?_
  refine xMake0 10 _ _ 158 31 .u32 4 rfl Try.underlying158 (by kernel_rfl) 64 (by kernel_rfl) (by kernel_rfl) (by unfold maxLen; omega) (by omega) ?_
  intro w1 b10 n1
  have zn1 := n1.size
  replace BL := BL.e0 n1
  replace D := D.e0 n1
  have lb10_1 := b10.ge
  simp only [sZ, sS]
  refine sv 3 (.slice (some ⟨w.heap.size, 0, none⟩) 0 64) .of ?_
  simp only [sZ, sS]
  refine wpList_nil ?_
  refine hK2 _ _ ?_
  refine cCut (fun A_ w_ => ∃ (u0 : Value), ((∃ s1 : Nat → Value, A_ = ⟨[v, undef, .slice none 0 0, u0, (s1 4), undef, undef, undef, undef, undef, .slice (some ⟨w.heap.size, 0, none⟩) 0 64, (s1 11), (s1 12), (s1 13), (s1 14), (s1 15), (s1 16), (s1 17), (s1 18), (s1 19), (s1 20), (s1 21), (s1 22), (s1 23), (s1 24), (s1 25), (s1 26), (s1 27), (s1 28), (s1 29), (s1 30), (s1 31), (s1 32), (s1 33), (s1 34), (s1 35), (s1 36), (s1 37), (s1 38), (s1 39), (s1 40), (s1 41), (s1 42), (s1 43), (s1 44), (s1 45), (s1 46), undef, undef, undef, undef, undef, undef, undef, undef, undef, undef, undef, undef, undef, undef, undef, undef, undef, undef, undef, undef, undef, undef, undef, undef, undef, undef, undef, undef, undef, undef, undef, undef, undef, undef, undef, undef, undef, undef, undef, undef, undef, undef, undef, undef, undef, undef, undef, undef, undef].toArray, []⟩) ∧ Bl w.heap.size w w_ ∧ SL .u8 w_ v (nn b) ∧ Own 31 .u32 w.heap.size w_ u0 (nn (wordsR b 0)) ∧ w1.heap.size ≤ w_.heap.size)) ?_ ?_
  · skip
    refine wp_seq_k fun K3 hK3 => ?_
    refine cPlain ?_
    refine sv 4 (.int .i64 0) .of ?_
    simp only [sZ, sS]
    refine wpList_nil ?_
    refine hK3 _ _ ?_
    refine wp_block ?_
    refine cLoop (fun N_ A_ w_ => ∃ (i : Nat) (u : Value), (N_ = 16 - i ∧ (i ≤ 16) ∧ (∃ s2 : Nat → Value, A_ = ⟨[v, undef, .slice none 0 0, u, .int .i64 ((4 * i : Nat) : Int), undef, undef, undef, undef, undef, .slice (some ⟨w.heap.size, 0, none⟩) 0 64, (s2 11), (s2 12), (s2 13), (s2 14), (s2 15), (s2 16), (s2 17), (s2 18), (s2 19), (s2 20), (s2 21), (s2 22), (s2 23), (s2 24), (s2 25), (s2 26), (s2 27), (s2 28), (s2 29), (s2 30), (s2 31), (s2 32), (s2 33), (s2 34), (s2 35), (s2 36), (s2 37), (s2 38), (s2 39), (s2 40), (s2 41), (s2 42), (s2 43), (s2 44), (s2 45), (s2 46), undef, undef, undef, undef, undef, undef, undef, undef, undef, undef, undef, undef, undef, undef, undef, undef, undef, undef, undef, undef, undef, undef, undef, undef, undef, undef, undef, undef, undef, undef, undef, undef, undef, undef, undef, undef, undef, undef, undef, undef, undef, undef, undef, undef, undef, undef, undef, undef, undef].toArray, []⟩) ∧ Bl w.heap.size w w_ ∧ SL .u8 w_ v (nn b) ∧ Own 31 .u32 w.heap.size w_ u (nn (wR b i)) ∧ w1.heap.size ≤ w_.heap.size)) _ ⟨0, .slice (some ⟨w.heap.size, 0, none⟩) 0 64, rfl, (Nat.zero_le _), cutE, BL, D, (b10.cast (wR_0 b).symm), Nat.le_refl _⟩ ?_
    clear BL D b10
    rintro n_ a_ wl0 ⟨i, u, rfl, hc0_0, ⟨s2, rfl⟩, BL, D, b10, zl0⟩
    have lb10_2 := b10.ge
    refine wp_seq_k fun K4 hK4 => ?_
    refine wp_seq_k fun K5 hK5 => ?_
    refine cPlain ?_
    refine sv 11 (.int .i64 ((4 * i : Nat) : Int)) .of ?_
    simp only [sZ, sS]
    refine sv 12 (.bool (decide (((4 * i : Nat) : Int) < 64))) (Val.cmp .lss 3 _ (.tmp 11) _ rfl .i64 ((4 * i : Nat) : Int) 64 (by kernel_rfl) (by kernel_rfl) (by simp) _ rfl) ?_
    simp only [sZ, sS]
    refine wpList_nil ?_
    refine hK5 _ _ ?_
    refine cDec (((4 * i : Nat) : Int) < 64) (by kernel_rfl) (fun c12 => ?_) (fun c12 => ?_)
    · skip
      refine wp_skip ?_
      refine hK4 _ _ ?_
      refine wp_seq_k fun K6 hK6 => ?_
      refine wp_block ?_
      have e1 := drew_e0 wl0
      refine zg (fun w_ => Bl w.heap.size w w_ ∧ SL .u8 w_ v (nn b) ∧ wl0.heap.size ≤ w_.heap.size) (fun w_ => Bl w.heap.size w w_ ∧ SL .u8 w_ v (nn b) ∧ Own 31 .u32 w.heap.size w_ u (nn (wR b i)) ∧ wl0.heap.size ≤ w_.heap.size) 100000 33 ⟨BL.e0 e1, D.e0 e1, b10.e0 e1, Nat.le_refl _⟩ ?_
      clear BL D b10
      clear e1
      intro w2
      rintro ⟨BL, D, b10, z1⟩
      refine zv 0 15 (u) (fun _ _ => .of) ⟨BL, D, by omega⟩ ?_
      simp only [sZ, sS]
      refine zv 1 16 (v) (fun _ _ => .of) ⟨BL, D, by omega⟩ ?_
      simp only [sZ, sS]
      refine zv 2 17 (.int .i64 ((4 * i : Nat) : Int)) (fun _ _ => .of) ⟨BL, D, by omega⟩ ?_
      simp only [sZ, sS]
      refine zv 3 18 (elemP v (4 * i)) (fun _ ⟨BL, D, z1⟩ => Val.idxE 29 (.tmp 16) (.tmp 17) rfl v (4 * i) (by kernel_rfl) (by kernel_rfl) D Try.underlying29 (by kernel_rfl) (by rw [nn_len]; omega)) ⟨BL, D, by omega⟩ ?_
      simp only [sZ, sS]
      refine zv 4 19 (.int .u8 ((b.getD (4 * i) 0 : Nat) : Int)) (fun _ ⟨BL, D, z1⟩ => Val.nldE 5 _ rfl v (4 * i) (by kernel_rfl) (fun _ => (by kernel_rfl)) D (by omega)) ⟨BL, D, by omega⟩ ?_
      simp only [sZ, sS]
      refine zv 5 20 (.int .u32 (((b.getD (4 * i) 0) % 4294967296 : Nat) : Int)) (fun _ ⟨BL, D, z1⟩ => Val.convN 5 31 (.tmp 19) rfl .u32 (b.getD (4 * i) 0) 4294967296 Try.underlying5 Try.underlying31 (by kernel_rfl)) ⟨BL, D, by omega⟩ ?_
      simp only [sZ, sS]
      refine zv 6 21 (.int .u32 (((((b.getD (4 * i) 0) % 4294967296) <<< 24) % 4294967296 : Nat) : Int)) (fun _ ⟨BL, D, z1⟩ => Val.shlN 31 _ (.tmp 20) _ rfl .u32 .u64 ((b.getD (4 * i) 0) % 4294967296) 24 4294967296 (by kernel_rfl) (by kernel_rfl)) ⟨BL, D, by omega⟩ ?_
      simp only [sZ, sS]
      refine zv 7 22 (v) (fun _ _ => .of) ⟨BL, D, by omega⟩ ?_
      simp only [sZ, sS]
      refine zv 8 23 (.int .i64 ((4 * i : Nat) : Int)) (fun _ _ => .of) ⟨BL, D, by omega⟩ ?_
      simp only [sZ, sS]
      refine zv 9 24 (.int .i64 ((4 * i + 1 : Nat) : Int)) (fun _ ⟨BL, D, z1⟩ => Val.as (Val.add 3 _ (.tmp 23) _ rfl ((4 * i : Nat) : Int) 1 (by kernel_rfl) (by kernel_rfl) (by omega)) (congrArg (Value.int .i64) (by omega))) ⟨BL, D, by omega⟩ ?_
      simp only [sZ, sS]
      refine zv 10 25 (elemP v (4 * i + 1)) (fun _ ⟨BL, D, z1⟩ => Val.idxE 29 (.tmp 22) (.tmp 24) rfl v (4 * i + 1) (by kernel_rfl) (by kernel_rfl) D Try.underlying29 (by kernel_rfl) (by rw [nn_len]; omega)) ⟨BL, D, by omega⟩ ?_
      simp only [sZ, sS]
      refine zv 11 26 (.int .u8 ((b.getD (4 * i + 1) 0 : Nat) : Int)) (fun _ ⟨BL, D, z1⟩ => Val.nldE 5 _ rfl v (4 * i + 1) (by kernel_rfl) (fun _ => (by kernel_rfl)) D (by omega)) ⟨BL, D, by omega⟩ ?_
      simp only [sZ, sS]
      refine zv 12 27 (.int .u32 (((b.getD (4 * i + 1) 0) % 4294967296 : Nat) : Int)) (fun _ ⟨BL, D, z1⟩ => Val.convN 5 31 (.tmp 26) rfl .u32 (b.getD (4 * i + 1) 0) 4294967296 Try.underlying5 Try.underlying31 (by kernel_rfl)) ⟨BL, D, by omega⟩ ?_
      simp only [sZ, sS]
      refine zv 13 28 (.int .u32 (((((b.getD (4 * i + 1) 0) % 4294967296) <<< 16) % 4294967296 : Nat) : Int)) (fun _ ⟨BL, D, z1⟩ => Val.shlN 31 _ (.tmp 27) _ rfl .u32 .u64 ((b.getD (4 * i + 1) 0) % 4294967296) 16 4294967296 (by kernel_rfl) (by kernel_rfl)) ⟨BL, D, by omega⟩ ?_
      simp only [sZ, sS]
      refine zv 14 29 (.int .u32 (((((((b.getD (4 * i) 0) % 4294967296) <<< 24) % 4294967296) + ((((b.getD (4 * i + 1) 0) % 4294967296) <<< 16) % 4294967296)) % 4294967296 : Nat) : Int)) (fun _ ⟨BL, D, z1⟩ => Val.addN 31 _ (.tmp 21) (.tmp 28) rfl .u32 ((((b.getD (4 * i) 0) % 4294967296) <<< 24) % 4294967296) ((((b.getD (4 * i + 1) 0) % 4294967296) <<< 16) % 4294967296) 4294967296 (by kernel_rfl) (by kernel_rfl)) ⟨BL, D, by omega⟩ ?_
      simp only [sZ, sS]
      refine zv 15 30 (v) (fun _ _ => .of) ⟨BL, D, by omega⟩ ?_
      simp only [sZ, sS]
      refine zv 16 31 (.int .i64 ((4 * i : Nat) : Int)) (fun _ _ => .of) ⟨BL, D, by omega⟩ ?_
      simp only [sZ, sS]
      refine zv 17 32 (.int .i64 ((4 * i + 2 : Nat) : Int)) (fun _ ⟨BL, D, z1⟩ => Val.as (Val.add 3 _ (.tmp 31) _ rfl ((4 * i : Nat) : Int) 2 (by kernel_rfl) (by kernel_rfl) (by omega)) (congrArg (Value.int .i64) (by omega))) ⟨BL, D, by omega⟩ ?_
      simp only [sZ, sS]
      refine zv 18 33 (elemP v (4 * i + 2)) (fun _ ⟨BL, D, z1⟩ => Val.idxE 29 (.tmp 30) (.tmp 32) rfl v (4 * i + 2) (by kernel_rfl) (by kernel_rfl) D Try.underlying29 (by kernel_rfl) (by rw [nn_len]; omega)) ⟨BL, D, by omega⟩ ?_
      simp only [sZ, sS]
      refine zv 19 34 (.int .u8 ((b.getD (4 * i + 2) 0 : Nat) : Int)) (fun _ ⟨BL, D, z1⟩ => Val.nldE 5 _ rfl v (4 * i + 2) (by kernel_rfl) (fun _ => (by kernel_rfl)) D (by omega)) ⟨BL, D, by omega⟩ ?_
      simp only [sZ, sS]
      refine zv 20 35 (.int .u32 (((b.getD (4 * i + 2) 0) % 4294967296 : Nat) : Int)) (fun _ ⟨BL, D, z1⟩ => Val.convN 5 31 (.tmp 34) rfl .u32 (b.getD (4 * i + 2) 0) 4294967296 Try.underlying5 Try.underlying31 (by kernel_rfl)) ⟨BL, D, by omega⟩ ?_
      simp only [sZ, sS]
      refine zv 21 36 (.int .u32 (((((b.getD (4 * i + 2) 0) % 4294967296) <<< 8) % 4294967296 : Nat) : Int)) (fun _ ⟨BL, D, z1⟩ => Val.shlN 31 _ (.tmp 35) _ rfl .u32 .u64 ((b.getD (4 * i + 2) 0) % 4294967296) 8 4294967296 (by kernel_rfl) (by kernel_rfl)) ⟨BL, D, by omega⟩ ?_
      simp only [sZ, sS]
      refine zv 22 37 (.int .u32 (((((((((b.getD (4 * i) 0) % 4294967296) <<< 24) % 4294967296) + ((((b.getD (4 * i + 1) 0) % 4294967296) <<< 16) % 4294967296)) % 4294967296) + ((((b.getD (4 * i + 2) 0) % 4294967296) <<< 8) % 4294967296)) % 4294967296 : Nat) : Int)) (fun _ ⟨BL, D, z1⟩ => Val.addN 31 _ (.tmp 29) (.tmp 36) rfl .u32 ((((((b.getD (4 * i) 0) % 4294967296) <<< 24) % 4294967296) + ((((b.getD (4 * i + 1) 0) % 4294967296) <<< 16) % 4294967296)) % 4294967296) ((((b.getD (4 * i + 2) 0) % 4294967296) <<< 8) % 4294967296) 4294967296 (by kernel_rfl) (by kernel_rfl)) ⟨BL, D, by omega⟩ ?_
      simp only [sZ, sS]
      refine zv 23 38 (v) (fun _ _ => .of) ⟨BL, D, by omega⟩ ?_
      simp only [sZ, sS]
      refine zv 24 39 (.int .i64 ((4 * i : Nat) : Int)) (fun _ _ => .of) ⟨BL, D, by omega⟩ ?_
      simp only [sZ, sS]
      refine zv 25 40 (.int .i64 ((4 * i + 3 : Nat) : Int)) (fun _ ⟨BL, D, z1⟩ => Val.as (Val.add 3 _ (.tmp 39) _ rfl ((4 * i : Nat) : Int) 3 (by kernel_rfl) (by kernel_rfl) (by omega)) (congrArg (Value.int .i64) (by omega))) ⟨BL, D, by omega⟩ ?_
      simp only [sZ, sS]
      refine zv 26 41 (elemP v (4 * i + 3)) (fun _ ⟨BL, D, z1⟩ => Val.idxE 29 (.tmp 38) (.tmp 40) rfl v (4 * i + 3) (by kernel_rfl) (by kernel_rfl) D Try.underlying29 (by kernel_rfl) (by rw [nn_len]; omega)) ⟨BL, D, by omega⟩ ?_
      simp only [sZ, sS]
      refine zv 27 42 (.int .u8 ((b.getD (4 * i + 3) 0 : Nat) : Int)) (fun _ ⟨BL, D, z1⟩ => Val.nldE 5 _ rfl v (4 * i + 3) (by kernel_rfl) (fun _ => (by kernel_rfl)) D (by omega)) ⟨BL, D, by omega⟩ ?_
      simp only [sZ, sS]
      refine zv 28 43 (.int .u32 (((b.getD (4 * i + 3) 0) % 4294967296 : Nat) : Int)) (fun _ ⟨BL, D, z1⟩ => Val.convN 5 31 (.tmp 42) rfl .u32 (b.getD (4 * i + 3) 0) 4294967296 Try.underlying5 Try.underlying31 (by kernel_rfl)) ⟨BL, D, by omega⟩ ?_
      simp only [sZ, sS]
      refine zv 29 44 (.int .u32 ((w32 b i : Nat) : Int)) (fun _ ⟨BL, D, z1⟩ => Val.asN (Val.addN 31 _ (.tmp 37) (.tmp 43) rfl .u32 ((((((((b.getD (4 * i) 0) % 4294967296) <<< 24) % 4294967296) + ((((b.getD (4 * i + 1) 0) % 4294967296) <<< 16) % 4294967296)) % 4294967296) + ((((b.getD (4 * i + 2) 0) % 4294967296) <<< 8) % 4294967296)) % 4294967296) ((b.getD (4 * i + 3) 0) % 4294967296) 4294967296 (by kernel_rfl) (by kernel_rfl)) (by unfold w32; rfl)) ⟨BL, D, by omega⟩ ?_
      simp only [sZ, sS]
      refine zo1 30 rfl ?_
      refine xLit 45 158 31 1 _ #[(0, .int .u32 ((w32 b i : Nat) : Int))] [.int .u32 ((w32 b i : Nat) : Int)] rfl (by kernel_rfl) (by kernel_rfl) ?_
      intro w3 n2
      have zn2 := n2.z
      have b45 := n2.c
      replace b45 : Blk .u32 w3 w2.heap.size 31 [((w32 b i : Nat) : Int)] := b45
      replace BL := BL.e0 n2.e
      replace D := D.e0 n2.e
      replace b10 := b10.e0 n2.e
      have sb45 : SL .u32 w3 (.slice (some ⟨w2.heap.size, 0, none⟩) 1 1) [((w32 b i : Nat) : Int)] := SL.ofBlk b45 rfl (by unfold maxLen; omega)
      have lb45 : ∀ i, Value.ownBlock (.slice (some ⟨w2.heap.size, 0, none⟩) 1 1) = some i → w2.heap.size ≤ i ∧ i < w3.heap.size := ownB_lit (by omega)
      refine ze 30 ⟨BL, D, by omega⟩ ?_
      simp only [sZ, sS]
      refine zo1 31 rfl ?_
      refine xApp 46 (.tmp 15) (.tmp 45) 158 31 .u32 4 rfl Try.underlying158 (by kernel_rfl) w.heap.size u (nn (wR b i)) (by kernel_rfl) b10 (.slice (some ⟨w2.heap.size, 0, none⟩) 1 1) [((w32 b i : Nat) : Int)] (by kernel_rfl) sb45 ?va1_1 ?va1_2 ?va1_3 ?_
      case va1_1 => (simp only [nn_len, wR_len, wordsR_len, List.length_cons, List.length_nil]; omega)
      case va1_2 => (simp only [nn_len, wR_len, wordsR_len, List.length_cons, List.length_nil]; unfold maxLen; omega)
      case va1_3 => omega
      intro va1 w4 rva1 e2
      have ze2 := e2.size
      have BL_ := BL.ev e2 (fun i h => by have := lb10_2 _ h; omega)
      have D_ := D.ev e2 (fun i hi h => by have := hd i hi; have := lb10_2 _ h; omega)
      have b45_ := b45.ev e2 (fun h => by have := lb10_2 _ h; omega)
      have sb45_ := sb45.ev e2 (fun i hi h => by have := lb45 i hi; have := lb10_2 _ h; omega)
      replace BL := BL_; clear BL_
      replace D := D_; clear D_
      replace b45 := b45_; clear b45_
      replace sb45 := sb45_; clear sb45_
      replace b10 := rva1
      clear rva1 e2
      have lb10_3 := b10.ge
      refine ze 31 ⟨BL, D, by omega⟩ ?_
      simp only [sZ, sS]
      refine zv 32 3 (va1) (fun _ _ => .of) ⟨BL, D, by omega⟩ ?_
      simp only [sZ, sS]
      refine zd (by kernel_rfl) ?_ _
      refine hK6 _ _ ?_
      refine cPlain ?_
      refine sv 13 (.int .i64 ((4 * i : Nat) : Int)) .of ?_
      simp only [sZ, sS]
      refine sv 14 (.int .i64 ((4 * (i + 1) : Nat) : Int)) (Val.as (Val.add 3 _ (.tmp 13) _ rfl ((4 * i : Nat) : Int) 4 (by kernel_rfl) (by kernel_rfl) (by omega)) (congrArg (Value.int .i64) (by omega))) ?_
      simp only [sZ, sS]
      refine sv 4 (.int .i64 ((4 * (i + 1) : Nat) : Int)) .of ?_
      simp only [sZ, sS]
      refine wpList_nil ?_
      refine ⟨_, ?_, i + 1, va1, rfl, (by omega), cutE, BL, D, (b10.cast (by rw [wR_succ, nn_app]; rfl)), by omega⟩
      omega
    · skip
      refine wp_exit ?_
      simp only [Exit.then, Exit.inBlock, ↓reduceIte, Nat.reduceEqDiff]
      exact ⟨u, cutE, BL, D, (b10.cast (by rw [show i = 16 by omega, wordsR_0])), by omega⟩
  · skip
    clear BL D b10
    rintro a_ wJ1 ⟨u0, ⟨s1, rfl⟩, BL, D, b10, zJ1⟩
    have lb10_4 := b10.ge
    refine wp_seq_k fun K7 hK7 => ?_
    refine wp_seq_k fun K8 hK8 => ?_
    refine cPlain ?_
    refine sv 5 (.int .i64 16) .of ?_
    simp only [sZ, sS]
    refine wpList_nil ?_
    refine hK8 _ _ ?_
    refine wp_block ?_
    refine cLoop (fun N_ A_ w_ => ∃ (k : Nat) (u : Value) (W : List Nat), (N_ = 48 - k ∧ (k ≤ 48) ∧ (W = wordsR b k) ∧ (∃ s3 : Nat → Value, A_ = ⟨[v, undef, .slice none 0 0, u, (s1 4), .int .i64 ((16 + k : Nat) : Int), (s3 6), (s3 7), (s3 8), (s3 9), .slice (some ⟨w.heap.size, 0, none⟩) 0 64, (s1 11), (s1 12), (s1 13), (s1 14), (s1 15), (s1 16), (s1 17), (s1 18), (s1 19), (s1 20), (s1 21), (s1 22), (s1 23), (s1 24), (s1 25), (s1 26), (s1 27), (s1 28), (s1 29), (s1 30), (s1 31), (s1 32), (s1 33), (s1 34), (s1 35), (s1 36), (s1 37), (s1 38), (s1 39), (s1 40), (s1 41), (s1 42), (s1 43), (s1 44), (s1 45), (s1 46), (s3 47), (s3 48), (s3 49), (s3 50), (s3 51), (s3 52), (s3 53), (s3 54), (s3 55), (s3 56), (s3 57), (s3 58), (s3 59), (s3 60), (s3 61), (s3 62), (s3 63), (s3 64), (s3 65), (s3 66), (s3 67), (s3 68), (s3 69), (s3 70), (s3 71), (s3 72), (s3 73), (s3 74), (s3 75), (s3 76), (s3 77), (s3 78), (s3 79), (s3 80), (s3 81), (s3 82), (s3 83), (s3 84), (s3 85), (s3 86), (s3 87), (s3 88), (s3 89), (s3 90), (s3 91), (s3 92), (s3 93), (s3 94), undef].toArray, []⟩) ∧ Bl w.heap.size w w_ ∧ SL .u8 w_ v (nn b) ∧ Own 31 .u32 w.heap.size w_ u (nn W) ∧ wJ1.heap.size ≤ w_.heap.size)) _ ⟨0, u0, wordsR b 0, rfl, (Nat.zero_le _), rfl, cutE, BL, D, b10, Nat.le_refl _⟩ ?_
    clear BL D b10
    rintro n_ a_ wl1 ⟨k, u, W, rfl, hc1_0, hc1_1, ⟨s3, rfl⟩, BL, D, b10, zl1⟩
    have lb10_5 := b10.ge
    have hWl : W.length = 16 + k := by rw [hc1_1, wordsR_len]
    refine wp_seq_k fun K9 hK9 => ?_
    refine wp_seq_k fun K10 hK10 => ?_
    refine cPlain ?_
    refine sv 47 (.int .i64 ((16 + k : Nat) : Int)) .of ?_
    simp only [sZ, sS]
    refine sv 48 (.bool (decide (((16 + k : Nat) : Int) < 64))) (Val.cmp .lss 3 _ (.tmp 47) _ rfl .i64 ((16 + k : Nat) : Int) 64 (by kernel_rfl) (by kernel_rfl) (by simp) _ rfl) ?_
    simp only [sZ, sS]
    refine wpList_nil ?_
    refine hK10 _ _ ?_
    refine cDec (((16 + k : Nat) : Int) < 64) (by kernel_rfl) (fun c48 => ?_) (fun c48 => ?_)
    · skip
      refine wp_skip ?_
      refine hK9 _ _ ?_
      refine wp_seq_k fun K11 hK11 => ?_
      refine wp_block ?_
      refine wp_seq_k fun K12 hK12 => ?_
      have e3 := drew_e0 wl1
      refine zg (fun w_ => Bl w.heap.size w w_ ∧ SL .u8 w_ v (nn b) ∧ Own 31 .u32 w.heap.size w_ u (nn W) ∧ wl1.heap.size ≤ w_.heap.size) (fun w_ => Bl w.heap.size w w_ ∧ SL .u8 w_ v (nn b) ∧ Own 31 .u32 w.heap.size w_ u (nn W) ∧ wl1.heap.size ≤ w_.heap.size) 100000 12 ⟨BL.e0 e3, D.e0 e3, b10.e0 e3, Nat.le_refl _⟩ ?_
      clear BL D b10
      clear e3
      intro w5
      rintro ⟨BL, D, b10, z2⟩
      refine zv 0 51 (u) (fun _ _ => .of) ⟨BL, D, b10, by omega⟩ ?_
      simp only [sZ, sS]
      refine zv 1 52 (.int .i64 ((16 + k : Nat) : Int)) (fun _ _ => .of) ⟨BL, D, b10, by omega⟩ ?_
      simp only [sZ, sS]
      refine zv 2 53 (.int .i64 ((1 + k : Nat) : Int)) (fun _ ⟨BL, D, b10, z2⟩ => Val.as (Val.sub 3 _ (.tmp 52) _ rfl ((16 + k : Nat) : Int) 15 (by kernel_rfl) (by kernel_rfl) (by omega)) (congrArg (Value.int .i64) (by omega))) ⟨BL, D, b10, by omega⟩ ?_
      simp only [sZ, sS]
      refine zv 3 54 (elemP u (1 + k)) (fun _ ⟨BL, D, b10, z2⟩ => Val.idxE 158 (.tmp 51) (.tmp 53) rfl u (1 + k) (by kernel_rfl) (by kernel_rfl) b10.sl Try.underlying158 (by kernel_rfl) (by rw [nn_len, hWl]; omega)) ⟨BL, D, b10, by omega⟩ ?_
      simp only [sZ, sS]
      refine zv 4 55 (.int .u32 ((W.getD (1 + k) 0 : Nat) : Int)) (fun _ ⟨BL, D, b10, z2⟩ => Val.nldE 31 _ rfl u (1 + k) (by kernel_rfl) (fun _ => (by kernel_rfl)) b10.sl (by omega)) ⟨BL, D, b10, by omega⟩ ?_
      simp only [sZ, sS]
      refine zv 5 56 (u) (fun _ _ => .of) ⟨BL, D, b10, by omega⟩ ?_
      simp only [sZ, sS]
      refine zv 6 57 (.int .i64 ((16 + k : Nat) : Int)) (fun _ _ => .of) ⟨BL, D, b10, by omega⟩ ?_
      simp only [sZ, sS]
      refine zv 7 58 (.int .i64 ((14 + k : Nat) : Int)) (fun _ ⟨BL, D, b10, z2⟩ => Val.as (Val.sub 3 _ (.tmp 57) _ rfl ((16 + k : Nat) : Int) 2 (by kernel_rfl) (by kernel_rfl) (by omega)) (congrArg (Value.int .i64) (by omega))) ⟨BL, D, b10, by omega⟩ ?_
      simp only [sZ, sS]
      refine zv 8 59 (elemP u (14 + k)) (fun _ ⟨BL, D, b10, z2⟩ => Val.idxE 158 (.tmp 56) (.tmp 58) rfl u (14 + k) (by kernel_rfl) (by kernel_rfl) b10.sl Try.underlying158 (by kernel_rfl) (by rw [nn_len, hWl]; omega)) ⟨BL, D, b10, by omega⟩ ?_
      simp only [sZ, sS]
      refine zv 9 60 (.int .u32 ((W.getD (14 + k) 0 : Nat) : Int)) (fun _ ⟨BL, D, b10, z2⟩ => Val.nldE 31 _ rfl u (14 + k) (by kernel_rfl) (fun _ => (by kernel_rfl)) b10.sl (by omega)) ⟨BL, D, b10, by omega⟩ ?_
      simp only [sZ, sS]
      refine zv 10 6 (.int .u32 ((W.getD (1 + k) 0 : Nat) : Int)) (fun _ _ => .of) ⟨BL, D, b10, by omega⟩ ?_
      simp only [sZ, sS]
      refine zv 11 7 (.int .u32 ((W.getD (14 + k) 0 : Nat) : Int)) (fun _ _ => .of) ⟨BL, D, b10, by omega⟩ ?_
      simp only [sZ, sS]
      refine zd (by kernel_rfl) ?_ _
      refine hK12 _ _ ?_
      refine wp_seq_k fun K13 hK13 => ?_
      refine cPlain ?_
      refine sv 61 (.int .u32 ((W.getD (1 + k) 0 : Nat) : Int)) .of ?_
      simp only [sZ, sS]
      refine xCall 62 121 #[.int .u32 ((W.getD (1 + k) 0 : Nat) : Int), .int .i64 7] (by kernel_rfl) ?_
      refine (rror_any (W.getD (1 + k) 0) 7 (by omega) w5).mono ?_
      rintro en w6 ⟨rfl, hb1⟩
      have e4 := belE0 hb1
      have ze4 := e4.size
      replace BL := BL.e0 e4
      replace D := D.e0 e4
      replace b10 := b10.e0 e4
      clear e4
      refine ⟨.int .u32 ((rotR (W.getD (1 + k) 0) 7 : Nat) : Int), rfl, ?_⟩
      simp only [sZ, sS]
      refine sv 63 (.int .u32 ((W.getD (1 + k) 0 : Nat) : Int)) .of ?_
      simp only [sZ, sS]
      refine xCall 64 121 #[.int .u32 ((W.getD (1 + k) 0 : Nat) : Int), .int .i64 18] (by kernel_rfl) ?_
      refine (rror_any (W.getD (1 + k) 0) 18 (by omega) w6).mono ?_
      rintro en w7 ⟨rfl, hb1⟩
      have e5 := belE0 hb1
      have ze5 := e5.size
      replace BL := BL.e0 e5
      replace D := D.e0 e5
      replace b10 := b10.e0 e5
      clear e5
      refine ⟨.int .u32 ((rotR (W.getD (1 + k) 0) 18 : Nat) : Int), rfl, ?_⟩
      simp only [sZ, sS]
      refine sv 65 (.int .u32 ((((rotR (W.getD (1 + k) 0) 7) ^^^ (rotR (W.getD (1 + k) 0) 18)) % 4294967296 : Nat) : Int)) (Val.xorN 31 _ (.tmp 62) (.tmp 64) rfl .u32 (rotR (W.getD (1 + k) 0) 7) (rotR (W.getD (1 + k) 0) 18) 4294967296 (by kernel_rfl) (by kernel_rfl)) ?_
      simp only [sZ, sS]
      refine sv 66 (.int .u32 ((W.getD (1 + k) 0 : Nat) : Int)) .of ?_
      simp only [sZ, sS]
      refine xCall 67 124 #[.int .u32 ((W.getD (1 + k) 0 : Nat) : Int), .int .i64 3] (by kernel_rfl) ?_
      refine (rshr_any (W.getD (1 + k) 0) 3 (by omega) w7).mono ?_
      rintro en w8 ⟨rfl, hb1⟩
      have e6 := belE0 hb1
      have ze6 := e6.size
      replace BL := BL.e0 e6
      replace D := D.e0 e6
      replace b10 := b10.e0 e6
      clear e6
      refine ⟨.int .u32 (((W.getD (1 + k) 0) >>> 3 : Nat) : Int), rfl, ?_⟩
      simp only [sZ, sS]
      refine sv 68 (.int .u32 ((shr3 (W.getD (1 + k) 0) 7 18 3 : Nat) : Int)) (Val.asN (Val.xorN 31 _ (.tmp 65) (.tmp 67) rfl .u32 (((rotR (W.getD (1 + k) 0) 7) ^^^ (rotR (W.getD (1 + k) 0) 18)) % 4294967296) ((W.getD (1 + k) 0) >>> 3) 4294967296 (by kernel_rfl) (by kernel_rfl)) (by unfold shr3; rfl)) ?_
      simp only [sZ, sS]
      refine sv 8 (.int .u32 ((shr3 (W.getD (1 + k) 0) 7 18 3 : Nat) : Int)) .of ?_
      simp only [sZ, sS]
      refine wpList_nil ?_
      refine hK13 _ _ ?_
      refine wp_seq_k fun K14 hK14 => ?_
      refine cPlain ?_
      refine sv 69 (.int .u32 ((W.getD (14 + k) 0 : Nat) : Int)) .of ?_
      simp only [sZ, sS]
      refine xCall 70 121 #[.int .u32 ((W.getD (14 + k) 0 : Nat) : Int), .int .i64 17] (by kernel_rfl) ?_
      refine (rror_any (W.getD (14 + k) 0) 17 (by omega) w8).mono ?_
      rintro en w9 ⟨rfl, hb1⟩
      have e7 := belE0 hb1
      have ze7 := e7.size
      replace BL := BL.e0 e7
      replace D := D.e0 e7
      replace b10 := b10.e0 e7
      clear e7
      refine ⟨.int .u32 ((rotR (W.getD (14 + k) 0) 17 : Nat) : Int), rfl, ?_⟩
      simp only [sZ, sS]
      refine sv 71 (.int .u32 ((W.getD (14 + k) 0 : Nat) : Int)) .of ?_
      simp only [sZ, sS]
      refine xCall 72 121 #[.int .u32 ((W.getD (14 + k) 0 : Nat) : Int), .int .i64 19] (by kernel_rfl) ?_
      refine (rror_any (W.getD (14 + k) 0) 19 (by omega) w9).mono ?_
      rintro en w10 ⟨rfl, hb1⟩
      have e8 := belE0 hb1
      have ze8 := e8.size
      replace BL := BL.e0 e8
      replace D := D.e0 e8
      replace b10 := b10.e0 e8
      clear e8
      refine ⟨.int .u32 ((rotR (W.getD (14 + k) 0) 19 : Nat) : Int), rfl, ?_⟩
      simp only [sZ, sS]
      refine sv 73 (.int .u32 ((((rotR (W.getD (14 + k) 0) 17) ^^^ (rotR (W.getD (14 + k) 0) 19)) % 4294967296 : Nat) : Int)) (Val.xorN 31 _ (.tmp 70) (.tmp 72) rfl .u32 (rotR (W.getD (14 + k) 0) 17) (rotR (W.getD (14 + k) 0) 19) 4294967296 (by kernel_rfl) (by kernel_rfl)) ?_
      simp only [sZ, sS]
      refine sv 74 (.int .u32 ((W.getD (14 + k) 0 : Nat) : Int)) .of ?_
      simp only [sZ, sS]
      refine xCall 75 124 #[.int .u32 ((W.getD (14 + k) 0 : Nat) : Int), .int .i64 10] (by kernel_rfl) ?_
      refine (rshr_any (W.getD (14 + k) 0) 10 (by omega) w10).mono ?_
      rintro en w11 ⟨rfl, hb1⟩
      have e9 := belE0 hb1
      have ze9 := e9.size
      replace BL := BL.e0 e9
      replace D := D.e0 e9
      replace b10 := b10.e0 e9
      clear e9
      refine ⟨.int .u32 (((W.getD (14 + k) 0) >>> 10 : Nat) : Int), rfl, ?_⟩
      simp only [sZ, sS]
      refine sv 76 (.int .u32 ((shr3 (W.getD (14 + k) 0) 17 19 10 : Nat) : Int)) (Val.asN (Val.xorN 31 _ (.tmp 73) (.tmp 75) rfl .u32 (((rotR (W.getD (14 + k) 0) 17) ^^^ (rotR (W.getD (14 + k) 0) 19)) % 4294967296) ((W.getD (14 + k) 0) >>> 10) 4294967296 (by kernel_rfl) (by kernel_rfl)) (by unfold shr3; rfl)) ?_
      simp only [sZ, sS]
      refine sv 9 (.int .u32 ((shr3 (W.getD (14 + k) 0) 17 19 10 : Nat) : Int)) .of ?_
      simp only [sZ, sS]
      refine wpList_nil ?_
      refine hK14 _ _ ?_
      have e10 := drew_e0 w11
      refine zg (fun w_ => Bl w.heap.size w w_ ∧ SL .u8 w_ v (nn b) ∧ w11.heap.size ≤ w_.heap.size) (fun w_ => Bl w.heap.size w w_ ∧ SL .u8 w_ v (nn b) ∧ Own 31 .u32 w.heap.size w_ u (nn W) ∧ w11.heap.size ≤ w_.heap.size) 100000 19 ⟨BL.e0 e10, D.e0 e10, b10.e0 e10, Nat.le_refl _⟩ ?_
      clear BL D b10
      clear e10
      intro w12
      rintro ⟨BL, D, b10, z3⟩
      refine zv 0 77 (u) (fun _ _ => .of) ⟨BL, D, by omega⟩ ?_
      simp only [sZ, sS]
      refine zv 1 78 (.int .u32 ((shr3 (W.getD (14 + k) 0) 17 19 10 : Nat) : Int)) (fun _ _ => .of) ⟨BL, D, by omega⟩ ?_
      simp only [sZ, sS]
      refine zv 2 79 (u) (fun _ _ => .of) ⟨BL, D, by omega⟩ ?_
      simp only [sZ, sS]
      refine zv 3 80 (.int .i64 ((16 + k : Nat) : Int)) (fun _ _ => .of) ⟨BL, D, by omega⟩ ?_
      simp only [sZ, sS]
      refine zv 4 81 (.int .i64 ((9 + k : Nat) : Int)) (fun _ ⟨BL, D, z3⟩ => Val.as (Val.sub 3 _ (.tmp 80) _ rfl ((16 + k : Nat) : Int) 7 (by kernel_rfl) (by kernel_rfl) (by omega)) (congrArg (Value.int .i64) (by omega))) ⟨BL, D, by omega⟩ ?_
      simp only [sZ, sS]
      refine zv 8 85 (.int .u32 ((shr3 (W.getD (1 + k) 0) 7 18 3 : Nat) : Int)) (fun _ _ => .of) ⟨BL, D, by omega⟩ ?_
      simp only [sZ, sS]
      refine zv 10 87 (u) (fun _ _ => .of) ⟨BL, D, by omega⟩ ?_
      simp only [sZ, sS]
      refine zv 11 88 (.int .i64 ((16 + k : Nat) : Int)) (fun _ _ => .of) ⟨BL, D, by omega⟩ ?_
      simp only [sZ, sS]
      refine zv 12 89 (.int .i64 ((k : Nat) : Int)) (fun _ ⟨BL, D, z3⟩ => Val.as (Val.sub 3 _ (.tmp 88) _ rfl ((16 + k : Nat) : Int) 16 (by kernel_rfl) (by kernel_rfl) (by omega)) (congrArg (Value.int .i64) (by omega))) ⟨BL, D, by omega⟩ ?_
      simp only [sZ, sS]
      refine zo2 5 13 rfl rfl ?_ ?_
      · skip
        refine sv 82 (elemP u (9 + k)) (Val.idxE 158 (.tmp 79) (.tmp 81) rfl u (9 + k) (by kernel_rfl) (by kernel_rfl) b10.sl Try.underlying158 (by kernel_rfl) (by rw [nn_len, hWl]; omega)) ?_
        refine ze 5 ⟨BL, D, by omega⟩ ?_
        simp only [sZ, sS]
        refine zo2 6 13 rfl rfl ?_ ?_
        · skip
          refine sv 83 (.int .u32 ((W.getD (9 + k) 0 : Nat) : Int)) (Val.nldE 31 _ rfl u (9 + k) (by kernel_rfl) (fun _ => (by kernel_rfl)) b10.sl (by omega)) ?_
          refine ze 6 ⟨BL, D, by omega⟩ ?_
          simp only [sZ, sS]
          refine zv 7 84 (.int .u32 ((((shr3 (W.getD (14 + k) 0) 17 19 10) + (W.getD (9 + k) 0)) % 4294967296 : Nat) : Int)) (fun _ ⟨BL, D, z3⟩ => Val.addN 31 _ (.tmp 78) (.tmp 83) rfl .u32 (shr3 (W.getD (14 + k) 0) 17 19 10) (W.getD (9 + k) 0) 4294967296 (by kernel_rfl) (by kernel_rfl)) ⟨BL, D, by omega⟩ ?_
          simp only [sZ, sS]
          refine zv 9 86 (.int .u32 ((((((shr3 (W.getD (14 + k) 0) 17 19 10) + (W.getD (9 + k) 0)) % 4294967296) + (shr3 (W.getD (1 + k) 0) 7 18 3)) % 4294967296 : Nat) : Int)) (fun _ ⟨BL, D, z3⟩ => Val.addN 31 _ (.tmp 84) (.tmp 85) rfl .u32 (((shr3 (W.getD (14 + k) 0) 17 19 10) + (W.getD (9 + k) 0)) % 4294967296) (shr3 (W.getD (1 + k) 0) 7 18 3) 4294967296 (by kernel_rfl) (by kernel_rfl)) ⟨BL, D, by omega⟩ ?_
          simp only [sZ, sS]
          refine zo1 13 rfl ?_
          refine sv 90 (elemP u k) (Val.idxE 158 (.tmp 87) (.tmp 89) rfl u k (by kernel_rfl) (by kernel_rfl) b10.sl Try.underlying158 (by kernel_rfl) (by rw [nn_len, hWl]; omega)) ?_
          refine ze 13 ⟨BL, D, by omega⟩ ?_
          simp only [sZ, sS]
          refine zo1 14 rfl ?_
          refine sv 91 (.int .u32 ((W.getD k 0 : Nat) : Int)) (Val.nldE 31 _ rfl u k (by kernel_rfl) (fun _ => (by kernel_rfl)) b10.sl (by omega)) ?_
          refine ze 14 ⟨BL, D, by omega⟩ ?_
          simp only [sZ, sS]
          refine zv 15 92 (.int .u32 ((eR W k : Nat) : Int)) (fun _ ⟨BL, D, z3⟩ => Val.asN (Val.addN 31 _ (.tmp 86) (.tmp 91) rfl .u32 (((((shr3 (W.getD (14 + k) 0) 17 19 10) + (W.getD (9 + k) 0)) % 4294967296) + (shr3 (W.getD (1 + k) 0) 7 18 3)) % 4294967296) (W.getD k 0) 4294967296 (by kernel_rfl) (by kernel_rfl)) (by unfold eR; rfl)) ⟨BL, D, by omega⟩ ?_
          simp only [sZ, sS]
          refine zo1 16 rfl ?_
          refine xLit 93 158 31 1 _ #[(0, .int .u32 ((eR W k : Nat) : Int))] [.int .u32 ((eR W k : Nat) : Int)] rfl (by kernel_rfl) (by kernel_rfl) ?_
          intro w13 n3
          have zn3 := n3.z
          have b93 := n3.c
          replace b93 : Blk .u32 w13 w12.heap.size 31 [((eR W k : Nat) : Int)] := b93
          replace BL := BL.e0 n3.e
          replace D := D.e0 n3.e
          replace b10 := b10.e0 n3.e
          have sb93 : SL .u32 w13 (.slice (some ⟨w12.heap.size, 0, none⟩) 1 1) [((eR W k : Nat) : Int)] := SL.ofBlk b93 rfl (by unfold maxLen; omega)
          have lb93 : ∀ i, Value.ownBlock (.slice (some ⟨w12.heap.size, 0, none⟩) 1 1) = some i → w12.heap.size ≤ i ∧ i < w13.heap.size := ownB_lit (by omega)
          refine ze 16 ⟨BL, D, by omega⟩ ?_
          simp only [sZ, sS]
          refine zo1 17 rfl ?_
          refine xApp 94 (.tmp 77) (.tmp 93) 158 31 .u32 4 rfl Try.underlying158 (by kernel_rfl) w.heap.size u (nn W) (by kernel_rfl) b10 (.slice (some ⟨w12.heap.size, 0, none⟩) 1 1) [((eR W k : Nat) : Int)] (by kernel_rfl) sb93 ?va2_1 ?va2_2 ?va2_3 ?_
          case va2_1 => (simp only [nn_len, wR_len, wordsR_len, List.length_cons, List.length_nil]; omega)
          case va2_2 => (simp only [nn_len, wR_len, wordsR_len, List.length_cons, List.length_nil]; unfold maxLen; omega)
          case va2_3 => omega
          intro va2 w14 rva2 e11
          have ze11 := e11.size
          have BL_ := BL.ev e11 (fun i h => by have := lb10_5 _ h; omega)
          have D_ := D.ev e11 (fun i hi h => by have := hd i hi; have := lb10_5 _ h; omega)
          have b93_ := b93.ev e11 (fun h => by have := lb10_5 _ h; omega)
          have sb93_ := sb93.ev e11 (fun i hi h => by have := lb93 i hi; have := lb10_5 _ h; omega)
          replace BL := BL_; clear BL_
          replace D := D_; clear D_
          replace b93 := b93_; clear b93_
          replace sb93 := sb93_; clear sb93_
          replace b10 := rva2
          clear rva2 e11
          have lb10_6 := b10.ge
          refine ze 17 ⟨BL, D, by omega⟩ ?_
          simp only [sZ, sS]
          refine zv 18 3 (va2) (fun _ _ => .of) ⟨BL, D, by omega⟩ ?_
          simp only [sZ, sS]
          refine zd (by kernel_rfl) ?_ _
          refine hK11 _ _ ?_
          refine cPlain ?_
          refine sv 49 (.int .i64 ((16 + k : Nat) : Int)) .of ?_
          simp only [sZ, sS]
          refine sv 50 (.int .i64 ((16 + (k + 1) : Nat) : Int)) (Val.as (Val.add 3 _ (.tmp 49) _ rfl ((16 + k : Nat) : Int) 1 (by kernel_rfl) (by kernel_rfl) (by omega)) (congrArg (Value.int .i64) (by omega))) ?_
          simp only [sZ, sS]
          refine sv 5 (.int .i64 ((16 + (k + 1) : Nat) : Int)) .of ?_
          simp only [sZ, sS]
          refine wpList_nil ?_
          refine ⟨_, ?_, k + 1, va2, W ++ [eR W k], rfl, (by omega), (by rw [hc1_1, wordsR_succ]), cutE, BL, D, (b10.cast (by rw [nn_app]; rfl)), by omega⟩
          omega
        · skip
          refine sv 90 (elemP u k) (Val.idxE 158 (.tmp 87) (.tmp 89) rfl u k (by kernel_rfl) (by kernel_rfl) b10.sl Try.underlying158 (by kernel_rfl) (by rw [nn_len, hWl]; omega)) ?_
          refine ze 13 ⟨BL, D, by omega⟩ ?_
          simp only [sZ, sS]
          refine zo2 6 14 rfl rfl ?_ ?_
          · skip
            refine sv 83 (.int .u32 ((W.getD (9 + k) 0 : Nat) : Int)) (Val.nldE 31 _ rfl u (9 + k) (by kernel_rfl) (fun _ => (by kernel_rfl)) b10.sl (by omega)) ?_
            refine ze 6 ⟨BL, D, by omega⟩ ?_
            simp only [sZ, sS]
            refine zv 7 84 (.int .u32 ((((shr3 (W.getD (14 + k) 0) 17 19 10) + (W.getD (9 + k) 0)) % 4294967296 : Nat) : Int)) (fun _ ⟨BL, D, z3⟩ => Val.addN 31 _ (.tmp 78) (.tmp 83) rfl .u32 (shr3 (W.getD (14 + k) 0) 17 19 10) (W.getD (9 + k) 0) 4294967296 (by kernel_rfl) (by kernel_rfl)) ⟨BL, D, by omega⟩ ?_
            simp only [sZ, sS]
            refine zv 9 86 (.int .u32 ((((((shr3 (W.getD (14 + k) 0) 17 19 10) + (W.getD (9 + k) 0)) % 4294967296) + (shr3 (W.getD (1 + k) 0) 7 18 3)) % 4294967296 : Nat) : Int)) (fun _ ⟨BL, D, z3⟩ => Val.addN 31 _ (.tmp 84) (.tmp 85) rfl .u32 (((shr3 (W.getD (14 + k) 0) 17 19 10) + (W.getD (9 + k) 0)) % 4294967296) (shr3 (W.getD (1 + k) 0) 7 18 3) 4294967296 (by kernel_rfl) (by kernel_rfl)) ⟨BL, D, by omega⟩ ?_
            simp only [sZ, sS]
            refine zo1 14 rfl ?_
            refine sv 91 (.int .u32 ((W.getD k 0 : Nat) : Int)) (Val.nldE 31 _ rfl u k (by kernel_rfl) (fun _ => (by kernel_rfl)) b10.sl (by omega)) ?_
            refine ze 14 ⟨BL, D, by omega⟩ ?_
            simp only [sZ, sS]
            refine zv 15 92 (.int .u32 ((eR W k : Nat) : Int)) (fun _ ⟨BL, D, z3⟩ => Val.asN (Val.addN 31 _ (.tmp 86) (.tmp 91) rfl .u32 (((((shr3 (W.getD (14 + k) 0) 17 19 10) + (W.getD (9 + k) 0)) % 4294967296) + (shr3 (W.getD (1 + k) 0) 7 18 3)) % 4294967296) (W.getD k 0) 4294967296 (by kernel_rfl) (by kernel_rfl)) (by unfold eR; rfl)) ⟨BL, D, by omega⟩ ?_
            simp only [sZ, sS]
            refine zo1 16 rfl ?_
            refine xLit 93 158 31 1 _ #[(0, .int .u32 ((eR W k : Nat) : Int))] [.int .u32 ((eR W k : Nat) : Int)] rfl (by kernel_rfl) (by kernel_rfl) ?_
            intro w15 n4
            have zn4 := n4.z
            have b93 := n4.c
            replace b93 : Blk .u32 w15 w12.heap.size 31 [((eR W k : Nat) : Int)] := b93
            replace BL := BL.e0 n4.e
            replace D := D.e0 n4.e
            replace b10 := b10.e0 n4.e
            have sb93 : SL .u32 w15 (.slice (some ⟨w12.heap.size, 0, none⟩) 1 1) [((eR W k : Nat) : Int)] := SL.ofBlk b93 rfl (by unfold maxLen; omega)
            have lb93 : ∀ i, Value.ownBlock (.slice (some ⟨w12.heap.size, 0, none⟩) 1 1) = some i → w12.heap.size ≤ i ∧ i < w15.heap.size := ownB_lit (by omega)
            refine ze 16 ⟨BL, D, by omega⟩ ?_
            simp only [sZ, sS]
            refine zo1 17 rfl ?_
            refine xApp 94 (.tmp 77) (.tmp 93) 158 31 .u32 4 rfl Try.underlying158 (by kernel_rfl) w.heap.size u (nn W) (by kernel_rfl) b10 (.slice (some ⟨w12.heap.size, 0, none⟩) 1 1) [((eR W k : Nat) : Int)] (by kernel_rfl) sb93 ?va3_1 ?va3_2 ?va3_3 ?_
            case va3_1 => (simp only [nn_len, wR_len, wordsR_len, List.length_cons, List.length_nil]; omega)
            case va3_2 => (simp only [nn_len, wR_len, wordsR_len, List.length_cons, List.length_nil]; unfold maxLen; omega)
            case va3_3 => omega
            intro va3 w16 rva3 e12
            have ze12 := e12.size
            have BL_ := BL.ev e12 (fun i h => by have := lb10_5 _ h; omega)
            have D_ := D.ev e12 (fun i hi h => by have := hd i hi; have := lb10_5 _ h; omega)
            have b93_ := b93.ev e12 (fun h => by have := lb10_5 _ h; omega)
            have sb93_ := sb93.ev e12 (fun i hi h => by have := lb93 i hi; have := lb10_5 _ h; omega)
            replace BL := BL_; clear BL_
            replace D := D_; clear D_
            replace b93 := b93_; clear b93_
            replace sb93 := sb93_; clear sb93_
            replace b10 := rva3
            clear rva3 e12
            have lb10_7 := b10.ge
            refine ze 17 ⟨BL, D, by omega⟩ ?_
            simp only [sZ, sS]
            refine zv 18 3 (va3) (fun _ _ => .of) ⟨BL, D, by omega⟩ ?_
            simp only [sZ, sS]
            refine zd (by kernel_rfl) ?_ _
            refine hK11 _ _ ?_
            refine cPlain ?_
            refine sv 49 (.int .i64 ((16 + k : Nat) : Int)) .of ?_
            simp only [sZ, sS]
            refine sv 50 (.int .i64 ((16 + (k + 1) : Nat) : Int)) (Val.as (Val.add 3 _ (.tmp 49) _ rfl ((16 + k : Nat) : Int) 1 (by kernel_rfl) (by kernel_rfl) (by omega)) (congrArg (Value.int .i64) (by omega))) ?_
            simp only [sZ, sS]
            refine sv 5 (.int .i64 ((16 + (k + 1) : Nat) : Int)) .of ?_
            simp only [sZ, sS]
            refine wpList_nil ?_
            refine ⟨_, ?_, k + 1, va3, W ++ [eR W k], rfl, (by omega), (by rw [hc1_1, wordsR_succ]), cutE, BL, D, (b10.cast (by rw [nn_app]; rfl)), by omega⟩
            omega
          · skip
            refine sv 91 (.int .u32 ((W.getD k 0 : Nat) : Int)) (Val.nldE 31 _ rfl u k (by kernel_rfl) (fun _ => (by kernel_rfl)) b10.sl (by omega)) ?_
            refine ze 14 ⟨BL, D, by omega⟩ ?_
            simp only [sZ, sS]
            refine zo1 6 rfl ?_
            refine sv 83 (.int .u32 ((W.getD (9 + k) 0 : Nat) : Int)) (Val.nldE 31 _ rfl u (9 + k) (by kernel_rfl) (fun _ => (by kernel_rfl)) b10.sl (by omega)) ?_
            refine ze 6 ⟨BL, D, by omega⟩ ?_
            simp only [sZ, sS]
            refine zv 7 84 (.int .u32 ((((shr3 (W.getD (14 + k) 0) 17 19 10) + (W.getD (9 + k) 0)) % 4294967296 : Nat) : Int)) (fun _ ⟨BL, D, z3⟩ => Val.addN 31 _ (.tmp 78) (.tmp 83) rfl .u32 (shr3 (W.getD (14 + k) 0) 17 19 10) (W.getD (9 + k) 0) 4294967296 (by kernel_rfl) (by kernel_rfl)) ⟨BL, D, by omega⟩ ?_
            simp only [sZ, sS]
            refine zv 9 86 (.int .u32 ((((((shr3 (W.getD (14 + k) 0) 17 19 10) + (W.getD (9 + k) 0)) % 4294967296) + (shr3 (W.getD (1 + k) 0) 7 18 3)) % 4294967296 : Nat) : Int)) (fun _ ⟨BL, D, z3⟩ => Val.addN 31 _ (.tmp 84) (.tmp 85) rfl .u32 (((shr3 (W.getD (14 + k) 0) 17 19 10) + (W.getD (9 + k) 0)) % 4294967296) (shr3 (W.getD (1 + k) 0) 7 18 3) 4294967296 (by kernel_rfl) (by kernel_rfl)) ⟨BL, D, by omega⟩ ?_
            simp only [sZ, sS]
            refine zv 15 92 (.int .u32 ((eR W k : Nat) : Int)) (fun _ ⟨BL, D, z3⟩ => Val.asN (Val.addN 31 _ (.tmp 86) (.tmp 91) rfl .u32 (((((shr3 (W.getD (14 + k) 0) 17 19 10) + (W.getD (9 + k) 0)) % 4294967296) + (shr3 (W.getD (1 + k) 0) 7 18 3)) % 4294967296) (W.getD k 0) 4294967296 (by kernel_rfl) (by kernel_rfl)) (by unfold eR; rfl)) ⟨BL, D, by omega⟩ ?_
            simp only [sZ, sS]
            refine zo1 16 rfl ?_
            refine xLit 93 158 31 1 _ #[(0, .int .u32 ((eR W k : Nat) : Int))] [.int .u32 ((eR W k : Nat) : Int)] rfl (by kernel_rfl) (by kernel_rfl) ?_
            intro w17 n5
            have zn5 := n5.z
            have b93 := n5.c
            replace b93 : Blk .u32 w17 w12.heap.size 31 [((eR W k : Nat) : Int)] := b93
            replace BL := BL.e0 n5.e
            replace D := D.e0 n5.e
            replace b10 := b10.e0 n5.e
            have sb93 : SL .u32 w17 (.slice (some ⟨w12.heap.size, 0, none⟩) 1 1) [((eR W k : Nat) : Int)] := SL.ofBlk b93 rfl (by unfold maxLen; omega)
            have lb93 : ∀ i, Value.ownBlock (.slice (some ⟨w12.heap.size, 0, none⟩) 1 1) = some i → w12.heap.size ≤ i ∧ i < w17.heap.size := ownB_lit (by omega)
            refine ze 16 ⟨BL, D, by omega⟩ ?_
            simp only [sZ, sS]
            refine zo1 17 rfl ?_
            refine xApp 94 (.tmp 77) (.tmp 93) 158 31 .u32 4 rfl Try.underlying158 (by kernel_rfl) w.heap.size u (nn W) (by kernel_rfl) b10 (.slice (some ⟨w12.heap.size, 0, none⟩) 1 1) [((eR W k : Nat) : Int)] (by kernel_rfl) sb93 ?va4_1 ?va4_2 ?va4_3 ?_
            case va4_1 => (simp only [nn_len, wR_len, wordsR_len, List.length_cons, List.length_nil]; omega)
            case va4_2 => (simp only [nn_len, wR_len, wordsR_len, List.length_cons, List.length_nil]; unfold maxLen; omega)
            case va4_3 => omega
            intro va4 w18 rva4 e13
            have ze13 := e13.size
            have BL_ := BL.ev e13 (fun i h => by have := lb10_5 _ h; omega)
            have D_ := D.ev e13 (fun i hi h => by have := hd i hi; have := lb10_5 _ h; omega)
            have b93_ := b93.ev e13 (fun h => by have := lb10_5 _ h; omega)
            have sb93_ := sb93.ev e13 (fun i hi h => by have := lb93 i hi; have := lb10_5 _ h; omega)
            replace BL := BL_; clear BL_
            replace D := D_; clear D_
            replace b93 := b93_; clear b93_
            replace sb93 := sb93_; clear sb93_
            replace b10 := rva4
            clear rva4 e13
            have lb10_8 := b10.ge
            refine ze 17 ⟨BL, D, by omega⟩ ?_
            simp only [sZ, sS]
            refine zv 18 3 (va4) (fun _ _ => .of) ⟨BL, D, by omega⟩ ?_
            simp only [sZ, sS]
            refine zd (by kernel_rfl) ?_ _
            refine hK11 _ _ ?_
            refine cPlain ?_
            refine sv 49 (.int .i64 ((16 + k : Nat) : Int)) .of ?_
            simp only [sZ, sS]
            refine sv 50 (.int .i64 ((16 + (k + 1) : Nat) : Int)) (Val.as (Val.add 3 _ (.tmp 49) _ rfl ((16 + k : Nat) : Int) 1 (by kernel_rfl) (by kernel_rfl) (by omega)) (congrArg (Value.int .i64) (by omega))) ?_
            simp only [sZ, sS]
            refine sv 5 (.int .i64 ((16 + (k + 1) : Nat) : Int)) .of ?_
            simp only [sZ, sS]
            refine wpList_nil ?_
            refine ⟨_, ?_, k + 1, va4, W ++ [eR W k], rfl, (by omega), (by rw [hc1_1, wordsR_succ]), cutE, BL, D, (b10.cast (by rw [nn_app]; rfl)), by omega⟩
            omega
      · skip
        refine sv 90 (elemP u k) (Val.idxE 158 (.tmp 87) (.tmp 89) rfl u k (by kernel_rfl) (by kernel_rfl) b10.sl Try.underlying158 (by kernel_rfl) (by rw [nn_len, hWl]; omega)) ?_
        refine ze 13 ⟨BL, D, by omega⟩ ?_
        simp only [sZ, sS]
        refine zo2 5 14 rfl rfl ?_ ?_
        · skip
          refine sv 82 (elemP u (9 + k)) (Val.idxE 158 (.tmp 79) (.tmp 81) rfl u (9 + k) (by kernel_rfl) (by kernel_rfl) b10.sl Try.underlying158 (by kernel_rfl) (by rw [nn_len, hWl]; omega)) ?_
          refine ze 5 ⟨BL, D, by omega⟩ ?_
          simp only [sZ, sS]
          refine zo2 6 14 rfl rfl ?_ ?_
          · skip
            refine sv 83 (.int .u32 ((W.getD (9 + k) 0 : Nat) : Int)) (Val.nldE 31 _ rfl u (9 + k) (by kernel_rfl) (fun _ => (by kernel_rfl)) b10.sl (by omega)) ?_
            refine ze 6 ⟨BL, D, by omega⟩ ?_
            simp only [sZ, sS]
            refine zv 7 84 (.int .u32 ((((shr3 (W.getD (14 + k) 0) 17 19 10) + (W.getD (9 + k) 0)) % 4294967296 : Nat) : Int)) (fun _ ⟨BL, D, z3⟩ => Val.addN 31 _ (.tmp 78) (.tmp 83) rfl .u32 (shr3 (W.getD (14 + k) 0) 17 19 10) (W.getD (9 + k) 0) 4294967296 (by kernel_rfl) (by kernel_rfl)) ⟨BL, D, by omega⟩ ?_
            simp only [sZ, sS]
            refine zv 9 86 (.int .u32 ((((((shr3 (W.getD (14 + k) 0) 17 19 10) + (W.getD (9 + k) 0)) % 4294967296) + (shr3 (W.getD (1 + k) 0) 7 18 3)) % 4294967296 : Nat) : Int)) (fun _ ⟨BL, D, z3⟩ => Val.addN 31 _ (.tmp 84) (.tmp 85) rfl .u32 (((shr3 (W.getD (14 + k) 0) 17 19 10) + (W.getD (9 + k) 0)) % 4294967296) (shr3 (W.getD (1 + k) 0) 7 18 3) 4294967296 (by kernel_rfl) (by kernel_rfl)) ⟨BL, D, by omega⟩ ?_
            simp only [sZ, sS]
            refine zo1 14 rfl ?_
            refine sv 91 (.int .u32 ((W.getD k 0 : Nat) : Int)) (Val.nldE 31 _ rfl u k (by kernel_rfl) (fun _ => (by kernel_rfl)) b10.sl (by omega)) ?_
            refine ze 14 ⟨BL, D, by omega⟩ ?_
            simp only [sZ, sS]
            refine zv 15 92 (.int .u32 ((eR W k : Nat) : Int)) (fun _ ⟨BL, D, z3⟩ => Val.asN (Val.addN 31 _ (.tmp 86) (.tmp 91) rfl .u32 (((((shr3 (W.getD (14 + k) 0) 17 19 10) + (W.getD (9 + k) 0)) % 4294967296) + (shr3 (W.getD (1 + k) 0) 7 18 3)) % 4294967296) (W.getD k 0) 4294967296 (by kernel_rfl) (by kernel_rfl)) (by unfold eR; rfl)) ⟨BL, D, by omega⟩ ?_
            simp only [sZ, sS]
            refine zo1 16 rfl ?_
            refine xLit 93 158 31 1 _ #[(0, .int .u32 ((eR W k : Nat) : Int))] [.int .u32 ((eR W k : Nat) : Int)] rfl (by kernel_rfl) (by kernel_rfl) ?_
            intro w19 n6
            have zn6 := n6.z
            have b93 := n6.c
            replace b93 : Blk .u32 w19 w12.heap.size 31 [((eR W k : Nat) : Int)] := b93
            replace BL := BL.e0 n6.e
            replace D := D.e0 n6.e
            replace b10 := b10.e0 n6.e
            have sb93 : SL .u32 w19 (.slice (some ⟨w12.heap.size, 0, none⟩) 1 1) [((eR W k : Nat) : Int)] := SL.ofBlk b93 rfl (by unfold maxLen; omega)
            have lb93 : ∀ i, Value.ownBlock (.slice (some ⟨w12.heap.size, 0, none⟩) 1 1) = some i → w12.heap.size ≤ i ∧ i < w19.heap.size := ownB_lit (by omega)
            refine ze 16 ⟨BL, D, by omega⟩ ?_
            simp only [sZ, sS]
            refine zo1 17 rfl ?_
            refine xApp 94 (.tmp 77) (.tmp 93) 158 31 .u32 4 rfl Try.underlying158 (by kernel_rfl) w.heap.size u (nn W) (by kernel_rfl) b10 (.slice (some ⟨w12.heap.size, 0, none⟩) 1 1) [((eR W k : Nat) : Int)] (by kernel_rfl) sb93 ?va5_1 ?va5_2 ?va5_3 ?_
            case va5_1 => (simp only [nn_len, wR_len, wordsR_len, List.length_cons, List.length_nil]; omega)
            case va5_2 => (simp only [nn_len, wR_len, wordsR_len, List.length_cons, List.length_nil]; unfold maxLen; omega)
            case va5_3 => omega
            intro va5 w20 rva5 e14
            have ze14 := e14.size
            have BL_ := BL.ev e14 (fun i h => by have := lb10_5 _ h; omega)
            have D_ := D.ev e14 (fun i hi h => by have := hd i hi; have := lb10_5 _ h; omega)
            have b93_ := b93.ev e14 (fun h => by have := lb10_5 _ h; omega)
            have sb93_ := sb93.ev e14 (fun i hi h => by have := lb93 i hi; have := lb10_5 _ h; omega)
            replace BL := BL_; clear BL_
            replace D := D_; clear D_
            replace b93 := b93_; clear b93_
            replace sb93 := sb93_; clear sb93_
            replace b10 := rva5
            clear rva5 e14
            have lb10_9 := b10.ge
            refine ze 17 ⟨BL, D, by omega⟩ ?_
            simp only [sZ, sS]
            refine zv 18 3 (va5) (fun _ _ => .of) ⟨BL, D, by omega⟩ ?_
            simp only [sZ, sS]
            refine zd (by kernel_rfl) ?_ _
            refine hK11 _ _ ?_
            refine cPlain ?_
            refine sv 49 (.int .i64 ((16 + k : Nat) : Int)) .of ?_
            simp only [sZ, sS]
            refine sv 50 (.int .i64 ((16 + (k + 1) : Nat) : Int)) (Val.as (Val.add 3 _ (.tmp 49) _ rfl ((16 + k : Nat) : Int) 1 (by kernel_rfl) (by kernel_rfl) (by omega)) (congrArg (Value.int .i64) (by omega))) ?_
            simp only [sZ, sS]
            refine sv 5 (.int .i64 ((16 + (k + 1) : Nat) : Int)) .of ?_
            simp only [sZ, sS]
            refine wpList_nil ?_
            refine ⟨_, ?_, k + 1, va5, W ++ [eR W k], rfl, (by omega), (by rw [hc1_1, wordsR_succ]), cutE, BL, D, (b10.cast (by rw [nn_app]; rfl)), by omega⟩
            omega
          · skip
            refine sv 91 (.int .u32 ((W.getD k 0 : Nat) : Int)) (Val.nldE 31 _ rfl u k (by kernel_rfl) (fun _ => (by kernel_rfl)) b10.sl (by omega)) ?_
            refine ze 14 ⟨BL, D, by omega⟩ ?_
            simp only [sZ, sS]
            refine zo1 6 rfl ?_
            refine sv 83 (.int .u32 ((W.getD (9 + k) 0 : Nat) : Int)) (Val.nldE 31 _ rfl u (9 + k) (by kernel_rfl) (fun _ => (by kernel_rfl)) b10.sl (by omega)) ?_
            refine ze 6 ⟨BL, D, by omega⟩ ?_
            simp only [sZ, sS]
            refine zv 7 84 (.int .u32 ((((shr3 (W.getD (14 + k) 0) 17 19 10) + (W.getD (9 + k) 0)) % 4294967296 : Nat) : Int)) (fun _ ⟨BL, D, z3⟩ => Val.addN 31 _ (.tmp 78) (.tmp 83) rfl .u32 (shr3 (W.getD (14 + k) 0) 17 19 10) (W.getD (9 + k) 0) 4294967296 (by kernel_rfl) (by kernel_rfl)) ⟨BL, D, by omega⟩ ?_
            simp only [sZ, sS]
            refine zv 9 86 (.int .u32 ((((((shr3 (W.getD (14 + k) 0) 17 19 10) + (W.getD (9 + k) 0)) % 4294967296) + (shr3 (W.getD (1 + k) 0) 7 18 3)) % 4294967296 : Nat) : Int)) (fun _ ⟨BL, D, z3⟩ => Val.addN 31 _ (.tmp 84) (.tmp 85) rfl .u32 (((shr3 (W.getD (14 + k) 0) 17 19 10) + (W.getD (9 + k) 0)) % 4294967296) (shr3 (W.getD (1 + k) 0) 7 18 3) 4294967296 (by kernel_rfl) (by kernel_rfl)) ⟨BL, D, by omega⟩ ?_
            simp only [sZ, sS]
            refine zv 15 92 (.int .u32 ((eR W k : Nat) : Int)) (fun _ ⟨BL, D, z3⟩ => Val.asN (Val.addN 31 _ (.tmp 86) (.tmp 91) rfl .u32 (((((shr3 (W.getD (14 + k) 0) 17 19 10) + (W.getD (9 + k) 0)) % 4294967296) + (shr3 (W.getD (1 + k) 0) 7 18 3)) % 4294967296) (W.getD k 0) 4294967296 (by kernel_rfl) (by kernel_rfl)) (by unfold eR; rfl)) ⟨BL, D, by omega⟩ ?_
            simp only [sZ, sS]
            refine zo1 16 rfl ?_
            refine xLit 93 158 31 1 _ #[(0, .int .u32 ((eR W k : Nat) : Int))] [.int .u32 ((eR W k : Nat) : Int)] rfl (by kernel_rfl) (by kernel_rfl) ?_
            intro w21 n7
            have zn7 := n7.z
            have b93 := n7.c
            replace b93 : Blk .u32 w21 w12.heap.size 31 [((eR W k : Nat) : Int)] := b93
            replace BL := BL.e0 n7.e
            replace D := D.e0 n7.e
            replace b10 := b10.e0 n7.e
            have sb93 : SL .u32 w21 (.slice (some ⟨w12.heap.size, 0, none⟩) 1 1) [((eR W k : Nat) : Int)] := SL.ofBlk b93 rfl (by unfold maxLen; omega)
            have lb93 : ∀ i, Value.ownBlock (.slice (some ⟨w12.heap.size, 0, none⟩) 1 1) = some i → w12.heap.size ≤ i ∧ i < w21.heap.size := ownB_lit (by omega)
            refine ze 16 ⟨BL, D, by omega⟩ ?_
            simp only [sZ, sS]
            refine zo1 17 rfl ?_
            refine xApp 94 (.tmp 77) (.tmp 93) 158 31 .u32 4 rfl Try.underlying158 (by kernel_rfl) w.heap.size u (nn W) (by kernel_rfl) b10 (.slice (some ⟨w12.heap.size, 0, none⟩) 1 1) [((eR W k : Nat) : Int)] (by kernel_rfl) sb93 ?va6_1 ?va6_2 ?va6_3 ?_
            case va6_1 => (simp only [nn_len, wR_len, wordsR_len, List.length_cons, List.length_nil]; omega)
            case va6_2 => (simp only [nn_len, wR_len, wordsR_len, List.length_cons, List.length_nil]; unfold maxLen; omega)
            case va6_3 => omega
            intro va6 w22 rva6 e15
            have ze15 := e15.size
            have BL_ := BL.ev e15 (fun i h => by have := lb10_5 _ h; omega)
            have D_ := D.ev e15 (fun i hi h => by have := hd i hi; have := lb10_5 _ h; omega)
            have b93_ := b93.ev e15 (fun h => by have := lb10_5 _ h; omega)
            have sb93_ := sb93.ev e15 (fun i hi h => by have := lb93 i hi; have := lb10_5 _ h; omega)
            replace BL := BL_; clear BL_
            replace D := D_; clear D_
            replace b93 := b93_; clear b93_
            replace sb93 := sb93_; clear sb93_
            replace b10 := rva6
            clear rva6 e15
            have lb10_10 := b10.ge
            refine ze 17 ⟨BL, D, by omega⟩ ?_
            simp only [sZ, sS]
            refine zv 18 3 (va6) (fun _ _ => .of) ⟨BL, D, by omega⟩ ?_
            simp only [sZ, sS]
            refine zd (by kernel_rfl) ?_ _
            refine hK11 _ _ ?_
            refine cPlain ?_
            refine sv 49 (.int .i64 ((16 + k : Nat) : Int)) .of ?_
            simp only [sZ, sS]
            refine sv 50 (.int .i64 ((16 + (k + 1) : Nat) : Int)) (Val.as (Val.add 3 _ (.tmp 49) _ rfl ((16 + k : Nat) : Int) 1 (by kernel_rfl) (by kernel_rfl) (by omega)) (congrArg (Value.int .i64) (by omega))) ?_
            simp only [sZ, sS]
            refine sv 5 (.int .i64 ((16 + (k + 1) : Nat) : Int)) .of ?_
            simp only [sZ, sS]
            refine wpList_nil ?_
            refine ⟨_, ?_, k + 1, va6, W ++ [eR W k], rfl, (by omega), (by rw [hc1_1, wordsR_succ]), cutE, BL, D, (b10.cast (by rw [nn_app]; rfl)), by omega⟩
            omega
        · skip
          refine sv 91 (.int .u32 ((W.getD k 0 : Nat) : Int)) (Val.nldE 31 _ rfl u k (by kernel_rfl) (fun _ => (by kernel_rfl)) b10.sl (by omega)) ?_
          refine ze 14 ⟨BL, D, by omega⟩ ?_
          simp only [sZ, sS]
          refine zo1 5 rfl ?_
          refine sv 82 (elemP u (9 + k)) (Val.idxE 158 (.tmp 79) (.tmp 81) rfl u (9 + k) (by kernel_rfl) (by kernel_rfl) b10.sl Try.underlying158 (by kernel_rfl) (by rw [nn_len, hWl]; omega)) ?_
          refine ze 5 ⟨BL, D, by omega⟩ ?_
          simp only [sZ, sS]
          refine zo1 6 rfl ?_
          refine sv 83 (.int .u32 ((W.getD (9 + k) 0 : Nat) : Int)) (Val.nldE 31 _ rfl u (9 + k) (by kernel_rfl) (fun _ => (by kernel_rfl)) b10.sl (by omega)) ?_
          refine ze 6 ⟨BL, D, by omega⟩ ?_
          simp only [sZ, sS]
          refine zv 7 84 (.int .u32 ((((shr3 (W.getD (14 + k) 0) 17 19 10) + (W.getD (9 + k) 0)) % 4294967296 : Nat) : Int)) (fun _ ⟨BL, D, z3⟩ => Val.addN 31 _ (.tmp 78) (.tmp 83) rfl .u32 (shr3 (W.getD (14 + k) 0) 17 19 10) (W.getD (9 + k) 0) 4294967296 (by kernel_rfl) (by kernel_rfl)) ⟨BL, D, by omega⟩ ?_
          simp only [sZ, sS]
          refine zv 9 86 (.int .u32 ((((((shr3 (W.getD (14 + k) 0) 17 19 10) + (W.getD (9 + k) 0)) % 4294967296) + (shr3 (W.getD (1 + k) 0) 7 18 3)) % 4294967296 : Nat) : Int)) (fun _ ⟨BL, D, z3⟩ => Val.addN 31 _ (.tmp 84) (.tmp 85) rfl .u32 (((shr3 (W.getD (14 + k) 0) 17 19 10) + (W.getD (9 + k) 0)) % 4294967296) (shr3 (W.getD (1 + k) 0) 7 18 3) 4294967296 (by kernel_rfl) (by kernel_rfl)) ⟨BL, D, by omega⟩ ?_
          simp only [sZ, sS]
          refine zv 15 92 (.int .u32 ((eR W k : Nat) : Int)) (fun _ ⟨BL, D, z3⟩ => Val.asN (Val.addN 31 _ (.tmp 86) (.tmp 91) rfl .u32 (((((shr3 (W.getD (14 + k) 0) 17 19 10) + (W.getD (9 + k) 0)) % 4294967296) + (shr3 (W.getD (1 + k) 0) 7 18 3)) % 4294967296) (W.getD k 0) 4294967296 (by kernel_rfl) (by kernel_rfl)) (by unfold eR; rfl)) ⟨BL, D, by omega⟩ ?_
          simp only [sZ, sS]
          refine zo1 16 rfl ?_
          refine xLit 93 158 31 1 _ #[(0, .int .u32 ((eR W k : Nat) : Int))] [.int .u32 ((eR W k : Nat) : Int)] rfl (by kernel_rfl) (by kernel_rfl) ?_
          intro w23 n8
          have zn8 := n8.z
          have b93 := n8.c
          replace b93 : Blk .u32 w23 w12.heap.size 31 [((eR W k : Nat) : Int)] := b93
          replace BL := BL.e0 n8.e
          replace D := D.e0 n8.e
          replace b10 := b10.e0 n8.e
          have sb93 : SL .u32 w23 (.slice (some ⟨w12.heap.size, 0, none⟩) 1 1) [((eR W k : Nat) : Int)] := SL.ofBlk b93 rfl (by unfold maxLen; omega)
          have lb93 : ∀ i, Value.ownBlock (.slice (some ⟨w12.heap.size, 0, none⟩) 1 1) = some i → w12.heap.size ≤ i ∧ i < w23.heap.size := ownB_lit (by omega)
          refine ze 16 ⟨BL, D, by omega⟩ ?_
          simp only [sZ, sS]
          refine zo1 17 rfl ?_
          refine xApp 94 (.tmp 77) (.tmp 93) 158 31 .u32 4 rfl Try.underlying158 (by kernel_rfl) w.heap.size u (nn W) (by kernel_rfl) b10 (.slice (some ⟨w12.heap.size, 0, none⟩) 1 1) [((eR W k : Nat) : Int)] (by kernel_rfl) sb93 ?va7_1 ?va7_2 ?va7_3 ?_
          case va7_1 => (simp only [nn_len, wR_len, wordsR_len, List.length_cons, List.length_nil]; omega)
          case va7_2 => (simp only [nn_len, wR_len, wordsR_len, List.length_cons, List.length_nil]; unfold maxLen; omega)
          case va7_3 => omega
          intro va7 w24 rva7 e16
          have ze16 := e16.size
          have BL_ := BL.ev e16 (fun i h => by have := lb10_5 _ h; omega)
          have D_ := D.ev e16 (fun i hi h => by have := hd i hi; have := lb10_5 _ h; omega)
          have b93_ := b93.ev e16 (fun h => by have := lb10_5 _ h; omega)
          have sb93_ := sb93.ev e16 (fun i hi h => by have := lb93 i hi; have := lb10_5 _ h; omega)
          replace BL := BL_; clear BL_
          replace D := D_; clear D_
          replace b93 := b93_; clear b93_
          replace sb93 := sb93_; clear sb93_
          replace b10 := rva7
          clear rva7 e16
          have lb10_11 := b10.ge
          refine ze 17 ⟨BL, D, by omega⟩ ?_
          simp only [sZ, sS]
          refine zv 18 3 (va7) (fun _ _ => .of) ⟨BL, D, by omega⟩ ?_
          simp only [sZ, sS]
          refine zd (by kernel_rfl) ?_ _
          refine hK11 _ _ ?_
          refine cPlain ?_
          refine sv 49 (.int .i64 ((16 + k : Nat) : Int)) .of ?_
          simp only [sZ, sS]
          refine sv 50 (.int .i64 ((16 + (k + 1) : Nat) : Int)) (Val.as (Val.add 3 _ (.tmp 49) _ rfl ((16 + k : Nat) : Int) 1 (by kernel_rfl) (by kernel_rfl) (by omega)) (congrArg (Value.int .i64) (by omega))) ?_
          simp only [sZ, sS]
          refine sv 5 (.int .i64 ((16 + (k + 1) : Nat) : Int)) .of ?_
          simp only [sZ, sS]
          refine wpList_nil ?_
          refine ⟨_, ?_, k + 1, va7, W ++ [eR W k], rfl, (by omega), (by rw [hc1_1, wordsR_succ]), cutE, BL, D, (b10.cast (by rw [nn_app]; rfl)), by omega⟩
          omega
    · skip
      have hk48 : W = wordsR b 48 := by rw [hc1_1, show k = 48 by omega]
      subst hk48
      refine wp_exit ?_
      simp only [Exit.then, Exit.inBlock, ↓reduceIte, Nat.reduceEqDiff]
      refine hK7 _ _ ?_
      refine wp_seq_k fun K15 hK15 => ?_
      refine cPlain ?_
      refine sv 95 (u) .of ?_
      simp only [sZ, sS]
      refine sv 2 (u) .of ?_
      simp only [sZ, sS]
      refine wpList_nil ?_
      refine hK15 _ _ ?_
      refine wp_ret ?_
      (try simp only [Exit.then, Exit.inBlock])
      refine bodyPost_ret (v := u) rT rfl ?_
      exact ⟨_, rfl, b10.mono (by omega), BL.b⟩

theorem not32 {e : Nat} (h : e < 4294967296) : (4294967295 - e) % 4294967296 = ((4294967296 - 1) ^^^ e) % 4294967296 := by
  have e1 : (4294967296 - 1) ^^^ e = 4294967295 - e := by
    rw [show 4294967295 - e = 2 ^ 32 - (e + 1) by omega]
    apply Nat.eq_of_testBit_eq
    intro i
    rw [Nat.testBit_two_pow_sub_succ h, Nat.testBit_xor, show (4294967296 - 1 : Nat) = 2 ^ 32 - 1 by rfl, Nat.testBit_two_pow_sub_one]
    by_cases hi : i < 32
    · simp [hi]
    · simp [hi]
      have h32 : 2 ^ 32 ≤ 2 ^ i := Nat.pow_le_pow_right (show 0 < 2 by decide) (by omega)
      exact Nat.testBit_lt_two_pow (Nat.lt_of_lt_of_le h h32)
  rw [e1]
theorem rounds_lt {tab W s : List Nat} (hs : ∀ i, s.getD i 0 < 4294967296) : ∀ k i, (rounds tab W s k).getD i 0 < 4294967296
  | 0, i => hs i
  | k + 1, i => by
    have ih := rounds_lt (tab := tab) (W := W) hs k
    show (stepC _ _ (rounds tab W s k)).getD i 0 < _
    unfold stepC
    match i with
    | 0 => exact Nat.mod_lt _ (by decide)
    | 1 => exact ih 0
    | 2 => exact ih 1
    | 3 => exact ih 2
    | 4 => exact Nat.mod_lt _ (by decide)
    | 5 => exact ih 4
    | 6 => exact ih 5
    | 7 => exact ih 6
    | (n + 8) => simp
theorem getD_32 {s : List Nat} (h : ∀ x ∈ s, x < 4294967296) (i : Nat) : s.getD i 0 < 4294967296 := by
  rw [List.getD_eq_getElem?_getD]
  cases e : s[i]? with
  | none => simp
  | some x => exact h x (List.mem_of_getElem? e)
theorem sums_8 (s V : List Nat) (h : V.length = 8) : sums s V 8 = [(V.getD 0 0 + s.getD 0 0) % 4294967296, (V.getD 1 0 + s.getD 1 0) % 4294967296, (V.getD 2 0 + s.getD 2 0) % 4294967296, (V.getD 3 0 + s.getD 3 0) % 4294967296, (V.getD 4 0 + s.getD 4 0) % 4294967296, (V.getD 5 0 + s.getD 5 0) % 4294967296, (V.getD 6 0 + s.getD 6 0) % 4294967296, (V.getD 7 0 + s.getD 7 0) % 4294967296] := by
  match V, h with
  | [a, b, c, d, e, f, g, i], _ => rfl

set_option maxHeartbeats 4000000 in
theorem rblock_any (tab s b : List Nat) (v : Value) (ht : tab.length = 72) (hs : s.length = 8) (hs32 : ∀ x ∈ s, x < 4294967296) (hb : b.length = 64) (hb8 : ∀ x ∈ b, x < 256) (w : World) (D : SL .u8 w v (nn b)) :
    Calls Try.prog 116 #[.agg (cellsOf .u32 (nn tab)), .agg (cellsOf .u32 (nn s)), v] w fun e w' => e = .returned (.agg (cellsOf .u32 (nn (blockN tab s b)))) ∧ Below w.heap.size w w' := by
  have BL := Bl.refl w
  have hd := D.lt
  have hWl := wordsR_len b 48
  have hsg := getD_32 hs32
  have hfin : ∀ V, V = rounds tab (wordsR b 48) s 64 → sums s V 8 = blockN tab s b := fun V h => by unfold blockN; rw [words_eq hb8, h]
  obtain ⟨W, hW⟩ : ∃ W, wordsR b 48 = W := ⟨_, rfl⟩
  rw [hW] at hWl hfin
  go_enter Try.func116, Try.ntmps116
  refine wp_seq_k fun K1 hK1 => ?_
  refine cPlain ?_
  refine xBox 3 35 _ ((nn tab).map (Value.int .u32)) rfl (cells_toList _ _) ?_
  intro w1 n1
  have zn1 := n1.z
  have b3 := n1.c
  replace b3 : Blk .u32 w1 w.heap.size 35 (nn tab) := b3
  replace BL := BL.e0 n1.e
  replace D := D.e0 n1.e
  simp only [sZ, sS]
  refine xBox 4 32 _ ((nn s).map (Value.int .u32)) rfl (cells_toList _ _) ?_
  intro w2 n2
  have zn2 := n2.z
  have b4 := n2.c
  replace b4 : Blk .u32 w2 w1.heap.size 32 (nn s) := b4
  replace BL := BL.e0 n2.e
  replace D := D.e0 n2.e
  replace b3 := b3.e0 n2.e
  simp only [sZ, sS]
  refine xAlloc 6 32 ((nn (List.replicate 8 0)).map (Value.int .u32)) rfl (by kernel_rfl) ?_
  intro w3 n3
  have zn3 := n3.z
  have b6 := n3.c
  replace b6 : Blk .u32 w3 w2.heap.size 32 (nn (List.replicate 8 0)) := b6
  replace BL := BL.e0 n3.e
  replace D := D.e0 n3.e
  replace b3 := b3.e0 n3.e
  replace b4 := b4.e0 n3.e
  simp only [sZ, sS]
  refine wpList_nil ?_
  refine hK1 _ _ ?_
  refine wp_seq_k fun K2 hK2 => ?_
  refine cPlain ?_
  refine sv 19 (v) .of ?_
  simp only [sZ, sS]
  refine xCall 20 120 #[v] (by kernel_rfl) ?_
  refine (rwords_any b v hb w3 D).mono ?_
  rintro en w4 ⟨u, rfl, hO, hb1⟩
  rw [hW] at hO
  have e1 := belE0 hb1
  have ze1 := e1.size
  replace BL := BL.e0 e1
  replace b3 := b3.e0 e1
  replace b4 := b4.e0 e1
  replace b6 := b6.e0 e1
  clear e1
  have WO : Own 31 .u32 w3.heap.size w4 u (nn W) := hO
  have lWO_1 := WO.ge
  refine ⟨u, rfl, ?_⟩
  simp only [sZ, sS]
  refine sv 7 (u) .of ?_
  simp only [sZ, sS]
  refine wpList_nil ?_
  refine hK2 _ _ ?_
  refine wp_seq_k fun K3 hK3 => ?_
  have e2 := drew_e0 w4
  refine zg (fun w_ => Bl w.heap.size w w_ ∧ Blk .u32 w_ w.heap.size 35 (nn tab) ∧ Blk .u32 w_ w1.heap.size 32 (nn s) ∧ Blk .u32 w_ w2.heap.size 32 (nn (List.replicate 8 0)) ∧ Own 31 .u32 w3.heap.size w_ u (nn W) ∧ w4.heap.size ≤ w_.heap.size) (fun w_ => Bl w.heap.size w w_ ∧ Blk .u32 w_ w.heap.size 35 (nn tab) ∧ Blk .u32 w_ w1.heap.size 32 (nn s) ∧ Blk .u32 w_ w2.heap.size 32 (nn (List.replicate 8 0)) ∧ Own 31 .u32 w3.heap.size w_ u (nn W) ∧ w4.heap.size ≤ w_.heap.size) 100000 24 ⟨BL.e0 e2, b3.e0 e2, b4.e0 e2, b6.e0 e2, WO.e0 e2, Nat.le_refl _⟩ ?_
  clear BL b3 b4 b6 WO
  clear e2
  intro w5
  rintro ⟨BL, b3, b4, b6, WO, z1⟩
  refine zv 0 21 (.pointer (some ⟨w1.heap.size, 0, none⟩)) (fun _ _ => .of) ⟨BL, b3, b4, b6, WO, by omega⟩ ?_
  simp only [sZ, sS]
  refine zv 1 22 (.int .u32 ((s.getD 0 0 : Nat) : Int)) (fun _ ⟨BL, b3, b4, b6, WO, z1⟩ => Val.nblk1 31 _ rfl w1.heap.size 0 (by kernel_rfl) (fun _ => (by kernel_rfl)) b4 (by omega)) ⟨BL, b3, b4, b6, WO, by omega⟩ ?_
  simp only [sZ, sS]
  refine zv 2 23 (.pointer (some ⟨w1.heap.size, 1, none⟩)) (fun _ _ => .of) ⟨BL, b3, b4, b6, WO, by omega⟩ ?_
  simp only [sZ, sS]
  refine zv 3 24 (.int .u32 ((s.getD 1 0 : Nat) : Int)) (fun _ ⟨BL, b3, b4, b6, WO, z1⟩ => Val.nblk1 31 _ rfl w1.heap.size 1 (by kernel_rfl) (fun _ => (by kernel_rfl)) b4 (by omega)) ⟨BL, b3, b4, b6, WO, by omega⟩ ?_
  simp only [sZ, sS]
  refine zv 4 25 (.pointer (some ⟨w1.heap.size, 2, none⟩)) (fun _ _ => .of) ⟨BL, b3, b4, b6, WO, by omega⟩ ?_
  simp only [sZ, sS]
  refine zv 5 26 (.int .u32 ((s.getD 2 0 : Nat) : Int)) (fun _ ⟨BL, b3, b4, b6, WO, z1⟩ => Val.nblk1 31 _ rfl w1.heap.size 2 (by kernel_rfl) (fun _ => (by kernel_rfl)) b4 (by omega)) ⟨BL, b3, b4, b6, WO, by omega⟩ ?_
  simp only [sZ, sS]
  refine zv 6 27 (.pointer (some ⟨w1.heap.size, 3, none⟩)) (fun _ _ => .of) ⟨BL, b3, b4, b6, WO, by omega⟩ ?_
  simp only [sZ, sS]
  refine zv 7 28 (.int .u32 ((s.getD 3 0 : Nat) : Int)) (fun _ ⟨BL, b3, b4, b6, WO, z1⟩ => Val.nblk1 31 _ rfl w1.heap.size 3 (by kernel_rfl) (fun _ => (by kernel_rfl)) b4 (by omega)) ⟨BL, b3, b4, b6, WO, by omega⟩ ?_
  simp only [sZ, sS]
  refine zv 8 29 (.pointer (some ⟨w1.heap.size, 4, none⟩)) (fun _ _ => .of) ⟨BL, b3, b4, b6, WO, by omega⟩ ?_
  simp only [sZ, sS]
  refine zv 9 30 (.int .u32 ((s.getD 4 0 : Nat) : Int)) (fun _ ⟨BL, b3, b4, b6, WO, z1⟩ => Val.nblk1 31 _ rfl w1.heap.size 4 (by kernel_rfl) (fun _ => (by kernel_rfl)) b4 (by omega)) ⟨BL, b3, b4, b6, WO, by omega⟩ ?_
  simp only [sZ, sS]
  refine zv 10 31 (.pointer (some ⟨w1.heap.size, 5, none⟩)) (fun _ _ => .of) ⟨BL, b3, b4, b6, WO, by omega⟩ ?_
  simp only [sZ, sS]
  refine zv 11 32 (.int .u32 ((s.getD 5 0 : Nat) : Int)) (fun _ ⟨BL, b3, b4, b6, WO, z1⟩ => Val.nblk1 31 _ rfl w1.heap.size 5 (by kernel_rfl) (fun _ => (by kernel_rfl)) b4 (by omega)) ⟨BL, b3, b4, b6, WO, by omega⟩ ?_
  simp only [sZ, sS]
  refine zv 12 33 (.pointer (some ⟨w1.heap.size, 6, none⟩)) (fun _ _ => .of) ⟨BL, b3, b4, b6, WO, by omega⟩ ?_
  simp only [sZ, sS]
  refine zv 13 34 (.int .u32 ((s.getD 6 0 : Nat) : Int)) (fun _ ⟨BL, b3, b4, b6, WO, z1⟩ => Val.nblk1 31 _ rfl w1.heap.size 6 (by kernel_rfl) (fun _ => (by kernel_rfl)) b4 (by omega)) ⟨BL, b3, b4, b6, WO, by omega⟩ ?_
  simp only [sZ, sS]
  refine zv 14 35 (.pointer (some ⟨w1.heap.size, 7, none⟩)) (fun _ _ => .of) ⟨BL, b3, b4, b6, WO, by omega⟩ ?_
  simp only [sZ, sS]
  refine zv 15 36 (.int .u32 ((s.getD 7 0 : Nat) : Int)) (fun _ ⟨BL, b3, b4, b6, WO, z1⟩ => Val.nblk1 31 _ rfl w1.heap.size 7 (by kernel_rfl) (fun _ => (by kernel_rfl)) b4 (by omega)) ⟨BL, b3, b4, b6, WO, by omega⟩ ?_
  simp only [sZ, sS]
  refine zv 16 8 (.int .u32 ((s.getD 0 0 : Nat) : Int)) (fun _ _ => .of) ⟨BL, b3, b4, b6, WO, by omega⟩ ?_
  simp only [sZ, sS]
  refine zv 17 9 (.int .u32 ((s.getD 1 0 : Nat) : Int)) (fun _ _ => .of) ⟨BL, b3, b4, b6, WO, by omega⟩ ?_
  simp only [sZ, sS]
  refine zv 18 10 (.int .u32 ((s.getD 2 0 : Nat) : Int)) (fun _ _ => .of) ⟨BL, b3, b4, b6, WO, by omega⟩ ?_
  simp only [sZ, sS]
  refine zv 19 11 (.int .u32 ((s.getD 3 0 : Nat) : Int)) (fun _ _ => .of) ⟨BL, b3, b4, b6, WO, by omega⟩ ?_
  simp only [sZ, sS]
  refine zv 20 12 (.int .u32 ((s.getD 4 0 : Nat) : Int)) (fun _ _ => .of) ⟨BL, b3, b4, b6, WO, by omega⟩ ?_
  simp only [sZ, sS]
  refine zv 21 13 (.int .u32 ((s.getD 5 0 : Nat) : Int)) (fun _ _ => .of) ⟨BL, b3, b4, b6, WO, by omega⟩ ?_
  simp only [sZ, sS]
  refine zv 22 14 (.int .u32 ((s.getD 6 0 : Nat) : Int)) (fun _ _ => .of) ⟨BL, b3, b4, b6, WO, by omega⟩ ?_
  simp only [sZ, sS]
  refine zv 23 15 (.int .u32 ((s.getD 7 0 : Nat) : Int)) (fun _ _ => .of) ⟨BL, b3, b4, b6, WO, by omega⟩ ?_
  simp only [sZ, sS]
  refine zd (by kernel_rfl) ?_ _
  refine hK3 _ _ ?_
  refine wp_seq_k fun K4 hK4 => ?_
  refine wp_seq_k fun K5 hK5 => ?_
  refine cPlain ?_
  refine sv 16 (.int .i64 0) .of ?_
  simp only [sZ, sS]
  refine wpList_nil ?_
  refine hK5 _ _ ?_
  refine wp_block ?_
  refine cLoop (fun N_ A_ w_ => ∃ (r : Nat) (V : List Nat), (N_ = 64 - r ∧ (r ≤ 64) ∧ (V = rounds tab W s r) ∧ (∃ s1 : Nat → Value, A_ = ⟨[.agg (cellsOf .u32 (nn tab)), .agg (cellsOf .u32 (nn s)), v, .pointer (some ⟨w.heap.size, 0, none⟩), .pointer (some ⟨w1.heap.size, 0, none⟩), undef, .pointer (some ⟨w2.heap.size, 0, none⟩), u, .int .u32 ((V.getD 0 0 : Nat) : Int), .int .u32 ((V.getD 1 0 : Nat) : Int), .int .u32 ((V.getD 2 0 : Nat) : Int), .int .u32 ((V.getD 3 0 : Nat) : Int), .int .u32 ((V.getD 4 0 : Nat) : Int), .int .u32 ((V.getD 5 0 : Nat) : Int), .int .u32 ((V.getD 6 0 : Nat) : Int), .int .u32 ((V.getD 7 0 : Nat) : Int), .int .i64 ((r : Nat) : Int), (s1 17), (s1 18), v, u, .pointer (some ⟨w1.heap.size, 0, none⟩), .int .u32 ((s.getD 0 0 : Nat) : Int), .pointer (some ⟨w1.heap.size, 1, none⟩), .int .u32 ((s.getD 1 0 : Nat) : Int), .pointer (some ⟨w1.heap.size, 2, none⟩), .int .u32 ((s.getD 2 0 : Nat) : Int), .pointer (some ⟨w1.heap.size, 3, none⟩), .int .u32 ((s.getD 3 0 : Nat) : Int), .pointer (some ⟨w1.heap.size, 4, none⟩), .int .u32 ((s.getD 4 0 : Nat) : Int), .pointer (some ⟨w1.heap.size, 5, none⟩), .int .u32 ((s.getD 5 0 : Nat) : Int), .pointer (some ⟨w1.heap.size, 6, none⟩), .int .u32 ((s.getD 6 0 : Nat) : Int), .pointer (some ⟨w1.heap.size, 7, none⟩), .int .u32 ((s.getD 7 0 : Nat) : Int), (s1 37), (s1 38), (s1 39), (s1 40), (s1 41), (s1 42), (s1 43), (s1 44), (s1 45), (s1 46), (s1 47), (s1 48), (s1 49), (s1 50), (s1 51), (s1 52), (s1 53), (s1 54), (s1 55), (s1 56), (s1 57), (s1 58), (s1 59), (s1 60), (s1 61), (s1 62), (s1 63), (s1 64), (s1 65), (s1 66), (s1 67), (s1 68), (s1 69), (s1 70), (s1 71), (s1 72), (s1 73), (s1 74), (s1 75), (s1 76), (s1 77), (s1 78), (s1 79), (s1 80), (s1 81), (s1 82), (s1 83), (s1 84), (s1 85), (s1 86), (s1 87), (s1 88), (s1 89), (s1 90), (s1 91), (s1 92), (s1 93), (s1 94), (s1 95), (s1 96), (s1 97), (s1 98), (s1 99), (s1 100), (s1 101), undef, undef, undef, undef, undef, undef, undef, undef, undef, undef, undef, undef, undef, undef, undef, undef, undef, undef, undef, undef, undef, undef, undef, undef, undef, undef, undef, undef, undef, undef, undef, undef, undef].toArray, []⟩) ∧ Bl w.heap.size w w_ ∧ Blk .u32 w_ w.heap.size 35 (nn tab) ∧ Blk .u32 w_ w1.heap.size 32 (nn s) ∧ Blk .u32 w_ w2.heap.size 32 (nn (List.replicate 8 0)) ∧ Own 31 .u32 w3.heap.size w_ u (nn W) ∧ w5.heap.size ≤ w_.heap.size)) _ ⟨0, s, rfl, (Nat.zero_le _), rfl, cutE, BL, b3, b4, b6, WO, Nat.le_refl _⟩ ?_
  clear BL b3 b4 b6 WO
  rintro n_ a_ wl0 ⟨r, V, rfl, hc0_0, hc0_1, ⟨s1, rfl⟩, BL, b3, b4, b6, WO, zl0⟩
  have lWO_2 := WO.ge
  have hV : ∀ i, V.getD i 0 < 4294967296 := fun i => by rw [hc0_1]; exact rounds_lt hsg r i
  refine wp_seq_k fun K6 hK6 => ?_
  refine wp_seq_k fun K7 hK7 => ?_
  refine cPlain ?_
  refine sv 37 (.int .i64 ((r : Nat) : Int)) .of ?_
  simp only [sZ, sS]
  refine sv 38 (.bool (decide (((r : Nat) : Int) < 64))) (Val.cmp .lss 3 _ (.tmp 37) _ rfl .i64 ((r : Nat) : Int) 64 (by kernel_rfl) (by kernel_rfl) (by simp) _ rfl) ?_
  simp only [sZ, sS]
  refine wpList_nil ?_
  refine hK7 _ _ ?_
  refine cDec (((r : Nat) : Int) < 64) (by kernel_rfl) (fun c38 => ?_) (fun c38 => ?_)
  · skip
    refine wp_skip ?_
    refine hK6 _ _ ?_
    refine wp_seq_k fun K8 hK8 => ?_
    refine wp_block ?_
    refine wp_seq_k fun K9 hK9 => ?_
    have e3 := drew_e0 wl0
    refine zg (fun w_ => Bl w.heap.size w w_ ∧ Blk .u32 w_ w.heap.size 35 (nn tab) ∧ Blk .u32 w_ w1.heap.size 32 (nn s) ∧ Blk .u32 w_ w2.heap.size 32 (nn (List.replicate 8 0)) ∧ Own 31 .u32 w3.heap.size w_ u (nn W) ∧ wl0.heap.size ≤ w_.heap.size) (fun w_ => Bl w.heap.size w w_ ∧ Blk .u32 w_ w.heap.size 35 (nn tab) ∧ Blk .u32 w_ w1.heap.size 32 (nn s) ∧ Blk .u32 w_ w2.heap.size 32 (nn (List.replicate 8 0)) ∧ Own 31 .u32 w3.heap.size w_ u (nn W) ∧ wl0.heap.size ≤ w_.heap.size) 100000 30 ⟨BL.e0 e3, b3.e0 e3, b4.e0 e3, b6.e0 e3, WO.e0 e3, Nat.le_refl _⟩ ?_
    clear BL b3 b4 b6 WO
    clear e3
    intro w6
    rintro ⟨BL, b3, b4, b6, WO, z2⟩
    refine zv 0 41 (.int .u32 ((V.getD 7 0 : Nat) : Int)) (fun _ _ => .of) ⟨BL, b3, b4, b6, WO, by omega⟩ ?_
    simp only [sZ, sS]
    refine zv 1 42 (.int .u32 ((V.getD 4 0 : Nat) : Int)) (fun _ _ => .of) ⟨BL, b3, b4, b6, WO, by omega⟩ ?_
    simp only [sZ, sS]
    refine zv 3 44 (.int .u32 ((V.getD 4 0 : Nat) : Int)) (fun _ _ => .of) ⟨BL, b3, b4, b6, WO, by omega⟩ ?_
    simp only [sZ, sS]
    refine zv 6 47 (.int .u32 ((V.getD 4 0 : Nat) : Int)) (fun _ _ => .of) ⟨BL, b3, b4, b6, WO, by omega⟩ ?_
    simp only [sZ, sS]
    refine zv 10 51 (.int .u32 ((V.getD 4 0 : Nat) : Int)) (fun _ _ => .of) ⟨BL, b3, b4, b6, WO, by omega⟩ ?_
    simp only [sZ, sS]
    refine zv 11 52 (.int .u32 ((V.getD 5 0 : Nat) : Int)) (fun _ _ => .of) ⟨BL, b3, b4, b6, WO, by omega⟩ ?_
    simp only [sZ, sS]
    refine zv 12 53 (.int .u32 ((((V.getD 4 0) &&& (V.getD 5 0)) % 4294967296 : Nat) : Int)) (fun _ ⟨BL, b3, b4, b6, WO, z2⟩ => Val.andN 31 _ (.tmp 51) (.tmp 52) rfl .u32 (V.getD 4 0) (V.getD 5 0) 4294967296 (by kernel_rfl) (by kernel_rfl)) ⟨BL, b3, b4, b6, WO, by omega⟩ ?_
    simp only [sZ, sS]
    refine zv 13 54 (.int .u32 ((V.getD 4 0 : Nat) : Int)) (fun _ _ => .of) ⟨BL, b3, b4, b6, WO, by omega⟩ ?_
    simp only [sZ, sS]
    refine zv 14 55 (.int .u32 ((((4294967296 - 1) ^^^ (V.getD 4 0)) % 4294967296 : Nat) : Int)) (fun _ ⟨BL, b3, b4, b6, WO, z2⟩ => Val.asN (Val.subN 31 _ _ (.tmp 54) rfl .u32 4294967295 (V.getD 4 0) 4294967296 (by kernel_rfl) (by kernel_rfl) (by have := hV 4; omega)) (not32 (hV 4))) ⟨BL, b3, b4, b6, WO, by omega⟩ ?_
    simp only [sZ, sS]
    refine zv 15 56 (.int .u32 ((V.getD 6 0 : Nat) : Int)) (fun _ _ => .of) ⟨BL, b3, b4, b6, WO, by omega⟩ ?_
    simp only [sZ, sS]
    refine zv 16 57 (.int .u32 ((((((4294967296 - 1) ^^^ (V.getD 4 0)) % 4294967296) &&& (V.getD 6 0)) % 4294967296 : Nat) : Int)) (fun _ ⟨BL, b3, b4, b6, WO, z2⟩ => Val.andN 31 _ (.tmp 55) (.tmp 56) rfl .u32 (((4294967296 - 1) ^^^ (V.getD 4 0)) % 4294967296) (V.getD 6 0) 4294967296 (by kernel_rfl) (by kernel_rfl)) ⟨BL, b3, b4, b6, WO, by omega⟩ ?_
    simp only [sZ, sS]
    refine zv 17 58 (.int .u32 ((((((V.getD 4 0) &&& (V.getD 5 0)) % 4294967296) ^^^ (((((4294967296 - 1) ^^^ (V.getD 4 0)) % 4294967296) &&& (V.getD 6 0)) % 4294967296)) % 4294967296 : Nat) : Int)) (fun _ ⟨BL, b3, b4, b6, WO, z2⟩ => Val.xorN 31 _ (.tmp 53) (.tmp 57) rfl .u32 (((V.getD 4 0) &&& (V.getD 5 0)) % 4294967296) (((((4294967296 - 1) ^^^ (V.getD 4 0)) % 4294967296) &&& (V.getD 6 0)) % 4294967296) 4294967296 (by kernel_rfl) (by kernel_rfl)) ⟨BL, b3, b4, b6, WO, by omega⟩ ?_
    simp only [sZ, sS]
    refine zv 19 60 (.int .i64 ((r : Nat) : Int)) (fun _ _ => .of) ⟨BL, b3, b4, b6, WO, by omega⟩ ?_
    simp only [sZ, sS]
    refine zv 20 61 (.pointer (some ⟨w.heap.size, 8, none⟩)) (fun _ _ => .of) ⟨BL, b3, b4, b6, WO, by omega⟩ ?_
    simp only [sZ, sS]
    refine zv 21 62 (.pointer (some ⟨w.heap.size, 8 + r, none⟩)) (fun _ ⟨BL, b3, b4, b6, WO, z2⟩ => Val.idxA1 33 (.tmp 61) (.tmp 60) rfl w.heap.size 8 r (by kernel_rfl) (by kernel_rfl) Try.underlying33 (by kernel_rfl) (by omega)) ⟨BL, b3, b4, b6, WO, by omega⟩ ?_
    simp only [sZ, sS]
    refine zv 22 63 (.int .u32 ((tab.getD (8 + r) 0 : Nat) : Int)) (fun _ ⟨BL, b3, b4, b6, WO, z2⟩ => Val.nblk1 31 _ rfl w.heap.size (8 + r) (by kernel_rfl) (fun _ => (by kernel_rfl)) b3 (by omega)) ⟨BL, b3, b4, b6, WO, by omega⟩ ?_
    simp only [sZ, sS]
    refine zv 24 65 (u) (fun _ _ => .of) ⟨BL, b3, b4, b6, WO, by omega⟩ ?_
    simp only [sZ, sS]
    refine zv 25 66 (.int .i64 ((r : Nat) : Int)) (fun _ _ => .of) ⟨BL, b3, b4, b6, WO, by omega⟩ ?_
    simp only [sZ, sS]
    refine zv 26 67 (elemP u r) (fun _ ⟨BL, b3, b4, b6, WO, z2⟩ => Val.idxE 158 (.tmp 65) (.tmp 66) rfl u r (by kernel_rfl) (by kernel_rfl) WO.sl Try.underlying158 (by kernel_rfl) (by rw [nn_len]; omega)) ⟨BL, b3, b4, b6, WO, by omega⟩ ?_
    simp only [sZ, sS]
    refine zv 27 68 (.int .u32 ((W.getD r 0 : Nat) : Int)) (fun _ ⟨BL, b3, b4, b6, WO, z2⟩ => Val.nldE 31 _ rfl u r (by kernel_rfl) (fun _ => (by kernel_rfl)) WO.sl (by omega)) ⟨BL, b3, b4, b6, WO, by omega⟩ ?_
    simp only [sZ, sS]
    refine zo1 2 rfl ?_
    refine xCall 43 121 #[.int .u32 ((V.getD 4 0 : Nat) : Int), .int .i64 6] (by kernel_rfl) ?_
    refine (rror_any (V.getD 4 0) 6 (by omega) w6).mono ?_
    rintro en w7 ⟨rfl, hb1⟩
    have e4 := belE0 hb1
    have ze4 := e4.size
    replace BL := BL.e0 e4
    replace b3 := b3.e0 e4
    replace b4 := b4.e0 e4
    replace b6 := b6.e0 e4
    replace WO := WO.e0 e4
    clear e4
    refine ⟨.int .u32 ((rotR (V.getD 4 0) 6 : Nat) : Int), rfl, ?_⟩
    refine ze 2 ⟨BL, b3, b4, b6, WO, by omega⟩ ?_
    simp only [sZ, sS]
    refine zo1 4 rfl ?_
    refine xCall 45 121 #[.int .u32 ((V.getD 4 0 : Nat) : Int), .int .i64 11] (by kernel_rfl) ?_
    refine (rror_any (V.getD 4 0) 11 (by omega) w7).mono ?_
    rintro en w8 ⟨rfl, hb1⟩
    have e5 := belE0 hb1
    have ze5 := e5.size
    replace BL := BL.e0 e5
    replace b3 := b3.e0 e5
    replace b4 := b4.e0 e5
    replace b6 := b6.e0 e5
    replace WO := WO.e0 e5
    clear e5
    refine ⟨.int .u32 ((rotR (V.getD 4 0) 11 : Nat) : Int), rfl, ?_⟩
    refine ze 4 ⟨BL, b3, b4, b6, WO, by omega⟩ ?_
    simp only [sZ, sS]
    refine zv 5 46 (.int .u32 ((((rotR (V.getD 4 0) 6) ^^^ (rotR (V.getD 4 0) 11)) % 4294967296 : Nat) : Int)) (fun _ ⟨BL, b3, b4, b6, WO, z2⟩ => Val.xorN 31 _ (.tmp 43) (.tmp 45) rfl .u32 (rotR (V.getD 4 0) 6) (rotR (V.getD 4 0) 11) 4294967296 (by kernel_rfl) (by kernel_rfl)) ⟨BL, b3, b4, b6, WO, by omega⟩ ?_
    simp only [sZ, sS]
    refine zo1 7 rfl ?_
    refine xCall 48 121 #[.int .u32 ((V.getD 4 0 : Nat) : Int), .int .i64 25] (by kernel_rfl) ?_
    refine (rror_any (V.getD 4 0) 25 (by omega) w8).mono ?_
    rintro en w9 ⟨rfl, hb1⟩
    have e6 := belE0 hb1
    have ze6 := e6.size
    replace BL := BL.e0 e6
    replace b3 := b3.e0 e6
    replace b4 := b4.e0 e6
    replace b6 := b6.e0 e6
    replace WO := WO.e0 e6
    clear e6
    refine ⟨.int .u32 ((rotR (V.getD 4 0) 25 : Nat) : Int), rfl, ?_⟩
    refine ze 7 ⟨BL, b3, b4, b6, WO, by omega⟩ ?_
    simp only [sZ, sS]
    refine zv 8 49 (.int .u32 ((ror3 (V.getD 4 0) 6 11 25 : Nat) : Int)) (fun _ ⟨BL, b3, b4, b6, WO, z2⟩ => Val.asN (Val.xorN 31 _ (.tmp 46) (.tmp 48) rfl .u32 (((rotR (V.getD 4 0) 6) ^^^ (rotR (V.getD 4 0) 11)) % 4294967296) (rotR (V.getD 4 0) 25) 4294967296 (by kernel_rfl) (by kernel_rfl)) (by unfold ror3; rfl)) ⟨BL, b3, b4, b6, WO, by omega⟩ ?_
    simp only [sZ, sS]
    refine zv 9 50 (.int .u32 ((((V.getD 7 0) + (ror3 (V.getD 4 0) 6 11 25)) % 4294967296 : Nat) : Int)) (fun _ ⟨BL, b3, b4, b6, WO, z2⟩ => Val.addN 31 _ (.tmp 41) (.tmp 49) rfl .u32 (V.getD 7 0) (ror3 (V.getD 4 0) 6 11 25) 4294967296 (by kernel_rfl) (by kernel_rfl)) ⟨BL, b3, b4, b6, WO, by omega⟩ ?_
    simp only [sZ, sS]
    refine zv 18 59 (.int .u32 ((((((V.getD 7 0) + (ror3 (V.getD 4 0) 6 11 25)) % 4294967296) + (((((V.getD 4 0) &&& (V.getD 5 0)) % 4294967296) ^^^ (((((4294967296 - 1) ^^^ (V.getD 4 0)) % 4294967296) &&& (V.getD 6 0)) % 4294967296)) % 4294967296)) % 4294967296 : Nat) : Int)) (fun _ ⟨BL, b3, b4, b6, WO, z2⟩ => Val.addN 31 _ (.tmp 50) (.tmp 58) rfl .u32 (((V.getD 7 0) + (ror3 (V.getD 4 0) 6 11 25)) % 4294967296) (((((V.getD 4 0) &&& (V.getD 5 0)) % 4294967296) ^^^ (((((4294967296 - 1) ^^^ (V.getD 4 0)) % 4294967296) &&& (V.getD 6 0)) % 4294967296)) % 4294967296) 4294967296 (by kernel_rfl) (by kernel_rfl)) ⟨BL, b3, b4, b6, WO, by omega⟩ ?_
    simp only [sZ, sS]
    refine zv 23 64 (.int .u32 ((((((((V.getD 7 0) + (ror3 (V.getD 4 0) 6 11 25)) % 4294967296) + (((((V.getD 4 0) &&& (V.getD 5 0)) % 4294967296) ^^^ (((((4294967296 - 1) ^^^ (V.getD 4 0)) % 4294967296) &&& (V.getD 6 0)) % 4294967296)) % 4294967296)) % 4294967296) + (tab.getD (8 + r) 0)) % 4294967296 : Nat) : Int)) (fun _ ⟨BL, b3, b4, b6, WO, z2⟩ => Val.addN 31 _ (.tmp 59) (.tmp 63) rfl .u32 (((((V.getD 7 0) + (ror3 (V.getD 4 0) 6 11 25)) % 4294967296) + (((((V.getD 4 0) &&& (V.getD 5 0)) % 4294967296) ^^^ (((((4294967296 - 1) ^^^ (V.getD 4 0)) % 4294967296) &&& (V.getD 6 0)) % 4294967296)) % 4294967296)) % 4294967296) (tab.getD (8 + r) 0) 4294967296 (by kernel_rfl) (by kernel_rfl)) ⟨BL, b3, b4, b6, WO, by omega⟩ ?_
    simp only [sZ, sS]
    refine zv 28 69 (.int .u32 ((stepX V (tab.getD (8 + r) 0) (W.getD r 0) : Nat) : Int)) (fun _ ⟨BL, b3, b4, b6, WO, z2⟩ => Val.asN (Val.addN 31 _ (.tmp 64) (.tmp 68) rfl .u32 (((((((V.getD 7 0) + (ror3 (V.getD 4 0) 6 11 25)) % 4294967296) + (((((V.getD 4 0) &&& (V.getD 5 0)) % 4294967296) ^^^ (((((4294967296 - 1) ^^^ (V.getD 4 0)) % 4294967296) &&& (V.getD 6 0)) % 4294967296)) % 4294967296)) % 4294967296) + (tab.getD (8 + r) 0)) % 4294967296) (W.getD r 0) 4294967296 (by kernel_rfl) (by kernel_rfl)) (by unfold stepX; rfl)) ⟨BL, b3, b4, b6, WO, by omega⟩ ?_
    simp only [sZ, sS]
    refine zv 29 17 (.int .u32 ((stepX V (tab.getD (8 + r) 0) (W.getD r 0) : Nat) : Int)) (fun _ _ => .of) ⟨BL, b3, b4, b6, WO, by omega⟩ ?_
    simp only [sZ, sS]
    refine zd (by kernel_rfl) ?_ _
    refine hK9 _ _ ?_
    refine wp_seq_k fun K10 hK10 => ?_
    refine cPlain ?_
    refine sv 70 (.int .u32 ((V.getD 0 0 : Nat) : Int)) .of ?_
    simp only [sZ, sS]
    refine xCall 71 121 #[.int .u32 ((V.getD 0 0 : Nat) : Int), .int .i64 2] (by kernel_rfl) ?_
    refine (rror_any (V.getD 0 0) 2 (by omega) w9).mono ?_
    rintro en w10 ⟨rfl, hb1⟩
    have e7 := belE0 hb1
    have ze7 := e7.size
    replace BL := BL.e0 e7
    replace b3 := b3.e0 e7
    replace b4 := b4.e0 e7
    replace b6 := b6.e0 e7
    replace WO := WO.e0 e7
    clear e7
    refine ⟨.int .u32 ((rotR (V.getD 0 0) 2 : Nat) : Int), rfl, ?_⟩
    simp only [sZ, sS]
    refine sv 72 (.int .u32 ((V.getD 0 0 : Nat) : Int)) .of ?_
    simp only [sZ, sS]
    refine xCall 73 121 #[.int .u32 ((V.getD 0 0 : Nat) : Int), .int .i64 13] (by kernel_rfl) ?_
    refine (rror_any (V.getD 0 0) 13 (by omega) w10).mono ?_
    rintro en w11 ⟨rfl, hb1⟩
    have e8 := belE0 hb1
    have ze8 := e8.size
    replace BL := BL.e0 e8
    replace b3 := b3.e0 e8
    replace b4 := b4.e0 e8
    replace b6 := b6.e0 e8
    replace WO := WO.e0 e8
    clear e8
    refine ⟨.int .u32 ((rotR (V.getD 0 0) 13 : Nat) : Int), rfl, ?_⟩
    simp only [sZ, sS]
    refine sv 74 (.int .u32 ((((rotR (V.getD 0 0) 2) ^^^ (rotR (V.getD 0 0) 13)) % 4294967296 : Nat) : Int)) (Val.xorN 31 _ (.tmp 71) (.tmp 73) rfl .u32 (rotR (V.getD 0 0) 2) (rotR (V.getD 0 0) 13) 4294967296 (by kernel_rfl) (by kernel_rfl)) ?_
    simp only [sZ, sS]
    refine sv 75 (.int .u32 ((V.getD 0 0 : Nat) : Int)) .of ?_
    simp only [sZ, sS]
    refine xCall 76 121 #[.int .u32 ((V.getD 0 0 : Nat) : Int), .int .i64 22] (by kernel_rfl) ?_
    refine (rror_any (V.getD 0 0) 22 (by omega) w11).mono ?_
    rintro en w12 ⟨rfl, hb1⟩
    have e9 := belE0 hb1
    have ze9 := e9.size
    replace BL := BL.e0 e9
    replace b3 := b3.e0 e9
    replace b4 := b4.e0 e9
    replace b6 := b6.e0 e9
    replace WO := WO.e0 e9
    clear e9
    refine ⟨.int .u32 ((rotR (V.getD 0 0) 22 : Nat) : Int), rfl, ?_⟩
    simp only [sZ, sS]
    refine sv 77 (.int .u32 ((ror3 (V.getD 0 0) 2 13 22 : Nat) : Int)) (Val.asN (Val.xorN 31 _ (.tmp 74) (.tmp 76) rfl .u32 (((rotR (V.getD 0 0) 2) ^^^ (rotR (V.getD 0 0) 13)) % 4294967296) (rotR (V.getD 0 0) 22) 4294967296 (by kernel_rfl) (by kernel_rfl)) (by unfold ror3; rfl)) ?_
    simp only [sZ, sS]
    refine sv 78 (.int .u32 ((V.getD 0 0 : Nat) : Int)) .of ?_
    simp only [sZ, sS]
    refine sv 79 (.int .u32 ((V.getD 1 0 : Nat) : Int)) .of ?_
    simp only [sZ, sS]
    refine sv 80 (.int .u32 ((((V.getD 0 0) &&& (V.getD 1 0)) % 4294967296 : Nat) : Int)) (Val.andN 31 _ (.tmp 78) (.tmp 79) rfl .u32 (V.getD 0 0) (V.getD 1 0) 4294967296 (by kernel_rfl) (by kernel_rfl)) ?_
    simp only [sZ, sS]
    refine sv 81 (.int .u32 ((V.getD 0 0 : Nat) : Int)) .of ?_
    simp only [sZ, sS]
    refine sv 82 (.int .u32 ((V.getD 2 0 : Nat) : Int)) .of ?_
    simp only [sZ, sS]
    refine sv 83 (.int .u32 ((((V.getD 0 0) &&& (V.getD 2 0)) % 4294967296 : Nat) : Int)) (Val.andN 31 _ (.tmp 81) (.tmp 82) rfl .u32 (V.getD 0 0) (V.getD 2 0) 4294967296 (by kernel_rfl) (by kernel_rfl)) ?_
    simp only [sZ, sS]
    refine sv 84 (.int .u32 ((((((V.getD 0 0) &&& (V.getD 1 0)) % 4294967296) ^^^ (((V.getD 0 0) &&& (V.getD 2 0)) % 4294967296)) % 4294967296 : Nat) : Int)) (Val.xorN 31 _ (.tmp 80) (.tmp 83) rfl .u32 (((V.getD 0 0) &&& (V.getD 1 0)) % 4294967296) (((V.getD 0 0) &&& (V.getD 2 0)) % 4294967296) 4294967296 (by kernel_rfl) (by kernel_rfl)) ?_
    simp only [sZ, sS]
    refine sv 85 (.int .u32 ((V.getD 1 0 : Nat) : Int)) .of ?_
    simp only [sZ, sS]
    refine sv 86 (.int .u32 ((V.getD 2 0 : Nat) : Int)) .of ?_
    simp only [sZ, sS]
    refine sv 87 (.int .u32 ((((V.getD 1 0) &&& (V.getD 2 0)) % 4294967296 : Nat) : Int)) (Val.andN 31 _ (.tmp 85) (.tmp 86) rfl .u32 (V.getD 1 0) (V.getD 2 0) 4294967296 (by kernel_rfl) (by kernel_rfl)) ?_
    simp only [sZ, sS]
    refine sv 88 (.int .u32 ((((((((V.getD 0 0) &&& (V.getD 1 0)) % 4294967296) ^^^ (((V.getD 0 0) &&& (V.getD 2 0)) % 4294967296)) % 4294967296) ^^^ (((V.getD 1 0) &&& (V.getD 2 0)) % 4294967296)) % 4294967296 : Nat) : Int)) (Val.xorN 31 _ (.tmp 84) (.tmp 87) rfl .u32 (((((V.getD 0 0) &&& (V.getD 1 0)) % 4294967296) ^^^ (((V.getD 0 0) &&& (V.getD 2 0)) % 4294967296)) % 4294967296) (((V.getD 1 0) &&& (V.getD 2 0)) % 4294967296) 4294967296 (by kernel_rfl) (by kernel_rfl)) ?_
    simp only [sZ, sS]
    refine sv 89 (.int .u32 ((stepY V : Nat) : Int)) (Val.asN (Val.addN 31 _ (.tmp 77) (.tmp 88) rfl .u32 (ror3 (V.getD 0 0) 2 13 22) (((((((V.getD 0 0) &&& (V.getD 1 0)) % 4294967296) ^^^ (((V.getD 0 0) &&& (V.getD 2 0)) % 4294967296)) % 4294967296) ^^^ (((V.getD 1 0) &&& (V.getD 2 0)) % 4294967296)) % 4294967296) 4294967296 (by kernel_rfl) (by kernel_rfl)) (by unfold stepY; rfl)) ?_
    simp only [sZ, sS]
    refine sv 18 (.int .u32 ((stepY V : Nat) : Int)) .of ?_
    simp only [sZ, sS]
    refine wpList_nil ?_
    refine hK10 _ _ ?_
    refine cPlain ?_
    refine sv 90 (.int .u32 ((V.getD 6 0 : Nat) : Int)) .of ?_
    simp only [sZ, sS]
    refine sv 91 (.int .u32 ((V.getD 5 0 : Nat) : Int)) .of ?_
    simp only [sZ, sS]
    refine sv 92 (.int .u32 ((V.getD 4 0 : Nat) : Int)) .of ?_
    simp only [sZ, sS]
    refine sv 93 (.int .u32 ((V.getD 3 0 : Nat) : Int)) .of ?_
    simp only [sZ, sS]
    refine sv 94 (.int .u32 ((stepX V (tab.getD (8 + r) 0) (W.getD r 0) : Nat) : Int)) .of ?_
    simp only [sZ, sS]
    refine sv 95 (.int .u32 ((((V.getD 3 0) + (stepX V (tab.getD (8 + r) 0) (W.getD r 0))) % 4294967296 : Nat) : Int)) (Val.addN 31 _ (.tmp 93) (.tmp 94) rfl .u32 (V.getD 3 0) (stepX V (tab.getD (8 + r) 0) (W.getD r 0)) 4294967296 (by kernel_rfl) (by kernel_rfl)) ?_
    simp only [sZ, sS]
    refine sv 96 (.int .u32 ((V.getD 2 0 : Nat) : Int)) .of ?_
    simp only [sZ, sS]
    refine sv 97 (.int .u32 ((V.getD 1 0 : Nat) : Int)) .of ?_
    simp only [sZ, sS]
    refine sv 98 (.int .u32 ((V.getD 0 0 : Nat) : Int)) .of ?_
    simp only [sZ, sS]
    refine sv 99 (.int .u32 ((stepX V (tab.getD (8 + r) 0) (W.getD r 0) : Nat) : Int)) .of ?_
    simp only [sZ, sS]
    refine sv 100 (.int .u32 ((stepY V : Nat) : Int)) .of ?_
    simp only [sZ, sS]
    refine sv 101 (.int .u32 ((((stepX V (tab.getD (8 + r) 0) (W.getD r 0)) + (stepY V)) % 4294967296 : Nat) : Int)) (Val.addN 31 _ (.tmp 99) (.tmp 100) rfl .u32 (stepX V (tab.getD (8 + r) 0) (W.getD r 0)) (stepY V) 4294967296 (by kernel_rfl) (by kernel_rfl)) ?_
    simp only [sZ, sS]
    refine sv 15 (.int .u32 ((V.getD 6 0 : Nat) : Int)) .of ?_
    simp only [sZ, sS]
    refine sv 14 (.int .u32 ((V.getD 5 0 : Nat) : Int)) .of ?_
    simp only [sZ, sS]
    refine sv 13 (.int .u32 ((V.getD 4 0 : Nat) : Int)) .of ?_
    simp only [sZ, sS]
    refine sv 12 (.int .u32 ((((V.getD 3 0) + (stepX V (tab.getD (8 + r) 0) (W.getD r 0))) % 4294967296 : Nat) : Int)) .of ?_
    simp only [sZ, sS]
    refine sv 11 (.int .u32 ((V.getD 2 0 : Nat) : Int)) .of ?_
    simp only [sZ, sS]
    refine sv 10 (.int .u32 ((V.getD 1 0 : Nat) : Int)) .of ?_
    simp only [sZ, sS]
    refine sv 9 (.int .u32 ((V.getD 0 0 : Nat) : Int)) .of ?_
    simp only [sZ, sS]
    refine sv 8 (.int .u32 ((((stepX V (tab.getD (8 + r) 0) (W.getD r 0)) + (stepY V)) % 4294967296 : Nat) : Int)) .of ?_
    simp only [sZ, sS]
    refine wpList_nil ?_
    refine hK8 _ _ ?_
    refine cPlain ?_
    refine sv 39 (.int .i64 ((r : Nat) : Int)) .of ?_
    simp only [sZ, sS]
    refine sv 40 (.int .i64 (((r : Nat) : Int) + 1)) (Val.add 3 _ (.tmp 39) _ rfl ((r : Nat) : Int) 1 (by kernel_rfl) (by kernel_rfl) (by omega)) ?_
    simp only [sZ, sS]
    refine sv 16 (.int .i64 (((r : Nat) : Int) + 1)) .of ?_
    simp only [sZ, sS]
    refine wpList_nil ?_
    refine ⟨_, ?_, r + 1, stepC (tab.getD (8 + r) 0) (W.getD r 0) V, rfl, (by omega), (by rw [hc0_1]; rfl), cutE, BL, b3, b4, b6, WO, by omega⟩
    omega
  · skip
    have hVl : V.length = 8 := by rw [hc0_1]; exact rounds_len _ _ _ hs _
    have hf := hfin V (by rw [hc0_1, show r = 64 by omega])
    rw [sums_8 s V hVl] at hf
    refine wp_exit ?_
    simp only [Exit.then, Exit.inBlock, ↓reduceIte, Nat.reduceEqDiff]
    refine hK4 _ _ ?_
    refine wp_seq_k fun K11 hK11 => ?_
    refine cPlain ?_
    refine sv 102 (.int .u32 ((V.getD 0 0 : Nat) : Int)) .of ?_
    simp only [sZ, sS]
    refine sv 103 (.pointer (some ⟨w1.heap.size, 0, none⟩)) .of ?_
    simp only [sZ, sS]
    refine sv 104 (.int .u32 ((s.getD 0 0 : Nat) : Int)) (Val.nblk1 31 _ rfl w1.heap.size 0 (by kernel_rfl) (fun _ => (by kernel_rfl)) b4 (by omega)) ?_
    simp only [sZ, sS]
    refine sv 105 (.int .u32 ((((V.getD 0 0) + (s.getD 0 0)) % 4294967296 : Nat) : Int)) (Val.addN 31 _ (.tmp 102) (.tmp 104) rfl .u32 (V.getD 0 0) (s.getD 0 0) 4294967296 (by kernel_rfl) (by kernel_rfl)) ?_
    simp only [sZ, sS]
    refine sv 106 (.int .u32 ((V.getD 1 0 : Nat) : Int)) .of ?_
    simp only [sZ, sS]
    refine sv 107 (.pointer (some ⟨w1.heap.size, 1, none⟩)) .of ?_
    simp only [sZ, sS]
    refine sv 108 (.int .u32 ((s.getD 1 0 : Nat) : Int)) (Val.nblk1 31 _ rfl w1.heap.size 1 (by kernel_rfl) (fun _ => (by kernel_rfl)) b4 (by omega)) ?_
    simp only [sZ, sS]
    refine sv 109 (.int .u32 ((((V.getD 1 0) + (s.getD 1 0)) % 4294967296 : Nat) : Int)) (Val.addN 31 _ (.tmp 106) (.tmp 108) rfl .u32 (V.getD 1 0) (s.getD 1 0) 4294967296 (by kernel_rfl) (by kernel_rfl)) ?_
    simp only [sZ, sS]
    refine sv 110 (.int .u32 ((V.getD 2 0 : Nat) : Int)) .of ?_
    simp only [sZ, sS]
    refine sv 111 (.pointer (some ⟨w1.heap.size, 2, none⟩)) .of ?_
    simp only [sZ, sS]
    refine sv 112 (.int .u32 ((s.getD 2 0 : Nat) : Int)) (Val.nblk1 31 _ rfl w1.heap.size 2 (by kernel_rfl) (fun _ => (by kernel_rfl)) b4 (by omega)) ?_
    simp only [sZ, sS]
    refine sv 113 (.int .u32 ((((V.getD 2 0) + (s.getD 2 0)) % 4294967296 : Nat) : Int)) (Val.addN 31 _ (.tmp 110) (.tmp 112) rfl .u32 (V.getD 2 0) (s.getD 2 0) 4294967296 (by kernel_rfl) (by kernel_rfl)) ?_
    simp only [sZ, sS]
    refine sv 114 (.int .u32 ((V.getD 3 0 : Nat) : Int)) .of ?_
    simp only [sZ, sS]
    refine sv 115 (.pointer (some ⟨w1.heap.size, 3, none⟩)) .of ?_
    simp only [sZ, sS]
    refine sv 116 (.int .u32 ((s.getD 3 0 : Nat) : Int)) (Val.nblk1 31 _ rfl w1.heap.size 3 (by kernel_rfl) (fun _ => (by kernel_rfl)) b4 (by omega)) ?_
    simp only [sZ, sS]
    refine sv 117 (.int .u32 ((((V.getD 3 0) + (s.getD 3 0)) % 4294967296 : Nat) : Int)) (Val.addN 31 _ (.tmp 114) (.tmp 116) rfl .u32 (V.getD 3 0) (s.getD 3 0) 4294967296 (by kernel_rfl) (by kernel_rfl)) ?_
    simp only [sZ, sS]
    refine sv 118 (.int .u32 ((V.getD 4 0 : Nat) : Int)) .of ?_
    simp only [sZ, sS]
    refine sv 119 (.pointer (some ⟨w1.heap.size, 4, none⟩)) .of ?_
    simp only [sZ, sS]
    refine sv 120 (.int .u32 ((s.getD 4 0 : Nat) : Int)) (Val.nblk1 31 _ rfl w1.heap.size 4 (by kernel_rfl) (fun _ => (by kernel_rfl)) b4 (by omega)) ?_
    simp only [sZ, sS]
    refine sv 121 (.int .u32 ((((V.getD 4 0) + (s.getD 4 0)) % 4294967296 : Nat) : Int)) (Val.addN 31 _ (.tmp 118) (.tmp 120) rfl .u32 (V.getD 4 0) (s.getD 4 0) 4294967296 (by kernel_rfl) (by kernel_rfl)) ?_
    simp only [sZ, sS]
    refine sv 122 (.int .u32 ((V.getD 5 0 : Nat) : Int)) .of ?_
    simp only [sZ, sS]
    refine sv 123 (.pointer (some ⟨w1.heap.size, 5, none⟩)) .of ?_
    simp only [sZ, sS]
    refine sv 124 (.int .u32 ((s.getD 5 0 : Nat) : Int)) (Val.nblk1 31 _ rfl w1.heap.size 5 (by kernel_rfl) (fun _ => (by kernel_rfl)) b4 (by omega)) ?_
    simp only [sZ, sS]
    refine sv 125 (.int .u32 ((((V.getD 5 0) + (s.getD 5 0)) % 4294967296 : Nat) : Int)) (Val.addN 31 _ (.tmp 122) (.tmp 124) rfl .u32 (V.getD 5 0) (s.getD 5 0) 4294967296 (by kernel_rfl) (by kernel_rfl)) ?_
    simp only [sZ, sS]
    refine sv 126 (.int .u32 ((V.getD 6 0 : Nat) : Int)) .of ?_
    simp only [sZ, sS]
    refine sv 127 (.pointer (some ⟨w1.heap.size, 6, none⟩)) .of ?_
    simp only [sZ, sS]
    refine sv 128 (.int .u32 ((s.getD 6 0 : Nat) : Int)) (Val.nblk1 31 _ rfl w1.heap.size 6 (by kernel_rfl) (fun _ => (by kernel_rfl)) b4 (by omega)) ?_
    simp only [sZ, sS]
    refine sv 129 (.int .u32 ((((V.getD 6 0) + (s.getD 6 0)) % 4294967296 : Nat) : Int)) (Val.addN 31 _ (.tmp 126) (.tmp 128) rfl .u32 (V.getD 6 0) (s.getD 6 0) 4294967296 (by kernel_rfl) (by kernel_rfl)) ?_
    simp only [sZ, sS]
    refine sv 130 (.int .u32 ((V.getD 7 0 : Nat) : Int)) .of ?_
    simp only [sZ, sS]
    refine sv 131 (.pointer (some ⟨w1.heap.size, 7, none⟩)) .of ?_
    simp only [sZ, sS]
    refine sv 132 (.int .u32 ((s.getD 7 0 : Nat) : Int)) (Val.nblk1 31 _ rfl w1.heap.size 7 (by kernel_rfl) (fun _ => (by kernel_rfl)) b4 (by omega)) ?_
    simp only [sZ, sS]
    refine sv 133 (.int .u32 ((((V.getD 7 0) + (s.getD 7 0)) % 4294967296 : Nat) : Int)) (Val.addN 31 _ (.tmp 130) (.tmp 132) rfl .u32 (V.getD 7 0) (s.getD 7 0) 4294967296 (by kernel_rfl) (by kernel_rfl)) ?_
    simp only [sZ, sS]
    refine sv 134 (.agg (cellsOf .u32 (nn [((V.getD 0 0) + (s.getD 0 0)) % 4294967296, ((V.getD 1 0) + (s.getD 1 0)) % 4294967296, ((V.getD 2 0) + (s.getD 2 0)) % 4294967296, ((V.getD 3 0) + (s.getD 3 0)) % 4294967296, ((V.getD 4 0) + (s.getD 4 0)) % 4294967296, ((V.getD 5 0) + (s.getD 5 0)) % 4294967296, ((V.getD 6 0) + (s.getD 6 0)) % 4294967296, ((V.getD 7 0) + (s.getD 7 0)) % 4294967296]))) .of ?_
    simp only [sZ, sS]
    refine xStoreA 32 (.tmp 6) (.tmp 134) rfl .u32 w2.heap.size 32 (nn (List.replicate 8 0)) 0 (nn [((V.getD 0 0) + (s.getD 0 0)) % 4294967296, ((V.getD 1 0) + (s.getD 1 0)) % 4294967296, ((V.getD 2 0) + (s.getD 2 0)) % 4294967296, ((V.getD 3 0) + (s.getD 3 0)) % 4294967296, ((V.getD 4 0) + (s.getD 4 0)) % 4294967296, ((V.getD 5 0) + (s.getD 5 0)) % 4294967296, ((V.getD 6 0) + (s.getD 6 0)) % 4294967296, ((V.getD 7 0) + (s.getD 7 0)) % 4294967296]) (by kernel_rfl) (by kernel_rfl) b6 (by rw [show (nn [((V.getD 0 0) + (s.getD 0 0)) % 4294967296, ((V.getD 1 0) + (s.getD 1 0)) % 4294967296, ((V.getD 2 0) + (s.getD 2 0)) % 4294967296, ((V.getD 3 0) + (s.getD 3 0)) % 4294967296, ((V.getD 4 0) + (s.getD 4 0)) % 4294967296, ((V.getD 5 0) + (s.getD 5 0)) % 4294967296, ((V.getD 6 0) + (s.getD 6 0)) % 4294967296, ((V.getD 7 0) + (s.getD 7 0)) % 4294967296]).length = 8 by ((try simp only [nn_len, List.length_cons, List.length_nil, List.length_set, List.length_replicate]); try omega)]; kernel_rfl) (by (try simp only [nn_len, List.length_cons, List.length_nil, List.length_set, List.length_replicate]); try omega) (nn [((V.getD 0 0) + (s.getD 0 0)) % 4294967296, ((V.getD 1 0) + (s.getD 1 0)) % 4294967296, ((V.getD 2 0) + (s.getD 2 0)) % 4294967296, ((V.getD 3 0) + (s.getD 3 0)) % 4294967296, ((V.getD 4 0) + (s.getD 4 0)) % 4294967296, ((V.getD 5 0) + (s.getD 5 0)) % 4294967296, ((V.getD 6 0) + (s.getD 6 0)) % 4294967296, ((V.getD 7 0) + (s.getD 7 0)) % 4294967296]) (over_whole _ _ (by (try simp only [nn_len, List.length_cons, List.length_nil, List.length_set, List.length_replicate]); try omega)) ?_
    intro w13 t1
    have zt1 := t1.z
    have BL_ := BL.ev t1.e (fun i h => show w.heap.size ≤ i by have h : i = w2.heap.size := h; omega)
    have b3_ := b3.ev t1.e (show ¬ (w.heap.size = w2.heap.size) by omega)
    have b4_ := b4.ev t1.e (show ¬ (w1.heap.size = w2.heap.size) by omega)
    have WO_ := WO.ev t1.e (fun i hi => show ¬ (i = w2.heap.size) by have := lWO_2 i hi; omega)
    replace BL := BL_; clear BL_
    replace b3 := b3_; clear b3_
    replace b4 := b4_; clear b4_
    replace WO := WO_; clear WO_
    replace b6 : Blk .u32 w13 w2.heap.size 32 (nn [((V.getD 0 0) + (s.getD 0 0)) % 4294967296, ((V.getD 1 0) + (s.getD 1 0)) % 4294967296, ((V.getD 2 0) + (s.getD 2 0)) % 4294967296, ((V.getD 3 0) + (s.getD 3 0)) % 4294967296, ((V.getD 4 0) + (s.getD 4 0)) % 4294967296, ((V.getD 5 0) + (s.getD 5 0)) % 4294967296, ((V.getD 6 0) + (s.getD 6 0)) % 4294967296, ((V.getD 7 0) + (s.getD 7 0)) % 4294967296]) := t1.c
    clear t1
    refine wpList_nil ?_
    refine hK11 _ _ ?_
    refine wp_ret ?_
    (try simp only [Exit.then, Exit.inBlock])
    refine bodyPost_ret (rC rfl _ w2.heap.size _ _ (by kernel_rfl) b6.cel _ Try.underlying32 rfl (by rw [List.length_map, show (nn [((V.getD 0 0) + (s.getD 0 0)) % 4294967296, ((V.getD 1 0) + (s.getD 1 0)) % 4294967296, ((V.getD 2 0) + (s.getD 2 0)) % 4294967296, ((V.getD 3 0) + (s.getD 3 0)) % 4294967296, ((V.getD 4 0) + (s.getD 4 0)) % 4294967296, ((V.getD 5 0) + (s.getD 5 0)) % 4294967296, ((V.getD 6 0) + (s.getD 6 0)) % 4294967296, ((V.getD 7 0) + (s.getD 7 0)) % 4294967296]).length = 8 by ((try simp only [nn_len, List.length_cons, List.length_nil, List.length_set, List.length_replicate]); try omega)]; kernel_rfl)) rfl ?_
    rw [← hf]
    exact ⟨rfl, BL.b⟩

end Go.Proofs.Ytanggdnmoaflfaa
