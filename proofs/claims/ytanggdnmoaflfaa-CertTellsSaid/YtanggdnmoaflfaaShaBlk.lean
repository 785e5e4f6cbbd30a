/-
  sha.Block.
-/
import Derived.Test.YtanggdnmoaflfaaShaB
namespace Go.Proofs.Ytanggdnmoaflfaa
open Go.RowKit
set_option linter.unusedVariables false
set_option linter.unusedSimpArgs false
set_option maxRecDepth 100000
attribute [local irreducible] wpList Code.wp wpAnyZ
/-- A block's bytes, made words. -/
def stepA (b : List Nat) (k : Nat) (W : List Nat) : List Nat := W.set (k / 4) (((((W.getD (k / 4) 0) <<< 8) % 4294967296) ||| ((b.getD k 0) % 4294967296)) % 4294967296)
def wordsA (b : List Nat) : Nat → List Nat
  | 0 => List.replicate 64 0
  | k + 1 => stepA b k (wordsA b k)
theorem wordsA_len (b : List Nat) : ∀ k, (wordsA b k).length = 64
  | 0 => by simp [wordsA]
  | k + 1 => by simp [wordsA, stepA, wordsA_len b k]
/-- .. and those behind them. -/
def stepB (k : Nat) (W : List Nat) : List Nat := W.set (16 + k) (((((((shr3 (W.getD (14 + k) 0) 17 19 10) + (W.getD (9 + k) 0)) % 4294967296) + (shr3 (W.getD (1 + k) 0) 7 18 3)) % 4294967296) + (W.getD k 0)) % 4294967296)
def wordsB (W : List Nat) : Nat → List Nat
  | 0 => W
  | k + 1 => stepB k (wordsB W k)
theorem wordsB_len (W : List Nat) (h : W.length = 64) : ∀ k, (wordsB W k).length = 64
  | 0 => h
  | k + 1 => by simp [wordsB, stepB, wordsB_len W h k]
/-- a round -/
def stepX (V : List Nat) (kw w : Nat) : Nat := ((((((((V.getD 7 0) + ror3 (V.getD 4 0) 6 11 25) % 4294967296) + (((((V.getD 4 0) &&& (V.getD 5 0)) % 4294967296) ^^^ (((((4294967296 - 1) ^^^ (V.getD 4 0)) % 4294967296) &&& (V.getD 6 0)) % 4294967296)) % 4294967296)) % 4294967296) + kw) % 4294967296) + w) % 4294967296
def stepY (V : List Nat) : Nat := (ror3 (V.getD 0 0) 2 13 22 + (((((((V.getD 0 0) &&& (V.getD 1 0)) % 4294967296) ^^^ (((V.getD 0 0) &&& (V.getD 2 0)) % 4294967296)) % 4294967296) ^^^ (((V.getD 1 0) &&& (V.getD 2 0)) % 4294967296)) % 4294967296)) % 4294967296
def stepC (kw w : Nat) (V : List Nat) : List Nat := [(stepX V kw w + stepY V) % 4294967296, V.getD 0 0, V.getD 1 0, V.getD 2 0, (V.getD 3 0 + stepX V kw w) % 4294967296, V.getD 4 0, V.getD 5 0, V.getD 6 0]
def rounds (tab W s : List Nat) : Nat → List Nat
  | 0 => s
  | k + 1 => stepC (tab.getD (8 + k) 0) (W.getD k 0) (rounds tab W s k)
theorem rounds_len (tab W s : List Nat) (h : s.length = 8) : ∀ k, (rounds tab W s k).length = 8
  | 0 => h
  | k + 1 => rfl
def stepD (s : List Nat) (k : Nat) (V : List Nat) : List Nat := V.set k ((V.getD k 0 + s.getD k 0) % 4294967296)
def sums (s V : List Nat) : Nat → List Nat
  | 0 => V
  | k + 1 => stepD s k (sums s V k)
theorem sums_len (s V : List Nat) (h : V.length = 8) : ∀ k, (sums s V k).length = 8
  | 0 => h
  | k + 1 => by simp [sums, stepD, sums_len s V h k]
/-- A state by a block. -/
def blockN (tab s b : List Nat) : List Nat := sums s (rounds tab (wordsB (wordsA b 64) 48) s 64) 8
theorem blockN_len (tab s b : List Nat) (h : s.length = 8) : (blockN tab s b).length = 8 := sums_len _ _ (rounds_len _ _ _ h _) _
set_option maxHeartbeats 4000000 in
theorem block_any (T : Nat) (tab s b : List Nat) (ht : tab.length = 72) (hs : s.length = 8) (hb : b.length = 64) (w : World) (TB : Blk .u32 w T 35 (nn tab)) :
    Calls Try.prog 118 #[.pointer (some ⟨T, 0, none⟩), .agg (cellsOf .u32 (nn s)), .agg (cellsOf .u8 (nn b))] w fun e w' => e = .returned (.agg (cellsOf .u32 (nn (blockN tab s b)))) ∧ Below w.heap.size w w' := by
  have BL := Bl.refl w
  have hT := TB.lt
  go_enter Try.func118, Try.ntmps118
  refine wp_seq_k fun K1 hK1 => ?_
  refine cPlain ?_
  refine xBox 4 32 _ ((nn s).map (Value.int .u32)) rfl (cells_toList _ _) ?_
  intro w1 n1
  have zn1 := n1.z
  have b4 := n1.c
  replace b4 : Blk .u32 w1 w.heap.size 32 (nn s) := b4
  replace TB := TB.e0 n1.e
  replace BL := BL.e0 n1.e
  simp only [sZ, sS]
  refine xBox 5 156 _ ((nn b).map (Value.int .u8)) rfl (cells_toList _ _) ?_
  intro w2 n2
  have zn2 := n2.z
  have b5 := n2.c
  replace b5 : Blk .u8 w2 w1.heap.size 156 (nn b) := b5
  replace TB := TB.e0 n2.e
  replace BL := BL.e0 n2.e
  replace b4 := b4.e0 n2.e
  simp only [sZ, sS]
  refine xAlloc 6 32 ((nn (List.replicate 8 0)).map (Value.int .u32)) rfl (by kernel_rfl) ?_
  intro w3 n3
  have zn3 := n3.z
  have b6 := n3.c
  replace b6 : Blk .u32 w3 w2.heap.size 32 (nn (List.replicate 8 0)) := b6
  replace TB := TB.e0 n3.e
  replace BL := BL.e0 n3.e
  replace b4 := b4.e0 n3.e
  replace b5 := b5.e0 n3.e
  simp only [sZ, sS]
  refine wpList_nil ?_
  refine hK1 _ _ ?_
  refine wp_seq_k fun K2 hK2 => ?_
  refine wp_seq_k fun K3 hK3 => ?_
  refine cPlain ?_
  refine sv 17 (.pointer (some ⟨T, 0, none⟩)) .of ?_
  simp only [sZ, sS]
  refine sv 18 (.bool false) (Val.of (by kernel_rfl)) ?_
  simp only [sZ, sS]
  refine wpList_nil ?_
  refine hK3 _ _ ?_
  refine cF ?_
  refine wp_skip ?_
  refine hK2 _ _ ?_
  refine wp_seq_k fun K4 hK4 => ?_
  refine cPlain ?_
  refine xAlloc 7 33 ((nn (List.replicate 64 0)).map (Value.int .u32)) rfl (by kernel_rfl) ?_
  intro w4 n4
  have zn4 := n4.z
  have b7 := n4.c
  replace b7 : Blk .u32 w4 w3.heap.size 33 (nn (List.replicate 64 0)) := b7
  replace TB := TB.e0 n4.e
  replace BL := BL.e0 n4.e
  replace b4 := b4.e0 n4.e
  replace b5 := b5.e0 n4.e
  replace b6 := b6.e0 n4.e
  simp only [sZ, sS]
  refine wpList_nil ?_
  refine hK4 _ _ ?_
  refine wp_seq_k fun K5 hK5 => ?_
  refine wp_seq_k fun K6 hK6 => ?_
  refine cPlain ?_
  refine sv 20 (.agg (cellsOf .u8 (nn b))) (Val.blk 156 _ rfl 0 64 (by kernel_rfl) b5 _ Try.underlying156 rfl (by kernel_rfl) (by (try simp only [nn_len, List.length_cons, List.length_nil, List.length_set, List.length_replicate]); try omega) _ (seg_all' _ (by (try simp only [nn_len, List.length_cons, List.length_nil, List.length_set, List.length_replicate]); try omega))) ?_
  simp only [sZ, sS]
  refine sv 21 (.int .i64 0) .of ?_
  simp only [sZ, sS]
  refine wpList_nil ?_
  refine hK6 _ _ ?_
  refine wp_block ?_
  refine cLoop (fun N_ A_ w_ => ∃ (k : Nat) (W : List Nat), (N_ = 64 - k ∧ (k ≤ 64) ∧ (W = wordsA b k) ∧ (W.length = 64) ∧ (∃ s1 : Nat → Value, A_ = ⟨[.pointer (some ⟨T, 0, none⟩), .agg (cellsOf .u32 (nn s)), .agg (cellsOf .u8 (nn b)), undef, .pointer (some ⟨w.heap.size, 0, none⟩), .pointer (some ⟨w1.heap.size, 0, none⟩), .pointer (some ⟨w2.heap.size, 0, none⟩), .pointer (some ⟨w3.heap.size, 0, none⟩), (s1 8), (s1 9), undef, undef, undef, undef, undef, undef, undef, .pointer (some ⟨T, 0, none⟩), .bool false, undef, .agg (cellsOf .u8 (nn b)), .int .i64 (k : Int), (s1 22), (s1 23), (s1 24), (s1 25), (s1 26), (s1 27), (s1 28), (s1 29), (s1 30), (s1 31), (s1 32), (s1 33), (s1 34), (s1 35), (s1 36), undef, undef, undef, undef, undef, undef, undef, undef, undef, undef, undef, undef, undef, undef, undef, undef, undef, undef, undef, undef, undef, undef, undef, undef, undef, undef, undef, undef, undef, undef, undef, undef, undef, undef, undef, undef, undef, undef, undef, undef, undef, undef, undef, undef, undef, undef, undef, undef, undef, undef, undef, undef, undef, undef, undef, undef, undef, undef, undef, undef, undef, undef, undef, undef, undef, undef, undef, undef, undef, undef, undef, undef, undef, undef, undef, undef, undef, undef, undef, undef, undef, undef, undef, undef, undef, undef, undef, undef, undef, undef, undef, undef, undef, undef, undef, undef, undef, undef, undef, undef, undef, undef, undef, undef, undef, undef, undef, undef, undef, undef, undef, undef, undef, undef, undef].toArray, []⟩) ∧ Blk .u32 w_ T 35 (nn tab) ∧ Bl w.heap.size w w_ ∧ Blk .u32 w_ w.heap.size 32 (nn s) ∧ Blk .u8 w_ w1.heap.size 156 (nn b) ∧ Blk .u32 w_ w2.heap.size 32 (nn (List.replicate 8 0)) ∧ Blk .u32 w_ w3.heap.size 33 (nn W) ∧ w4.heap.size ≤ w_.heap.size)) _ ⟨0, (List.replicate 64 0), rfl, by omega, rfl, by simp, cutE, TB, BL, b4, b5, b6, b7, Nat.le_refl _⟩ ?_
  clear TB BL b4 b5 b6 b7
  rintro n_ a_ wl0 ⟨k, W, rfl, hc0_0, hc0_1, hc0_2, ⟨s1, rfl⟩, TB, BL, b4, b5, b6, b7, zl0⟩
  refine wp_seq_k fun K7 hK7 => ?_
  refine cPlain ?_
  refine sv 22 (.bool (decide ((k : Int) < 64))) (Val.cmp .lss 3 _ (.tmp 21) _ rfl .i64 (k : Int) 64 (by kernel_rfl) (by kernel_rfl) (by simp) _ rfl) ?_
  simp only [sZ, sS]
  refine wpList_nil ?_
  refine hK7 _ _ ?_
  refine wp_seq_k fun K8 hK8 => ?_
  refine cDec ((k : Int) < 64) (by kernel_rfl) (fun c22 => ?_) (fun c22 => ?_)
  · skip
    refine wp_skip ?_
    refine hK8 _ _ ?_
    refine wp_seq_k fun K9 hK9 => ?_
    refine wp_block ?_
    refine wp_seq_k fun K10 hK10 => ?_
    refine cPlain ?_
    refine sv 23 (.int .i64 (k : Int)) .of ?_
    simp only [sZ, sS]
    refine sv 24 (.int .u8 ((b.getD k 0 : Nat) : Int)) (Val.ixN 156 (.tmp 20) (.tmp 21) rfl .u8 b k (by kernel_rfl) (by kernel_rfl) Try.underlying156 Try.underlying5 (by kernel_rfl) (by omega) (by omega)) ?_
    simp only [sZ, sS]
    refine sv 8 (.int .i64 (k : Int)) .of ?_
    simp only [sZ, sS]
    refine sv 9 (.int .u8 ((b.getD k 0 : Nat) : Int)) .of ?_
    simp only [sZ, sS]
    refine wpList_nil ?_
    refine hK10 _ _ ?_
    refine cPlain ?_
    refine sv 25 (.int .i64 (k : Int)) .of ?_
    simp only [sZ, sS]
    refine sv 26 (.int .i64 ((k / 4 : Nat) : Int)) (Val.quoI 3 _ (.tmp 25) _ rfl k 4 (by kernel_rfl) (by kernel_rfl) (by omega) (by omega)) ?_
    simp only [sZ, sS]
    refine sv 27 (.int .i64 (k : Int)) .of ?_
    simp only [sZ, sS]
    refine sv 28 (.int .i64 ((k / 4 : Nat) : Int)) (Val.quoI 3 _ (.tmp 27) _ rfl k 4 (by kernel_rfl) (by kernel_rfl) (by omega) (by omega)) ?_
    simp only [sZ, sS]
    refine sv 29 (.pointer (some ⟨w3.heap.size, (k / 4), none⟩)) (Val.idxA01 33 (.tmp 7) (.tmp 28) rfl w3.heap.size (k / 4) (by kernel_rfl) (by kernel_rfl) Try.underlying33 (by kernel_rfl) (by omega)) ?_
    simp only [sZ, sS]
    refine sv 30 (.int .u32 ((W.getD (k / 4) 0 : Nat) : Int)) (Val.nblk1 31 _ rfl w3.heap.size (k / 4) (by kernel_rfl) (fun _ => (by kernel_rfl)) b7 (by omega)) ?_
    simp only [sZ, sS]
    refine sv 31 (.int .u32 ((((W.getD (k / 4) 0) <<< 8) % 4294967296 : Nat) : Int)) (Val.shlN 31 _ (.tmp 30) _ rfl .u32 .u64 (W.getD (k / 4) 0) 8 4294967296 (by kernel_rfl) (by kernel_rfl)) ?_
    simp only [sZ, sS]
    refine sv 32 (.int .u8 ((b.getD k 0 : Nat) : Int)) .of ?_
    simp only [sZ, sS]
    refine sv 33 (.int .u32 (((b.getD k 0) % 4294967296 : Nat) : Int)) (Val.convN 5 31 (.tmp 32) rfl .u32 (b.getD k 0) 4294967296 Try.underlying5 Try.underlying31 (by kernel_rfl)) ?_
    simp only [sZ, sS]
    refine sv 34 (.int .u32 ((((((W.getD (k / 4) 0) <<< 8) % 4294967296) ||| ((b.getD k 0) % 4294967296)) % 4294967296 : Nat) : Int)) (Val.orN 31 _ (.tmp 31) (.tmp 33) rfl .u32 (((W.getD (k / 4) 0) <<< 8) % 4294967296) ((b.getD k 0) % 4294967296) 4294967296 (by kernel_rfl) (by kernel_rfl)) ?_
    simp only [sZ, sS]
    refine sv 35 (.pointer (some ⟨w3.heap.size, (k / 4), none⟩)) (Val.idxA01 33 (.tmp 7) (.tmp 26) rfl w3.heap.size (k / 4) (by kernel_rfl) (by kernel_rfl) Try.underlying33 (by kernel_rfl) (by omega)) ?_
    simp only [sZ, sS]
    refine xStoreNN 31 (.tmp 35) (.tmp 34) rfl .u32 w3.heap.size 33 W (k / 4) (((((W.getD (k / 4) 0) <<< 8) % 4294967296) ||| ((b.getD k 0) % 4294967296)) % 4294967296) (by kernel_rfl) (by kernel_rfl) b7 (by kernel_rfl) (by omega) ?_
    intro w5 t1
    have zt1 := t1.z
    have TB_ := TB.ev t1.e (show ¬ (T = w3.heap.size) by omega)
    have BL_ := BL.ev t1.e (fun i h => show w.heap.size ≤ i by have h : i = w3.heap.size := h; omega)
    have b4_ := b4.ev t1.e (show ¬ (w.heap.size = w3.heap.size) by omega)
    have b5_ := b5.ev t1.e (show ¬ (w1.heap.size = w3.heap.size) by omega)
    have b6_ := b6.ev t1.e (show ¬ (w2.heap.size = w3.heap.size) by omega)
    replace TB := TB_; clear TB_
    replace BL := BL_; clear BL_
    replace b4 := b4_; clear b4_
    replace b5 := b5_; clear b5_
    replace b6 := b6_; clear b6_
    replace b7 : Blk .u32 w5 w3.heap.size 33 (nn (W.set (k / 4) (((((W.getD (k / 4) 0) <<< 8) % 4294967296) ||| ((b.getD k 0) % 4294967296)) % 4294967296))) := t1.c
    clear t1
    refine wpList_nil ?_
    refine hK9 _ _ ?_
    refine cPlain ?_
    refine sv 36 (.int .i64 ((k : Int) + 1)) (Val.add 3 _ (.tmp 21) _ rfl (k : Int) 1 (by kernel_rfl) (by kernel_rfl) (by omega)) ?_
    simp only [sZ, sS]
    refine sv 21 (.int .i64 ((k : Int) + 1)) .of ?_
    simp only [sZ, sS]
    refine wpList_nil ?_
    refine ⟨_, ?_, k + 1, (W.set (k / 4) (((((W.getD (k / 4) 0) <<< 8) % 4294967296) ||| ((b.getD k 0) % 4294967296)) % 4294967296)), rfl, by omega, by rw [hc0_1]; rfl, by simp [hc0_2], cutE, TB, BL, b4, b5, b6, b7, by omega⟩
    omega
  · skip
    have hk0 : k = 64 := by omega
    refine wp_exit ?_
    simp only [Exit.then, Exit.inBlock, ↓reduceIte, Nat.reduceEqDiff]
    refine hK5 _ _ ?_
    refine wp_seq_k fun K11 hK11 => ?_
    refine wp_seq_k fun K12 hK12 => ?_
    refine cPlain ?_
    refine sv 10 (.int .i64 16) .of ?_
    simp only [sZ, sS]
    refine wpList_nil ?_
    refine hK12 _ _ ?_
    refine wp_block ?_
    refine cLoop (fun N_ A_ w_ => ∃ (i : Nat) (X : List Nat), (N_ = 48 - i ∧ (i ≤ 48) ∧ (X = wordsB (wordsA b 64) i) ∧ (X.length = 64) ∧ (∃ s2 : Nat → Value, A_ = ⟨[.pointer (some ⟨T, 0, none⟩), .agg (cellsOf .u32 (nn s)), .agg (cellsOf .u8 (nn b)), undef, .pointer (some ⟨w.heap.size, 0, none⟩), .pointer (some ⟨w1.heap.size, 0, none⟩), .pointer (some ⟨w2.heap.size, 0, none⟩), .pointer (some ⟨w3.heap.size, 0, none⟩), (s1 8), (s1 9), .int .i64 ((16 + i : Nat) : Int), undef, undef, undef, undef, undef, undef, .pointer (some ⟨T, 0, none⟩), .bool false, undef, .agg (cellsOf .u8 (nn b)), .int .i64 (k : Int), .bool (decide ((k : Int) < 64)), (s1 23), (s1 24), (s1 25), (s1 26), (s1 27), (s1 28), (s1 29), (s1 30), (s1 31), (s1 32), (s1 33), (s1 34), (s1 35), (s1 36), (s2 37), (s2 38), (s2 39), (s2 40), (s2 41), (s2 42), (s2 43), (s2 44), (s2 45), (s2 46), (s2 47), (s2 48), (s2 49), (s2 50), (s2 51), (s2 52), (s2 53), (s2 54), (s2 55), (s2 56), (s2 57), (s2 58), (s2 59), (s2 60), (s2 61), (s2 62), (s2 63), undef, undef, undef, undef, undef, undef, undef, undef, undef, undef, undef, undef, undef, undef, undef, undef, undef, undef, undef, undef, undef, undef, undef, undef, undef, undef, undef, undef, undef, undef, undef, undef, undef, undef, undef, undef, undef, undef, undef, undef, undef, undef, undef, undef, undef, undef, undef, undef, undef, undef, undef, undef, undef, undef, undef, undef, undef, undef, undef, undef, undef, undef, undef, undef, undef, undef, undef, undef, undef, undef, undef, undef, undef, undef, undef, undef, undef, undef, undef, undef, undef, undef, undef, undef, undef, undef, undef, undef].toArray, []⟩) ∧ Blk .u32 w_ T 35 (nn tab) ∧ Bl w.heap.size w w_ ∧ Blk .u32 w_ w.heap.size 32 (nn s) ∧ Blk .u8 w_ w1.heap.size 156 (nn b) ∧ Blk .u32 w_ w2.heap.size 32 (nn (List.replicate 8 0)) ∧ Blk .u32 w_ w3.heap.size 33 (nn X) ∧ wl0.heap.size ≤ w_.heap.size)) _ ⟨0, W, rfl, by omega, by rw [hc0_1, hk0]; rfl, hc0_2, cutE, TB, BL, b4, b5, b6, b7, Nat.le_refl _⟩ ?_
    clear TB BL b4 b5 b6 b7
    rintro n_ a_ wl1 ⟨i, X, rfl, hc1_0, hc1_1, hc1_2, ⟨s2, rfl⟩, TB, BL, b4, b5, b6, b7, zl1⟩
    refine wp_seq_k fun K13 hK13 => ?_
    refine wp_seq_k fun K14 hK14 => ?_
    refine cPlain ?_
    refine sv 37 (.int .i64 ((16 + i : Nat) : Int)) .of ?_
    simp only [sZ, sS]
    refine sv 38 (.bool (decide (((16 + i : Nat) : Int) < 64))) (Val.cmp .lss 3 _ (.tmp 37) _ rfl .i64 ((16 + i : Nat) : Int) 64 (by kernel_rfl) (by kernel_rfl) (by simp) _ rfl) ?_
    simp only [sZ, sS]
    refine wpList_nil ?_
    refine hK14 _ _ ?_
    refine cDec (((16 + i : Nat) : Int) < 64) (by kernel_rfl) (fun c38 => ?_) (fun c38 => ?_)
    · skip
      refine wp_skip ?_
      refine hK13 _ _ ?_
      refine wp_seq_k fun K15 hK15 => ?_
      refine wp_block ?_
      have e1 := drew_e0 wl1
      refine zg (fun w_ => Blk .u32 w_ T 35 (nn tab) ∧ Bl w.heap.size w w_ ∧ Blk .u32 w_ w.heap.size 32 (nn s) ∧ Blk .u8 w_ w1.heap.size 156 (nn b) ∧ Blk .u32 w_ w2.heap.size 32 (nn (List.replicate 8 0)) ∧ Blk .u32 w_ w3.heap.size 33 (nn X) ∧ wl1.heap.size ≤ w_.heap.size) (fun w_ => Blk .u32 w_ T 35 (nn tab) ∧ Bl w.heap.size w w_ ∧ Blk .u32 w_ w.heap.size 32 (nn s) ∧ Blk .u8 w_ w1.heap.size 156 (nn b) ∧ Blk .u32 w_ w2.heap.size 32 (nn (List.replicate 8 0)) ∧ Blk .u32 w_ w3.heap.size 33 (nn X) ∧ wl1.heap.size ≤ w_.heap.size) 23 24 ⟨TB.e0 e1, BL.e0 e1, b4.e0 e1, b5.e0 e1, b6.e0 e1, b7.e0 e1, Nat.le_refl _⟩ ?_
      clear TB BL b4 b5 b6 b7
      clear e1
      intro w6
      rintro ⟨TB, BL, b4, b5, b6, b7, z1⟩
      refine zv 0 41 (.int .i64 ((16 + i : Nat) : Int)) (fun _ _ => .of) ⟨TB, BL, b4, b5, b6, b7, by omega⟩ ?_
      simp only [sZ, sS]
      refine zv 1 42 (.int .i64 ((16 + i : Nat) : Int)) (fun _ _ => .of) ⟨TB, BL, b4, b5, b6, b7, by omega⟩ ?_
      simp only [sZ, sS]
      refine zv 2 43 (.int .i64 ((14 + i : Nat) : Int)) (fun _ ⟨TB, BL, b4, b5, b6, b7, z1⟩ => Val.as (Val.sub 3 _ (.tmp 42) _ rfl ((16 + i : Nat) : Int) 2 (by kernel_rfl) (by kernel_rfl) (by omega)) (congrArg (Value.int .i64) (by omega))) ⟨TB, BL, b4, b5, b6, b7, by omega⟩ ?_
      simp only [sZ, sS]
      refine zv 3 44 (.pointer (some ⟨w3.heap.size, (14 + i), none⟩)) (fun _ ⟨TB, BL, b4, b5, b6, b7, z1⟩ => Val.idxA01 33 (.tmp 7) (.tmp 43) rfl w3.heap.size (14 + i) (by kernel_rfl) (by kernel_rfl) Try.underlying33 (by kernel_rfl) (by omega)) ⟨TB, BL, b4, b5, b6, b7, by omega⟩ ?_
      simp only [sZ, sS]
      refine zv 4 45 (.int .u32 ((X.getD (14 + i) 0 : Nat) : Int)) (fun _ ⟨TB, BL, b4, b5, b6, b7, z1⟩ => Val.nblk1 31 _ rfl w3.heap.size (14 + i) (by kernel_rfl) (fun _ => (by kernel_rfl)) b7 (by omega)) ⟨TB, BL, b4, b5, b6, b7, by omega⟩ ?_
      simp only [sZ, sS]
      refine zv 6 47 (.int .i64 ((16 + i : Nat) : Int)) (fun _ _ => .of) ⟨TB, BL, b4, b5, b6, b7, by omega⟩ ?_
      simp only [sZ, sS]
      refine zv 7 48 (.int .i64 ((9 + i : Nat) : Int)) (fun _ ⟨TB, BL, b4, b5, b6, b7, z1⟩ => Val.as (Val.sub 3 _ (.tmp 47) _ rfl ((16 + i : Nat) : Int) 7 (by kernel_rfl) (by kernel_rfl) (by omega)) (congrArg (Value.int .i64) (by omega))) ⟨TB, BL, b4, b5, b6, b7, by omega⟩ ?_
      simp only [sZ, sS]
      refine zv 8 49 (.pointer (some ⟨w3.heap.size, (9 + i), none⟩)) (fun _ ⟨TB, BL, b4, b5, b6, b7, z1⟩ => Val.idxA01 33 (.tmp 7) (.tmp 48) rfl w3.heap.size (9 + i) (by kernel_rfl) (by kernel_rfl) Try.underlying33 (by kernel_rfl) (by omega)) ⟨TB, BL, b4, b5, b6, b7, by omega⟩ ?_
      simp only [sZ, sS]
      refine zv 9 50 (.int .u32 ((X.getD (9 + i) 0 : Nat) : Int)) (fun _ ⟨TB, BL, b4, b5, b6, b7, z1⟩ => Val.nblk1 31 _ rfl w3.heap.size (9 + i) (by kernel_rfl) (fun _ => (by kernel_rfl)) b7 (by omega)) ⟨TB, BL, b4, b5, b6, b7, by omega⟩ ?_
      simp only [sZ, sS]
      refine zv 11 52 (.int .i64 ((16 + i : Nat) : Int)) (fun _ _ => .of) ⟨TB, BL, b4, b5, b6, b7, by omega⟩ ?_
      simp only [sZ, sS]
      refine zv 12 53 (.int .i64 ((1 + i : Nat) : Int)) (fun _ ⟨TB, BL, b4, b5, b6, b7, z1⟩ => Val.as (Val.sub 3 _ (.tmp 52) _ rfl ((16 + i : Nat) : Int) 15 (by kernel_rfl) (by kernel_rfl) (by omega)) (congrArg (Value.int .i64) (by omega))) ⟨TB, BL, b4, b5, b6, b7, by omega⟩ ?_
      simp only [sZ, sS]
      refine zv 13 54 (.pointer (some ⟨w3.heap.size, (1 + i), none⟩)) (fun _ ⟨TB, BL, b4, b5, b6, b7, z1⟩ => Val.idxA01 33 (.tmp 7) (.tmp 53) rfl w3.heap.size (1 + i) (by kernel_rfl) (by kernel_rfl) Try.underlying33 (by kernel_rfl) (by omega)) ⟨TB, BL, b4, b5, b6, b7, by omega⟩ ?_
      simp only [sZ, sS]
      refine zv 14 55 (.int .u32 ((X.getD (1 + i) 0 : Nat) : Int)) (fun _ ⟨TB, BL, b4, b5, b6, b7, z1⟩ => Val.nblk1 31 _ rfl w3.heap.size (1 + i) (by kernel_rfl) (fun _ => (by kernel_rfl)) b7 (by omega)) ⟨TB, BL, b4, b5, b6, b7, by omega⟩ ?_
      simp only [sZ, sS]
      refine zv 17 58 (.int .i64 ((16 + i : Nat) : Int)) (fun _ _ => .of) ⟨TB, BL, b4, b5, b6, b7, by omega⟩ ?_
      simp only [sZ, sS]
      refine zv 18 59 (.int .i64 ((i : Nat) : Int)) (fun _ ⟨TB, BL, b4, b5, b6, b7, z1⟩ => Val.as (Val.sub 3 _ (.tmp 58) _ rfl ((16 + i : Nat) : Int) 16 (by kernel_rfl) (by kernel_rfl) (by omega)) (congrArg (Value.int .i64) (by omega))) ⟨TB, BL, b4, b5, b6, b7, by omega⟩ ?_
      simp only [sZ, sS]
      refine zv 19 60 (.pointer (some ⟨w3.heap.size, i, none⟩)) (fun _ ⟨TB, BL, b4, b5, b6, b7, z1⟩ => Val.idxA01 33 (.tmp 7) (.tmp 59) rfl w3.heap.size i (by kernel_rfl) (by kernel_rfl) Try.underlying33 (by kernel_rfl) (by omega)) ⟨TB, BL, b4, b5, b6, b7, by omega⟩ ?_
      simp only [sZ, sS]
      refine zv 20 61 (.int .u32 ((X.getD i 0 : Nat) : Int)) (fun _ ⟨TB, BL, b4, b5, b6, b7, z1⟩ => Val.nblk1 31 _ rfl w3.heap.size i (by kernel_rfl) (fun _ => (by kernel_rfl)) b7 (by omega)) ⟨TB, BL, b4, b5, b6, b7, by omega⟩ ?_
      simp only [sZ, sS]
      refine zo1 5 rfl ?_
      refine xCall 46 122 #[.int .u32 ((X.getD (14 + i) 0 : Nat) : Int), .int .i64 17, .int .i64 19, .int .i64 10] (by kernel_rfl) ?_
      refine (shr_any (X.getD (14 + i) 0) 17 19 10 (by omega) (by omega) (by omega) w6).mono ?_
      rintro en w7 ⟨rfl, hb1⟩
      have e2 := belE0 hb1
      have ze2 := e2.size
      replace TB := TB.e0 e2
      replace BL := BL.e0 e2
      replace b4 := b4.e0 e2
      replace b5 := b5.e0 e2
      replace b6 := b6.e0 e2
      replace b7 := b7.e0 e2
      clear e2
      refine ⟨.int .u32 ((shr3 (X.getD (14 + i) 0) 17 19 10 : Nat) : Int), rfl, ?_⟩
      refine ze 5 ⟨TB, BL, b4, b5, b6, b7, by omega⟩ ?_
      simp only [sZ, sS]
      refine zv 10 51 (.int .u32 ((((shr3 (X.getD (14 + i) 0) 17 19 10) + (X.getD (9 + i) 0)) % 4294967296 : Nat) : Int)) (fun _ ⟨TB, BL, b4, b5, b6, b7, z1⟩ => Val.addN 31 _ (.tmp 46) (.tmp 50) rfl .u32 (shr3 (X.getD (14 + i) 0) 17 19 10) (X.getD (9 + i) 0) 4294967296 (by kernel_rfl) (by kernel_rfl)) ⟨TB, BL, b4, b5, b6, b7, by omega⟩ ?_
      simp only [sZ, sS]
      refine zo1 15 rfl ?_
      refine xCall 56 122 #[.int .u32 ((X.getD (1 + i) 0 : Nat) : Int), .int .i64 7, .int .i64 18, .int .i64 3] (by kernel_rfl) ?_
      refine (shr_any (X.getD (1 + i) 0) 7 18 3 (by omega) (by omega) (by omega) w7).mono ?_
      rintro en w8 ⟨rfl, hb1⟩
      have e3 := belE0 hb1
      have ze3 := e3.size
      replace TB := TB.e0 e3
      replace BL := BL.e0 e3
      replace b4 := b4.e0 e3
      replace b5 := b5.e0 e3
      replace b6 := b6.e0 e3
      replace b7 := b7.e0 e3
      clear e3
      refine ⟨.int .u32 ((shr3 (X.getD (1 + i) 0) 7 18 3 : Nat) : Int), rfl, ?_⟩
      refine ze 15 ⟨TB, BL, b4, b5, b6, b7, by omega⟩ ?_
      simp only [sZ, sS]
      refine zv 16 57 (.int .u32 ((((((shr3 (X.getD (14 + i) 0) 17 19 10) + (X.getD (9 + i) 0)) % 4294967296) + (shr3 (X.getD (1 + i) 0) 7 18 3)) % 4294967296 : Nat) : Int)) (fun _ ⟨TB, BL, b4, b5, b6, b7, z1⟩ => Val.addN 31 _ (.tmp 51) (.tmp 56) rfl .u32 (((shr3 (X.getD (14 + i) 0) 17 19 10) + (X.getD (9 + i) 0)) % 4294967296) (shr3 (X.getD (1 + i) 0) 7 18 3) 4294967296 (by kernel_rfl) (by kernel_rfl)) ⟨TB, BL, b4, b5, b6, b7, by omega⟩ ?_
      simp only [sZ, sS]
      refine zv 21 62 (.int .u32 ((((((((shr3 (X.getD (14 + i) 0) 17 19 10) + (X.getD (9 + i) 0)) % 4294967296) + (shr3 (X.getD (1 + i) 0) 7 18 3)) % 4294967296) + (X.getD i 0)) % 4294967296 : Nat) : Int)) (fun _ ⟨TB, BL, b4, b5, b6, b7, z1⟩ => Val.addN 31 _ (.tmp 57) (.tmp 61) rfl .u32 (((((shr3 (X.getD (14 + i) 0) 17 19 10) + (X.getD (9 + i) 0)) % 4294967296) + (shr3 (X.getD (1 + i) 0) 7 18 3)) % 4294967296) (X.getD i 0) 4294967296 (by kernel_rfl) (by kernel_rfl)) ⟨TB, BL, b4, b5, b6, b7, by omega⟩ ?_
      simp only [sZ, sS]
      refine zv 22 63 (.pointer (some ⟨w3.heap.size, (16 + i), none⟩)) (fun _ ⟨TB, BL, b4, b5, b6, b7, z1⟩ => Val.idxA01 33 (.tmp 7) (.tmp 41) rfl w3.heap.size (16 + i) (by kernel_rfl) (by kernel_rfl) Try.underlying33 (by kernel_rfl) (by omega)) ⟨TB, BL, b4, b5, b6, b7, by omega⟩ ?_
      simp only [sZ, sS]
      refine zo1 23 rfl ?_
      refine xStoreNN 31 (.tmp 63) (.tmp 62) rfl .u32 w3.heap.size 33 X (16 + i) (((((((shr3 (X.getD (14 + i) 0) 17 19 10) + (X.getD (9 + i) 0)) % 4294967296) + (shr3 (X.getD (1 + i) 0) 7 18 3)) % 4294967296) + (X.getD i 0)) % 4294967296) (by kernel_rfl) (by kernel_rfl) b7 (by kernel_rfl) (by omega) ?_
      intro w9 t2
      have zt2 := t2.z
      have TB_ := TB.ev t2.e (show ¬ (T = w3.heap.size) by omega)
      have BL_ := BL.ev t2.e (fun i h => show w.heap.size ≤ i by have h : i = w3.heap.size := h; omega)
      have b4_ := b4.ev t2.e (show ¬ (w.heap.size = w3.heap.size) by omega)
      have b5_ := b5.ev t2.e (show ¬ (w1.heap.size = w3.heap.size) by omega)
      have b6_ := b6.ev t2.e (show ¬ (w2.heap.size = w3.heap.size) by omega)
      replace TB := TB_; clear TB_
      replace BL := BL_; clear BL_
      replace b4 := b4_; clear b4_
      replace b5 := b5_; clear b5_
      replace b6 := b6_; clear b6_
      replace b7 : Blk .u32 w9 w3.heap.size 33 (nn (X.set (16 + i) (((((((shr3 (X.getD (14 + i) 0) 17 19 10) + (X.getD (9 + i) 0)) % 4294967296) + (shr3 (X.getD (1 + i) 0) 7 18 3)) % 4294967296) + (X.getD i 0)) % 4294967296))) := t2.c
      clear t2
      refine zz 23 ?_
      refine zd (by kernel_rfl) ?_ _
      refine hK15 _ _ ?_
      refine cPlain ?_
      refine sv 39 (.int .i64 ((16 + i : Nat) : Int)) .of ?_
      simp only [sZ, sS]
      refine sv 40 (.int .i64 (((16 + i : Nat) : Int) + 1)) (Val.add 3 _ (.tmp 39) _ rfl ((16 + i : Nat) : Int) 1 (by kernel_rfl) (by kernel_rfl) (by omega)) ?_
      simp only [sZ, sS]
      refine sv 10 (.int .i64 (((16 + i : Nat) : Int) + 1)) .of ?_
      simp only [sZ, sS]
      refine wpList_nil ?_
      refine ⟨_, ?_, i + 1, (X.set (16 + i) (((((((shr3 (X.getD (14 + i) 0) 17 19 10) + (X.getD (9 + i) 0)) % 4294967296) + (shr3 (X.getD (1 + i) 0) 7 18 3)) % 4294967296) + (X.getD i 0)) % 4294967296)), rfl, by omega, by rw [hc1_1]; rfl, by simp [hc1_2], cutE, TB, BL, b4, b5, b6, b7, by omega⟩
      omega
    · skip
      have hk1 : i = 48 := by omega
      rw [hk1] at hc1_1
      refine wp_exit ?_
      simp only [Exit.then, Exit.inBlock, ↓reduceIte, Nat.reduceEqDiff]
      refine hK11 _ _ ?_
      refine wp_seq_k fun K16 hK16 => ?_
      refine cPlain ?_
      refine sv 64 (.agg (cellsOf .u32 (nn s))) (Val.blk 32 _ rfl 0 8 (by kernel_rfl) b4 _ Try.underlying32 rfl (by kernel_rfl) (by (try simp only [nn_len, List.length_cons, List.length_nil, List.length_set, List.length_replicate]); try omega) _ (seg_all' _ (by (try simp only [nn_len, List.length_cons, List.length_nil, List.length_set, List.length_replicate]); try omega))) ?_
      simp only [sZ, sS]
      refine xAlloc 11 32 ((nn (List.replicate 8 0)).map (Value.int .u32)) rfl (by kernel_rfl) ?_
      intro w10 n5
      have zn5 := n5.z
      have b11 := n5.c
      replace b11 : Blk .u32 w10 wl1.heap.size 32 (nn (List.replicate 8 0)) := b11
      replace TB := TB.e0 n5.e
      replace BL := BL.e0 n5.e
      replace b4 := b4.e0 n5.e
      replace b5 := b5.e0 n5.e
      replace b6 := b6.e0 n5.e
      replace b7 := b7.e0 n5.e
      simp only [sZ, sS]
      refine xStoreA 32 (.tmp 11) (.tmp 64) rfl .u32 wl1.heap.size 32 (nn (List.replicate 8 0)) 0 (nn s) (by kernel_rfl) (by kernel_rfl) b11 (by rw [show (nn s).length = 8 by ((try simp only [nn_len, List.length_cons, List.length_nil, List.length_set, List.length_replicate]); try omega)]; kernel_rfl) (by (try simp only [nn_len, List.length_cons, List.length_nil, List.length_set, List.length_replicate]); try omega) (nn s) (over_whole _ _ (by (try simp only [nn_len, List.length_cons, List.length_nil, List.length_set, List.length_replicate]); try omega)) ?_
      intro w11 t3
      have zt3 := t3.z
      have TB_ := TB.ev t3.e (show ¬ (T = wl1.heap.size) by omega)
      have BL_ := BL.ev t3.e (fun i h => show w.heap.size ≤ i by have h : i = wl1.heap.size := h; omega)
      have b4_ := b4.ev t3.e (show ¬ (w.heap.size = wl1.heap.size) by omega)
      have b5_ := b5.ev t3.e (show ¬ (w1.heap.size = wl1.heap.size) by omega)
      have b6_ := b6.ev t3.e (show ¬ (w2.heap.size = wl1.heap.size) by omega)
      have b7_ := b7.ev t3.e (show ¬ (w3.heap.size = wl1.heap.size) by omega)
      replace TB := TB_; clear TB_
      replace BL := BL_; clear BL_
      replace b4 := b4_; clear b4_
      replace b5 := b5_; clear b5_
      replace b6 := b6_; clear b6_
      replace b7 := b7_; clear b7_
      replace b11 : Blk .u32 w11 wl1.heap.size 32 (nn s) := t3.c
      clear t3
      refine wpList_nil ?_
      refine hK16 _ _ ?_
      refine wp_seq_k fun K17 hK17 => ?_
      refine wp_seq_k fun K18 hK18 => ?_
      refine cPlain ?_
      refine sv 65 (.int .i64 0) .of ?_
      simp only [sZ, sS]
      refine wpList_nil ?_
      refine hK18 _ _ ?_
      refine wp_block ?_
      refine cLoop (fun N_ A_ w_ => ∃ (r : Nat) (V : List Nat), (N_ = 64 - r ∧ (r ≤ 64) ∧ (V = rounds tab X s r) ∧ (V.length = 8) ∧ (∃ s3 : Nat → Value, A_ = ⟨[.pointer (some ⟨T, 0, none⟩), .agg (cellsOf .u32 (nn s)), .agg (cellsOf .u8 (nn b)), undef, .pointer (some ⟨w.heap.size, 0, none⟩), .pointer (some ⟨w1.heap.size, 0, none⟩), .pointer (some ⟨w2.heap.size, 0, none⟩), .pointer (some ⟨w3.heap.size, 0, none⟩), (s1 8), (s1 9), .int .i64 ((16 + i : Nat) : Int), .pointer (some ⟨wl1.heap.size, 0, none⟩), (s3 12), (s3 13), (s3 14), (s3 15), undef, .pointer (some ⟨T, 0, none⟩), .bool false, undef, .agg (cellsOf .u8 (nn b)), .int .i64 (k : Int), .bool (decide ((k : Int) < 64)), (s1 23), (s1 24), (s1 25), (s1 26), (s1 27), (s1 28), (s1 29), (s1 30), (s1 31), (s1 32), (s1 33), (s1 34), (s1 35), (s1 36), .int .i64 ((16 + i : Nat) : Int), .bool (decide (((16 + i : Nat) : Int) < 64)), (s2 39), (s2 40), (s2 41), (s2 42), (s2 43), (s2 44), (s2 45), (s2 46), (s2 47), (s2 48), (s2 49), (s2 50), (s2 51), (s2 52), (s2 53), (s2 54), (s2 55), (s2 56), (s2 57), (s2 58), (s2 59), (s2 60), (s2 61), (s2 62), (s2 63), .agg (cellsOf .u32 (nn s)), .int .i64 (r : Int), (s3 66), (s3 67), (s3 68), (s3 69), (s3 70), (s3 71), (s3 72), (s3 73), (s3 74), (s3 75), (s3 76), (s3 77), (s3 78), (s3 79), (s3 80), (s3 81), (s3 82), (s3 83), (s3 84), (s3 85), (s3 86), (s3 87), (s3 88), (s3 89), (s3 90), (s3 91), (s3 92), (s3 93), (s3 94), (s3 95), (s3 96), (s3 97), (s3 98), (s3 99), (s3 100), (s3 101), (s3 102), (s3 103), (s3 104), (s3 105), (s3 106), (s3 107), (s3 108), (s3 109), (s3 110), (s3 111), (s3 112), (s3 113), (s3 114), (s3 115), (s3 116), (s3 117), (s3 118), (s3 119), (s3 120), (s3 121), (s3 122), (s3 123), (s3 124), (s3 125), (s3 126), (s3 127), (s3 128), (s3 129), (s3 130), (s3 131), (s3 132), (s3 133), (s3 134), (s3 135), (s3 136), (s3 137), (s3 138), undef, undef, undef, undef, undef, undef, undef, undef, undef, undef, undef, undef, undef].toArray, []⟩) ∧ Blk .u32 w_ T 35 (nn tab) ∧ Bl w.heap.size w w_ ∧ Blk .u32 w_ w.heap.size 32 (nn s) ∧ Blk .u8 w_ w1.heap.size 156 (nn b) ∧ Blk .u32 w_ w2.heap.size 32 (nn (List.replicate 8 0)) ∧ Blk .u32 w_ w3.heap.size 33 (nn X) ∧ Blk .u32 w_ wl1.heap.size 32 (nn V) ∧ w11.heap.size ≤ w_.heap.size)) _ ⟨0, s, rfl, by omega, rfl, hs, cutE, TB, BL, b4, b5, b6, b7, b11, Nat.le_refl _⟩ ?_
      clear TB BL b4 b5 b6 b7 b11
      rintro n_ a_ wl2 ⟨r, V, rfl, hc2_0, hc2_1, hc2_2, ⟨s3, rfl⟩, TB, BL, b4, b5, b6, b7, b11, zl2⟩
      refine wp_seq_k fun K19 hK19 => ?_
      refine cPlain ?_
      refine sv 66 (.bool (decide ((r : Int) < 64))) (Val.cmp .lss 3 _ (.tmp 65) _ rfl .i64 (r : Int) 64 (by kernel_rfl) (by kernel_rfl) (by simp) _ rfl) ?_
      simp only [sZ, sS]
      refine wpList_nil ?_
      refine hK19 _ _ ?_
      refine wp_seq_k fun K20 hK20 => ?_
      refine cDec ((r : Int) < 64) (by kernel_rfl) (fun c66 => ?_) (fun c66 => ?_)
      · skip
        refine wp_skip ?_
        refine hK20 _ _ ?_
        refine wp_seq_k fun K21 hK21 => ?_
        refine wp_block ?_
        refine wp_seq_k fun K22 hK22 => ?_
        refine cPlain ?_
        refine sv 67 (.int .i64 (r : Int)) .of ?_
        simp only [sZ, sS]
        refine sv 12 (.int .i64 (r : Int)) .of ?_
        simp only [sZ, sS]
        refine wpList_nil ?_
        refine hK22 _ _ ?_
        refine wp_seq_k fun K23 hK23 => ?_
        refine cPlain ?_
        refine sv 68 (.pointer (some ⟨wl1.heap.size, 4, none⟩)) .of ?_
        simp only [sZ, sS]
        refine sv 69 (.int .u32 ((V.getD 4 0 : Nat) : Int)) (Val.nblk1 31 _ rfl wl1.heap.size 4 (by kernel_rfl) (fun _ => (by kernel_rfl)) b11 (by omega)) ?_
        simp only [sZ, sS]
        refine sv 13 (.int .u32 ((V.getD 4 0 : Nat) : Int)) .of ?_
        simp only [sZ, sS]
        refine wpList_nil ?_
        refine hK23 _ _ ?_
        refine wp_seq_k fun K24 hK24 => ?_
        have e4 := drew_e0 wl2
        refine zg (fun w_ => Blk .u32 w_ T 35 (nn tab) ∧ Bl w.heap.size w w_ ∧ Blk .u32 w_ w.heap.size 32 (nn s) ∧ Blk .u8 w_ w1.heap.size 156 (nn b) ∧ Blk .u32 w_ w2.heap.size 32 (nn (List.replicate 8 0)) ∧ Blk .u32 w_ w3.heap.size 33 (nn X) ∧ Blk .u32 w_ wl1.heap.size 32 (nn V) ∧ wl2.heap.size ≤ w_.heap.size) (fun w_ => Blk .u32 w_ T 35 (nn tab) ∧ Bl w.heap.size w w_ ∧ Blk .u32 w_ w.heap.size 32 (nn s) ∧ Blk .u8 w_ w1.heap.size 156 (nn b) ∧ Blk .u32 w_ w2.heap.size 32 (nn (List.replicate 8 0)) ∧ Blk .u32 w_ w3.heap.size 33 (nn X) ∧ Blk .u32 w_ wl1.heap.size 32 (nn V) ∧ wl2.heap.size ≤ w_.heap.size) 100000 28 ⟨TB.e0 e4, BL.e0 e4, b4.e0 e4, b5.e0 e4, b6.e0 e4, b7.e0 e4, b11.e0 e4, Nat.le_refl _⟩ ?_
        clear TB BL b4 b5 b6 b7 b11
        clear e4
        intro w12
        rintro ⟨TB, BL, b4, b5, b6, b7, b11, z2⟩
        refine zv 0 70 (.pointer (some ⟨wl1.heap.size, 7, none⟩)) (fun _ _ => .of) ⟨TB, BL, b4, b5, b6, b7, b11, by omega⟩ ?_
        simp only [sZ, sS]
        refine zv 1 71 (.int .u32 ((V.getD 7 0 : Nat) : Int)) (fun _ ⟨TB, BL, b4, b5, b6, b7, b11, z2⟩ => Val.nblk1 31 _ rfl wl1.heap.size 7 (by kernel_rfl) (fun _ => (by kernel_rfl)) b11 (by omega)) ⟨TB, BL, b4, b5, b6, b7, b11, by omega⟩ ?_
        simp only [sZ, sS]
        refine zv 2 72 (.int .u32 ((V.getD 4 0 : Nat) : Int)) (fun _ _ => .of) ⟨TB, BL, b4, b5, b6, b7, b11, by omega⟩ ?_
        simp only [sZ, sS]
        refine zv 5 75 (.int .u32 ((V.getD 4 0 : Nat) : Int)) (fun _ _ => .of) ⟨TB, BL, b4, b5, b6, b7, b11, by omega⟩ ?_
        simp only [sZ, sS]
        refine zv 6 76 (.pointer (some ⟨wl1.heap.size, 5, none⟩)) (fun _ _ => .of) ⟨TB, BL, b4, b5, b6, b7, b11, by omega⟩ ?_
        simp only [sZ, sS]
        refine zv 7 77 (.int .u32 ((V.getD 5 0 : Nat) : Int)) (fun _ ⟨TB, BL, b4, b5, b6, b7, b11, z2⟩ => Val.nblk1 31 _ rfl wl1.heap.size 5 (by kernel_rfl) (fun _ => (by kernel_rfl)) b11 (by omega)) ⟨TB, BL, b4, b5, b6, b7, b11, by omega⟩ ?_
        simp only [sZ, sS]
        refine zv 8 78 (.int .u32 ((((V.getD 4 0) &&& (V.getD 5 0)) % 4294967296 : Nat) : Int)) (fun _ ⟨TB, BL, b4, b5, b6, b7, b11, z2⟩ => Val.andN 31 _ (.tmp 75) (.tmp 77) rfl .u32 (V.getD 4 0) (V.getD 5 0) 4294967296 (by kernel_rfl) (by kernel_rfl)) ⟨TB, BL, b4, b5, b6, b7, b11, by omega⟩ ?_
        simp only [sZ, sS]
        refine zv 9 79 (.int .u32 ((V.getD 4 0 : Nat) : Int)) (fun _ _ => .of) ⟨TB, BL, b4, b5, b6, b7, b11, by omega⟩ ?_
        simp only [sZ, sS]
        refine zv 10 80 (.int .u32 ((((4294967296 - 1) ^^^ (V.getD 4 0)) % 4294967296 : Nat) : Int)) (fun _ ⟨TB, BL, b4, b5, b6, b7, b11, z2⟩ => Val.notN 31 _ rfl .u32 (V.getD 4 0) 4294967296 (by kernel_rfl)) ⟨TB, BL, b4, b5, b6, b7, b11, by omega⟩ ?_
        simp only [sZ, sS]
        refine zv 11 81 (.pointer (some ⟨wl1.heap.size, 6, none⟩)) (fun _ _ => .of) ⟨TB, BL, b4, b5, b6, b7, b11, by omega⟩ ?_
        simp only [sZ, sS]
        refine zv 12 82 (.int .u32 ((V.getD 6 0 : Nat) : Int)) (fun _ ⟨TB, BL, b4, b5, b6, b7, b11, z2⟩ => Val.nblk1 31 _ rfl wl1.heap.size 6 (by kernel_rfl) (fun _ => (by kernel_rfl)) b11 (by omega)) ⟨TB, BL, b4, b5, b6, b7, b11, by omega⟩ ?_
        simp only [sZ, sS]
        refine zv 13 83 (.int .u32 ((((((4294967296 - 1) ^^^ (V.getD 4 0)) % 4294967296) &&& (V.getD 6 0)) % 4294967296 : Nat) : Int)) (fun _ ⟨TB, BL, b4, b5, b6, b7, b11, z2⟩ => Val.andN 31 _ (.tmp 80) (.tmp 82) rfl .u32 (((4294967296 - 1) ^^^ (V.getD 4 0)) % 4294967296) (V.getD 6 0) 4294967296 (by kernel_rfl) (by kernel_rfl)) ⟨TB, BL, b4, b5, b6, b7, b11, by omega⟩ ?_
        simp only [sZ, sS]
        refine zv 14 84 (.int .u32 ((((((V.getD 4 0) &&& (V.getD 5 0)) % 4294967296) ^^^ (((((4294967296 - 1) ^^^ (V.getD 4 0)) % 4294967296) &&& (V.getD 6 0)) % 4294967296)) % 4294967296 : Nat) : Int)) (fun _ ⟨TB, BL, b4, b5, b6, b7, b11, z2⟩ => Val.xorN 31 _ (.tmp 78) (.tmp 83) rfl .u32 (((V.getD 4 0) &&& (V.getD 5 0)) % 4294967296) (((((4294967296 - 1) ^^^ (V.getD 4 0)) % 4294967296) &&& (V.getD 6 0)) % 4294967296) 4294967296 (by kernel_rfl) (by kernel_rfl)) ⟨TB, BL, b4, b5, b6, b7, b11, by omega⟩ ?_
        simp only [sZ, sS]
        refine zv 16 86 (.pointer (some ⟨T, 0, none⟩)) (fun _ _ => .of) ⟨TB, BL, b4, b5, b6, b7, b11, by omega⟩ ?_
        simp only [sZ, sS]
        refine zv 17 87 (.int .i64 (r : Int)) (fun _ _ => .of) ⟨TB, BL, b4, b5, b6, b7, b11, by omega⟩ ?_
        simp only [sZ, sS]
        refine zv 18 88 (.pointer (some ⟨T, 0, none⟩)) (fun _ _ => .of) ⟨TB, BL, b4, b5, b6, b7, b11, by omega⟩ ?_
        simp only [sZ, sS]
        refine zv 19 89 (.pointer (some ⟨T, 8, none⟩)) (fun _ _ => .of) ⟨TB, BL, b4, b5, b6, b7, b11, by omega⟩ ?_
        simp only [sZ, sS]
        refine zv 20 90 (.pointer (some ⟨T, 8 + r, none⟩)) (fun _ ⟨TB, BL, b4, b5, b6, b7, b11, z2⟩ => Val.idxA1 33 (.tmp 89) (.tmp 87) rfl T 8 r (by kernel_rfl) (by kernel_rfl) Try.underlying33 (by kernel_rfl) (by omega)) ⟨TB, BL, b4, b5, b6, b7, b11, by omega⟩ ?_
        simp only [sZ, sS]
        refine zv 21 91 (.int .u32 ((tab.getD (8 + r) 0 : Nat) : Int)) (fun _ ⟨TB, BL, b4, b5, b6, b7, b11, z2⟩ => Val.nblk1 31 _ rfl T (8 + r) (by kernel_rfl) (fun _ => (by kernel_rfl)) TB (by omega)) ⟨TB, BL, b4, b5, b6, b7, b11, by omega⟩ ?_
        simp only [sZ, sS]
        refine zv 23 93 (.int .i64 (r : Int)) (fun _ _ => .of) ⟨TB, BL, b4, b5, b6, b7, b11, by omega⟩ ?_
        simp only [sZ, sS]
        refine zv 24 94 (.pointer (some ⟨w3.heap.size, r, none⟩)) (fun _ ⟨TB, BL, b4, b5, b6, b7, b11, z2⟩ => Val.idxA01 33 (.tmp 7) (.tmp 93) rfl w3.heap.size r (by kernel_rfl) (by kernel_rfl) Try.underlying33 (by kernel_rfl) (by omega)) ⟨TB, BL, b4, b5, b6, b7, b11, by omega⟩ ?_
        simp only [sZ, sS]
        refine zv 25 95 (.int .u32 ((X.getD r 0 : Nat) : Int)) (fun _ ⟨TB, BL, b4, b5, b6, b7, b11, z2⟩ => Val.nblk1 31 _ rfl w3.heap.size r (by kernel_rfl) (fun _ => (by kernel_rfl)) b7 (by omega)) ⟨TB, BL, b4, b5, b6, b7, b11, by omega⟩ ?_
        simp only [sZ, sS]
        refine zo1 3 rfl ?_
        refine xCall 73 123 #[.int .u32 ((V.getD 4 0 : Nat) : Int), .int .i64 6, .int .i64 11, .int .i64 25] (by kernel_rfl) ?_
        refine (ror_any (V.getD 4 0) 6 11 25 (by omega) (by omega) (by omega) w12).mono ?_
        rintro en w13 ⟨rfl, hw⟩
        obtain rfl := hw
        refine ⟨.int .u32 ((ror3 (V.getD 4 0) 6 11 25 : Nat) : Int), rfl, ?_⟩
        refine ze 3 ⟨TB, BL, b4, b5, b6, b7, b11, by omega⟩ ?_
        simp only [sZ, sS]
        refine zv 4 74 (.int .u32 ((((V.getD 7 0) + (ror3 (V.getD 4 0) 6 11 25)) % 4294967296 : Nat) : Int)) (fun _ ⟨TB, BL, b4, b5, b6, b7, b11, z2⟩ => Val.addN 31 _ (.tmp 71) (.tmp 73) rfl .u32 (V.getD 7 0) (ror3 (V.getD 4 0) 6 11 25) 4294967296 (by kernel_rfl) (by kernel_rfl)) ⟨TB, BL, b4, b5, b6, b7, b11, by omega⟩ ?_
        simp only [sZ, sS]
        refine zv 15 85 (.int .u32 ((((((V.getD 7 0) + (ror3 (V.getD 4 0) 6 11 25)) % 4294967296) + (((((V.getD 4 0) &&& (V.getD 5 0)) % 4294967296) ^^^ (((((4294967296 - 1) ^^^ (V.getD 4 0)) % 4294967296) &&& (V.getD 6 0)) % 4294967296)) % 4294967296)) % 4294967296 : Nat) : Int)) (fun _ ⟨TB, BL, b4, b5, b6, b7, b11, z2⟩ => Val.addN 31 _ (.tmp 74) (.tmp 84) rfl .u32 (((V.getD 7 0) + (ror3 (V.getD 4 0) 6 11 25)) % 4294967296) (((((V.getD 4 0) &&& (V.getD 5 0)) % 4294967296) ^^^ (((((4294967296 - 1) ^^^ (V.getD 4 0)) % 4294967296) &&& (V.getD 6 0)) % 4294967296)) % 4294967296) 4294967296 (by kernel_rfl) (by kernel_rfl)) ⟨TB, BL, b4, b5, b6, b7, b11, by omega⟩ ?_
        simp only [sZ, sS]
        refine zv 22 92 (.int .u32 ((((((((V.getD 7 0) + (ror3 (V.getD 4 0) 6 11 25)) % 4294967296) + (((((V.getD 4 0) &&& (V.getD 5 0)) % 4294967296) ^^^ (((((4294967296 - 1) ^^^ (V.getD 4 0)) % 4294967296) &&& (V.getD 6 0)) % 4294967296)) % 4294967296)) % 4294967296) + (tab.getD (8 + r) 0)) % 4294967296 : Nat) : Int)) (fun _ ⟨TB, BL, b4, b5, b6, b7, b11, z2⟩ => Val.addN 31 _ (.tmp 85) (.tmp 91) rfl .u32 (((((V.getD 7 0) + (ror3 (V.getD 4 0) 6 11 25)) % 4294967296) + (((((V.getD 4 0) &&& (V.getD 5 0)) % 4294967296) ^^^ (((((4294967296 - 1) ^^^ (V.getD 4 0)) % 4294967296) &&& (V.getD 6 0)) % 4294967296)) % 4294967296)) % 4294967296) (tab.getD (8 + r) 0) 4294967296 (by kernel_rfl) (by kernel_rfl)) ⟨TB, BL, b4, b5, b6, b7, b11, by omega⟩ ?_
        simp only [sZ, sS]
        refine zv 26 96 (.int .u32 ((((((((((V.getD 7 0) + (ror3 (V.getD 4 0) 6 11 25)) % 4294967296) + (((((V.getD 4 0) &&& (V.getD 5 0)) % 4294967296) ^^^ (((((4294967296 - 1) ^^^ (V.getD 4 0)) % 4294967296) &&& (V.getD 6 0)) % 4294967296)) % 4294967296)) % 4294967296) + (tab.getD (8 + r) 0)) % 4294967296) + (X.getD r 0)) % 4294967296 : Nat) : Int)) (fun _ ⟨TB, BL, b4, b5, b6, b7, b11, z2⟩ => Val.addN 31 _ (.tmp 92) (.tmp 95) rfl .u32 (((((((V.getD 7 0) + (ror3 (V.getD 4 0) 6 11 25)) % 4294967296) + (((((V.getD 4 0) &&& (V.getD 5 0)) % 4294967296) ^^^ (((((4294967296 - 1) ^^^ (V.getD 4 0)) % 4294967296) &&& (V.getD 6 0)) % 4294967296)) % 4294967296)) % 4294967296) + (tab.getD (8 + r) 0)) % 4294967296) (X.getD r 0) 4294967296 (by kernel_rfl) (by kernel_rfl)) ⟨TB, BL, b4, b5, b6, b7, b11, by omega⟩ ?_
        simp only [sZ, sS]
        refine zv 27 14 (.int .u32 ((((((((((V.getD 7 0) + (ror3 (V.getD 4 0) 6 11 25)) % 4294967296) + (((((V.getD 4 0) &&& (V.getD 5 0)) % 4294967296) ^^^ (((((4294967296 - 1) ^^^ (V.getD 4 0)) % 4294967296) &&& (V.getD 6 0)) % 4294967296)) % 4294967296)) % 4294967296) + (tab.getD (8 + r) 0)) % 4294967296) + (X.getD r 0)) % 4294967296 : Nat) : Int)) (fun _ _ => .of) ⟨TB, BL, b4, b5, b6, b7, b11, by omega⟩ ?_
        simp only [sZ, sS]
        refine zd (by kernel_rfl) ?_ _
        refine hK24 _ _ ?_
        refine wp_seq_k fun K25 hK25 => ?_
        have e5 := drew_e0 w12
        refine zg (fun w_ => Blk .u32 w_ T 35 (nn tab) ∧ Bl w.heap.size w w_ ∧ Blk .u32 w_ w.heap.size 32 (nn s) ∧ Blk .u8 w_ w1.heap.size 156 (nn b) ∧ Blk .u32 w_ w2.heap.size 32 (nn (List.replicate 8 0)) ∧ Blk .u32 w_ w3.heap.size 33 (nn X) ∧ Blk .u32 w_ wl1.heap.size 32 (nn V) ∧ w12.heap.size ≤ w_.heap.size) (fun w_ => Blk .u32 w_ T 35 (nn tab) ∧ Bl w.heap.size w w_ ∧ Blk .u32 w_ w.heap.size 32 (nn s) ∧ Blk .u8 w_ w1.heap.size 156 (nn b) ∧ Blk .u32 w_ w2.heap.size 32 (nn (List.replicate 8 0)) ∧ Blk .u32 w_ w3.heap.size 33 (nn X) ∧ Blk .u32 w_ wl1.heap.size 32 (nn V) ∧ w12.heap.size ≤ w_.heap.size) 100000 22 ⟨TB.e0 e5, BL.e0 e5, b4.e0 e5, b5.e0 e5, b6.e0 e5, b7.e0 e5, b11.e0 e5, Nat.le_refl _⟩ ?_
        clear TB BL b4 b5 b6 b7 b11
        clear e5
        intro w14
        rintro ⟨TB, BL, b4, b5, b6, b7, b11, z3⟩
        refine zv 0 97 (.pointer (some ⟨wl1.heap.size, 0, none⟩)) (fun _ _ => .of) ⟨TB, BL, b4, b5, b6, b7, b11, by omega⟩ ?_
        simp only [sZ, sS]
        refine zv 1 98 (.int .u32 ((V.getD 0 0 : Nat) : Int)) (fun _ ⟨TB, BL, b4, b5, b6, b7, b11, z3⟩ => Val.nblk1 31 _ rfl wl1.heap.size 0 (by kernel_rfl) (fun _ => (by kernel_rfl)) b11 (by omega)) ⟨TB, BL, b4, b5, b6, b7, b11, by omega⟩ ?_
        simp only [sZ, sS]
        refine zv 3 100 (.pointer (some ⟨wl1.heap.size, 0, none⟩)) (fun _ _ => .of) ⟨TB, BL, b4, b5, b6, b7, b11, by omega⟩ ?_
        simp only [sZ, sS]
        refine zv 4 101 (.int .u32 ((V.getD 0 0 : Nat) : Int)) (fun _ ⟨TB, BL, b4, b5, b6, b7, b11, z3⟩ => Val.nblk1 31 _ rfl wl1.heap.size 0 (by kernel_rfl) (fun _ => (by kernel_rfl)) b11 (by omega)) ⟨TB, BL, b4, b5, b6, b7, b11, by omega⟩ ?_
        simp only [sZ, sS]
        refine zv 5 102 (.pointer (some ⟨wl1.heap.size, 1, none⟩)) (fun _ _ => .of) ⟨TB, BL, b4, b5, b6, b7, b11, by omega⟩ ?_
        simp only [sZ, sS]
        refine zv 6 103 (.int .u32 ((V.getD 1 0 : Nat) : Int)) (fun _ ⟨TB, BL, b4, b5, b6, b7, b11, z3⟩ => Val.nblk1 31 _ rfl wl1.heap.size 1 (by kernel_rfl) (fun _ => (by kernel_rfl)) b11 (by omega)) ⟨TB, BL, b4, b5, b6, b7, b11, by omega⟩ ?_
        simp only [sZ, sS]
        refine zv 7 104 (.int .u32 ((((V.getD 0 0) &&& (V.getD 1 0)) % 4294967296 : Nat) : Int)) (fun _ ⟨TB, BL, b4, b5, b6, b7, b11, z3⟩ => Val.andN 31 _ (.tmp 101) (.tmp 103) rfl .u32 (V.getD 0 0) (V.getD 1 0) 4294967296 (by kernel_rfl) (by kernel_rfl)) ⟨TB, BL, b4, b5, b6, b7, b11, by omega⟩ ?_
        simp only [sZ, sS]
        refine zv 8 105 (.pointer (some ⟨wl1.heap.size, 0, none⟩)) (fun _ _ => .of) ⟨TB, BL, b4, b5, b6, b7, b11, by omega⟩ ?_
        simp only [sZ, sS]
        refine zv 9 106 (.int .u32 ((V.getD 0 0 : Nat) : Int)) (fun _ ⟨TB, BL, b4, b5, b6, b7, b11, z3⟩ => Val.nblk1 31 _ rfl wl1.heap.size 0 (by kernel_rfl) (fun _ => (by kernel_rfl)) b11 (by omega)) ⟨TB, BL, b4, b5, b6, b7, b11, by omega⟩ ?_
        simp only [sZ, sS]
        refine zv 10 107 (.pointer (some ⟨wl1.heap.size, 2, none⟩)) (fun _ _ => .of) ⟨TB, BL, b4, b5, b6, b7, b11, by omega⟩ ?_
        simp only [sZ, sS]
        refine zv 11 108 (.int .u32 ((V.getD 2 0 : Nat) : Int)) (fun _ ⟨TB, BL, b4, b5, b6, b7, b11, z3⟩ => Val.nblk1 31 _ rfl wl1.heap.size 2 (by kernel_rfl) (fun _ => (by kernel_rfl)) b11 (by omega)) ⟨TB, BL, b4, b5, b6, b7, b11, by omega⟩ ?_
        simp only [sZ, sS]
        refine zv 12 109 (.int .u32 ((((V.getD 0 0) &&& (V.getD 2 0)) % 4294967296 : Nat) : Int)) (fun _ ⟨TB, BL, b4, b5, b6, b7, b11, z3⟩ => Val.andN 31 _ (.tmp 106) (.tmp 108) rfl .u32 (V.getD 0 0) (V.getD 2 0) 4294967296 (by kernel_rfl) (by kernel_rfl)) ⟨TB, BL, b4, b5, b6, b7, b11, by omega⟩ ?_
        simp only [sZ, sS]
        refine zv 13 110 (.int .u32 ((((((V.getD 0 0) &&& (V.getD 1 0)) % 4294967296) ^^^ (((V.getD 0 0) &&& (V.getD 2 0)) % 4294967296)) % 4294967296 : Nat) : Int)) (fun _ ⟨TB, BL, b4, b5, b6, b7, b11, z3⟩ => Val.xorN 31 _ (.tmp 104) (.tmp 109) rfl .u32 (((V.getD 0 0) &&& (V.getD 1 0)) % 4294967296) (((V.getD 0 0) &&& (V.getD 2 0)) % 4294967296) 4294967296 (by kernel_rfl) (by kernel_rfl)) ⟨TB, BL, b4, b5, b6, b7, b11, by omega⟩ ?_
        simp only [sZ, sS]
        refine zv 14 111 (.pointer (some ⟨wl1.heap.size, 1, none⟩)) (fun _ _ => .of) ⟨TB, BL, b4, b5, b6, b7, b11, by omega⟩ ?_
        simp only [sZ, sS]
        refine zv 15 112 (.int .u32 ((V.getD 1 0 : Nat) : Int)) (fun _ ⟨TB, BL, b4, b5, b6, b7, b11, z3⟩ => Val.nblk1 31 _ rfl wl1.heap.size 1 (by kernel_rfl) (fun _ => (by kernel_rfl)) b11 (by omega)) ⟨TB, BL, b4, b5, b6, b7, b11, by omega⟩ ?_
        simp only [sZ, sS]
        refine zv 16 113 (.pointer (some ⟨wl1.heap.size, 2, none⟩)) (fun _ _ => .of) ⟨TB, BL, b4, b5, b6, b7, b11, by omega⟩ ?_
        simp only [sZ, sS]
        refine zv 17 114 (.int .u32 ((V.getD 2 0 : Nat) : Int)) (fun _ ⟨TB, BL, b4, b5, b6, b7, b11, z3⟩ => Val.nblk1 31 _ rfl wl1.heap.size 2 (by kernel_rfl) (fun _ => (by kernel_rfl)) b11 (by omega)) ⟨TB, BL, b4, b5, b6, b7, b11, by omega⟩ ?_
        simp only [sZ, sS]
        refine zv 18 115 (.int .u32 ((((V.getD 1 0) &&& (V.getD 2 0)) % 4294967296 : Nat) : Int)) (fun _ ⟨TB, BL, b4, b5, b6, b7, b11, z3⟩ => Val.andN 31 _ (.tmp 112) (.tmp 114) rfl .u32 (V.getD 1 0) (V.getD 2 0) 4294967296 (by kernel_rfl) (by kernel_rfl)) ⟨TB, BL, b4, b5, b6, b7, b11, by omega⟩ ?_
        simp only [sZ, sS]
        refine zv 19 116 (.int .u32 ((((((((V.getD 0 0) &&& (V.getD 1 0)) % 4294967296) ^^^ (((V.getD 0 0) &&& (V.getD 2 0)) % 4294967296)) % 4294967296) ^^^ (((V.getD 1 0) &&& (V.getD 2 0)) % 4294967296)) % 4294967296 : Nat) : Int)) (fun _ ⟨TB, BL, b4, b5, b6, b7, b11, z3⟩ => Val.xorN 31 _ (.tmp 110) (.tmp 115) rfl .u32 (((((V.getD 0 0) &&& (V.getD 1 0)) % 4294967296) ^^^ (((V.getD 0 0) &&& (V.getD 2 0)) % 4294967296)) % 4294967296) (((V.getD 1 0) &&& (V.getD 2 0)) % 4294967296) 4294967296 (by kernel_rfl) (by kernel_rfl)) ⟨TB, BL, b4, b5, b6, b7, b11, by omega⟩ ?_
        simp only [sZ, sS]
        refine zo1 2 rfl ?_
        refine xCall 99 123 #[.int .u32 ((V.getD 0 0 : Nat) : Int), .int .i64 2, .int .i64 13, .int .i64 22] (by kernel_rfl) ?_
        refine (ror_any (V.getD 0 0) 2 13 22 (by omega) (by omega) (by omega) w14).mono ?_
        rintro en w15 ⟨rfl, hw⟩
        obtain rfl := hw
        refine ⟨.int .u32 ((ror3 (V.getD 0 0) 2 13 22 : Nat) : Int), rfl, ?_⟩
        refine ze 2 ⟨TB, BL, b4, b5, b6, b7, b11, by omega⟩ ?_
        simp only [sZ, sS]
        refine zv 20 117 (.int .u32 ((((ror3 (V.getD 0 0) 2 13 22) + (((((((V.getD 0 0) &&& (V.getD 1 0)) % 4294967296) ^^^ (((V.getD 0 0) &&& (V.getD 2 0)) % 4294967296)) % 4294967296) ^^^ (((V.getD 1 0) &&& (V.getD 2 0)) % 4294967296)) % 4294967296)) % 4294967296 : Nat) : Int)) (fun _ ⟨TB, BL, b4, b5, b6, b7, b11, z3⟩ => Val.addN 31 _ (.tmp 99) (.tmp 116) rfl .u32 (ror3 (V.getD 0 0) 2 13 22) (((((((V.getD 0 0) &&& (V.getD 1 0)) % 4294967296) ^^^ (((V.getD 0 0) &&& (V.getD 2 0)) % 4294967296)) % 4294967296) ^^^ (((V.getD 1 0) &&& (V.getD 2 0)) % 4294967296)) % 4294967296) 4294967296 (by kernel_rfl) (by kernel_rfl)) ⟨TB, BL, b4, b5, b6, b7, b11, by omega⟩ ?_
        simp only [sZ, sS]
        refine zv 21 15 (.int .u32 ((((ror3 (V.getD 0 0) 2 13 22) + (((((((V.getD 0 0) &&& (V.getD 1 0)) % 4294967296) ^^^ (((V.getD 0 0) &&& (V.getD 2 0)) % 4294967296)) % 4294967296) ^^^ (((V.getD 1 0) &&& (V.getD 2 0)) % 4294967296)) % 4294967296)) % 4294967296 : Nat) : Int)) (fun _ _ => .of) ⟨TB, BL, b4, b5, b6, b7, b11, by omega⟩ ?_
        simp only [sZ, sS]
        refine zd (by kernel_rfl) ?_ _
        refine hK25 _ _ ?_
        refine cPlain ?_
        refine sv 118 (.int .u32 ((((((((((V.getD 7 0) + (ror3 (V.getD 4 0) 6 11 25)) % 4294967296) + (((((V.getD 4 0) &&& (V.getD 5 0)) % 4294967296) ^^^ (((((4294967296 - 1) ^^^ (V.getD 4 0)) % 4294967296) &&& (V.getD 6 0)) % 4294967296)) % 4294967296)) % 4294967296) + (tab.getD (8 + r) 0)) % 4294967296) + (X.getD r 0)) % 4294967296 : Nat) : Int)) .of ?_
        simp only [sZ, sS]
        refine sv 119 (.int .u32 ((((ror3 (V.getD 0 0) 2 13 22) + (((((((V.getD 0 0) &&& (V.getD 1 0)) % 4294967296) ^^^ (((V.getD 0 0) &&& (V.getD 2 0)) % 4294967296)) % 4294967296) ^^^ (((V.getD 1 0) &&& (V.getD 2 0)) % 4294967296)) % 4294967296)) % 4294967296 : Nat) : Int)) .of ?_
        simp only [sZ, sS]
        refine sv 120 (.int .u32 ((((((((((((V.getD 7 0) + (ror3 (V.getD 4 0) 6 11 25)) % 4294967296) + (((((V.getD 4 0) &&& (V.getD 5 0)) % 4294967296) ^^^ (((((4294967296 - 1) ^^^ (V.getD 4 0)) % 4294967296) &&& (V.getD 6 0)) % 4294967296)) % 4294967296)) % 4294967296) + (tab.getD (8 + r) 0)) % 4294967296) + (X.getD r 0)) % 4294967296) + (((ror3 (V.getD 0 0) 2 13 22) + (((((((V.getD 0 0) &&& (V.getD 1 0)) % 4294967296) ^^^ (((V.getD 0 0) &&& (V.getD 2 0)) % 4294967296)) % 4294967296) ^^^ (((V.getD 1 0) &&& (V.getD 2 0)) % 4294967296)) % 4294967296)) % 4294967296)) % 4294967296 : Nat) : Int)) (Val.addN 31 _ (.tmp 118) (.tmp 119) rfl .u32 (((((((((V.getD 7 0) + (ror3 (V.getD 4 0) 6 11 25)) % 4294967296) + (((((V.getD 4 0) &&& (V.getD 5 0)) % 4294967296) ^^^ (((((4294967296 - 1) ^^^ (V.getD 4 0)) % 4294967296) &&& (V.getD 6 0)) % 4294967296)) % 4294967296)) % 4294967296) + (tab.getD (8 + r) 0)) % 4294967296) + (X.getD r 0)) % 4294967296) (((ror3 (V.getD 0 0) 2 13 22) + (((((((V.getD 0 0) &&& (V.getD 1 0)) % 4294967296) ^^^ (((V.getD 0 0) &&& (V.getD 2 0)) % 4294967296)) % 4294967296) ^^^ (((V.getD 1 0) &&& (V.getD 2 0)) % 4294967296)) % 4294967296)) % 4294967296) 4294967296 (by kernel_rfl) (by kernel_rfl)) ?_
        simp only [sZ, sS]
        refine sv 121 (.pointer (some ⟨wl1.heap.size, 0, none⟩)) .of ?_
        simp only [sZ, sS]
        refine sv 122 (.int .u32 ((V.getD 0 0 : Nat) : Int)) (Val.nblk1 31 _ rfl wl1.heap.size 0 (by kernel_rfl) (fun _ => (by kernel_rfl)) b11 (by omega)) ?_
        simp only [sZ, sS]
        refine sv 123 (.pointer (some ⟨wl1.heap.size, 1, none⟩)) .of ?_
        simp only [sZ, sS]
        refine sv 124 (.int .u32 ((V.getD 1 0 : Nat) : Int)) (Val.nblk1 31 _ rfl wl1.heap.size 1 (by kernel_rfl) (fun _ => (by kernel_rfl)) b11 (by omega)) ?_
        simp only [sZ, sS]
        refine sv 125 (.pointer (some ⟨wl1.heap.size, 2, none⟩)) .of ?_
        simp only [sZ, sS]
        refine sv 126 (.int .u32 ((V.getD 2 0 : Nat) : Int)) (Val.nblk1 31 _ rfl wl1.heap.size 2 (by kernel_rfl) (fun _ => (by kernel_rfl)) b11 (by omega)) ?_
        simp only [sZ, sS]
        refine sv 127 (.pointer (some ⟨wl1.heap.size, 3, none⟩)) .of ?_
        simp only [sZ, sS]
        refine sv 128 (.int .u32 ((V.getD 3 0 : Nat) : Int)) (Val.nblk1 31 _ rfl wl1.heap.size 3 (by kernel_rfl) (fun _ => (by kernel_rfl)) b11 (by omega)) ?_
        simp only [sZ, sS]
        refine sv 129 (.int .u32 ((((((((((V.getD 7 0) + (ror3 (V.getD 4 0) 6 11 25)) % 4294967296) + (((((V.getD 4 0) &&& (V.getD 5 0)) % 4294967296) ^^^ (((((4294967296 - 1) ^^^ (V.getD 4 0)) % 4294967296) &&& (V.getD 6 0)) % 4294967296)) % 4294967296)) % 4294967296) + (tab.getD (8 + r) 0)) % 4294967296) + (X.getD r 0)) % 4294967296 : Nat) : Int)) .of ?_
        simp only [sZ, sS]
        refine sv 130 (.int .u32 ((((V.getD 3 0) + (((((((((V.getD 7 0) + (ror3 (V.getD 4 0) 6 11 25)) % 4294967296) + (((((V.getD 4 0) &&& (V.getD 5 0)) % 4294967296) ^^^ (((((4294967296 - 1) ^^^ (V.getD 4 0)) % 4294967296) &&& (V.getD 6 0)) % 4294967296)) % 4294967296)) % 4294967296) + (tab.getD (8 + r) 0)) % 4294967296) + (X.getD r 0)) % 4294967296)) % 4294967296 : Nat) : Int)) (Val.addN 31 _ (.tmp 128) (.tmp 129) rfl .u32 (V.getD 3 0) (((((((((V.getD 7 0) + (ror3 (V.getD 4 0) 6 11 25)) % 4294967296) + (((((V.getD 4 0) &&& (V.getD 5 0)) % 4294967296) ^^^ (((((4294967296 - 1) ^^^ (V.getD 4 0)) % 4294967296) &&& (V.getD 6 0)) % 4294967296)) % 4294967296)) % 4294967296) + (tab.getD (8 + r) 0)) % 4294967296) + (X.getD r 0)) % 4294967296) 4294967296 (by kernel_rfl) (by kernel_rfl)) ?_
        simp only [sZ, sS]
        refine sv 131 (.pointer (some ⟨wl1.heap.size, 4, none⟩)) .of ?_
        simp only [sZ, sS]
        refine sv 132 (.int .u32 ((V.getD 4 0 : Nat) : Int)) (Val.nblk1 31 _ rfl wl1.heap.size 4 (by kernel_rfl) (fun _ => (by kernel_rfl)) b11 (by omega)) ?_
        simp only [sZ, sS]
        refine sv 133 (.pointer (some ⟨wl1.heap.size, 5, none⟩)) .of ?_
        simp only [sZ, sS]
        refine sv 134 (.int .u32 ((V.getD 5 0 : Nat) : Int)) (Val.nblk1 31 _ rfl wl1.heap.size 5 (by kernel_rfl) (fun _ => (by kernel_rfl)) b11 (by omega)) ?_
        simp only [sZ, sS]
        refine sv 135 (.pointer (some ⟨wl1.heap.size, 6, none⟩)) .of ?_
        simp only [sZ, sS]
        refine sv 136 (.int .u32 ((V.getD 6 0 : Nat) : Int)) (Val.nblk1 31 _ rfl wl1.heap.size 6 (by kernel_rfl) (fun _ => (by kernel_rfl)) b11 (by omega)) ?_
        simp only [sZ, sS]
        refine sv 137 (.agg (cellsOf .u32 (nn [((((((((((V.getD 7 0) + (ror3 (V.getD 4 0) 6 11 25)) % 4294967296) + (((((V.getD 4 0) &&& (V.getD 5 0)) % 4294967296) ^^^ (((((4294967296 - 1) ^^^ (V.getD 4 0)) % 4294967296) &&& (V.getD 6 0)) % 4294967296)) % 4294967296)) % 4294967296) + (tab.getD (8 + r) 0)) % 4294967296) + (X.getD r 0)) % 4294967296) + (((ror3 (V.getD 0 0) 2 13 22) + (((((((V.getD 0 0) &&& (V.getD 1 0)) % 4294967296) ^^^ (((V.getD 0 0) &&& (V.getD 2 0)) % 4294967296)) % 4294967296) ^^^ (((V.getD 1 0) &&& (V.getD 2 0)) % 4294967296)) % 4294967296)) % 4294967296)) % 4294967296, V.getD 0 0, V.getD 1 0, V.getD 2 0, ((V.getD 3 0) + (((((((((V.getD 7 0) + (ror3 (V.getD 4 0) 6 11 25)) % 4294967296) + (((((V.getD 4 0) &&& (V.getD 5 0)) % 4294967296) ^^^ (((((4294967296 - 1) ^^^ (V.getD 4 0)) % 4294967296) &&& (V.getD 6 0)) % 4294967296)) % 4294967296)) % 4294967296) + (tab.getD (8 + r) 0)) % 4294967296) + (X.getD r 0)) % 4294967296)) % 4294967296, V.getD 4 0, V.getD 5 0, V.getD 6 0]))) .of ?_
        simp only [sZ, sS]
        refine xStoreA 32 (.tmp 11) (.tmp 137) rfl .u32 wl1.heap.size 32 (nn V) 0 (nn [((((((((((V.getD 7 0) + (ror3 (V.getD 4 0) 6 11 25)) % 4294967296) + (((((V.getD 4 0) &&& (V.getD 5 0)) % 4294967296) ^^^ (((((4294967296 - 1) ^^^ (V.getD 4 0)) % 4294967296) &&& (V.getD 6 0)) % 4294967296)) % 4294967296)) % 4294967296) + (tab.getD (8 + r) 0)) % 4294967296) + (X.getD r 0)) % 4294967296) + (((ror3 (V.getD 0 0) 2 13 22) + (((((((V.getD 0 0) &&& (V.getD 1 0)) % 4294967296) ^^^ (((V.getD 0 0) &&& (V.getD 2 0)) % 4294967296)) % 4294967296) ^^^ (((V.getD 1 0) &&& (V.getD 2 0)) % 4294967296)) % 4294967296)) % 4294967296)) % 4294967296, V.getD 0 0, V.getD 1 0, V.getD 2 0, ((V.getD 3 0) + (((((((((V.getD 7 0) + (ror3 (V.getD 4 0) 6 11 25)) % 4294967296) + (((((V.getD 4 0) &&& (V.getD 5 0)) % 4294967296) ^^^ (((((4294967296 - 1) ^^^ (V.getD 4 0)) % 4294967296) &&& (V.getD 6 0)) % 4294967296)) % 4294967296)) % 4294967296) + (tab.getD (8 + r) 0)) % 4294967296) + (X.getD r 0)) % 4294967296)) % 4294967296, V.getD 4 0, V.getD 5 0, V.getD 6 0]) (by kernel_rfl) (by kernel_rfl) b11 (by rw [show (nn [((((((((((V.getD 7 0) + (ror3 (V.getD 4 0) 6 11 25)) % 4294967296) + (((((V.getD 4 0) &&& (V.getD 5 0)) % 4294967296) ^^^ (((((4294967296 - 1) ^^^ (V.getD 4 0)) % 4294967296) &&& (V.getD 6 0)) % 4294967296)) % 4294967296)) % 4294967296) + (tab.getD (8 + r) 0)) % 4294967296) + (X.getD r 0)) % 4294967296) + (((ror3 (V.getD 0 0) 2 13 22) + (((((((V.getD 0 0) &&& (V.getD 1 0)) % 4294967296) ^^^ (((V.getD 0 0) &&& (V.getD 2 0)) % 4294967296)) % 4294967296) ^^^ (((V.getD 1 0) &&& (V.getD 2 0)) % 4294967296)) % 4294967296)) % 4294967296)) % 4294967296, V.getD 0 0, V.getD 1 0, V.getD 2 0, ((V.getD 3 0) + (((((((((V.getD 7 0) + (ror3 (V.getD 4 0) 6 11 25)) % 4294967296) + (((((V.getD 4 0) &&& (V.getD 5 0)) % 4294967296) ^^^ (((((4294967296 - 1) ^^^ (V.getD 4 0)) % 4294967296) &&& (V.getD 6 0)) % 4294967296)) % 4294967296)) % 4294967296) + (tab.getD (8 + r) 0)) % 4294967296) + (X.getD r 0)) % 4294967296)) % 4294967296, V.getD 4 0, V.getD 5 0, V.getD 6 0]).length = 8 by ((try simp only [nn_len, List.length_cons, List.length_nil, List.length_set, List.length_replicate]); try omega)]; kernel_rfl) (by (try simp only [nn_len, List.length_cons, List.length_nil, List.length_set, List.length_replicate]); try omega) (nn [((((((((((V.getD 7 0) + (ror3 (V.getD 4 0) 6 11 25)) % 4294967296) + (((((V.getD 4 0) &&& (V.getD 5 0)) % 4294967296) ^^^ (((((4294967296 - 1) ^^^ (V.getD 4 0)) % 4294967296) &&& (V.getD 6 0)) % 4294967296)) % 4294967296)) % 4294967296) + (tab.getD (8 + r) 0)) % 4294967296) + (X.getD r 0)) % 4294967296) + (((ror3 (V.getD 0 0) 2 13 22) + (((((((V.getD 0 0) &&& (V.getD 1 0)) % 4294967296) ^^^ (((V.getD 0 0) &&& (V.getD 2 0)) % 4294967296)) % 4294967296) ^^^ (((V.getD 1 0) &&& (V.getD 2 0)) % 4294967296)) % 4294967296)) % 4294967296)) % 4294967296, V.getD 0 0, V.getD 1 0, V.getD 2 0, ((V.getD 3 0) + (((((((((V.getD 7 0) + (ror3 (V.getD 4 0) 6 11 25)) % 4294967296) + (((((V.getD 4 0) &&& (V.getD 5 0)) % 4294967296) ^^^ (((((4294967296 - 1) ^^^ (V.getD 4 0)) % 4294967296) &&& (V.getD 6 0)) % 4294967296)) % 4294967296)) % 4294967296) + (tab.getD (8 + r) 0)) % 4294967296) + (X.getD r 0)) % 4294967296)) % 4294967296, V.getD 4 0, V.getD 5 0, V.getD 6 0]) (over_whole _ _ (by (try simp only [nn_len, List.length_cons, List.length_nil, List.length_set, List.length_replicate]); try omega)) ?_
        intro w16 t4
        have zt4 := t4.z
        have TB_ := TB.ev t4.e (show ¬ (T = wl1.heap.size) by omega)
        have BL_ := BL.ev t4.e (fun i h => show w.heap.size ≤ i by have h : i = wl1.heap.size := h; omega)
        have b4_ := b4.ev t4.e (show ¬ (w.heap.size = wl1.heap.size) by omega)
        have b5_ := b5.ev t4.e (show ¬ (w1.heap.size = wl1.heap.size) by omega)
        have b6_ := b6.ev t4.e (show ¬ (w2.heap.size = wl1.heap.size) by omega)
        have b7_ := b7.ev t4.e (show ¬ (w3.heap.size = wl1.heap.size) by omega)
        replace TB := TB_; clear TB_
        replace BL := BL_; clear BL_
        replace b4 := b4_; clear b4_
        replace b5 := b5_; clear b5_
        replace b6 := b6_; clear b6_
        replace b7 := b7_; clear b7_
        replace b11 : Blk .u32 w16 wl1.heap.size 32 (nn [((((((((((V.getD 7 0) + (ror3 (V.getD 4 0) 6 11 25)) % 4294967296) + (((((V.getD 4 0) &&& (V.getD 5 0)) % 4294967296) ^^^ (((((4294967296 - 1) ^^^ (V.getD 4 0)) % 4294967296) &&& (V.getD 6 0)) % 4294967296)) % 4294967296)) % 4294967296) + (tab.getD (8 + r) 0)) % 4294967296) + (X.getD r 0)) % 4294967296) + (((ror3 (V.getD 0 0) 2 13 22) + (((((((V.getD 0 0) &&& (V.getD 1 0)) % 4294967296) ^^^ (((V.getD 0 0) &&& (V.getD 2 0)) % 4294967296)) % 4294967296) ^^^ (((V.getD 1 0) &&& (V.getD 2 0)) % 4294967296)) % 4294967296)) % 4294967296)) % 4294967296, V.getD 0 0, V.getD 1 0, V.getD 2 0, ((V.getD 3 0) + (((((((((V.getD 7 0) + (ror3 (V.getD 4 0) 6 11 25)) % 4294967296) + (((((V.getD 4 0) &&& (V.getD 5 0)) % 4294967296) ^^^ (((((4294967296 - 1) ^^^ (V.getD 4 0)) % 4294967296) &&& (V.getD 6 0)) % 4294967296)) % 4294967296)) % 4294967296) + (tab.getD (8 + r) 0)) % 4294967296) + (X.getD r 0)) % 4294967296)) % 4294967296, V.getD 4 0, V.getD 5 0, V.getD 6 0]) := t4.c
        clear t4
        refine wpList_nil ?_
        refine hK21 _ _ ?_
        refine cPlain ?_
        refine sv 138 (.int .i64 ((r : Int) + 1)) (Val.add 3 _ (.tmp 65) _ rfl (r : Int) 1 (by kernel_rfl) (by kernel_rfl) (by omega)) ?_
        simp only [sZ, sS]
        refine sv 65 (.int .i64 ((r : Int) + 1)) .of ?_
        simp only [sZ, sS]
        refine wpList_nil ?_
        refine ⟨_, ?_, r + 1, [((((((((((V.getD 7 0) + (ror3 (V.getD 4 0) 6 11 25)) % 4294967296) + (((((V.getD 4 0) &&& (V.getD 5 0)) % 4294967296) ^^^ (((((4294967296 - 1) ^^^ (V.getD 4 0)) % 4294967296) &&& (V.getD 6 0)) % 4294967296)) % 4294967296)) % 4294967296) + (tab.getD (8 + r) 0)) % 4294967296) + (X.getD r 0)) % 4294967296) + (((ror3 (V.getD 0 0) 2 13 22) + (((((((V.getD 0 0) &&& (V.getD 1 0)) % 4294967296) ^^^ (((V.getD 0 0) &&& (V.getD 2 0)) % 4294967296)) % 4294967296) ^^^ (((V.getD 1 0) &&& (V.getD 2 0)) % 4294967296)) % 4294967296)) % 4294967296)) % 4294967296, V.getD 0 0, V.getD 1 0, V.getD 2 0, ((V.getD 3 0) + (((((((((V.getD 7 0) + (ror3 (V.getD 4 0) 6 11 25)) % 4294967296) + (((((V.getD 4 0) &&& (V.getD 5 0)) % 4294967296) ^^^ (((((4294967296 - 1) ^^^ (V.getD 4 0)) % 4294967296) &&& (V.getD 6 0)) % 4294967296)) % 4294967296)) % 4294967296) + (tab.getD (8 + r) 0)) % 4294967296) + (X.getD r 0)) % 4294967296)) % 4294967296, V.getD 4 0, V.getD 5 0, V.getD 6 0], rfl, by omega, by rw [hc2_1]; rfl, rfl, cutE, TB, BL, b4, b5, b6, b7, b11, by omega⟩
        omega
      · skip
        have hk2 : r = 64 := by omega
        rw [hk2] at hc2_1
        refine wp_exit ?_
        simp only [Exit.then, Exit.inBlock, ↓reduceIte, Nat.reduceEqDiff]
        refine hK17 _ _ ?_
        refine wp_seq_k fun K26 hK26 => ?_
        refine wp_seq_k fun K27 hK27 => ?_
        refine cPlain ?_
        refine sv 139 (.int .i64 0) .of ?_
        simp only [sZ, sS]
        refine wpList_nil ?_
        refine hK27 _ _ ?_
        refine wp_block ?_
        refine cLoop (fun N_ A_ w_ => ∃ (q : Nat) (U : List Nat), (N_ = 8 - q ∧ (q ≤ 8) ∧ (U = sums s V q) ∧ (U.length = 8) ∧ (∃ s4 : Nat → Value, A_ = ⟨[.pointer (some ⟨T, 0, none⟩), .agg (cellsOf .u32 (nn s)), .agg (cellsOf .u8 (nn b)), undef, .pointer (some ⟨w.heap.size, 0, none⟩), .pointer (some ⟨w1.heap.size, 0, none⟩), .pointer (some ⟨w2.heap.size, 0, none⟩), .pointer (some ⟨w3.heap.size, 0, none⟩), (s1 8), (s1 9), .int .i64 ((16 + i : Nat) : Int), .pointer (some ⟨wl1.heap.size, 0, none⟩), (s3 12), (s3 13), (s3 14), (s3 15), (s4 16), .pointer (some ⟨T, 0, none⟩), .bool false, undef, .agg (cellsOf .u8 (nn b)), .int .i64 (k : Int), .bool (decide ((k : Int) < 64)), (s1 23), (s1 24), (s1 25), (s1 26), (s1 27), (s1 28), (s1 29), (s1 30), (s1 31), (s1 32), (s1 33), (s1 34), (s1 35), (s1 36), .int .i64 ((16 + i : Nat) : Int), .bool (decide (((16 + i : Nat) : Int) < 64)), (s2 39), (s2 40), (s2 41), (s2 42), (s2 43), (s2 44), (s2 45), (s2 46), (s2 47), (s2 48), (s2 49), (s2 50), (s2 51), (s2 52), (s2 53), (s2 54), (s2 55), (s2 56), (s2 57), (s2 58), (s2 59), (s2 60), (s2 61), (s2 62), (s2 63), .agg (cellsOf .u32 (nn s)), .int .i64 (r : Int), .bool (decide ((r : Int) < 64)), (s3 67), (s3 68), (s3 69), (s3 70), (s3 71), (s3 72), (s3 73), (s3 74), (s3 75), (s3 76), (s3 77), (s3 78), (s3 79), (s3 80), (s3 81), (s3 82), (s3 83), (s3 84), (s3 85), (s3 86), (s3 87), (s3 88), (s3 89), (s3 90), (s3 91), (s3 92), (s3 93), (s3 94), (s3 95), (s3 96), (s3 97), (s3 98), (s3 99), (s3 100), (s3 101), (s3 102), (s3 103), (s3 104), (s3 105), (s3 106), (s3 107), (s3 108), (s3 109), (s3 110), (s3 111), (s3 112), (s3 113), (s3 114), (s3 115), (s3 116), (s3 117), (s3 118), (s3 119), (s3 120), (s3 121), (s3 122), (s3 123), (s3 124), (s3 125), (s3 126), (s3 127), (s3 128), (s3 129), (s3 130), (s3 131), (s3 132), (s3 133), (s3 134), (s3 135), (s3 136), (s3 137), (s3 138), .int .i64 (q : Int), (s4 140), (s4 141), (s4 142), (s4 143), (s4 144), (s4 145), (s4 146), (s4 147), (s4 148), (s4 149), (s4 150), undef].toArray, []⟩) ∧ Blk .u32 w_ T 35 (nn tab) ∧ Bl w.heap.size w w_ ∧ Blk .u32 w_ w.heap.size 32 (nn s) ∧ Blk .u8 w_ w1.heap.size 156 (nn b) ∧ Blk .u32 w_ w2.heap.size 32 (nn (List.replicate 8 0)) ∧ Blk .u32 w_ w3.heap.size 33 (nn X) ∧ Blk .u32 w_ wl1.heap.size 32 (nn U) ∧ wl2.heap.size ≤ w_.heap.size)) _ ⟨0, V, rfl, by omega, rfl, hc2_2, cutE, TB, BL, b4, b5, b6, b7, b11, Nat.le_refl _⟩ ?_
        clear TB BL b4 b5 b6 b7 b11
        rintro n_ a_ wl3 ⟨q, U, rfl, hc3_0, hc3_1, hc3_2, ⟨s4, rfl⟩, TB, BL, b4, b5, b6, b7, b11, zl3⟩
        refine wp_seq_k fun K28 hK28 => ?_
        refine cPlain ?_
        refine sv 140 (.bool (decide ((q : Int) < 8))) (Val.cmp .lss 3 _ (.tmp 139) _ rfl .i64 (q : Int) 8 (by kernel_rfl) (by kernel_rfl) (by simp) _ rfl) ?_
        simp only [sZ, sS]
        refine wpList_nil ?_
        refine hK28 _ _ ?_
        refine wp_seq_k fun K29 hK29 => ?_
        refine cDec ((q : Int) < 8) (by kernel_rfl) (fun c140 => ?_) (fun c140 => ?_)
        · skip
          refine wp_skip ?_
          refine hK29 _ _ ?_
          refine wp_seq_k fun K30 hK30 => ?_
          refine wp_block ?_
          refine wp_seq_k fun K31 hK31 => ?_
          refine cPlain ?_
          refine sv 141 (.int .i64 (q : Int)) .of ?_
          simp only [sZ, sS]
          refine sv 16 (.int .i64 (q : Int)) .of ?_
          simp only [sZ, sS]
          refine wpList_nil ?_
          refine hK31 _ _ ?_
          have e6 := drew_e0 wl3
          refine zg (fun w_ => Blk .u32 w_ T 35 (nn tab) ∧ Bl w.heap.size w w_ ∧ Blk .u32 w_ w.heap.size 32 (nn s) ∧ Blk .u8 w_ w1.heap.size 156 (nn b) ∧ Blk .u32 w_ w2.heap.size 32 (nn (List.replicate 8 0)) ∧ Blk .u32 w_ w3.heap.size 33 (nn X) ∧ Blk .u32 w_ wl1.heap.size 32 (nn U) ∧ wl3.heap.size ≤ w_.heap.size) (fun w_ => Blk .u32 w_ T 35 (nn tab) ∧ Bl w.heap.size w w_ ∧ Blk .u32 w_ w.heap.size 32 (nn s) ∧ Blk .u8 w_ w1.heap.size 156 (nn b) ∧ Blk .u32 w_ w2.heap.size 32 (nn (List.replicate 8 0)) ∧ Blk .u32 w_ w3.heap.size 33 (nn X) ∧ Blk .u32 w_ wl1.heap.size 32 (nn U) ∧ wl3.heap.size ≤ w_.heap.size) 8 9 ⟨TB.e0 e6, BL.e0 e6, b4.e0 e6, b5.e0 e6, b6.e0 e6, b7.e0 e6, b11.e0 e6, Nat.le_refl _⟩ ?_
          clear TB BL b4 b5 b6 b7 b11
          clear e6
          intro w17
          rintro ⟨TB, BL, b4, b5, b6, b7, b11, z4⟩
          refine zv 0 142 (.int .i64 (q : Int)) (fun _ _ => .of) ⟨TB, BL, b4, b5, b6, b7, b11, by omega⟩ ?_
          simp only [sZ, sS]
          refine zv 1 143 (.pointer (some ⟨wl1.heap.size, q, none⟩)) (fun _ ⟨TB, BL, b4, b5, b6, b7, b11, z4⟩ => Val.idxA01 32 (.tmp 11) (.tmp 142) rfl wl1.heap.size q (by kernel_rfl) (by kernel_rfl) Try.underlying32 (by kernel_rfl) (by omega)) ⟨TB, BL, b4, b5, b6, b7, b11, by omega⟩ ?_
          simp only [sZ, sS]
          refine zv 2 144 (.int .u32 ((U.getD q 0 : Nat) : Int)) (fun _ ⟨TB, BL, b4, b5, b6, b7, b11, z4⟩ => Val.nblk1 31 _ rfl wl1.heap.size q (by kernel_rfl) (fun _ => (by kernel_rfl)) b11 (by omega)) ⟨TB, BL, b4, b5, b6, b7, b11, by omega⟩ ?_
          simp only [sZ, sS]
          refine zv 3 145 (.int .i64 (q : Int)) (fun _ _ => .of) ⟨TB, BL, b4, b5, b6, b7, b11, by omega⟩ ?_
          simp only [sZ, sS]
          refine zv 4 146 (.pointer (some ⟨w.heap.size, q, none⟩)) (fun _ ⟨TB, BL, b4, b5, b6, b7, b11, z4⟩ => Val.idxA01 32 (.tmp 4) (.tmp 145) rfl w.heap.size q (by kernel_rfl) (by kernel_rfl) Try.underlying32 (by kernel_rfl) (by omega)) ⟨TB, BL, b4, b5, b6, b7, b11, by omega⟩ ?_
          simp only [sZ, sS]
          refine zv 5 147 (.int .u32 ((s.getD q 0 : Nat) : Int)) (fun _ ⟨TB, BL, b4, b5, b6, b7, b11, z4⟩ => Val.nblk1 31 _ rfl w.heap.size q (by kernel_rfl) (fun _ => (by kernel_rfl)) b4 (by omega)) ⟨TB, BL, b4, b5, b6, b7, b11, by omega⟩ ?_
          simp only [sZ, sS]
          refine zv 6 148 (.int .u32 ((((U.getD q 0) + (s.getD q 0)) % 4294967296 : Nat) : Int)) (fun _ ⟨TB, BL, b4, b5, b6, b7, b11, z4⟩ => Val.addN 31 _ (.tmp 144) (.tmp 147) rfl .u32 (U.getD q 0) (s.getD q 0) 4294967296 (by kernel_rfl) (by kernel_rfl)) ⟨TB, BL, b4, b5, b6, b7, b11, by omega⟩ ?_
          simp only [sZ, sS]
          refine zv 7 149 (.pointer (some ⟨wl1.heap.size, q, none⟩)) (fun _ ⟨TB, BL, b4, b5, b6, b7, b11, z4⟩ => Val.idxA01 32 (.tmp 11) (.tmp 142) rfl wl1.heap.size q (by kernel_rfl) (by kernel_rfl) Try.underlying32 (by kernel_rfl) (by omega)) ⟨TB, BL, b4, b5, b6, b7, b11, by omega⟩ ?_
          simp only [sZ, sS]
          refine zo1 8 rfl ?_
          refine xStoreNN 31 (.tmp 149) (.tmp 148) rfl .u32 wl1.heap.size 32 U q (((U.getD q 0) + (s.getD q 0)) % 4294967296) (by kernel_rfl) (by kernel_rfl) b11 (by kernel_rfl) (by omega) ?_
          intro w18 t5
          have zt5 := t5.z
          have TB_ := TB.ev t5.e (show ¬ (T = wl1.heap.size) by omega)
          have BL_ := BL.ev t5.e (fun i h => show w.heap.size ≤ i by have h : i = wl1.heap.size := h; omega)
          have b4_ := b4.ev t5.e (show ¬ (w.heap.size = wl1.heap.size) by omega)
          have b5_ := b5.ev t5.e (show ¬ (w1.heap.size = wl1.heap.size) by omega)
          have b6_ := b6.ev t5.e (show ¬ (w2.heap.size = wl1.heap.size) by omega)
          have b7_ := b7.ev t5.e (show ¬ (w3.heap.size = wl1.heap.size) by omega)
          replace TB := TB_; clear TB_
          replace BL := BL_; clear BL_
          replace b4 := b4_; clear b4_
          replace b5 := b5_; clear b5_
          replace b6 := b6_; clear b6_
          replace b7 := b7_; clear b7_
          replace b11 : Blk .u32 w18 wl1.heap.size 32 (nn (U.set q (((U.getD q 0) + (s.getD q 0)) % 4294967296))) := t5.c
          clear t5
          refine zz 8 ?_
          refine zd (by kernel_rfl) ?_ _
          refine hK30 _ _ ?_
          refine cPlain ?_
          refine sv 150 (.int .i64 ((q : Int) + 1)) (Val.add 3 _ (.tmp 139) _ rfl (q : Int) 1 (by kernel_rfl) (by kernel_rfl) (by omega)) ?_
          simp only [sZ, sS]
          refine sv 139 (.int .i64 ((q : Int) + 1)) .of ?_
          simp only [sZ, sS]
          refine wpList_nil ?_
          refine ⟨_, ?_, q + 1, (U.set q (((U.getD q 0) + (s.getD q 0)) % 4294967296)), rfl, by omega, by rw [hc3_1]; rfl, by simp [hc3_2], cutE, TB, BL, b4, b5, b6, b7, b11, by omega⟩
          omega
        · skip
          have hk3 : q = 8 := by omega
          rw [hk3] at hc3_1
          refine wp_exit ?_
          simp only [Exit.then, Exit.inBlock, ↓reduceIte, Nat.reduceEqDiff]
          refine hK26 _ _ ?_
          refine wp_seq_k fun K32 hK32 => ?_
          refine cPlain ?_
          refine sv 151 (.agg (cellsOf .u32 (nn U))) (Val.blk 32 _ rfl 0 8 (by kernel_rfl) b11 _ Try.underlying32 rfl (by kernel_rfl) (by (try simp only [nn_len, List.length_cons, List.length_nil, List.length_set, List.length_replicate]); try omega) _ (seg_all' _ (by (try simp only [nn_len, List.length_cons, List.length_nil, List.length_set, List.length_replicate]); try omega))) ?_
          simp only [sZ, sS]
          refine xStoreA 32 (.tmp 6) (.tmp 151) rfl .u32 w2.heap.size 32 (nn (List.replicate 8 0)) 0 (nn U) (by kernel_rfl) (by kernel_rfl) b6 (by rw [show (nn U).length = 8 by ((try simp only [nn_len, List.length_cons, List.length_nil, List.length_set, List.length_replicate]); try omega)]; kernel_rfl) (by (try simp only [nn_len, List.length_cons, List.length_nil, List.length_set, List.length_replicate]); try omega) (nn U) (over_whole _ _ (by (try simp only [nn_len, List.length_cons, List.length_nil, List.length_set, List.length_replicate]); try omega)) ?_
          intro w19 t6
          have zt6 := t6.z
          have TB_ := TB.ev t6.e (show ¬ (T = w2.heap.size) by omega)
          have BL_ := BL.ev t6.e (fun i h => show w.heap.size ≤ i by have h : i = w2.heap.size := h; omega)
          have b4_ := b4.ev t6.e (show ¬ (w.heap.size = w2.heap.size) by omega)
          have b5_ := b5.ev t6.e (show ¬ (w1.heap.size = w2.heap.size) by omega)
          have b7_ := b7.ev t6.e (show ¬ (w3.heap.size = w2.heap.size) by omega)
          have b11_ := b11.ev t6.e (show ¬ (wl1.heap.size = w2.heap.size) by omega)
          replace TB := TB_; clear TB_
          replace BL := BL_; clear BL_
          replace b4 := b4_; clear b4_
          replace b5 := b5_; clear b5_
          replace b7 := b7_; clear b7_
          replace b11 := b11_; clear b11_
          replace b6 : Blk .u32 w19 w2.heap.size 32 (nn U) := t6.c
          clear t6
          refine wpList_nil ?_
          refine hK32 _ _ ?_
          refine wp_ret ?_
          (try simp only [Exit.then, Exit.inBlock])
          refine bodyPost_ret (rC rfl _ w2.heap.size _ _ (by kernel_rfl) b6.cel _ Try.underlying32 rfl (by simp only [List.length_map, nn_len, hc3_2]; kernel_rfl)) rfl ?_
          rw [hc3_1, hc2_1, hc1_1] at *
          exact ⟨rfl, BL.b⟩

end Go.Proofs.Ytanggdnmoaflfaa
