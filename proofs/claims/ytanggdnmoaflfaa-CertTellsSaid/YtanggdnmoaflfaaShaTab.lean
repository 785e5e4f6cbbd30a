/-
  sha.Table.
-/
import Derived.Test.YtanggdnmoaflfaaShaP
namespace Go.Proofs.Ytanggdnmoaflfaa
open Go.RowKit
set_option linter.unusedVariables false
set_option linter.unusedSimpArgs false
set_option maxRecDepth 100000
attribute [local irreducible] wpList Code.wp wpAnyZ
theorem prN_top : ∀ i, ∀ q ∈ prN i, q ≤ i + 1
  | 0, q, h => by cases h
  | i + 1, q, h => by
    simp only [prN, prStep] at h
    split at h
    · have := prN_top i q h; omega
    · rcases List.mem_append.1 h with h | h
      · have := prN_top i q h; omega
      · rw [List.mem_singleton.1 h]; omega
/-- The table, number by number. -/
def tabA (ps : List Nat) : Nat → List Nat
  | 0 => List.replicate 72 0
  | i + 1 => (tabA ps i).set i (rootN (ps.getD i 0) false)
def tabB (ps : List Nat) : Nat → List Nat
  | 0 => tabA ps 8
  | i + 1 => (tabB ps i).set (8 + i) (rootN (ps.getD i 0) true)
def tableN : List Nat := tabB (prN 310) 64
theorem prN_310_lt : ∀ j, j < 64 → (prN 310).getD j 0 < 18446744073709551616 := by
  intro j hj
  have hl := prN_310
  rw [List.getD_eq_getElem?_getD, List.getElem?_eq_getElem (by omega)]
  have := prN_top 310 _ (List.getElem_mem (h := (by omega : j < (prN 310).length)))
  show (prN 310)[j] < _
  omega

theorem table_any' (w : World) (ps : List Nat) (hps : prN 310 = ps) (hpl : ps.length = 64) (hpt : ∀ j, j < 64 → ps.getD j 0 < 18446744073709551616) :
    Calls Try.prog 11 #[] w fun e w' => e = .returned (.agg (cellsOf .u32 (nn (tabB ps 64)))) ∧ Below w.heap.size w w' := by
  have BL := Bl.refl w
  have hnl := nn_len ps
  go_enter Try.func11, Try.ntmps11
  refine wp_seq_k fun K1 hK1 => ?_
  refine cPlain ?_
  refine xAlloc 0 35 ((nn (List.replicate 72 0)).map (Value.int .u32)) rfl (by kernel_rfl) ?_
  intro w1 n1
  have zn1 := n1.z
  have b0 := n1.c
  replace b0 : Blk .u32 w1 w.heap.size 35 (nn (List.replicate 72 0)) := b0
  replace BL := BL.e0 n1.e
  simp only [sZ, sS]
  refine wpList_nil ?_
  refine hK1 _ _ ?_
  refine wp_seq_k fun K2 hK2 => ?_
  refine cPlain ?_
  refine xAlloc 1 35 ((nn (List.replicate 72 0)).map (Value.int .u32)) rfl (by kernel_rfl) ?_
  intro w2 n2
  have zn2 := n2.z
  have b1 := n2.c
  replace b1 : Blk .u32 w2 w1.heap.size 35 (nn (List.replicate 72 0)) := b1
  replace BL := BL.e0 n2.e
  replace b0 := b0.e0 n2.e
  simp only [sZ, sS]
  refine wpList_nil ?_
  refine hK2 _ _ ?_
  refine wp_seq_k fun K3 hK3 => ?_
  refine cPlain ?_
  refine xCall 5 46 #[.int .i64 64] (by kernel_rfl) ?_
  refine (primes_any w2).mono ?_
  rintro en w3 ⟨u, rfl, hO, hb1⟩
  rw [hps] at hO
  have e1 := belE0 hb1
  have ze1 := e1.size
  replace BL := BL.e0 e1
  replace b0 := b0.e0 e1
  replace b1 := b1.e0 e1
  clear e1
  have OP : Own 84 .u64 w2.heap.size w3 u (nn ps) := hO
  have lOP_1 := OP.ge
  refine ⟨u, rfl, ?_⟩
  simp only [sZ, sS]
  refine sv 2 (u) .of ?_
  simp only [sZ, sS]
  refine wpList_nil ?_
  refine hK3 _ _ ?_
  refine wp_seq_k fun K4 hK4 => ?_
  refine wp_seq_k fun K5 hK5 => ?_
  refine cPlain ?_
  refine sv 6 (.int .i64 0) .of ?_
  simp only [sZ, sS]
  refine wpList_nil ?_
  refine hK5 _ _ ?_
  refine wp_block ?_
  refine cLoop (fun N_ A_ w_ => ∃ (i : Nat) (X : List Nat), (N_ = 8 - i ∧ (i ≤ 8) ∧ (X = tabA ps i) ∧ (X.length = 72) ∧ (∃ s1 : Nat → Value, A_ = ⟨[.pointer (some ⟨w.heap.size, 0, none⟩), .pointer (some ⟨w1.heap.size, 0, none⟩), u, (s1 3), undef, u, .int .i64 (i : Int), (s1 7), (s1 8), (s1 9), (s1 10), (s1 11), (s1 12), (s1 13), (s1 14), (s1 15), (s1 16), (s1 17), undef, undef, undef, undef, undef, undef, undef, undef, undef, undef, undef, undef, undef].toArray, []⟩) ∧ Bl w.heap.size w w_ ∧ Blk .u32 w_ w.heap.size 35 (nn (List.replicate 72 0)) ∧ Blk .u32 w_ w1.heap.size 35 (nn X) ∧ Own 84 .u64 w2.heap.size w_ u (nn ps) ∧ w3.heap.size ≤ w_.heap.size)) _ ⟨0, (List.replicate 72 0), rfl, by omega, rfl, by simp, cutE, BL, b0, b1, OP, Nat.le_refl _⟩ ?_
  clear BL b0 b1 OP
  rintro n_ a_ wl0 ⟨i, X, rfl, hc0_0, hc0_1, hc0_2, ⟨s1, rfl⟩, BL, b0, b1, OP, zl0⟩
  have lOP_2 := OP.ge
  refine wp_seq_k fun K6 hK6 => ?_
  refine cPlain ?_
  refine sv 7 (.bool (decide ((i : Int) < 8))) (Val.cmp .lss 3 _ (.tmp 6) _ rfl .i64 (i : Int) 8 (by kernel_rfl) (by kernel_rfl) (by simp) _ rfl) ?_
  simp only [sZ, sS]
  refine wpList_nil ?_
  refine hK6 _ _ ?_
  refine wp_seq_k fun K7 hK7 => ?_
  refine cDec ((i : Int) < 8) (by kernel_rfl) (fun c7 => ?_) (fun c7 => ?_)
  · skip
    refine wp_skip ?_
    refine hK7 _ _ ?_
    refine wp_seq_k fun K8 hK8 => ?_
    refine wp_block ?_
    refine wp_seq_k fun K9 hK9 => ?_
    refine cPlain ?_
    refine sv 8 (.int .i64 (i : Int)) .of ?_
    simp only [sZ, sS]
    refine sv 3 (.int .i64 (i : Int)) .of ?_
    simp only [sZ, sS]
    refine wpList_nil ?_
    refine hK9 _ _ ?_
    refine cPlain ?_
    refine sv 9 (.int .i64 (i : Int)) .of ?_
    simp only [sZ, sS]
    refine sv 10 (u) .of ?_
    simp only [sZ, sS]
    refine sv 11 (.int .i64 (i : Int)) .of ?_
    simp only [sZ, sS]
    refine sv 12 (elemP u i) (Val.idxE 81 (.tmp 10) (.tmp 11) rfl u i (by kernel_rfl) (by kernel_rfl) OP.sl Try.underlying81 (by kernel_rfl) (by omega)) ?_
    simp only [sZ, sS]
    refine sv 13 (.int .u64 ((ps.getD i 0 : Nat) : Int)) (Val.nldE 84 _ rfl u i (by kernel_rfl) (fun _ => (by kernel_rfl)) OP.sl (by omega)) ?_
    simp only [sZ, sS]
    refine xCall 14 47 #[.int .u64 ((ps.getD i 0 : Nat) : Int), .bool false] (by kernel_rfl) ?_
    refine (root_any (ps.getD i 0) false (hpt i (by omega)) wl0).mono ?_
    rintro en w4 ⟨rfl, hb1⟩
    have e2 := belE0 hb1
    have ze2 := e2.size
    replace BL := BL.e0 e2
    replace b0 := b0.e0 e2
    replace b1 := b1.e0 e2
    replace OP := OP.e0 e2
    clear e2
    refine ⟨.int .u32 ((rootN (ps.getD i 0) false : Nat) : Int), rfl, ?_⟩
    simp only [sZ, sS]
    refine sv 15 (.pointer (some ⟨w1.heap.size, 0, none⟩)) .of ?_
    simp only [sZ, sS]
    refine sv 16 (.pointer (some ⟨w1.heap.size, i, none⟩)) (Val.idxA01 32 (.tmp 15) (.tmp 9) rfl w1.heap.size i (by kernel_rfl) (by kernel_rfl) Try.underlying32 (by kernel_rfl) (by omega)) ?_
    simp only [sZ, sS]
    refine xStoreNN 31 (.tmp 16) (.tmp 14) rfl .u32 w1.heap.size 35 X i (rootN (ps.getD i 0) false) (by kernel_rfl) (by kernel_rfl) b1 (by kernel_rfl) (by omega) ?_
    intro w5 t1
    have zt1 := t1.z
    have BL_ := BL.ev t1.e (fun i h => show w.heap.size ≤ i by have h : i = w1.heap.size := h; omega)
    have b0_ := b0.ev t1.e (show ¬ (w.heap.size = w1.heap.size) by omega)
    have OP_ := OP.ev t1.e (fun i hi => show ¬ (i = w1.heap.size) by have := lOP_2 i hi; omega)
    replace BL := BL_; clear BL_
    replace b0 := b0_; clear b0_
    replace OP := OP_; clear OP_
    replace b1 : Blk .u32 w5 w1.heap.size 35 (nn (X.set i (rootN (ps.getD i 0) false))) := t1.c
    clear t1
    refine wpList_nil ?_
    refine hK8 _ _ ?_
    refine cPlain ?_
    refine sv 17 (.int .i64 ((i : Int) + 1)) (Val.add 3 _ (.tmp 6) _ rfl (i : Int) 1 (by kernel_rfl) (by kernel_rfl) (by omega)) ?_
    simp only [sZ, sS]
    refine sv 6 (.int .i64 ((i : Int) + 1)) .of ?_
    simp only [sZ, sS]
    refine wpList_nil ?_
    refine ⟨_, ?_, i + 1, (X.set i (rootN (ps.getD i 0) false)), rfl, by omega, by rw [hc0_1]; rfl, by simp [hc0_2], cutE, BL, b0, b1, OP, by omega⟩
    omega
  · skip
    have hi8 : i = 8 := by omega
    rw [hi8] at hc0_1
    refine wp_exit ?_
    simp only [Exit.then, Exit.inBlock, ↓reduceIte, Nat.reduceEqDiff]
    refine hK4 _ _ ?_
    refine wp_seq_k fun K10 hK10 => ?_
    refine wp_seq_k fun K11 hK11 => ?_
    refine cPlain ?_
    refine sv 18 (.int .i64 0) .of ?_
    simp only [sZ, sS]
    refine wpList_nil ?_
    refine hK11 _ _ ?_
    refine wp_block ?_
    refine cLoop (fun N_ A_ w_ => ∃ (j : Nat) (Y : List Nat), (N_ = 64 - j ∧ (j ≤ 64) ∧ (Y = tabB ps j) ∧ (Y.length = 72) ∧ (∃ s2 : Nat → Value, A_ = ⟨[.pointer (some ⟨w.heap.size, 0, none⟩), .pointer (some ⟨w1.heap.size, 0, none⟩), u, (s1 3), (s2 4), u, .int .i64 (i : Int), .bool (decide ((i : Int) < 8)), (s1 8), (s1 9), (s1 10), (s1 11), (s1 12), (s1 13), (s1 14), (s1 15), (s1 16), (s1 17), .int .i64 (j : Int), (s2 19), (s2 20), (s2 21), (s2 22), (s2 23), (s2 24), (s2 25), (s2 26), (s2 27), (s2 28), (s2 29), undef].toArray, []⟩) ∧ Bl w.heap.size w w_ ∧ Blk .u32 w_ w.heap.size 35 (nn (List.replicate 72 0)) ∧ Blk .u32 w_ w1.heap.size 35 (nn Y) ∧ Own 84 .u64 w2.heap.size w_ u (nn ps) ∧ wl0.heap.size ≤ w_.heap.size)) _ ⟨0, X, rfl, by omega, by rw [hc0_1]; rfl, hc0_2, cutE, BL, b0, b1, OP, Nat.le_refl _⟩ ?_
    clear BL b0 b1 OP
    rintro n_ a_ wl1 ⟨j, Y, rfl, hc1_0, hc1_1, hc1_2, ⟨s2, rfl⟩, BL, b0, b1, OP, zl1⟩
    have lOP_3 := OP.ge
    refine wp_seq_k fun K12 hK12 => ?_
    refine cPlain ?_
    refine sv 19 (.bool (decide ((j : Int) < 64))) (Val.cmp .lss 3 _ (.tmp 18) _ rfl .i64 (j : Int) 64 (by kernel_rfl) (by kernel_rfl) (by simp) _ rfl) ?_
    simp only [sZ, sS]
    refine wpList_nil ?_
    refine hK12 _ _ ?_
    refine wp_seq_k fun K13 hK13 => ?_
    refine cDec ((j : Int) < 64) (by kernel_rfl) (fun c19 => ?_) (fun c19 => ?_)
    · skip
      refine wp_skip ?_
      refine hK13 _ _ ?_
      refine wp_seq_k fun K14 hK14 => ?_
      refine wp_block ?_
      refine wp_seq_k fun K15 hK15 => ?_
      refine cPlain ?_
      refine sv 20 (.int .i64 (j : Int)) .of ?_
      simp only [sZ, sS]
      refine sv 4 (.int .i64 (j : Int)) .of ?_
      simp only [sZ, sS]
      refine wpList_nil ?_
      refine hK15 _ _ ?_
      refine cPlain ?_
      refine sv 21 (.int .i64 (j : Int)) .of ?_
      simp only [sZ, sS]
      refine sv 22 (u) .of ?_
      simp only [sZ, sS]
      refine sv 23 (.int .i64 (j : Int)) .of ?_
      simp only [sZ, sS]
      refine sv 24 (elemP u j) (Val.idxE 81 (.tmp 22) (.tmp 23) rfl u j (by kernel_rfl) (by kernel_rfl) OP.sl Try.underlying81 (by kernel_rfl) (by omega)) ?_
      simp only [sZ, sS]
      refine sv 25 (.int .u64 ((ps.getD j 0 : Nat) : Int)) (Val.nldE 84 _ rfl u j (by kernel_rfl) (fun _ => (by kernel_rfl)) OP.sl (by omega)) ?_
      simp only [sZ, sS]
      refine xCall 26 47 #[.int .u64 ((ps.getD j 0 : Nat) : Int), .bool true] (by kernel_rfl) ?_
      refine (root_any (ps.getD j 0) true (hpt j (by omega)) wl1).mono ?_
      rintro en w6 ⟨rfl, hb1⟩
      have e3 := belE0 hb1
      have ze3 := e3.size
      replace BL := BL.e0 e3
      replace b0 := b0.e0 e3
      replace b1 := b1.e0 e3
      replace OP := OP.e0 e3
      clear e3
      refine ⟨.int .u32 ((rootN (ps.getD j 0) true : Nat) : Int), rfl, ?_⟩
      simp only [sZ, sS]
      refine sv 27 (.pointer (some ⟨w1.heap.size, 8, none⟩)) .of ?_
      simp only [sZ, sS]
      refine sv 28 (.pointer (some ⟨w1.heap.size, 8 + j, none⟩)) (Val.idxA1 33 (.tmp 27) (.tmp 21) rfl w1.heap.size 8 j (by kernel_rfl) (by kernel_rfl) Try.underlying33 (by kernel_rfl) (by omega)) ?_
      simp only [sZ, sS]
      refine xStoreNN 31 (.tmp 28) (.tmp 26) rfl .u32 w1.heap.size 35 Y (8 + j) (rootN (ps.getD j 0) true) (by kernel_rfl) (by kernel_rfl) b1 (by kernel_rfl) (by omega) ?_
      intro w7 t2
      have zt2 := t2.z
      have BL_ := BL.ev t2.e (fun i h => show w.heap.size ≤ i by have h : i = w1.heap.size := h; omega)
      have b0_ := b0.ev t2.e (show ¬ (w.heap.size = w1.heap.size) by omega)
      have OP_ := OP.ev t2.e (fun i hi => show ¬ (i = w1.heap.size) by have := lOP_3 i hi; omega)
      replace BL := BL_; clear BL_
      replace b0 := b0_; clear b0_
      replace OP := OP_; clear OP_
      replace b1 : Blk .u32 w7 w1.heap.size 35 (nn (Y.set (8 + j) (rootN (ps.getD j 0) true))) := t2.c
      clear t2
      refine wpList_nil ?_
      refine hK14 _ _ ?_
      refine cPlain ?_
      refine sv 29 (.int .i64 ((j : Int) + 1)) (Val.add 3 _ (.tmp 18) _ rfl (j : Int) 1 (by kernel_rfl) (by kernel_rfl) (by omega)) ?_
      simp only [sZ, sS]
      refine sv 18 (.int .i64 ((j : Int) + 1)) .of ?_
      simp only [sZ, sS]
      refine wpList_nil ?_
      refine ⟨_, ?_, j + 1, (Y.set (8 + j) (rootN (ps.getD j 0) true)), rfl, by omega, by rw [hc1_1]; rfl, by simp [hc1_2], cutE, BL, b0, b1, OP, by omega⟩
      omega
    · skip
      have hj64 : j = 64 := by omega
      rw [hj64] at hc1_1
      refine wp_exit ?_
      simp only [Exit.then, Exit.inBlock, ↓reduceIte, Nat.reduceEqDiff]
      refine hK10 _ _ ?_
      refine wp_seq_k fun K16 hK16 => ?_
      refine cPlain ?_
      refine sv 30 (.agg (cellsOf .u32 (nn Y))) (Val.blk 35 _ rfl 0 72 (by kernel_rfl) b1 _ Try.underlying35 rfl (by kernel_rfl) (by (try simp only [nn_len, List.length_cons, List.length_nil, List.length_set, List.length_replicate]); try omega) _ (seg_all' _ (by (try simp only [nn_len, List.length_cons, List.length_nil, List.length_set, List.length_replicate]); try omega))) ?_
      simp only [sZ, sS]
      refine xStoreA 35 (.tmp 0) (.tmp 30) rfl .u32 w.heap.size 35 (nn (List.replicate 72 0)) 0 (nn Y) (by kernel_rfl) (by kernel_rfl) b0 (by rw [show (nn Y).length = 72 by ((try simp only [nn_len, List.length_cons, List.length_nil, List.length_set, List.length_replicate]); try omega)]; kernel_rfl) (by (try simp only [nn_len, List.length_cons, List.length_nil, List.length_set, List.length_replicate]); try omega) (nn Y) (over_whole _ _ (by (try simp only [nn_len, List.length_cons, List.length_nil, List.length_set, List.length_replicate]); try omega)) ?_
      intro w8 t3
      have zt3 := t3.z
      have BL_ := BL.ev t3.e (fun i h => show w.heap.size ≤ i by have h : i = w.heap.size := h; omega)
      have b1_ := b1.ev t3.e (show ¬ (w1.heap.size = w.heap.size) by omega)
      have OP_ := OP.ev t3.e (fun i hi => show ¬ (i = w.heap.size) by have := lOP_3 i hi; omega)
      replace BL := BL_; clear BL_
      replace b1 := b1_; clear b1_
      replace OP := OP_; clear OP_
      replace b0 : Blk .u32 w8 w.heap.size 35 (nn Y) := t3.c
      clear t3
      refine wpList_nil ?_
      refine hK16 _ _ ?_
      refine wp_ret ?_
      (try simp only [Exit.then, Exit.inBlock])
      refine bodyPost_ret (rC rfl _ w.heap.size _ _ (by kernel_rfl) b0.cel _ Try.underlying35 rfl (by rw [List.length_map, show (nn Y).length = 72 by ((try simp only [nn_len, List.length_cons, List.length_nil, List.length_set, List.length_replicate]); try omega)]; kernel_rfl)) rfl ?_
      rw [← hc1_1]
      exact ⟨rfl, BL.b⟩

/-- sha.Table -/
theorem table_any (w : World) : Calls Try.prog 11 #[] w fun e w' => e = .returned (.agg (cellsOf .u32 (nn tableN))) ∧ Below w.heap.size w w' :=
  table_any' w _ rfl prN_310 prN_310_lt
end Go.Proofs.Ytanggdnmoaflfaa
