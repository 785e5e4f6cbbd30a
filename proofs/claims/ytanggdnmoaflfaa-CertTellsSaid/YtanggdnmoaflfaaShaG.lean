/-
  sha.blocks.
-/
import Derived.Test.YtanggdnmoaflfaaShaH
namespace Go.Proofs.Ytanggdnmoaflfaa
open Go.RowKit
set_option linter.unusedVariables false
set_option linter.unusedSimpArgs false
set_option maxRecDepth 100000
attribute [local irreducible] wpList Code.wp wpAnyZ
/-- A state by so many blocks. -/
def goB (tab s ns : List Nat) : Nat → List Nat
  | 0 => s
  | k + 1 => blockN tab (goB tab s ns k) ((ns.drop (64 * k)).take 64)
theorem goB_len (tab s ns : List Nat) (h : s.length = 8) : ∀ k, (goB tab s ns k).length = 8
  | 0 => h
  | k + 1 => blockN_len _ _ _ (goB_len tab s ns h k)
theorem drop_next (ns : List Nat) (k : Nat) (m : Nat) (hm : m = (nn (ns.drop (64 * k))).length) : ((nn (ns.drop (64 * k))).drop 64).take (m - 64) = nn (ns.drop (64 * (k + 1))) := by
  subst hm
  rw [← nn_drop, ← nn_take, List.drop_drop]
  congr 1
  rw [nn_len, List.length_drop, show 64 * k + 64 = 64 * (k + 1) by omega]
  apply List.take_of_length_le
  rw [List.length_drop]; omega

theorem blocks_any (T : Nat) (tab s ns : List Nat) (v : Value) (ht : tab.length = 72) (hs : s.length = 8) (w : World) (TB : Blk .u32 w T 35 (nn tab)) (hv : SL .u8 w v (nn ns)) :
    Calls Try.prog 111 #[.pointer (some ⟨T, 0, none⟩), .agg (cellsOf .u32 (nn s)), v] w fun e w' => ∃ u, e = .returned (.tuple #[.agg (cellsOf .u32 (nn (goB tab s ns (ns.length / 64)))), u]) ∧ (SL .u8 w' u (nn (ns.drop (64 * (ns.length / 64)))) ∧ ∀ i, u.ownBlock = some i → i < w.heap.size) ∧ Below w.heap.size w w' := by
  have BL := Bl.refl w
  have hT := TB.lt
  have hvl := hv.lt
  have R := hv
  go_enter Try.func111, Try.ntmps111
  refine wp_seq_k fun K1 hK1 => ?_
  refine cPlain ?_
  refine xBox 4 32 _ ((nn s).map (Value.int .u32)) rfl (cells_toList _ _) ?_
  intro w1 n1
  have zn1 := n1.z
  have b4 := n1.c
  replace b4 : Blk .u32 w1 w.heap.size 32 (nn s) := b4
  replace TB := TB.e0 n1.e
  replace BL := BL.e0 n1.e
  replace R := R.e0 n1.e
  simp only [sZ, sS]
  refine xAlloc 6 32 ((nn (List.replicate 8 0)).map (Value.int .u32)) rfl (by kernel_rfl) ?_
  intro w2 n2
  have zn2 := n2.z
  have b6 := n2.c
  replace b6 : Blk .u32 w2 w1.heap.size 32 (nn (List.replicate 8 0)) := b6
  replace TB := TB.e0 n2.e
  replace BL := BL.e0 n2.e
  replace R := R.e0 n2.e
  replace b4 := b4.e0 n2.e
  simp only [sZ, sS]
  refine sv 7 (.slice none 0 0) .of ?_
  simp only [sZ, sS]
  refine wpList_nil ?_
  refine hK1 _ _ ?_
  refine wp_seq_k fun K2 hK2 => ?_
  refine wp_block ?_
  refine cLoop (fun N_ A_ w_ => ∃ (k : Nat) (S : List Nat) (u : Value), (N_ = ns.length - 64 * k ∧ (64 * k ≤ ns.length) ∧ (S = goB tab s ns k) ∧ (S.length = 8) ∧ (∀ i, Value.ownBlock u = some i → i < w.heap.size) ∧ (∃ s1 : Nat → Value, A_ = ⟨[.pointer (some ⟨T, 0, none⟩), .agg (cellsOf .u32 (nn s)), u, undef, .pointer (some ⟨w.heap.size, 0, none⟩), undef, .pointer (some ⟨w1.heap.size, 0, none⟩), .slice none 0 0, (s1 8), (s1 9), (s1 10), (s1 11), (s1 12), (s1 13), (s1 14), (s1 15), (s1 16), (s1 17), (s1 18), undef, undef].toArray, []⟩) ∧ Blk .u32 w_ T 35 (nn tab) ∧ Bl w.heap.size w w_ ∧ SL .u8 w_ u (nn (ns.drop (64 * k))) ∧ Blk .u32 w_ w.heap.size 32 (nn S) ∧ Blk .u32 w_ w1.heap.size 32 (nn (List.replicate 8 0)) ∧ w2.heap.size ≤ w_.heap.size)) _ ⟨0, s, v, rfl, by omega, rfl, hs, hvl, cutE, TB, BL, (by simpa using R), b4, b6, Nat.le_refl _⟩ ?_
  clear TB BL R b4 b6
  rintro n_ a_ wl0 ⟨k, S, u, rfl, hc0_0, hc0_1, hc0_2, hc0_3, ⟨s1, rfl⟩, TB, BL, R, b4, b6, zl0⟩
  refine wp_seq_k fun K3 hK3 => ?_
  refine wp_seq_k fun K4 hK4 => ?_
  refine cPlain ?_
  refine sv 8 (u) .of ?_
  simp only [sZ, sS]
  refine sv 9 (.int .i64 ((ns.length - 64 * k : Nat) : Int)) (Val.lenS (.tmp 8) 29 rfl (by kernel_rfl) R (ns.length - 64 * k) (by rw [nn_len, List.length_drop]) Try.underlying29) ?_
  simp only [sZ, sS]
  refine sv 10 (.bool (decide (64 ≤ ((ns.length - 64 * k : Nat) : Int)))) (Val.cmp .geq 3 _ (.tmp 9) _ rfl .i64 ((ns.length - 64 * k : Nat) : Int) 64 (by kernel_rfl) (by kernel_rfl) (by simp) _ rfl) ?_
  simp only [sZ, sS]
  refine wpList_nil ?_
  refine hK4 _ _ ?_
  refine cDec (64 ≤ ((ns.length - 64 * k : Nat) : Int)) (by kernel_rfl) (fun c10 => ?_) (fun c10 => ?_)
  · skip
    refine wp_skip ?_
    refine hK3 _ _ ?_
    refine wp_seq_k fun K5 hK5 => ?_
    refine wp_block ?_
    have e1 := drew_e0 wl0
    refine zg (fun w_ => Blk .u32 w_ T 35 (nn tab) ∧ Bl w.heap.size w w_ ∧ SL .u8 w_ u (nn (ns.drop (64 * k))) ∧ Blk .u32 w_ w.heap.size 32 (nn S) ∧ Blk .u32 w_ w1.heap.size 32 (nn (List.replicate 8 0)) ∧ wl0.heap.size ≤ w_.heap.size) (fun w_ => Blk .u32 w_ T 35 (nn tab) ∧ Bl w.heap.size w w_ ∧ SL .u8 w_ u (nn (ns.drop (64 * k))) ∧ Blk .u32 w_ w.heap.size 32 (nn S) ∧ Blk .u32 w_ w1.heap.size 32 (nn (List.replicate 8 0)) ∧ wl0.heap.size ≤ w_.heap.size) 6 7 ⟨TB.e0 e1, BL.e0 e1, R.e0 e1, b4.e0 e1, b6.e0 e1, Nat.le_refl _⟩ ?_
    clear TB BL R b4 b6
    clear e1
    intro w3
    rintro ⟨TB, BL, R, b4, b6, z1⟩
    refine zv 0 13 (.pointer (some ⟨T, 0, none⟩)) (fun _ _ => .of) ⟨TB, BL, R, b4, b6, by omega⟩ ?_
    simp only [sZ, sS]
    refine zv 1 14 (.agg (cellsOf .u32 (nn S))) (fun _ ⟨TB, BL, R, b4, b6, z1⟩ => Val.blk 32 _ rfl 0 8 (by kernel_rfl) b4 _ Try.underlying32 rfl (by kernel_rfl) (by (try simp only [nn_len, List.length_cons, List.length_nil, List.length_set, List.length_replicate]); try omega) _ (seg_all' _ (by (try simp only [nn_len, List.length_cons, List.length_nil, List.length_set, List.length_replicate]); try omega))) ⟨TB, BL, R, b4, b6, by omega⟩ ?_
    simp only [sZ, sS]
    refine zv 2 15 (u) (fun _ _ => .of) ⟨TB, BL, R, b4, b6, by omega⟩ ?_
    simp only [sZ, sS]
    refine zv 3 16 (elemP u 0) (fun _ ⟨TB, BL, R, b4, b6, z1⟩ => Val.arrP 156 (.tmp 15) rfl u (by kernel_rfl) R 64 Try.underlying156 (by omega) (by rw [nn_len, List.length_drop]; omega)) ⟨TB, BL, R, b4, b6, by omega⟩ ?_
    simp only [sZ, sS]
    refine zv 4 17 (.agg (cellsOf .u8 (nn ((ns.drop (64 * k)).take 64)))) (fun _ ⟨TB, BL, R, b4, b6, z1⟩ => Val.ldArr 156 (.tmp 16) rfl u (by kernel_rfl) R 64 Try.underlying156 rfl (by kernel_rfl) (by omega) (by rw [nn_len, List.length_drop]; omega) _ (nn_take _ _).symm) ⟨TB, BL, R, b4, b6, by omega⟩ ?_
    simp only [sZ, sS]
    refine zo1 5 rfl ?_
    refine xCall 18 118 #[.pointer (some ⟨T, 0, none⟩), .agg (cellsOf .u32 (nn S)), .agg (cellsOf .u8 (nn ((ns.drop (64 * k)).take 64)))] (by kernel_rfl) ?_
    refine (block_any T tab S ((ns.drop (64 * k)).take 64) ht hc0_2 (by rw [List.length_take, List.length_drop]; omega) w3 TB).mono ?_
    rintro en w4 ⟨rfl, hb1⟩
    have e2 := belE0 hb1
    have ze2 := e2.size
    replace TB := TB.e0 e2
    replace BL := BL.e0 e2
    replace R := R.e0 e2
    replace b4 := b4.e0 e2
    replace b6 := b6.e0 e2
    clear e2
    have hS1 := blockN_len tab S ((ns.drop (64 * k)).take 64) hc0_2
    refine ⟨.agg (cellsOf .u32 (nn (blockN tab S ((ns.drop (64 * k)).take 64)))), rfl, ?_⟩
    refine ze 5 ⟨TB, BL, R, b4, b6, by omega⟩ ?_
    simp only [sZ, sS]
    refine zo1 6 rfl ?_
    refine xStoreA 32 (.tmp 4) (.tmp 18) rfl .u32 w.heap.size 32 (nn S) 0 (nn (blockN tab S ((ns.drop (64 * k)).take 64))) (by kernel_rfl) (by kernel_rfl) b4 (by rw [show (nn (blockN tab S ((ns.drop (64 * k)).take 64))).length = 8 by ((try simp only [nn_len, List.length_cons, List.length_nil, List.length_set, List.length_replicate]); try omega)]; kernel_rfl) (by (try simp only [nn_len, List.length_cons, List.length_nil, List.length_set, List.length_replicate]); try omega) (nn (blockN tab S ((ns.drop (64 * k)).take 64))) (over_whole _ _ (by (try simp only [nn_len, List.length_cons, List.length_nil, List.length_set, List.length_replicate]); try omega)) ?_
    intro w5 t1
    have zt1 := t1.z
    have TB_ := TB.ev t1.e (show ¬ (T = w.heap.size) by omega)
    have BL_ := BL.ev t1.e (fun i h => show w.heap.size ≤ i by have h : i = w.heap.size := h; omega)
    have R_ := R.ev t1.e (fun i hi => show ¬ (i = w.heap.size) by have := hc0_3 i hi; omega)
    have b6_ := b6.ev t1.e (show ¬ (w1.heap.size = w.heap.size) by omega)
    replace TB := TB_; clear TB_
    replace BL := BL_; clear BL_
    replace R := R_; clear R_
    replace b6 := b6_; clear b6_
    replace b4 : Blk .u32 w5 w.heap.size 32 (nn (blockN tab S ((ns.drop (64 * k)).take 64))) := t1.c
    clear t1
    refine zz 6 ?_
    refine zd (by kernel_rfl) ?_ _
    refine hK5 _ _ ?_
    refine cPlain ?_
    refine sv 11 (u) .of ?_
    simp only [sZ, sS]
    refine sv 12 (sliceV u 64 ((nn (ns.drop (64 * k))).length)) (Val.slc 29 (.tmp 11) (some _) none rfl u (by kernel_rfl) R 64 ((nn (ns.drop (64 * k))).length) (.inl (by kernel_rfl)) (.inr ⟨rfl, rfl⟩) (by rw [nn_len, List.length_drop]; omega) (Nat.le_refl _) Try.underlying29 (by kernel_rfl)) ?_
    simp only [sZ, sS]
    refine sv 2 (sliceV u 64 ((nn (ns.drop (64 * k))).length)) .of ?_
    simp only [sZ, sS]
    refine wpList_nil ?_
    refine ⟨_, ?_, k + 1, blockN tab S ((ns.drop (64 * k)).take 64), sliceV u 64 ((nn (ns.drop (64 * k))).length), rfl, by omega, by rw [hc0_1]; rfl, hS1, fun i hi => hc0_3 i (sliceV_own hi), cutE, TB, BL, ((drop_next ns k _ rfl) ▸ R.slice 64 (nn (ns.drop (64 * k))).length (by rw [nn_len, List.length_drop]; omega) (Nat.le_refl _)), b4, b6, by omega⟩
    omega
  · skip
    have hk : k = ns.length / 64 := by omega
    refine wp_exit ?_
    simp only [Exit.then, Exit.inBlock, ↓reduceIte, Nat.reduceEqDiff]
    refine hK2 _ _ ?_
    refine wp_seq_k fun K6 hK6 => ?_
    refine cPlain ?_
    refine sv 19 (.agg (cellsOf .u32 (nn S))) (Val.blk 32 _ rfl 0 8 (by kernel_rfl) b4 _ Try.underlying32 rfl (by kernel_rfl) (by (try simp only [nn_len, List.length_cons, List.length_nil, List.length_set, List.length_replicate]); try omega) _ (seg_all' _ (by (try simp only [nn_len, List.length_cons, List.length_nil, List.length_set, List.length_replicate]); try omega))) ?_
    simp only [sZ, sS]
    refine sv 20 (u) .of ?_
    simp only [sZ, sS]
    refine xStoreA 32 (.tmp 6) (.tmp 19) rfl .u32 w1.heap.size 32 (nn (List.replicate 8 0)) 0 (nn S) (by kernel_rfl) (by kernel_rfl) b6 (by rw [show (nn S).length = 8 by ((try simp only [nn_len, List.length_cons, List.length_nil, List.length_set, List.length_replicate]); try omega)]; kernel_rfl) (by (try simp only [nn_len, List.length_cons, List.length_nil, List.length_set, List.length_replicate]); try omega) (nn S) (over_whole _ _ (by (try simp only [nn_len, List.length_cons, List.length_nil, List.length_set, List.length_replicate]); try omega)) ?_
    intro w6 t2
    have zt2 := t2.z
    have TB_ := TB.ev t2.e (show ¬ (T = w1.heap.size) by omega)
    have BL_ := BL.ev t2.e (fun i h => show w.heap.size ≤ i by have h : i = w1.heap.size := h; omega)
    have R_ := R.ev t2.e (fun i hi => show ¬ (i = w1.heap.size) by have := hc0_3 i hi; omega)
    have b4_ := b4.ev t2.e (show ¬ (w.heap.size = w1.heap.size) by omega)
    replace TB := TB_; clear TB_
    replace BL := BL_; clear BL_
    replace R := R_; clear R_
    replace b4 := b4_; clear b4_
    replace b6 : Blk .u32 w6 w1.heap.size 32 (nn S) := t2.c
    clear t2
    refine sv 7 (u) .of ?_
    simp only [sZ, sS]
    refine wpList_nil ?_
    refine hK6 _ _ ?_
    refine wp_ret ?_
    (try simp only [Exit.then, Exit.inBlock])
    refine bodyPost_ret (rCT rfl _ w1.heap.size _ _ u (by kernel_rfl) (by kernel_rfl) b6.cel _ Try.underlying32 rfl (by simp only [List.length_map, nn_len, hc0_2]; kernel_rfl)) rfl ?_
    subst hk
    rw [← hc0_1]
    exact ⟨u, rfl, ⟨R, hc0_3⟩, BL.b⟩

end Go.Proofs.Ytanggdnmoaflfaa
