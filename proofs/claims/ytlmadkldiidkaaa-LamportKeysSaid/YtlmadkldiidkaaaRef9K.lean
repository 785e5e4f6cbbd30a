/-
  ref09: Halves, Key, Sign.
-/
import Derived.Test.YtlmadkldiidkaaaRef9
import Derived.Test.YtlmadkldiidkaaaLamKey
namespace Go.Proofs.Ytlmadkldiidkaaa
open Go.RowKit
set_option linter.unusedVariables false
set_option linter.unusedSimpArgs false
set_option maxRecDepth 100000
attribute [local irreducible] wpList Code.wp wpAnyZ
theorem info_ksl8 : (Try.prog.info? 43).map (fun i => (i.zero, i.size, i.bytes)) = some (some (.slice none 0 0), 1, 24) := by kernel_rfl
def hvN (tab seed : List Nat) (leaf : Int) (j : Nat) : List Nat := halfN tab (secretN tab seed leaf ((j / 2 : Nat) : Int) ((j % 2 : Nat) : Int))
def hvsN (tab seed : List Nat) (leaf : Int) (k : Nat) : List (List Nat) := (List.range k).map (hvN tab seed leaf)
theorem hvsN_succ (tab seed : List Nat) (leaf : Int) (k : Nat) : hvsN tab seed leaf (k + 1) = hvsN tab seed leaf k ++ [hvN tab seed leaf k] := by unfold hvsN; rw [List.range_succ, List.map_append]; rfl
theorem hvsN_0 (tab seed : List Nat) (leaf : Int) : hvsN tab seed leaf 0 = [] := rfl
theorem hvsN_len (tab seed : List Nat) (leaf : Int) (k : Nat) : (hvsN tab seed leaf k).length = k := by simp [hvsN]
attribute [local irreducible] secretN halfN
theorem hvN_0 (tab seed : List Nat) (leaf : Int) (k : Nat) : hvN tab seed leaf (2 * k) = halfN tab (secretN tab seed leaf (k : Int) 0) := by
  unfold hvN
  rw [show 2 * k / 2 = k by omega, show 2 * k % 2 = 0 by omega]; rfl
theorem hvN_1 (tab seed : List Nat) (leaf : Int) (k : Nat) : hvN tab seed leaf (2 * k + 1) = halfN tab (secretN tab seed leaf (k : Int) 1) := by
  unfold hvN
  rw [show (2 * k + 1) / 2 = k by omega, show (2 * k + 1) % 2 = 1 by omega]; rfl
theorem hvsN_pairs (tab seed : List Nat) (leaf : Int) : ∀ k, hvsN tab seed leaf (2 * k) = (List.range k).flatMap fun (i : Nat) => [halfN tab (secretN tab seed leaf (i : Int) 0), halfN tab (secretN tab seed leaf (i : Int) 1)]
  | 0 => rfl
  | k + 1 => by
    rw [show 2 * (k + 1) = 2 * k + 1 + 1 by omega, hvsN_succ, hvsN_succ, hvsN_pairs tab seed leaf k, List.range_succ, List.flatMap_append, List.append_assoc, hvN_0, hvN_1]
    simp only [List.flatMap_cons, List.flatMap_nil, List.append_nil, List.cons_append, List.nil_append]
theorem keyL_hv (tab seed : List Nat) (leaf : Int) : taggedN tab 3 (hvsN tab seed leaf 512) = keyL tab seed leaf := by
  unfold keyL openN keytextN taggedN
  rw [pairs_same tab seed leaf _ bytes_zero 256 (Nat.le_refl _), ← hvsN_pairs]
theorem hvN_len (tab seed : List Nat) (leaf : Int) (j : Nat) : (hvN tab seed leaf j).length = 32 := halfN_len _ _
theorem hvsN_le (tab seed : List Nat) (leaf : Int) (k : Nat) : ∀ p ∈ hvsN tab seed leaf k, p.length ≤ 1000000 := by
  intro p hp
  obtain ⟨j, _, rfl⟩ := List.mem_map.1 hp
  rw [hvN_len]; omega
theorem hvsN_b (tab seed : List Nat) (leaf : Int) (k : Nat) : ∀ p ∈ hvsN tab seed leaf k, ∀ x ∈ p, x < 256 := by
  intro p hp
  obtain ⟨j, _, rfl⟩ := List.mem_map.1 hp
  exact halfN_b _ _
attribute [local irreducible] ofN textN numN macN taggedN rowsN fillN hvsN hvN keyL

set_option maxHeartbeats 4000000 in
theorem r9halves_any (tab : List Nat) (ht : tab.length = 72) (h32 : ∀ x ∈ tab, x < 4294967296) (w : World) (seed : List Nat) (hs : seed.length = 32) (hs8 : ∀ x ∈ seed, x < 256) (leaf : Int) (h1 : leaf ≤ 9223372036854775807) :
    Calls Try.prog 65 #[.agg (cellsOf .u32 (nn tab)), .agg (cellsOf .u8 (nn seed)), .int .i64 leaf] w fun e w' => ∃ u us, e = .returned u ∧ SV w' u us ∧ SLs .u8 w'.heap.size w' us ((hvsN tab seed leaf 512).map nn) ∧ Below w.heap.size w w' := by
  have BL := Bl.refl w
  go_enter Try.func65, Try.ntmps65
  refine wp_seq_k fun K1 hK1 => ?_
  refine cPlain ?_
  refine xBox 3 26 _ ((nn tab).map (Value.int .u32)) rfl (cells_toList _ _) ?_
  intro w1 n1
  have zn1 := n1.z
  have b3 := n1.c
  replace b3 : Blk .u32 w1 w.heap.size 26 (nn tab) := b3
  replace BL := BL.e0 n1.e
  simp only [List.set_cons_zero, List.set_cons_succ]
  refine xBox 4 27 _ ((nn (seed)).map (Value.int .u8)) rfl (cells_toList _ _) ?_
  intro w2 n2
  have zn2 := n2.z
  have b4 := n2.c
  replace b4 : Blk .u8 w2 w1.heap.size 27 (nn (seed)) := b4
  replace BL := BL.e0 n2.e
  replace b3 := b3.e0 n2.e
  simp only [List.set_cons_zero, List.set_cons_succ]
  refine sv 6 (.slice none 0 0) .of ?_
  simp only [List.set_cons_zero, List.set_cons_succ]
  refine wpList_nil ?_
  refine hK1 _ _ ?_
  refine wp_seq_k fun K2 hK2 => ?_
  refine cPlain ?_
  refine sv 7 (.slice none 0 0) .of ?_
  simp only [List.set_cons_zero, List.set_cons_succ]
  refine wpList_nil ?_
  refine hK2 _ _ ?_
  refine wp_seq_k fun K3 hK3 => ?_
  refine wp_seq_k fun K4 hK4 => ?_
  refine cPlain ?_
  refine sv 8 (.int .i64 0) .of ?_
  simp only [List.set_cons_zero, List.set_cons_succ]
  refine wpList_nil ?_
  refine hK4 _ _ ?_
  refine wp_block ?_
  refine cLoop (fun N_ A_ w_ => ∃ (i Bw : Nat) (u : Value) (us : List Value), (N_ = 512 - i ∧ (i ≤ 512) ∧ (∃ s1 : Nat → Value, A_ = ⟨[.agg (cellsOf .u32 (nn tab)), .agg (cellsOf .u8 (nn (seed))), .int .i64 leaf, .pointer (some ⟨w.heap.size, 0, none⟩), .pointer (some ⟨w1.heap.size, 0, none⟩), undef, .slice none 0 0, u, .int .i64 ((i : Nat) : Int), (s1 9), (s1 10), (s1 11), (s1 12), (s1 13), (s1 14), (s1 15), (s1 16), (s1 17), (s1 18), (s1 19), (s1 20), (s1 21), (s1 22), (s1 23), (s1 24), (s1 25), (s1 26), (s1 27), (s1 28), (s1 29), (s1 30), undef].toArray, []⟩) ∧ Bl w.heap.size w w_ ∧ Blk .u32 w_ w.heap.size 26 (nn tab) ∧ Blk .u8 w_ w1.heap.size 27 (nn (seed)) ∧ RowsB 43 Bw w2.heap.size w_ u us ((hvsN tab seed leaf i).map nn) ∧ w2.heap.size ≤ w_.heap.size)) _ ⟨0, w2.heap.size, .slice none 0 0, [], rfl, (Nat.zero_le _), cutE, BL, b3, b4, (by rw [hvsN_0]; exact (RowsB.nil _ _ _)), Nat.le_refl _⟩ ?_
  clear BL b3 b4
  rintro n_ a_ wl0 ⟨i, Bw, u, us, rfl, hc0_0, ⟨s1, rfl⟩, BL, b3, b4, RB, zl0⟩
  have hBl := RB.le
  have hul := RB.sls.length
  rw [List.length_map, hvsN_len] at hul
  have hhl := hvN_len tab seed leaf i
  refine wp_seq_k fun K5 hK5 => ?_
  refine wp_seq_k fun K6 hK6 => ?_
  refine cPlain ?_
  refine sv 11 (.int .i64 ((i : Nat) : Int)) .of ?_
  simp only [List.set_cons_zero, List.set_cons_succ]
  refine sv 12 (.bool (decide (((i : Nat) : Int) < 512))) (Val.cmp .lss 3 _ (.tmp 11) _ rfl .i64 ((i : Nat) : Int) 512 (by kernel_rfl) (by kernel_rfl) (by simp) _ rfl) ?_
  simp only [List.set_cons_zero, List.set_cons_succ]
  refine wpList_nil ?_
  refine hK6 _ _ ?_
  refine cDec (((i : Nat) : Int) < 512) (by kernel_rfl) (fun c12 => ?_) (fun c12 => ?_)
  · skip
    refine wp_skip ?_
    refine hK5 _ _ ?_
    refine wp_seq_k fun K7 hK7 => ?_
    refine wp_block ?_
    refine cCut (fun A_ w_ => ∃ (g9 : Nat), ((Bw ≤ g9) ∧ (∃ s2 : Nat → Value, A_ = ⟨[.agg (cellsOf .u32 (nn tab)), .agg (cellsOf .u8 (nn (seed))), .int .i64 leaf, .pointer (some ⟨w.heap.size, 0, none⟩), .pointer (some ⟨w1.heap.size, 0, none⟩), undef, .slice none 0 0, u, .int .i64 ((i : Nat) : Int), .pointer (some ⟨g9, 0, none⟩), (s1 10), .int .i64 ((i : Nat) : Int), .bool (decide (((i : Nat) : Int) < 512)), (s1 13), (s1 14), (s2 15), (s2 16), (s2 17), (s2 18), (s2 19), (s2 20), (s2 21), (s2 22), (s2 23), (s2 24), (s1 25), (s1 26), (s1 27), (s1 28), (s1 29), (s1 30), undef].toArray, []⟩) ∧ Bl w.heap.size w w_ ∧ Blk .u32 w_ w.heap.size 26 (nn tab) ∧ Blk .u8 w_ w1.heap.size 27 (nn (seed)) ∧ RowsB 43 Bw w2.heap.size w_ u us ((hvsN tab seed leaf i).map nn) ∧ Blk .u8 w_ g9 28 (nn (hvN tab seed leaf i)) ∧ wl0.heap.size ≤ w_.heap.size)) ?_ ?_
    · skip
      have e1 := drew_e0 wl0
      refine zg (fun w_ => Bl w.heap.size w w_ ∧ Blk .u32 w_ w.heap.size 26 (nn tab) ∧ Blk .u8 w_ w1.heap.size 27 (nn (seed)) ∧ RowsB 43 Bw w2.heap.size w_ u us ((hvsN tab seed leaf i).map nn) ∧ wl0.heap.size ≤ w_.heap.size) (fun w_ => Bl w.heap.size w w_ ∧ Blk .u32 w_ w.heap.size 26 (nn tab) ∧ Blk .u8 w_ w1.heap.size 27 (nn (seed)) ∧ RowsB 43 Bw w2.heap.size w_ u us ((hvsN tab seed leaf i).map nn) ∧ wl0.heap.size ≤ w_.heap.size) 11 12 ⟨BL.e0 e1, b3.e0 e1, b4.e0 e1, RB.e0 e1, Nat.le_refl _⟩ ?_
      clear BL b3 b4 RB
      clear e1
      intro w3
      rintro ⟨BL, b3, b4, RB, z1⟩
      refine zv 0 15 (.agg (cellsOf .u32 (nn tab))) (fun _ ⟨BL, b3, b4, RB, z1⟩ => Val.blk 26 _ rfl 0 72 (by kernel_rfl) b3 _ Try.underlying26 rfl (by kernel_rfl) (by (try simp only [nn_len, List.length_replicate]); try omega) _ (seg_all' _ (by (try simp only [nn_len, List.length_replicate]); try omega))) ⟨BL, b3, b4, RB, by omega⟩ ?_
      simp only [List.set_cons_zero, List.set_cons_succ]
      refine zv 1 16 (.agg (cellsOf .u32 (nn tab))) (fun _ ⟨BL, b3, b4, RB, z1⟩ => Val.blk 26 _ rfl 0 72 (by kernel_rfl) b3 _ Try.underlying26 rfl (by kernel_rfl) (by (try simp only [nn_len, List.length_replicate]); try omega) _ (seg_all' _ (by (try simp only [nn_len, List.length_replicate]); try omega))) ⟨BL, b3, b4, RB, by omega⟩ ?_
      simp only [List.set_cons_zero, List.set_cons_succ]
      refine zv 2 17 (.agg (cellsOf .u8 (nn (seed)))) (fun _ ⟨BL, b3, b4, RB, z1⟩ => Val.blk 27 _ rfl 0 32 (by kernel_rfl) b4 _ Try.underlying27 rfl (by kernel_rfl) (by (try simp only [nn_len, List.length_replicate]); try omega) _ (seg_all' _ (by (try simp only [nn_len, List.length_replicate]); try omega))) ⟨BL, b3, b4, RB, by omega⟩ ?_
      simp only [List.set_cons_zero, List.set_cons_succ]
      refine zv 3 18 (.int .i64 leaf) (fun _ _ => .of) ⟨BL, b3, b4, RB, by omega⟩ ?_
      simp only [List.set_cons_zero, List.set_cons_succ]
      refine zv 4 19 (.int .i64 ((i : Nat) : Int)) (fun _ _ => .of) ⟨BL, b3, b4, RB, by omega⟩ ?_
      simp only [List.set_cons_zero, List.set_cons_succ]
      refine zv 5 20 (.int .i64 ((i / 2 : Nat) : Int)) (fun _ ⟨BL, b3, b4, RB, z1⟩ => Val.quoI 3 _ (.tmp 19) _ rfl i 2 (by kernel_rfl) (by kernel_rfl) (by omega) (by omega)) ⟨BL, b3, b4, RB, by omega⟩ ?_
      simp only [List.set_cons_zero, List.set_cons_succ]
      refine zv 6 21 (.int .i64 ((i : Nat) : Int)) (fun _ _ => .of) ⟨BL, b3, b4, RB, by omega⟩ ?_
      simp only [List.set_cons_zero, List.set_cons_succ]
      refine zv 7 22 (.int .i64 ((i % 2 : Nat) : Int)) (fun _ ⟨BL, b3, b4, RB, z1⟩ => Val.remN 3 _ (.tmp 21) _ rfl .i64 i 2 (by kernel_rfl) (by kernel_rfl) (by omega)) ⟨BL, b3, b4, RB, by omega⟩ ?_
      simp only [List.set_cons_zero, List.set_cons_succ]
      refine zo2 8 10 rfl rfl ?_ ?_
      · skip
        refine xCall 23 66 #[.agg (cellsOf .u32 (nn tab)), .agg (cellsOf .u8 (nn (seed))), .int .i64 leaf, .int .i64 ((i / 2 : Nat) : Int), .int .i64 ((i % 2 : Nat) : Int)] (by kernel_rfl) ?_
        refine (r9secret_any tab ht h32 w3 seed hs hs8 leaf ((i / 2 : Nat) : Int) ((i % 2 : Nat) : Int) h1 (by omega) (by omega)).mono ?_
        rintro en w4 ⟨rfl, hb1⟩
        have e2 := belE0 hb1
        have ze2 := e2.size
        replace BL := BL.e0 e2
        replace b3 := b3.e0 e2
        replace b4 := b4.e0 e2
        have RB : RowsB 43 Bw w2.heap.size w4 u us ((hvsN tab seed leaf i).map nn) := RB.e0 e2
        clear e2
        refine ⟨.agg (cellsOf .u8 (nn (secretN tab seed leaf ((i / 2 : Nat) : Int) ((i % 2 : Nat) : Int)))), rfl, ?_⟩
        refine ze 8 ⟨BL, b3, b4, RB, by omega⟩ ?_
        simp only [List.set_cons_zero, List.set_cons_succ]
        refine zo2 9 10 rfl rfl ?_ ?_
        · skip
          refine xCall 24 68 #[.agg (cellsOf .u32 (nn tab)), .agg (cellsOf .u8 (nn (secretN tab seed leaf ((i / 2 : Nat) : Int) ((i % 2 : Nat) : Int))))] (by kernel_rfl) ?_
          refine (r9half_any tab ht h32 w4 (secretN tab seed leaf ((i / 2 : Nat) : Int) ((i % 2 : Nat) : Int)) (secretN_len _ _ _ _ _) (secretN_b _ _ _ _ _)).mono ?_
          rintro en w5 ⟨he, hb1⟩
          have he2 := he.trans (show _ = Ending.returned (.agg (cellsOf .u8 (nn (hvN tab seed leaf i)))) by unfold hvN; rfl)
          clear he
          subst he2
          have e3 := belE0 hb1
          have ze3 := e3.size
          replace BL := BL.e0 e3
          replace b3 := b3.e0 e3
          replace b4 := b4.e0 e3
          have RB : RowsB 43 Bw w2.heap.size w5 u us ((hvsN tab seed leaf i).map nn) := RB.e0 e3
          clear e3
          refine ⟨.agg (cellsOf .u8 (nn (hvN tab seed leaf i))), rfl, ?_⟩
          refine ze 9 ⟨BL, b3, b4, RB, by omega⟩ ?_
          simp only [List.set_cons_zero, List.set_cons_succ]
          refine zo1 10 rfl ?_
          refine xAlloc 9 28 ((nn (List.replicate 32 0)).map (Value.int .u8)) rfl (by kernel_rfl) ?_
          intro w6 n3
          have zn3 := n3.z
          have b9 := n3.c
          replace b9 : Blk .u8 w6 w5.heap.size 28 (nn (List.replicate 32 0)) := b9
          replace BL := BL.e0 n3.e
          replace b3 := b3.e0 n3.e
          replace b4 := b4.e0 n3.e
          have RB : RowsB 43 Bw w2.heap.size w6 u us ((hvsN tab seed leaf i).map nn) := RB.e0 n3.e
          refine ze 10 ⟨BL, b3, b4, RB, by omega⟩ ?_
          simp only [List.set_cons_zero, List.set_cons_succ]
          refine zo1 11 rfl ?_
          refine xStoreA 28 (.tmp 9) (.tmp 24) rfl .u8 w5.heap.size 28 (nn (List.replicate 32 0)) 0 (nn (hvN tab seed leaf i)) (by kernel_rfl) (by kernel_rfl) b9 (by rw [show (nn (hvN tab seed leaf i)).length = 32 by ((try simp only [nn_len, List.length_replicate]); try omega)]; kernel_rfl) (by (try simp only [nn_len, List.length_replicate]); try omega) (nn (hvN tab seed leaf i)) (over_whole _ _ (by (try simp only [nn_len, List.length_replicate]); try omega)) ?_
          intro w7 t1
          have zt1 := t1.z
          have BL_ := BL.ev t1.e (fun i h => show w.heap.size ≤ i by have h : i = w5.heap.size := h; omega)
          have b3_ := b3.ev t1.e (show ¬ (w.heap.size = w5.heap.size) by omega)
          have b4_ := b4.ev t1.e (show ¬ (w1.heap.size = w5.heap.size) by omega)
          have RB : RowsB 43 Bw w2.heap.size w7 u us ((hvsN tab seed leaf i).map nn) := RB.ev t1.e (fun i hi => show ¬ (i = w5.heap.size) by omega)
          replace BL := BL_; clear BL_
          replace b3 := b3_; clear b3_
          replace b4 := b4_; clear b4_
          replace b9 : Blk .u8 w7 w5.heap.size 28 (nn (hvN tab seed leaf i)) := t1.c
          clear t1
          refine zz 11 ?_
          refine zd (by kernel_rfl) ?_ _
          exact ⟨w5.heap.size, by omega, cutE, BL, b3, b4, RB, b9, by omega⟩
        · skip
          refine xAlloc 9 28 ((nn (List.replicate 32 0)).map (Value.int .u8)) rfl (by kernel_rfl) ?_
          intro w8 n4
          have zn4 := n4.z
          have b9 := n4.c
          replace b9 : Blk .u8 w8 w4.heap.size 28 (nn (List.replicate 32 0)) := b9
          replace BL := BL.e0 n4.e
          replace b3 := b3.e0 n4.e
          replace b4 := b4.e0 n4.e
          have RB : RowsB 43 Bw w2.heap.size w8 u us ((hvsN tab seed leaf i).map nn) := RB.e0 n4.e
          refine ze 10 ⟨BL, b3, b4, RB, by omega⟩ ?_
          simp only [List.set_cons_zero, List.set_cons_succ]
          refine zo1 9 rfl ?_
          refine xCall 24 68 #[.agg (cellsOf .u32 (nn tab)), .agg (cellsOf .u8 (nn (secretN tab seed leaf ((i / 2 : Nat) : Int) ((i % 2 : Nat) : Int))))] (by kernel_rfl) ?_
          refine (r9half_any tab ht h32 w8 (secretN tab seed leaf ((i / 2 : Nat) : Int) ((i % 2 : Nat) : Int)) (secretN_len _ _ _ _ _) (secretN_b _ _ _ _ _)).mono ?_
          rintro en w9 ⟨he, hb1⟩
          have he2 := he.trans (show _ = Ending.returned (.agg (cellsOf .u8 (nn (hvN tab seed leaf i)))) by unfold hvN; rfl)
          clear he
          subst he2
          have e4 := belE0 hb1
          have ze4 := e4.size
          replace BL := BL.e0 e4
          replace b3 := b3.e0 e4
          replace b4 := b4.e0 e4
          have RB : RowsB 43 Bw w2.heap.size w9 u us ((hvsN tab seed leaf i).map nn) := RB.e0 e4
          replace b9 := b9.e0 e4
          clear e4
          refine ⟨.agg (cellsOf .u8 (nn (hvN tab seed leaf i))), rfl, ?_⟩
          refine ze 9 ⟨BL, b3, b4, RB, by omega⟩ ?_
          simp only [List.set_cons_zero, List.set_cons_succ]
          refine zo1 11 rfl ?_
          refine xStoreA 28 (.tmp 9) (.tmp 24) rfl .u8 w4.heap.size 28 (nn (List.replicate 32 0)) 0 (nn (hvN tab seed leaf i)) (by kernel_rfl) (by kernel_rfl) b9 (by rw [show (nn (hvN tab seed leaf i)).length = 32 by ((try simp only [nn_len, List.length_replicate]); try omega)]; kernel_rfl) (by (try simp only [nn_len, List.length_replicate]); try omega) (nn (hvN tab seed leaf i)) (over_whole _ _ (by (try simp only [nn_len, List.length_replicate]); try omega)) ?_
          intro w10 t2
          have zt2 := t2.z
          have BL_ := BL.ev t2.e (fun i h => show w.heap.size ≤ i by have h : i = w4.heap.size := h; omega)
          have b3_ := b3.ev t2.e (show ¬ (w.heap.size = w4.heap.size) by omega)
          have b4_ := b4.ev t2.e (show ¬ (w1.heap.size = w4.heap.size) by omega)
          have RB : RowsB 43 Bw w2.heap.size w10 u us ((hvsN tab seed leaf i).map nn) := RB.ev t2.e (fun i hi => show ¬ (i = w4.heap.size) by omega)
          replace BL := BL_; clear BL_
          replace b3 := b3_; clear b3_
          replace b4 := b4_; clear b4_
          replace b9 : Blk .u8 w10 w4.heap.size 28 (nn (hvN tab seed leaf i)) := t2.c
          clear t2
          refine zz 11 ?_
          refine zd (by kernel_rfl) ?_ _
          exact ⟨w4.heap.size, by omega, cutE, BL, b3, b4, RB, b9, by omega⟩
      · skip
        refine xAlloc 9 28 ((nn (List.replicate 32 0)).map (Value.int .u8)) rfl (by kernel_rfl) ?_
        intro w11 n5
        have zn5 := n5.z
        have b9 := n5.c
        replace b9 : Blk .u8 w11 w3.heap.size 28 (nn (List.replicate 32 0)) := b9
        replace BL := BL.e0 n5.e
        replace b3 := b3.e0 n5.e
        replace b4 := b4.e0 n5.e
        have RB : RowsB 43 Bw w2.heap.size w11 u us ((hvsN tab seed leaf i).map nn) := RB.e0 n5.e
        refine ze 10 ⟨BL, b3, b4, RB, by omega⟩ ?_
        simp only [List.set_cons_zero, List.set_cons_succ]
        refine zo1 8 rfl ?_
        refine xCall 23 66 #[.agg (cellsOf .u32 (nn tab)), .agg (cellsOf .u8 (nn (seed))), .int .i64 leaf, .int .i64 ((i / 2 : Nat) : Int), .int .i64 ((i % 2 : Nat) : Int)] (by kernel_rfl) ?_
        refine (r9secret_any tab ht h32 w11 seed hs hs8 leaf ((i / 2 : Nat) : Int) ((i % 2 : Nat) : Int) h1 (by omega) (by omega)).mono ?_
        rintro en w12 ⟨rfl, hb1⟩
        have e5 := belE0 hb1
        have ze5 := e5.size
        replace BL := BL.e0 e5
        replace b3 := b3.e0 e5
        replace b4 := b4.e0 e5
        have RB : RowsB 43 Bw w2.heap.size w12 u us ((hvsN tab seed leaf i).map nn) := RB.e0 e5
        replace b9 := b9.e0 e5
        clear e5
        refine ⟨.agg (cellsOf .u8 (nn (secretN tab seed leaf ((i / 2 : Nat) : Int) ((i % 2 : Nat) : Int)))), rfl, ?_⟩
        refine ze 8 ⟨BL, b3, b4, RB, by omega⟩ ?_
        simp only [List.set_cons_zero, List.set_cons_succ]
        refine zo1 9 rfl ?_
        refine xCall 24 68 #[.agg (cellsOf .u32 (nn tab)), .agg (cellsOf .u8 (nn (secretN tab seed leaf ((i / 2 : Nat) : Int) ((i % 2 : Nat) : Int))))] (by kernel_rfl) ?_
        refine (r9half_any tab ht h32 w12 (secretN tab seed leaf ((i / 2 : Nat) : Int) ((i % 2 : Nat) : Int)) (secretN_len _ _ _ _ _) (secretN_b _ _ _ _ _)).mono ?_
        rintro en w13 ⟨he, hb1⟩
        have he2 := he.trans (show _ = Ending.returned (.agg (cellsOf .u8 (nn (hvN tab seed leaf i)))) by unfold hvN; rfl)
        clear he
        subst he2
        have e6 := belE0 hb1
        have ze6 := e6.size
        replace BL := BL.e0 e6
        replace b3 := b3.e0 e6
        replace b4 := b4.e0 e6
        have RB : RowsB 43 Bw w2.heap.size w13 u us ((hvsN tab seed leaf i).map nn) := RB.e0 e6
        replace b9 := b9.e0 e6
        clear e6
        refine ⟨.agg (cellsOf .u8 (nn (hvN tab seed leaf i))), rfl, ?_⟩
        refine ze 9 ⟨BL, b3, b4, RB, by omega⟩ ?_
        simp only [List.set_cons_zero, List.set_cons_succ]
        refine zo1 11 rfl ?_
        refine xStoreA 28 (.tmp 9) (.tmp 24) rfl .u8 w3.heap.size 28 (nn (List.replicate 32 0)) 0 (nn (hvN tab seed leaf i)) (by kernel_rfl) (by kernel_rfl) b9 (by rw [show (nn (hvN tab seed leaf i)).length = 32 by ((try simp only [nn_len, List.length_replicate]); try omega)]; kernel_rfl) (by (try simp only [nn_len, List.length_replicate]); try omega) (nn (hvN tab seed leaf i)) (over_whole _ _ (by (try simp only [nn_len, List.length_replicate]); try omega)) ?_
        intro w14 t3
        have zt3 := t3.z
        have BL_ := BL.ev t3.e (fun i h => show w.heap.size ≤ i by have h : i = w3.heap.size := h; omega)
        have b3_ := b3.ev t3.e (show ¬ (w.heap.size = w3.heap.size) by omega)
        have b4_ := b4.ev t3.e (show ¬ (w1.heap.size = w3.heap.size) by omega)
        have RB : RowsB 43 Bw w2.heap.size w14 u us ((hvsN tab seed leaf i).map nn) := RB.ev t3.e (fun i hi => show ¬ (i = w3.heap.size) by omega)
        replace BL := BL_; clear BL_
        replace b3 := b3_; clear b3_
        replace b4 := b4_; clear b4_
        replace b9 : Blk .u8 w14 w3.heap.size 28 (nn (hvN tab seed leaf i)) := t3.c
        clear t3
        refine zz 11 ?_
        refine zd (by kernel_rfl) ?_ _
        exact ⟨w3.heap.size, by omega, cutE, BL, b3, b4, RB, b9, by omega⟩
    · skip
      clear BL b3 b4 RB
      rintro a_ wJ1 ⟨g9, hJ1_0, ⟨s2, rfl⟩, BL, b3, b4, RB, b9, zJ1⟩
      have hg9 := b9.lt
      refine wp_seq_k fun K8 hK8 => ?_
      refine cPlain ?_
      refine sv 10 (.slice none 0 0) .of ?_
      simp only [List.set_cons_zero, List.set_cons_succ]
      refine wpList_nil ?_
      refine hK8 _ _ ?_
      have PA : Own 5 .u8 wJ1.heap.size wJ1 (.slice none 0 0) [] := Own.nil _ _ _ _
      have lPA_1 := PA.ge
      refine cPlain ?_
      refine sv 25 (u) .of ?_
      simp only [List.set_cons_zero, List.set_cons_succ]
      refine sv 26 (.slice none 0 0) .of ?_
      simp only [List.set_cons_zero, List.set_cons_succ]
      refine sv 27 (.slice (some ⟨g9, 0, none⟩) 32 32) .of ?_
      simp only [List.set_cons_zero, List.set_cons_succ]
      refine xApp 28 (.tmp 26) (.tmp 27) 43 5 .u8 1 rfl Try.underlying43 (by kernel_rfl) wJ1.heap.size (.slice none 0 0) [] (by kernel_rfl) PA (.slice (some ⟨g9, 0, none⟩) 32 32) (nn (hvN tab seed leaf i)) (by kernel_rfl) (SL.ofBlk b9 (by (try simp only [nn_len, List.length_replicate]); try omega) (by unfold maxLen; omega)) ?va1_1 ?va1_2 ?va1_3 ?_
      case va1_1 => (simp only [nn_len, List.length_nil]; omega)
      case va1_2 => (simp only [nn_len, List.length_nil]; unfold maxLen; omega)
      case va1_3 => omega
      intro va1 w15 rva1 e7
      have ze7 := e7.size
      have BL_ := BL.ev e7 (fun i h => by have := lPA_1 _ h; omega)
      have b3_ := b3.ev e7 (fun h => by have := lPA_1 _ h; omega)
      have b4_ := b4.ev e7 (fun h => by have := lPA_1 _ h; omega)
      have RB : RowsB 43 Bw w2.heap.size w15 u us ((hvsN tab seed leaf i).map nn) := RB.ev e7 (fun i hi h => by have := lPA_1 _ h; omega)
      have b9_ := b9.ev e7 (fun h => by have := lPA_1 _ h; omega)
      replace BL := BL_; clear BL_
      replace b3 := b3_; clear b3_
      replace b4 := b4_; clear b4_
      replace b9 := b9_; clear b9_
      obtain ⟨A1, C1, hA1⟩ := rva1.len
      subst hA1
      replace PA := rva1
      clear rva1 e7
      have lPA_2 := PA.ge
      simp only [List.set_cons_zero, List.set_cons_succ]
      refine xLit 29 55 43 1 _ #[(0, .slice A1 ([] ++ (nn (hvN tab seed leaf i))).length C1)] [.slice A1 ([] ++ (nn (hvN tab seed leaf i))).length C1] rfl (by kernel_rfl) (by kernel_rfl) ?_
      intro w16 n6
      have zn6 := n6.z
      have b29 := n6.c
      replace BL := BL.e0 n6.e
      replace b3 := b3.e0 n6.e
      replace b4 := b4.e0 n6.e
      have RB : RowsB 43 Bw w2.heap.size w16 u us ((hvsN tab seed leaf i).map nn) := RB.e0 n6.e
      replace b9 := b9.e0 n6.e
      replace PA := PA.e0 n6.e
      simp only [List.set_cons_zero, List.set_cons_succ]
      refine xAppRow1 30 (.tmp 25) (.tmp 29) 55 43 rfl Try.underlying55 info_ksl8 Bw w2.heap.size u us ((hvsN tab seed leaf i).map nn) (by kernel_rfl) RB _ (.slice A1 ([] ++ nn (hvN tab seed leaf i)).length C1) (nn (hvN tab seed leaf i)) (by kernel_rfl) (SV.ofCelM (n := 1) b29 rfl (by unfold maxLen; omega)) (PA.sl.castR rfl (List.nil_append _)) (fun g hg => by have := lPA_2 _ hg; omega) (by omega) (by omega) ?_
      intro v2 w17 hRB hE
      have e8 := hE
      have ze8 := e8.size
      have BL_ := BL.ev e8 (fun i h => by have := RB.lt _ h; omega)
      have b3_ := b3.ev e8 (fun h => by have := RB.lt _ h; omega)
      have b4_ := b4.ev e8 (fun h => by have := RB.lt _ h; omega)
      replace BL := BL_; clear BL_
      replace b3 := b3_; clear b3_
      replace b4 := b4_; clear b4_
      clear e8
      have RB : RowsB 43 w17.heap.size w2.heap.size w17 v2 (us ++ [.slice A1 ([] ++ nn (hvN tab seed leaf i)).length C1]) ((hvsN tab seed leaf (i + 1)).map nn) := (by have := hRB; rw [hvsN_succ, List.map_append]; exact this)
      simp only [List.set_cons_zero, List.set_cons_succ]
      refine sv 7 (v2) .of ?_
      simp only [List.set_cons_zero, List.set_cons_succ]
      refine wpList_nil ?_
      refine hK7 _ _ ?_
      refine cPlain ?_
      refine sv 13 (.int .i64 ((i : Nat) : Int)) .of ?_
      simp only [List.set_cons_zero, List.set_cons_succ]
      refine sv 14 (.int .i64 (((i : Nat) : Int) + 1)) (Val.add 3 _ (.tmp 13) _ rfl ((i : Nat) : Int) 1 (by kernel_rfl) (by kernel_rfl) (by omega)) ?_
      simp only [List.set_cons_zero, List.set_cons_succ]
      refine sv 8 (.int .i64 (((i : Nat) : Int) + 1)) .of ?_
      simp only [List.set_cons_zero, List.set_cons_succ]
      refine wpList_nil ?_
      refine ⟨_, ?_, i + 1, w17.heap.size, v2, _, rfl, (by omega), cutE, BL, b3, b4, RB, by omega⟩
      omega
  · skip
    refine wp_exit ?_
    simp only [Exit.then, Exit.inBlock, ↓reduceIte, Nat.reduceEqDiff]
    refine hK3 _ _ ?_
    refine wp_seq_k fun K9 hK9 => ?_
    refine cPlain ?_
    refine sv 31 (u) .of ?_
    simp only [List.set_cons_zero, List.set_cons_succ]
    refine sv 6 (u) .of ?_
    simp only [List.set_cons_zero, List.set_cons_succ]
    refine wpList_nil ?_
    refine hK9 _ _ ?_
    refine wp_ret ?_
    (try simp only [Exit.then, Exit.inBlock])
    refine bodyPost_ret (v := u) rT rfl ?_
    refine ⟨u, us, rfl, RB.own.sv, ?_, BL.b⟩
    have hi : i = 512 := by omega
    rw [hi] at RB
    exact SLs.mono RB.le RB.sls

set_option maxHeartbeats 4000000 in
theorem r9key_any (tab : List Nat) (ht : tab.length = 72) (h32 : ∀ x ∈ tab, x < 4294967296) (w : World) (seed : List Nat) (hs : seed.length = 32) (hs8 : ∀ x ∈ seed, x < 256) (leaf : Int) (h1 : leaf ≤ 9223372036854775807) :
    Calls Try.prog 44 #[.agg (cellsOf .u32 (nn tab)), .agg (cellsOf .u8 (nn seed)), .int .i64 leaf] w fun e w' => e = .returned (.agg (cellsOf .u8 (nn (keyL tab seed leaf)))) ∧ Below w.heap.size w w' := by
  have BL := Bl.refl w
  have hkl := keyL_len tab seed leaf
  go_enter Try.func44, Try.ntmps44
  refine wp_seq_k fun K1 hK1 => ?_
  refine cPlain ?_
  refine xBox 3 26 _ ((nn tab).map (Value.int .u32)) rfl (cells_toList _ _) ?_
  intro w1 n1
  have zn1 := n1.z
  have b3 := n1.c
  replace b3 : Blk .u32 w1 w.heap.size 26 (nn tab) := b3
  replace BL := BL.e0 n1.e
  simp only [List.set_cons_zero, List.set_cons_succ]
  refine xBox 4 27 _ ((nn (seed)).map (Value.int .u8)) rfl (cells_toList _ _) ?_
  intro w2 n2
  have zn2 := n2.z
  have b4 := n2.c
  replace b4 : Blk .u8 w2 w1.heap.size 27 (nn (seed)) := b4
  replace BL := BL.e0 n2.e
  replace b3 := b3.e0 n2.e
  simp only [List.set_cons_zero, List.set_cons_succ]
  refine xAlloc 6 28 ((nn (List.replicate 32 0)).map (Value.int .u8)) rfl (by kernel_rfl) ?_
  intro w3 n3
  have zn3 := n3.z
  have b6 := n3.c
  replace b6 : Blk .u8 w3 w2.heap.size 28 (nn (List.replicate 32 0)) := b6
  replace BL := BL.e0 n3.e
  replace b3 := b3.e0 n3.e
  replace b4 := b4.e0 n3.e
  simp only [List.set_cons_zero, List.set_cons_succ]
  refine wpList_nil ?_
  refine hK1 _ _ ?_
  refine wp_seq_k fun K2 hK2 => ?_
  have e1 := drew_e0 w3
  refine zg (fun w_ => Bl w.heap.size w w_ ∧ Blk .u32 w_ w.heap.size 26 (nn tab) ∧ Blk .u8 w_ w1.heap.size 27 (nn (seed)) ∧ Blk .u8 w_ w2.heap.size 28 (nn (List.replicate 32 0)) ∧ w3.heap.size ≤ w_.heap.size) (fun w_ => Bl w.heap.size w w_ ∧ Blk .u32 w_ w.heap.size 26 (nn tab) ∧ Blk .u8 w_ w1.heap.size 27 (nn (seed)) ∧ Blk .u8 w_ w2.heap.size 28 (nn (List.replicate 32 0)) ∧ w3.heap.size ≤ w_.heap.size) 6 7 ⟨BL.e0 e1, b3.e0 e1, b4.e0 e1, b6.e0 e1, Nat.le_refl _⟩ ?_
  clear BL b3 b4 b6
  clear e1
  intro w4
  rintro ⟨BL, b3, b4, b6, z1⟩
  refine zv 0 7 (.agg (cellsOf .u32 (nn tab))) (fun _ ⟨BL, b3, b4, b6, z1⟩ => Val.blk 26 _ rfl 0 72 (by kernel_rfl) b3 _ Try.underlying26 rfl (by kernel_rfl) (by (try simp only [nn_len, List.length_cons, List.length_nil, List.length_set, List.length_replicate]); try omega) _ (seg_all' _ (by (try simp only [nn_len, List.length_cons, List.length_nil, List.length_set, List.length_replicate]); try omega))) ⟨BL, b3, b4, b6, by omega⟩ ?_
  simp only [List.set_cons_zero, List.set_cons_succ]
  refine zv 1 8 (.agg (cellsOf .u32 (nn tab))) (fun _ ⟨BL, b3, b4, b6, z1⟩ => Val.blk 26 _ rfl 0 72 (by kernel_rfl) b3 _ Try.underlying26 rfl (by kernel_rfl) (by (try simp only [nn_len, List.length_cons, List.length_nil, List.length_set, List.length_replicate]); try omega) _ (seg_all' _ (by (try simp only [nn_len, List.length_cons, List.length_nil, List.length_set, List.length_replicate]); try omega))) ⟨BL, b3, b4, b6, by omega⟩ ?_
  simp only [List.set_cons_zero, List.set_cons_succ]
  refine zv 2 9 (.agg (cellsOf .u8 (nn (seed)))) (fun _ ⟨BL, b3, b4, b6, z1⟩ => Val.blk 27 _ rfl 0 32 (by kernel_rfl) b4 _ Try.underlying27 rfl (by kernel_rfl) (by (try simp only [nn_len, List.length_cons, List.length_nil, List.length_set, List.length_replicate]); try omega) _ (seg_all' _ (by (try simp only [nn_len, List.length_cons, List.length_nil, List.length_set, List.length_replicate]); try omega))) ⟨BL, b3, b4, b6, by omega⟩ ?_
  simp only [List.set_cons_zero, List.set_cons_succ]
  refine zv 3 10 (.int .i64 leaf) (fun _ _ => .of) ⟨BL, b3, b4, b6, by omega⟩ ?_
  simp only [List.set_cons_zero, List.set_cons_succ]
  refine zo1 4 rfl ?_
  refine xCall 11 65 #[.agg (cellsOf .u32 (nn tab)), .agg (cellsOf .u8 (nn (seed))), .int .i64 leaf] (by kernel_rfl) ?_
  refine (r9halves_any tab ht h32 w4 seed hs hs8 leaf h1).mono ?_
  rintro en w5 ⟨u, us, rfl, hV, hY, hb1⟩
  have e2 := belE0 hb1
  have ze2 := e2.size
  replace BL := BL.e0 e2
  replace b3 := b3.e0 e2
  replace b4 := b4.e0 e2
  replace b6 := b6.e0 e2
  clear e2
  refine ⟨u, rfl, ?_⟩
  refine ze 4 ⟨BL, b3, b4, b6, by omega⟩ ?_
  simp only [List.set_cons_zero, List.set_cons_succ]
  refine zo1 5 rfl ?_
  refine xCall 12 64 #[.agg (cellsOf .u32 (nn tab)), .int .u8 3, u] (by kernel_rfl) ?_
  refine (rtagged_any tab ht h32 w5 3 (by omega) u us (hvsN tab seed leaf 512) hV hY (hvsN_le _ _ _ _) (by rw [hvsN_len]; omega) (hvsN_b _ _ _ _)).mono ?_
  rintro en w6 ⟨he, hb1⟩
  rw [keyL_hv] at he
  subst he
  have e3 := belE0 hb1
  have ze3 := e3.size
  replace BL := BL.e0 e3
  replace b3 := b3.e0 e3
  replace b4 := b4.e0 e3
  replace b6 := b6.e0 e3
  clear e3
  refine ⟨.agg (cellsOf .u8 (nn (keyL tab seed leaf))), rfl, ?_⟩
  refine ze 5 ⟨BL, b3, b4, b6, by omega⟩ ?_
  simp only [List.set_cons_zero, List.set_cons_succ]
  refine zo1 6 rfl ?_
  refine xStoreA 28 (.tmp 6) (.tmp 12) rfl .u8 w2.heap.size 28 (nn (List.replicate 32 0)) 0 (nn (keyL tab seed leaf)) (by kernel_rfl) (by kernel_rfl) b6 (by rw [show (nn (keyL tab seed leaf)).length = 32 by ((try simp only [nn_len, List.length_cons, List.length_nil, List.length_set, List.length_replicate]); try omega)]; kernel_rfl) (by (try simp only [nn_len, List.length_cons, List.length_nil, List.length_set, List.length_replicate]); try omega) (nn (keyL tab seed leaf)) (over_whole _ _ (by (try simp only [nn_len, List.length_cons, List.length_nil, List.length_set, List.length_replicate]); try omega)) ?_
  intro w7 t1
  have zt1 := t1.z
  have BL_ := BL.ev t1.e (fun i h => show w.heap.size ≤ i by have h : i = w2.heap.size := h; omega)
  have b3_ := b3.ev t1.e (show ¬ (w.heap.size = w2.heap.size) by omega)
  have b4_ := b4.ev t1.e (show ¬ (w1.heap.size = w2.heap.size) by omega)
  replace BL := BL_; clear BL_
  replace b3 := b3_; clear b3_
  replace b4 := b4_; clear b4_
  replace b6 : Blk .u8 w7 w2.heap.size 28 (nn (keyL tab seed leaf)) := t1.c
  clear t1
  refine zz 6 ?_
  refine zd (by kernel_rfl) ?_ _
  refine hK2 _ _ ?_
  refine wp_ret ?_
  (try simp only [Exit.then, Exit.inBlock])
  refine bodyPost_ret (rC rfl _ w2.heap.size _ _ (by kernel_rfl) b6.cel _ Try.underlying28 rfl (by rw [List.length_map, show (nn (keyL tab seed leaf)).length = 32 by ((try simp only [nn_len, List.length_cons, List.length_nil, List.length_set, List.length_replicate]); try omega)]; kernel_rfl)) rfl ?_
  exact ⟨rfl, BL.b⟩

set_option maxHeartbeats 4000000 in
theorem r9sign_any (tab : List Nat) (ht : tab.length = 72) (h32 : ∀ x ∈ tab, x < 4294967296) (w : World) (seed : List Nat) (hs : seed.length = 32) (hs8 : ∀ x ∈ seed, x < 256) (leaf : Int) (h1 : leaf ≤ 9223372036854775807) (dl : List Nat) (hdl : dl.length = 32) (hdb : Bytes (nn dl)) :
    Calls Try.prog 45 #[.agg (cellsOf .u32 (nn tab)), .agg (cellsOf .u8 (nn seed)), .int .i64 leaf, .agg (cellsOf .u8 (nn dl))] w fun e w' => e = .returned (.agg (cellsOf .u8 (nn (secsN tab seed leaf dl ++ othsN tab seed leaf dl)))) ∧ Below w.heap.size w w' := by
  have BL := Bl.refl w
  have hz : (List.replicate 16384 0 : List Nat) = fillN (secF tab seed leaf dl) 0 ++ fillN (othF tab seed leaf dl) 0 := by rw [fillN_0, fillN_0, List.replicate_append_replicate]
  have hsn := secsN_len tab seed leaf dl
  have hon := othsN_len tab seed leaf dl
  go_enter Try.func45, Try.ntmps45
  refine wp_seq_k fun K1 hK1 => ?_
  refine cPlain ?_
  refine xBox 4 26 _ ((nn tab).map (Value.int .u32)) rfl (cells_toList _ _) ?_
  intro w1 n1
  have zn1 := n1.z
  have b4 := n1.c
  replace b4 : Blk .u32 w1 w.heap.size 26 (nn tab) := b4
  replace BL := BL.e0 n1.e
  simp only [List.set_cons_zero, List.set_cons_succ]
  refine xBox 5 27 _ ((nn (seed)).map (Value.int .u8)) rfl (cells_toList _ _) ?_
  intro w2 n2
  have zn2 := n2.z
  have b5 := n2.c
  replace b5 : Blk .u8 w2 w1.heap.size 27 (nn (seed)) := b5
  replace BL := BL.e0 n2.e
  replace b4 := b4.e0 n2.e
  simp only [List.set_cons_zero, List.set_cons_succ]
  refine xBox 7 28 _ ((nn (dl)).map (Value.int .u8)) rfl (cells_toList _ _) ?_
  intro w3 n3
  have zn3 := n3.z
  have b7 := n3.c
  replace b7 : Blk .u8 w3 w2.heap.size 28 (nn (dl)) := b7
  replace BL := BL.e0 n3.e
  replace b4 := b4.e0 n3.e
  replace b5 := b5.e0 n3.e
  simp only [List.set_cons_zero, List.set_cons_succ]
  refine xAlloc 8 32 ((nn (List.replicate 16384 0)).map (Value.int .u8)) rfl (by kernel_rfl) ?_
  intro w4 n4
  have zn4 := n4.z
  have b8 := n4.c
  replace b8 : Blk .u8 w4 w3.heap.size 32 (nn (List.replicate 16384 0)) := b8
  replace BL := BL.e0 n4.e
  replace b4 := b4.e0 n4.e
  replace b5 := b5.e0 n4.e
  replace b7 := b7.e0 n4.e
  simp only [List.set_cons_zero, List.set_cons_succ]
  refine wpList_nil ?_
  refine hK1 _ _ ?_
  refine wp_seq_k fun K2 hK2 => ?_
  refine cPlain ?_
  refine xAlloc 9 32 ((nn (List.replicate 16384 0)).map (Value.int .u8)) rfl (by kernel_rfl) ?_
  intro w5 n5
  have zn5 := n5.z
  have b9 := n5.c
  replace b9 : Blk .u8 w5 w4.heap.size 32 (nn (List.replicate 16384 0)) := b9
  replace BL := BL.e0 n5.e
  replace b4 := b4.e0 n5.e
  replace b5 := b5.e0 n5.e
  replace b7 := b7.e0 n5.e
  replace b8 := b8.e0 n5.e
  simp only [List.set_cons_zero, List.set_cons_succ]
  refine wpList_nil ?_
  refine hK2 _ _ ?_
  refine wp_seq_k fun K3 hK3 => ?_
  refine wp_seq_k fun K4 hK4 => ?_
  refine cPlain ?_
  refine sv 10 (.int .i64 0) .of ?_
  simp only [List.set_cons_zero, List.set_cons_succ]
  refine wpList_nil ?_
  refine hK4 _ _ ?_
  refine wp_block ?_
  refine cLoop (fun N_ A_ w_ => ∃ (i : Nat), (N_ = 256 - i ∧ (i ≤ 256) ∧ (∃ s1 : Nat → Value, A_ = ⟨[.agg (cellsOf .u32 (nn tab)), .agg (cellsOf .u8 (nn (seed))), .int .i64 leaf, .agg (cellsOf .u8 (nn (dl))), .pointer (some ⟨w.heap.size, 0, none⟩), .pointer (some ⟨w1.heap.size, 0, none⟩), undef, .pointer (some ⟨w2.heap.size, 0, none⟩), .pointer (some ⟨w3.heap.size, 0, none⟩), .pointer (some ⟨w4.heap.size, 0, none⟩), .int .i64 ((i : Nat) : Int), (s1 11), (s1 12), (s1 13), (s1 14), (s1 15), (s1 16), (s1 17), (s1 18), (s1 19), (s1 20), (s1 21), (s1 22), (s1 23), (s1 24), (s1 25), (s1 26), (s1 27), (s1 28), (s1 29), (s1 30), (s1 31), (s1 32), (s1 33), (s1 34), (s1 35), (s1 36), (s1 37), (s1 38), (s1 39), undef].toArray, []⟩) ∧ Bl w.heap.size w w_ ∧ Blk .u32 w_ w.heap.size 26 (nn tab) ∧ Blk .u8 w_ w1.heap.size 27 (nn (seed)) ∧ Blk .u8 w_ w2.heap.size 28 (nn (dl)) ∧ Blk .u8 w_ w3.heap.size 32 (nn (List.replicate 16384 0)) ∧ Blk .u8 w_ w4.heap.size 32 (nn (fillN (secF tab seed leaf dl) i ++ fillN (othF tab seed leaf dl) i)) ∧ w5.heap.size ≤ w_.heap.size)) _ ⟨0, rfl, (Nat.zero_le _), cutE, BL, b4, b5, b7, b8, (by rw [← hz]; exact b9), Nat.le_refl _⟩ ?_
  clear BL b4 b5 b7 b8 b9
  rintro n_ a_ wl0 ⟨i, rfl, hc0_0, ⟨s1, rfl⟩, BL, b4, b5, b7, b8, b9, zl0⟩
  have hff := fillN_len (secF_len tab seed leaf dl) hc0_0
  have hfo := fillN_len (othF_len tab seed leaf dl) hc0_0
  refine wp_seq_k fun K5 hK5 => ?_
  refine wp_seq_k fun K6 hK6 => ?_
  refine cPlain ?_
  refine sv 11 (.int .i64 ((i : Nat) : Int)) .of ?_
  simp only [List.set_cons_zero, List.set_cons_succ]
  refine sv 12 (.bool (decide (((i : Nat) : Int) < 256))) (Val.cmp .lss 3 _ (.tmp 11) _ rfl .i64 ((i : Nat) : Int) 256 (by kernel_rfl) (by kernel_rfl) (by simp) _ rfl) ?_
  simp only [List.set_cons_zero, List.set_cons_succ]
  refine wpList_nil ?_
  refine hK6 _ _ ?_
  refine cDec (((i : Nat) : Int) < 256) (by kernel_rfl) (fun c12 => ?_) (fun c12 => ?_)
  · skip
    refine wp_skip ?_
    refine hK5 _ _ ?_
    refine wp_seq_k fun K7 hK7 => ?_
    refine wp_block ?_
    refine wp_seq_k fun K8 hK8 => ?_
    have hl1 : (nn (secF tab seed leaf dl i)).length = 32 := by rw [nn_len]; exact secF_len _ _ _ _ _
    have hl2 : (nn (othF tab seed leaf dl i)).length = 32 := by rw [nn_len]; exact othF_len _ _ _ _ _
    have hfl : (nn (fillN (secF tab seed leaf dl) i ++ fillN (othF tab seed leaf dl) i)).length = 16384 := by rw [nn_len, List.length_append, fillN_len (secF_len _ _ _ _) (by omega), fillN_len (othF_len _ _ _ _) (by omega)]
    have e1 := drew_e0 wl0
    refine zg (fun w_ => Bl w.heap.size w w_ ∧ Blk .u32 w_ w.heap.size 26 (nn tab) ∧ Blk .u8 w_ w1.heap.size 27 (nn (seed)) ∧ Blk .u8 w_ w2.heap.size 28 (nn (dl)) ∧ Blk .u8 w_ w3.heap.size 32 (nn (List.replicate 16384 0)) ∧ wl0.heap.size ≤ w_.heap.size) (fun w_ => Bl w.heap.size w w_ ∧ Blk .u32 w_ w.heap.size 26 (nn tab) ∧ Blk .u8 w_ w1.heap.size 27 (nn (seed)) ∧ Blk .u8 w_ w2.heap.size 28 (nn (dl)) ∧ Blk .u8 w_ w3.heap.size 32 (nn (List.replicate 16384 0)) ∧ Blk .u8 w_ w4.heap.size 32 (nn (fillN (secF tab seed leaf dl) i ++ fillN (othF tab seed leaf dl) i)) ∧ wl0.heap.size ≤ w_.heap.size) 100000 12 ⟨BL.e0 e1, b4.e0 e1, b5.e0 e1, b7.e0 e1, b8.e0 e1, b9.e0 e1, Nat.le_refl _⟩ ?_
    clear BL b4 b5 b7 b8 b9
    clear e1
    intro w6
    rintro ⟨BL, b4, b5, b7, b8, b9, z1⟩
    refine zv 0 15 (.int .i64 ((i : Nat) : Int)) (fun _ _ => .of) ⟨BL, b4, b5, b7, b8, by omega⟩ ?_
    simp only [List.set_cons_zero, List.set_cons_succ]
    refine zv 1 16 (.agg (cellsOf .u32 (nn tab))) (fun _ ⟨BL, b4, b5, b7, b8, z1⟩ => Val.blk 26 _ rfl 0 72 (by kernel_rfl) b4 _ Try.underlying26 rfl (by kernel_rfl) (by (try simp only [nn_len, List.length_append, List.length_replicate]); try omega) _ (seg_all' _ (by (try simp only [nn_len, List.length_append, List.length_replicate]); try omega))) ⟨BL, b4, b5, b7, b8, by omega⟩ ?_
    simp only [List.set_cons_zero, List.set_cons_succ]
    refine zv 2 17 (.agg (cellsOf .u8 (nn (seed)))) (fun _ ⟨BL, b4, b5, b7, b8, z1⟩ => Val.blk 27 _ rfl 0 32 (by kernel_rfl) b5 _ Try.underlying27 rfl (by kernel_rfl) (by (try simp only [nn_len, List.length_append, List.length_replicate]); try omega) _ (seg_all' _ (by (try simp only [nn_len, List.length_append, List.length_replicate]); try omega))) ⟨BL, b4, b5, b7, b8, by omega⟩ ?_
    simp only [List.set_cons_zero, List.set_cons_succ]
    refine zv 3 18 (.int .i64 leaf) (fun _ _ => .of) ⟨BL, b4, b5, b7, b8, by omega⟩ ?_
    simp only [List.set_cons_zero, List.set_cons_succ]
    refine zv 4 19 (.int .i64 ((i : Nat) : Int)) (fun _ _ => .of) ⟨BL, b4, b5, b7, b8, by omega⟩ ?_
    simp only [List.set_cons_zero, List.set_cons_succ]
    refine zv 5 20 (.agg (cellsOf .u8 (nn (dl)))) (fun _ ⟨BL, b4, b5, b7, b8, z1⟩ => Val.blk 28 _ rfl 0 32 (by kernel_rfl) b7 _ Try.underlying28 rfl (by kernel_rfl) (by (try simp only [nn_len, List.length_append, List.length_replicate]); try omega) _ (seg_all' _ (by (try simp only [nn_len, List.length_append, List.length_replicate]); try omega))) ⟨BL, b4, b5, b7, b8, by omega⟩ ?_
    simp only [List.set_cons_zero, List.set_cons_succ]
    refine zv 6 21 (.int .i64 ((i : Nat) : Int)) (fun _ _ => .of) ⟨BL, b4, b5, b7, b8, by omega⟩ ?_
    simp only [List.set_cons_zero, List.set_cons_succ]
    refine zv 9 24 (.pointer (some ⟨w4.heap.size, 0, none⟩)) (fun _ _ => .of) ⟨BL, b4, b5, b7, b8, by omega⟩ ?_
    simp only [List.set_cons_zero, List.set_cons_succ]
    refine zo1 7 rfl ?_
    refine xCall 22 67 #[.agg (cellsOf .u8 (nn (dl))), .int .i64 ((i : Nat) : Int)] (by kernel_rfl) ?_
    refine (r9bit_any dl hdl hdb i (by omega) w6).mono ?_
    rintro en w7 ⟨rfl, hb1⟩
    have hb01 := bitF_01 (nn dl) hdb (i : Int)
    have e2 := belE0 hb1
    have ze2 := e2.size
    replace BL := BL.e0 e2
    replace b4 := b4.e0 e2
    replace b5 := b5.e0 e2
    replace b7 := b7.e0 e2
    replace b8 := b8.e0 e2
    replace b9 := b9.e0 e2
    clear e2
    refine ⟨.int .i64 (bitF (nn dl) (i : Int)), rfl, ?_⟩
    refine ze 7 ⟨BL, b4, b5, b7, b8, by omega⟩ ?_
    simp only [List.set_cons_zero, List.set_cons_succ]
    refine zo1 8 rfl ?_
    refine xCall 23 66 #[.agg (cellsOf .u32 (nn tab)), .agg (cellsOf .u8 (nn (seed))), .int .i64 leaf, .int .i64 ((i : Nat) : Int), .int .i64 (bitF (nn dl) (i : Int))] (by kernel_rfl) ?_
    refine (r9secret_any tab ht h32 w7 seed hs hs8 leaf (i : Int) (bitF (nn dl) (i : Int)) h1 (by omega) (by omega)).mono ?_
    rintro en w8 ⟨rfl, hb1⟩
    have e3 := belE0 hb1
    have ze3 := e3.size
    replace BL := BL.e0 e3
    replace b4 := b4.e0 e3
    replace b5 := b5.e0 e3
    replace b7 := b7.e0 e3
    replace b8 := b8.e0 e3
    replace b9 := b9.e0 e3
    clear e3
    refine ⟨.agg (cellsOf .u8 (nn (secF tab seed leaf dl i))), rfl, ?_⟩
    refine ze 8 ⟨BL, b4, b5, b7, b8, by omega⟩ ?_
    simp only [List.set_cons_zero, List.set_cons_succ]
    refine zv 10 25 (.pointer (some ⟨w4.heap.size, 0 + i * 32, none⟩)) (fun _ ⟨BL, b4, b5, b7, b8, z1⟩ => Val.idxA 29 (.tmp 24) (.tmp 15) rfl w4.heap.size 0 i (by kernel_rfl) (by kernel_rfl) 32 Try.underlying29 (by kernel_rfl) (by omega)) ⟨BL, b4, b5, b7, b8, by omega⟩ ?_
    simp only [List.set_cons_zero, List.set_cons_succ]
    refine zo1 11 rfl ?_
    refine xStoreA 27 (.tmp 25) (.tmp 23) rfl .u8 w4.heap.size 32 (nn (fillN (secF tab seed leaf dl) i ++ fillN (othF tab seed leaf dl) i)) (0 + i * 32) (nn (secF tab seed leaf dl i)) (by kernel_rfl) (by kernel_rfl) b9 (by rw [show (nn (secF tab seed leaf dl i)).length = 32 by omega]; kernel_rfl) (by omega) _ rfl ?_
    intro w9 t1
    have zt1 := t1.z
    have BL_ := BL.ev t1.e (fun i h => show w.heap.size ≤ i by have h : i = w4.heap.size := h; omega)
    have b4_ := b4.ev t1.e (show ¬ (w.heap.size = w4.heap.size) by omega)
    have b5_ := b5.ev t1.e (show ¬ (w1.heap.size = w4.heap.size) by omega)
    have b7_ := b7.ev t1.e (show ¬ (w2.heap.size = w4.heap.size) by omega)
    have b8_ := b8.ev t1.e (show ¬ (w3.heap.size = w4.heap.size) by omega)
    replace BL := BL_; clear BL_
    replace b4 := b4_; clear b4_
    replace b5 := b5_; clear b5_
    replace b7 := b7_; clear b7_
    replace b8 := b8_; clear b8_
    replace b9 : Blk .u8 w9 w4.heap.size 32 (over (nn (fillN (secF tab seed leaf dl) i ++ fillN (othF tab seed leaf dl) i)) (0 + i * 32) (nn (secF tab seed leaf dl i))) := t1.c
    clear t1
    refine ze 11 ⟨BL, b4, b5, b7, b8, by omega⟩ ?_
    refine zd (by kernel_rfl) ?_ _
    refine hK8 _ _ ?_
    have hov : (over (nn (fillN (secF tab seed leaf dl) i ++ fillN (othF tab seed leaf dl) i)) (0 + i * 32) (nn (secF tab seed leaf dl i))).length = 16384 := by rw [over_length _ _ _ (by omega)]; exact hfl
    have e4 := drew_e0 w9
    refine zg (fun w_ => Bl w.heap.size w w_ ∧ Blk .u32 w_ w.heap.size 26 (nn tab) ∧ Blk .u8 w_ w1.heap.size 27 (nn (seed)) ∧ Blk .u8 w_ w2.heap.size 28 (nn (dl)) ∧ Blk .u8 w_ w3.heap.size 32 (nn (List.replicate 16384 0)) ∧ w9.heap.size ≤ w_.heap.size) (fun w_ => Bl w.heap.size w w_ ∧ Blk .u32 w_ w.heap.size 26 (nn tab) ∧ Blk .u8 w_ w1.heap.size 27 (nn (seed)) ∧ Blk .u8 w_ w2.heap.size 28 (nn (dl)) ∧ Blk .u8 w_ w3.heap.size 32 (nn (List.replicate 16384 0)) ∧ Blk .u8 w_ w4.heap.size 32 (over (nn (fillN (secF tab seed leaf dl) i ++ fillN (othF tab seed leaf dl) i)) (0 + i * 32) (nn (secF tab seed leaf dl i))) ∧ w9.heap.size ≤ w_.heap.size) 100000 15 ⟨BL.e0 e4, b4.e0 e4, b5.e0 e4, b7.e0 e4, b8.e0 e4, b9.e0 e4, Nat.le_refl _⟩ ?_
    clear BL b4 b5 b7 b8 b9
    clear e4
    intro w10
    rintro ⟨BL, b4, b5, b7, b8, b9, z2⟩
    refine zv 0 26 (.int .i64 ((i : Nat) : Int)) (fun _ _ => .of) ⟨BL, b4, b5, b7, b8, by omega⟩ ?_
    simp only [List.set_cons_zero, List.set_cons_succ]
    refine zv 1 27 (.agg (cellsOf .u32 (nn tab))) (fun _ ⟨BL, b4, b5, b7, b8, z2⟩ => Val.blk 26 _ rfl 0 72 (by kernel_rfl) b4 _ Try.underlying26 rfl (by kernel_rfl) (by (try simp only [nn_len, List.length_append, List.length_replicate]); try omega) _ (seg_all' _ (by (try simp only [nn_len, List.length_append, List.length_replicate]); try omega))) ⟨BL, b4, b5, b7, b8, by omega⟩ ?_
    simp only [List.set_cons_zero, List.set_cons_succ]
    refine zv 2 28 (.agg (cellsOf .u32 (nn tab))) (fun _ ⟨BL, b4, b5, b7, b8, z2⟩ => Val.blk 26 _ rfl 0 72 (by kernel_rfl) b4 _ Try.underlying26 rfl (by kernel_rfl) (by (try simp only [nn_len, List.length_append, List.length_replicate]); try omega) _ (seg_all' _ (by (try simp only [nn_len, List.length_append, List.length_replicate]); try omega))) ⟨BL, b4, b5, b7, b8, by omega⟩ ?_
    simp only [List.set_cons_zero, List.set_cons_succ]
    refine zv 3 29 (.agg (cellsOf .u8 (nn (seed)))) (fun _ ⟨BL, b4, b5, b7, b8, z2⟩ => Val.blk 27 _ rfl 0 32 (by kernel_rfl) b5 _ Try.underlying27 rfl (by kernel_rfl) (by (try simp only [nn_len, List.length_append, List.length_replicate]); try omega) _ (seg_all' _ (by (try simp only [nn_len, List.length_append, List.length_replicate]); try omega))) ⟨BL, b4, b5, b7, b8, by omega⟩ ?_
    simp only [List.set_cons_zero, List.set_cons_succ]
    refine zv 4 30 (.int .i64 leaf) (fun _ _ => .of) ⟨BL, b4, b5, b7, b8, by omega⟩ ?_
    simp only [List.set_cons_zero, List.set_cons_succ]
    refine zv 5 31 (.int .i64 ((i : Nat) : Int)) (fun _ _ => .of) ⟨BL, b4, b5, b7, b8, by omega⟩ ?_
    simp only [List.set_cons_zero, List.set_cons_succ]
    refine zv 6 32 (.agg (cellsOf .u8 (nn (dl)))) (fun _ ⟨BL, b4, b5, b7, b8, z2⟩ => Val.blk 28 _ rfl 0 32 (by kernel_rfl) b7 _ Try.underlying28 rfl (by kernel_rfl) (by (try simp only [nn_len, List.length_append, List.length_replicate]); try omega) _ (seg_all' _ (by (try simp only [nn_len, List.length_append, List.length_replicate]); try omega))) ⟨BL, b4, b5, b7, b8, by omega⟩ ?_
    simp only [List.set_cons_zero, List.set_cons_succ]
    refine zv 7 33 (.int .i64 ((i : Nat) : Int)) (fun _ _ => .of) ⟨BL, b4, b5, b7, b8, by omega⟩ ?_
    simp only [List.set_cons_zero, List.set_cons_succ]
    refine zv 12 38 (.pointer (some ⟨w4.heap.size, 8192, none⟩)) (fun _ _ => .of) ⟨BL, b4, b5, b7, b8, by omega⟩ ?_
    simp only [List.set_cons_zero, List.set_cons_succ]
    refine zo1 8 rfl ?_
    refine xCall 34 67 #[.agg (cellsOf .u8 (nn (dl))), .int .i64 ((i : Nat) : Int)] (by kernel_rfl) ?_
    refine (r9bit_any dl hdl hdb i (by omega) w10).mono ?_
    rintro en w11 ⟨rfl, hb1⟩
    have hb01 := bitF_01 (nn dl) hdb (i : Int)
    have e5 := belE0 hb1
    have ze5 := e5.size
    replace BL := BL.e0 e5
    replace b4 := b4.e0 e5
    replace b5 := b5.e0 e5
    replace b7 := b7.e0 e5
    replace b8 := b8.e0 e5
    replace b9 := b9.e0 e5
    clear e5
    refine ⟨.int .i64 (bitF (nn dl) (i : Int)), rfl, ?_⟩
    refine ze 8 ⟨BL, b4, b5, b7, b8, by omega⟩ ?_
    simp only [List.set_cons_zero, List.set_cons_succ]
    refine zv 9 35 (.int .i64 (1 - (bitF (nn dl) (i : Int)))) (fun _ ⟨BL, b4, b5, b7, b8, z2⟩ => Val.sub 3 _ _ (.tmp 34) rfl 1 (bitF (nn dl) (i : Int)) (by kernel_rfl) (by kernel_rfl) (by omega)) ⟨BL, b4, b5, b7, b8, by omega⟩ ?_
    simp only [List.set_cons_zero, List.set_cons_succ]
    refine zo1 10 rfl ?_
    refine xCall 36 66 #[.agg (cellsOf .u32 (nn tab)), .agg (cellsOf .u8 (nn (seed))), .int .i64 leaf, .int .i64 ((i : Nat) : Int), .int .i64 (1 - (bitF (nn dl) (i : Int)))] (by kernel_rfl) ?_
    refine (r9secret_any tab ht h32 w11 seed hs hs8 leaf (i : Int) (1 - bitF (nn dl) (i : Int)) h1 (by omega) (by omega)).mono ?_
    rintro en w12 ⟨rfl, hb1⟩
    have e6 := belE0 hb1
    have ze6 := e6.size
    replace BL := BL.e0 e6
    replace b4 := b4.e0 e6
    replace b5 := b5.e0 e6
    replace b7 := b7.e0 e6
    replace b8 := b8.e0 e6
    replace b9 := b9.e0 e6
    clear e6
    refine ⟨.agg (cellsOf .u8 (nn (secretN tab seed leaf (i : Int) (1 - bitF (nn dl) (i : Int))))), rfl, ?_⟩
    refine ze 10 ⟨BL, b4, b5, b7, b8, by omega⟩ ?_
    simp only [List.set_cons_zero, List.set_cons_succ]
    refine zo1 11 rfl ?_
    refine xCall 37 68 #[.agg (cellsOf .u32 (nn tab)), .agg (cellsOf .u8 (nn (secretN tab seed leaf (i : Int) (1 - bitF (nn dl) (i : Int)))))] (by kernel_rfl) ?_
    refine (r9half_any tab ht h32 w12 (secretN tab seed leaf (i : Int) (1 - bitF (nn dl) (i : Int))) (secretN_len _ _ _ _ _) (secretN_b _ _ _ _ _)).mono ?_
    rintro en w13 ⟨rfl, hb1⟩
    have e7 := belE0 hb1
    have ze7 := e7.size
    replace BL := BL.e0 e7
    replace b4 := b4.e0 e7
    replace b5 := b5.e0 e7
    replace b7 := b7.e0 e7
    replace b8 := b8.e0 e7
    replace b9 := b9.e0 e7
    clear e7
    refine ⟨.agg (cellsOf .u8 (nn (othF tab seed leaf dl i))), rfl, ?_⟩
    refine ze 11 ⟨BL, b4, b5, b7, b8, by omega⟩ ?_
    simp only [List.set_cons_zero, List.set_cons_succ]
    refine zv 13 39 (.pointer (some ⟨w4.heap.size, 8192 + i * 32, none⟩)) (fun _ ⟨BL, b4, b5, b7, b8, z2⟩ => Val.idxA 30 (.tmp 38) (.tmp 26) rfl w4.heap.size 8192 i (by kernel_rfl) (by kernel_rfl) 32 Try.underlying30 (by kernel_rfl) (by omega)) ⟨BL, b4, b5, b7, b8, by omega⟩ ?_
    simp only [List.set_cons_zero, List.set_cons_succ]
    refine zo1 14 rfl ?_
    refine xStoreA 28 (.tmp 39) (.tmp 37) rfl .u8 w4.heap.size 32 (over (nn (fillN (secF tab seed leaf dl) i ++ fillN (othF tab seed leaf dl) i)) (0 + i * 32) (nn (secF tab seed leaf dl i))) (8192 + i * 32) (nn (othF tab seed leaf dl i)) (by kernel_rfl) (by kernel_rfl) b9 (by rw [show (nn (othF tab seed leaf dl i)).length = 32 by omega]; kernel_rfl) (by omega) _ rfl ?_
    intro w14 t2
    have zt2 := t2.z
    have BL_ := BL.ev t2.e (fun i h => show w.heap.size ≤ i by have h : i = w4.heap.size := h; omega)
    have b4_ := b4.ev t2.e (show ¬ (w.heap.size = w4.heap.size) by omega)
    have b5_ := b5.ev t2.e (show ¬ (w1.heap.size = w4.heap.size) by omega)
    have b7_ := b7.ev t2.e (show ¬ (w2.heap.size = w4.heap.size) by omega)
    have b8_ := b8.ev t2.e (show ¬ (w3.heap.size = w4.heap.size) by omega)
    replace BL := BL_; clear BL_
    replace b4 := b4_; clear b4_
    replace b5 := b5_; clear b5_
    replace b7 := b7_; clear b7_
    replace b8 := b8_; clear b8_
    replace b9 : Blk .u8 w14 w4.heap.size 32 (over (over (nn (fillN (secF tab seed leaf dl) i ++ fillN (othF tab seed leaf dl) i)) (0 + i * 32) (nn (secF tab seed leaf dl i))) (8192 + i * 32) (nn (othF tab seed leaf dl i))) := t2.c
    clear t2
    refine ze 14 ⟨BL, b4, b5, b7, b8, by omega⟩ ?_
    refine zd (by kernel_rfl) ?_ _
    refine hK7 _ _ ?_
    refine cPlain ?_
    refine sv 13 (.int .i64 ((i : Nat) : Int)) .of ?_
    simp only [List.set_cons_zero, List.set_cons_succ]
    refine sv 14 (.int .i64 (((i : Nat) : Int) + 1)) (Val.add 3 _ (.tmp 13) _ rfl ((i : Nat) : Int) 1 (by kernel_rfl) (by kernel_rfl) (by omega)) ?_
    simp only [List.set_cons_zero, List.set_cons_succ]
    refine sv 10 (.int .i64 (((i : Nat) : Int) + 1)) .of ?_
    simp only [List.set_cons_zero, List.set_cons_succ]
    refine wpList_nil ?_
    refine ⟨_, ?_, i + 1, rfl, (by omega), cutE, BL, b4, b5, b7, b8, (by rw [over_fst (secF_len _ _ _ _) _ (by omega) _ (by omega), over_snd (othF_len _ _ _ _) (fillN_len (secF_len _ _ _ _) (by omega)) (by omega) _ (by omega)] at b9; exact b9), by omega⟩
    omega
  · skip
    have hfin : fillN (secF tab seed leaf dl) i ++ fillN (othF tab seed leaf dl) i = secsN tab seed leaf dl ++ othsN tab seed leaf dl := by rw [show i = 256 by omega, fillN_256, fillN_256]; rfl
    refine wp_exit ?_
    simp only [Exit.then, Exit.inBlock, ↓reduceIte, Nat.reduceEqDiff]
    refine hK3 _ _ ?_
    refine wp_seq_k fun K9 hK9 => ?_
    refine cPlain ?_
    refine sv 40 (.agg (cellsOf .u8 (nn (fillN (secF tab seed leaf dl) i ++ fillN (othF tab seed leaf dl) i)))) (Val.blk 32 _ rfl 0 16384 (by kernel_rfl) b9 _ Try.underlying32 rfl (by kernel_rfl) (by (try simp only [nn_len, List.length_append, List.length_replicate]); try omega) _ (seg_all' _ (by (try simp only [nn_len, List.length_append, List.length_replicate]); try omega))) ?_
    simp only [List.set_cons_zero, List.set_cons_succ]
    refine xStoreA 32 (.tmp 8) (.tmp 40) rfl .u8 w3.heap.size 32 (nn (List.replicate 16384 0)) 0 (nn (fillN (secF tab seed leaf dl) i ++ fillN (othF tab seed leaf dl) i)) (by kernel_rfl) (by kernel_rfl) b8 (by rw [show (nn (fillN (secF tab seed leaf dl) i ++ fillN (othF tab seed leaf dl) i)).length = 16384 by ((try simp only [nn_len, List.length_append, List.length_replicate]); try omega)]; kernel_rfl) (by (try simp only [nn_len, List.length_append, List.length_replicate]); try omega) (nn (fillN (secF tab seed leaf dl) i ++ fillN (othF tab seed leaf dl) i)) (over_whole _ _ (by (try simp only [nn_len, List.length_append, List.length_replicate]); try omega)) ?_
    intro w15 t3
    have zt3 := t3.z
    have BL_ := BL.ev t3.e (fun i h => show w.heap.size ≤ i by have h : i = w3.heap.size := h; omega)
    have b4_ := b4.ev t3.e (show ¬ (w.heap.size = w3.heap.size) by omega)
    have b5_ := b5.ev t3.e (show ¬ (w1.heap.size = w3.heap.size) by omega)
    have b7_ := b7.ev t3.e (show ¬ (w2.heap.size = w3.heap.size) by omega)
    have b9_ := b9.ev t3.e (show ¬ (w4.heap.size = w3.heap.size) by omega)
    replace BL := BL_; clear BL_
    replace b4 := b4_; clear b4_
    replace b5 := b5_; clear b5_
    replace b7 := b7_; clear b7_
    replace b9 := b9_; clear b9_
    replace b8 : Blk .u8 w15 w3.heap.size 32 (nn (fillN (secF tab seed leaf dl) i ++ fillN (othF tab seed leaf dl) i)) := t3.c
    clear t3
    refine wpList_nil ?_
    refine hK9 _ _ ?_
    refine wp_ret ?_
    (try simp only [Exit.then, Exit.inBlock])
    refine bodyPost_ret (rC rfl _ w3.heap.size _ _ (by kernel_rfl) b8.cel _ Try.underlying32 rfl (by rw [List.length_map, show (nn (fillN (secF tab seed leaf dl) i ++ fillN (othF tab seed leaf dl) i)).length = 16384 by ((try simp only [nn_len, List.length_append, List.length_replicate]); try omega)]; kernel_rfl)) rfl ?_
    rw [hfin]
    exact ⟨rfl, BL.b⟩

end Go.Proofs.Ytlmadkldiidkaaa
