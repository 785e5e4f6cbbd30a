/-
  LamportKeys: the walk.
-/
import Derived.Test.YtlmadkldiidkaaaRef9K
import Derived.Test.YtlmadkldiidkaaaAwake09
import Derived.Test.YtlmadkldiidkaaaEqk
namespace Go.Proofs.Ytlmadkldiidkaaa
open Go.RowKit
set_option linter.unusedVariables false
set_option linter.unusedSimpArgs false
set_option maxRecDepth 100000
attribute [local irreducible] wpList Code.wp wpAnyZ
def rowK : List IntKind := (List.replicate 32 [IntKind.u8]).flatten
def lamK : List IntKind := (List.replicate 256 rowK).flatten ++ ((List.replicate 256 rowK).flatten ++ [])
theorem kt_row : KT Try.prog 27 rowK 2 := KT.array (P := Try.prog) Try.underlying27 (KT.int Try.underlying5) (by kernel_rfl) rfl (by kernel_rfl)
theorem kt_dig : KT Try.prog 28 rowK 2 := KT.array (P := Try.prog) Try.underlying28 (KT.int Try.underlying5) (by kernel_rfl) rfl (by kernel_rfl)
theorem rowK_len : rowK.length = 32 := by kernel_rfl
theorem rowsK_len : (List.replicate 256 rowK).flatten.length = 8192 := by kernel_rfl
theorem lamK_len : lamK.length = 16384 := by kernel_rfl
theorem kt_lam : KT Try.prog 32 lamK 4 :=
  KT.struct Try.underlying32 (by rw [lamK_len]; kernel_rfl) (by kernel_rfl) (KFields.cons rfl (by kernel_rfl) rowsK_len (KT.array (P := Try.prog) Try.underlying29 kt_row (by kernel_rfl) rowK_len (by kernel_rfl)) (KFields.cons rfl (by kernel_rfl) rowsK_len (KT.array (P := Try.prog) Try.underlying30 kt_dig (by kernel_rfl) rowK_len (by kernel_rfl)) (KFields.nil _)))
theorem rowK_rep : rowK = List.replicate 32 IntKind.u8 := by kernel_rfl
theorem flat_rep (n m : Nat) (k : IntKind) : (List.replicate n (List.replicate m k)).flatten = List.replicate (n * m) k := by simp
theorem lamK_eq : lamK = List.replicate 16384 IntKind.u8 := by
  unfold lamK
  rw [rowK_rep, flat_rep, List.append_nil, List.replicate_append_replicate]
theorem lam_zip {xs : List Nat} (h : xs.length = 16384) : (nn xs).map (Value.int .u8) = zipK lamK (nn xs) := by rw [lamK_eq, zipK_rep _ 16384 _ (by rw [nn_len]; exact h)]
theorem lam_wf {xs : List Nat} (h : ∀ x ∈ xs, x < 256) : wfK lamK (nn xs) := by
  rw [lamK_eq]
  intro i k n h1 h2
  obtain ⟨x, hx, rfl⟩ := List.mem_map.1 (List.mem_of_getElem? h2)
  have := h x hx
  have hk : k = .u8 := List.eq_of_mem_replicate (List.mem_of_getElem? h1)
  subst hk
  simp [Lit.wf, IntKind.min, IntKind.max, IntKind.bits, IntKind.signed]
  omega
theorem rowsN_b' {f : Nat → List Nat} (h : ∀ i, ∀ x ∈ f i, x < 256) (n : Nat) : ∀ x ∈ rowsN f n, x < 256 := by
  intro x hx
  obtain ⟨i, _, hx⟩ := List.mem_flatMap.1 hx
  exact h i x hx
theorem sig_b (tab seed : List Nat) (leaf : Int) (dl : List Nat) : ∀ x ∈ secsN tab seed leaf dl ++ othsN tab seed leaf dl, x < 256 :=
  app_b (rowsN_b' (fun i => secretN_b _ _ _ _ _) 256) (rowsN_b' (fun i => halfN_b _ _) 256)
attribute [local irreducible] ofN textN numN macN taggedN rowsN fillN keyL secsN othsN lamK

set_option maxHeartbeats 4000000 in
theorem lamportKeys_walk (tab : List Nat) (ht : tab.length = 72) (h32 : ∀ x ∈ tab, x < 4294967296) (w : World) (seed : List Nat) (hs : seed.length = 32) (hs8 : ∀ x ∈ seed, x < 256) (leaf : Int) (h1 : leaf ≤ 9223372036854775807) (dl : List Nat) (hdl : dl.length = 32) (hdb : Bytes (nn dl)) :
    Calls Try.prog 13 #[.agg (cellsOf .u32 (nn tab)), .agg (cellsOf .u8 (nn seed)), .int .i64 leaf, .agg (cellsOf .u8 (nn dl))] w fun e w' => e = .returned (.bool true) ∧ Below w.heap.size w w' := by
  have BL := Bl.refl w
  have hsl : (secsN tab seed leaf dl ++ othsN tab seed leaf dl).length = 16384 := by rw [List.length_append, secsN_len, othsN_len]
  have hsb := sig_b tab seed leaf dl
  go_enter Try.func13, Try.ntmps13
  refine wp_seq_k fun K1 hK1 => ?_
  refine cPlain ?_
  refine xBox 4 26 _ ((nn tab).map (Value.int .u32)) rfl (cells_toList _ _) ?_
  intro w1 n1
  have zn1 := n1.z
  have b4 := n1.c
  replace b4 : Blk .u32 w1 w.heap.size 26 (nn tab) := b4
  replace BL := BL.e0 n1.e
  simp only [List.set_cons_zero, List.set_cons_succ]
  refine xBox 5 27 _ ((nn (seed)).map (Value.int .u8)) rfl (cells_toList _ _) ?_
  intro w2 n2
  have zn2 := n2.z
  have b5 := n2.c
  replace b5 : Blk .u8 w2 w1.heap.size 27 (nn (seed)) := b5
  replace BL := BL.e0 n2.e
  replace b4 := b4.e0 n2.e
  simp only [List.set_cons_zero, List.set_cons_succ]
  refine xBox 7 28 _ ((nn (dl)).map (Value.int .u8)) rfl (cells_toList _ _) ?_
  intro w3 n3
  have zn3 := n3.z
  have b7 := n3.c
  replace b7 : Blk .u8 w3 w2.heap.size 28 (nn (dl)) := b7
  replace BL := BL.e0 n3.e
  replace b4 := b4.e0 n3.e
  replace b5 := b5.e0 n3.e
  simp only [List.set_cons_zero, List.set_cons_succ]
  refine sv 8 (.bool false) .of ?_
  simp only [List.set_cons_zero, List.set_cons_succ]
  refine wpList_nil ?_
  refine hK1 _ _ ?_
  refine wp_seq_k fun K2 hK2 => ?_
  have e1 := drew_e0 w3
  refine zg (fun w_ => Bl w.heap.size w w_ ∧ Blk .u32 w_ w.heap.size 26 (nn tab) ∧ Blk .u8 w_ w1.heap.size 27 (nn (seed)) ∧ Blk .u8 w_ w2.heap.size 28 (nn (dl)) ∧ w3.heap.size ≤ w_.heap.size) (fun w_ => Bl w.heap.size w w_ ∧ Blk .u32 w_ w.heap.size 26 (nn tab) ∧ Blk .u8 w_ w1.heap.size 27 (nn (seed)) ∧ Blk .u8 w_ w2.heap.size 28 (nn (dl)) ∧ w3.heap.size ≤ w_.heap.size) 100000 24 ⟨BL.e0 e1, b4.e0 e1, b5.e0 e1, b7.e0 e1, Nat.le_refl _⟩ ?_
  clear BL b4 b5 b7
  clear e1
  intro w4
  rintro ⟨BL, b4, b5, b7, z1⟩
  refine zv 0 9 (.agg (cellsOf .u8 (nn (seed)))) (fun _ ⟨BL, b4, b5, b7, z1⟩ => Val.blk 27 _ rfl 0 32 (by kernel_rfl) b5 _ Try.underlying27 rfl (by kernel_rfl) (by (try simp only [nn_len, List.length_append, List.length_replicate]); try omega) _ (seg_all' _ (by (try simp only [nn_len, List.length_append, List.length_replicate]); try omega))) ⟨BL, b4, b5, b7, by omega⟩ ?_
  simp only [List.set_cons_zero, List.set_cons_succ]
  refine zv 1 10 (.int .i64 leaf) (fun _ _ => .of) ⟨BL, b4, b5, b7, by omega⟩ ?_
  simp only [List.set_cons_zero, List.set_cons_succ]
  refine zv 3 12 (.agg (cellsOf .u32 (nn tab))) (fun _ ⟨BL, b4, b5, b7, z1⟩ => Val.blk 26 _ rfl 0 72 (by kernel_rfl) b4 _ Try.underlying26 rfl (by kernel_rfl) (by (try simp only [nn_len, List.length_append, List.length_replicate]); try omega) _ (seg_all' _ (by (try simp only [nn_len, List.length_append, List.length_replicate]); try omega))) ⟨BL, b4, b5, b7, by omega⟩ ?_
  simp only [List.set_cons_zero, List.set_cons_succ]
  refine zv 4 13 (.agg (cellsOf .u8 (nn (seed)))) (fun _ ⟨BL, b4, b5, b7, z1⟩ => Val.blk 27 _ rfl 0 32 (by kernel_rfl) b5 _ Try.underlying27 rfl (by kernel_rfl) (by (try simp only [nn_len, List.length_append, List.length_replicate]); try omega) _ (seg_all' _ (by (try simp only [nn_len, List.length_append, List.length_replicate]); try omega))) ⟨BL, b4, b5, b7, by omega⟩ ?_
  simp only [List.set_cons_zero, List.set_cons_succ]
  refine zv 5 14 (.int .i64 leaf) (fun _ _ => .of) ⟨BL, b4, b5, b7, by omega⟩ ?_
  simp only [List.set_cons_zero, List.set_cons_succ]
  refine zo1 2 rfl ?_
  refine xCall 11 20 #[.pointer (some ⟨w.heap.size, 0, none⟩), .agg (cellsOf .u8 (nn (seed))), .int .i64 leaf] (by kernel_rfl) ?_
  refine (key_any w.heap.size tab ht w4 b4 seed hs leaf h1).mono ?_
  rintro en w5 ⟨rfl, hb1⟩
  have e2 := belE0 hb1
  have ze2 := e2.size
  replace BL := BL.e0 e2
  replace b4 := b4.e0 e2
  replace b5 := b5.e0 e2
  replace b7 := b7.e0 e2
  clear e2
  refine ⟨.agg (cellsOf .u8 (nn (keyL tab seed leaf))), rfl, ?_⟩
  refine ze 2 ⟨BL, b4, b5, b7, by omega⟩ ?_
  simp only [List.set_cons_zero, List.set_cons_succ]
  refine zo1 6 rfl ?_
  refine xCall 15 44 #[.agg (cellsOf .u32 (nn tab)), .agg (cellsOf .u8 (nn (seed))), .int .i64 leaf] (by kernel_rfl) ?_
  refine (r9key_any tab ht h32 w5 seed hs hs8 leaf h1).mono ?_
  rintro en w6 ⟨rfl, hb1⟩
  have e3 := belE0 hb1
  have ze3 := e3.size
  replace BL := BL.e0 e3
  replace b4 := b4.e0 e3
  replace b5 := b5.e0 e3
  replace b7 := b7.e0 e3
  clear e3
  refine ⟨.agg (cellsOf .u8 (nn (keyL tab seed leaf))), rfl, ?_⟩
  refine ze 6 ⟨BL, b4, b5, b7, by omega⟩ ?_
  simp only [List.set_cons_zero, List.set_cons_succ]
  refine zv 7 16 (.bool true) (fun _ ⟨BL, b4, b5, b7, z1⟩ => Val.eqA .eql 28 _ (.tmp 11) (.tmp 15) rfl Try.underlying28 Try.underlying5 (by kernel_rfl) (by kernel_rfl) (nn (keyL tab seed leaf)) (nn (keyL tab seed leaf)) (by kernel_rfl) (by kernel_rfl) (by rw [nn_len]; exact keyL_len _ _ _) (by rw [nn_len]; exact keyL_len _ _ _) (.inl rfl) true (by simp)) ⟨BL, b4, b5, b7, by omega⟩ ?_
  simp only [List.set_cons_zero, List.set_cons_succ]
  refine zv 8 17 (.bool true) (fun _ _ => .of) ⟨BL, b4, b5, b7, by omega⟩ ?_
  simp only [List.set_cons_zero, List.set_cons_succ]
  refine zv 9 18 (.agg (cellsOf .u8 (nn (seed)))) (fun _ ⟨BL, b4, b5, b7, z1⟩ => Val.blk 27 _ rfl 0 32 (by kernel_rfl) b5 _ Try.underlying27 rfl (by kernel_rfl) (by (try simp only [nn_len, List.length_append, List.length_replicate]); try omega) _ (seg_all' _ (by (try simp only [nn_len, List.length_append, List.length_replicate]); try omega))) ⟨BL, b4, b5, b7, by omega⟩ ?_
  simp only [List.set_cons_zero, List.set_cons_succ]
  refine zv 10 19 (.int .i64 leaf) (fun _ _ => .of) ⟨BL, b4, b5, b7, by omega⟩ ?_
  simp only [List.set_cons_zero, List.set_cons_succ]
  refine zv 11 20 (.agg (cellsOf .u8 (nn (dl)))) (fun _ ⟨BL, b4, b5, b7, z1⟩ => Val.blk 28 _ rfl 0 32 (by kernel_rfl) b7 _ Try.underlying28 rfl (by kernel_rfl) (by (try simp only [nn_len, List.length_append, List.length_replicate]); try omega) _ (seg_all' _ (by (try simp only [nn_len, List.length_append, List.length_replicate]); try omega))) ⟨BL, b4, b5, b7, by omega⟩ ?_
  simp only [List.set_cons_zero, List.set_cons_succ]
  refine zv 13 22 (.agg (cellsOf .u32 (nn tab))) (fun _ ⟨BL, b4, b5, b7, z1⟩ => Val.blk 26 _ rfl 0 72 (by kernel_rfl) b4 _ Try.underlying26 rfl (by kernel_rfl) (by (try simp only [nn_len, List.length_append, List.length_replicate]); try omega) _ (seg_all' _ (by (try simp only [nn_len, List.length_append, List.length_replicate]); try omega))) ⟨BL, b4, b5, b7, by omega⟩ ?_
  simp only [List.set_cons_zero, List.set_cons_succ]
  refine zv 14 23 (.agg (cellsOf .u8 (nn (seed)))) (fun _ ⟨BL, b4, b5, b7, z1⟩ => Val.blk 27 _ rfl 0 32 (by kernel_rfl) b5 _ Try.underlying27 rfl (by kernel_rfl) (by (try simp only [nn_len, List.length_append, List.length_replicate]); try omega) _ (seg_all' _ (by (try simp only [nn_len, List.length_append, List.length_replicate]); try omega))) ⟨BL, b4, b5, b7, by omega⟩ ?_
  simp only [List.set_cons_zero, List.set_cons_succ]
  refine zv 15 24 (.int .i64 leaf) (fun _ _ => .of) ⟨BL, b4, b5, b7, by omega⟩ ?_
  simp only [List.set_cons_zero, List.set_cons_succ]
  refine zv 16 25 (.agg (cellsOf .u8 (nn (dl)))) (fun _ ⟨BL, b4, b5, b7, z1⟩ => Val.blk 28 _ rfl 0 32 (by kernel_rfl) b7 _ Try.underlying28 rfl (by kernel_rfl) (by (try simp only [nn_len, List.length_append, List.length_replicate]); try omega) _ (seg_all' _ (by (try simp only [nn_len, List.length_append, List.length_replicate]); try omega))) ⟨BL, b4, b5, b7, by omega⟩ ?_
  simp only [List.set_cons_zero, List.set_cons_succ]
  refine zo1 12 rfl ?_
  refine xCall 21 15 #[.pointer (some ⟨w.heap.size, 0, none⟩), .agg (cellsOf .u8 (nn (seed))), .int .i64 leaf, .agg (cellsOf .u8 (nn (dl)))] (by kernel_rfl) ?_
  refine (sign_any w.heap.size tab ht w6 b4 seed hs leaf h1 dl hdl hdb).mono ?_
  rintro en w7 ⟨rfl, hb1⟩
  have e4 := belE0 hb1
  have ze4 := e4.size
  replace BL := BL.e0 e4
  replace b4 := b4.e0 e4
  replace b5 := b5.e0 e4
  replace b7 := b7.e0 e4
  clear e4
  refine ⟨.agg (cellsOf .u8 (nn (secsN tab seed leaf dl ++ othsN tab seed leaf dl))), rfl, ?_⟩
  refine ze 12 ⟨BL, b4, b5, b7, by omega⟩ ?_
  simp only [List.set_cons_zero, List.set_cons_succ]
  refine zo1 17 rfl ?_
  refine xCall 26 45 #[.agg (cellsOf .u32 (nn tab)), .agg (cellsOf .u8 (nn (seed))), .int .i64 leaf, .agg (cellsOf .u8 (nn (dl)))] (by kernel_rfl) ?_
  refine (r9sign_any tab ht h32 w7 seed hs hs8 leaf h1 dl hdl hdb).mono ?_
  rintro en w8 ⟨rfl, hb1⟩
  have e5 := belE0 hb1
  have ze5 := e5.size
  replace BL := BL.e0 e5
  replace b4 := b4.e0 e5
  replace b5 := b5.e0 e5
  replace b7 := b7.e0 e5
  clear e5
  refine ⟨.agg (cellsOf .u8 (nn (secsN tab seed leaf dl ++ othsN tab seed leaf dl))), rfl, ?_⟩
  refine ze 17 ⟨BL, b4, b5, b7, by omega⟩ ?_
  simp only [List.set_cons_zero, List.set_cons_succ]
  refine zv 18 27 (.bool true) (fun _ ⟨BL, b4, b5, b7, z1⟩ => Val.eqK .eql 32 _ (.tmp 21) (.tmp 26) rfl kt_lam 6 (by kernel_rfl) (by decide) Try.underlying32 rfl (by rw [lamK_len]; kernel_rfl) (by kernel_rfl) (nn (secsN tab seed leaf dl ++ othsN tab seed leaf dl)) (nn (secsN tab seed leaf dl ++ othsN tab seed leaf dl)) (by rw [← lam_zip hsl]; kernel_rfl) (by rw [← lam_zip hsl]; kernel_rfl) (by rw [nn_len, hsl, lamK_len]) (by rw [nn_len, hsl, lamK_len]) (lam_wf hsb) (lam_wf hsb) (.inl rfl) _ (by simp)) ⟨BL, b4, b5, b7, by omega⟩ ?_
  simp only [List.set_cons_zero, List.set_cons_succ]
  refine zv 19 28 (.bool true) (fun _ _ => .of) ⟨BL, b4, b5, b7, by omega⟩ ?_
  simp only [List.set_cons_zero, List.set_cons_succ]
  refine zv 20 29 (.bool true) (fun _ _ => .of) ⟨BL, b4, b5, b7, by omega⟩ ?_
  simp only [List.set_cons_zero, List.set_cons_succ]
  refine zo1 21 rfl ?_
  refine xCall 30 19 #[] (by kernel_rfl) ?_
  refine (awake09 w8).mono ?_
  rintro en w9 ⟨rfl, hb1⟩
  have e6 := belE0 hb1
  have ze6 := e6.size
  replace BL := BL.e0 e6
  replace b4 := b4.e0 e6
  replace b5 := b5.e0 e6
  replace b7 := b7.e0 e6
  clear e6
  refine ⟨.bool true, rfl, ?_⟩
  refine ze 21 ⟨BL, b4, b5, b7, by omega⟩ ?_
  simp only [List.set_cons_zero, List.set_cons_succ]
  refine zv 22 31 (.bool true) (fun _ _ => .of) ⟨BL, b4, b5, b7, by omega⟩ ?_
  simp only [List.set_cons_zero, List.set_cons_succ]
  refine zv 23 8 (.bool true) (fun _ _ => .of) ⟨BL, b4, b5, b7, by omega⟩ ?_
  simp only [List.set_cons_zero, List.set_cons_succ]
  refine zd (by kernel_rfl) ?_ _
  refine hK2 _ _ ?_
  refine wp_ret ?_
  (try simp only [Exit.then, Exit.inBlock])
  refine bodyPost_ret (v := .bool true) rT rfl ?_
  exact ⟨rfl, BL.b⟩

end Go.Proofs.Ytlmadkldiidkaaa
