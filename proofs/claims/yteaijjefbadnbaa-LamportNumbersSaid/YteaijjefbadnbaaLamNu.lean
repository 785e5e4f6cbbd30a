/-
  LamportNumbers: the walk.
-/
import Derived.Test.YteaijjefbadnbaaNilK
import Derived.Test.YteaijjefbadnbaaRef9
import Derived.Test.YteaijjefbadnbaaAwake09
import Derived.Test.YteaijjefbadnbaaEqk
import Derived.Test.YteaijjefbadnbaaEqA
import Derived.Test.YteaijjefbadnbaaShaTl
namespace Go.Proofs.Yteaijjefbadnbaa
open Go.RowKit
set_option linter.unusedVariables false
set_option linter.unusedSimpArgs false
set_option maxRecDepth 100000
attribute [local irreducible] wpList Code.wp wpAnyZ
def rowK : List IntKind := (List.replicate 32 [IntKind.u8]).flatten
def lamK : List IntKind := (List.replicate 256 rowK).flatten ++ ((List.replicate 256 rowK).flatten ++ [])
theorem kt_row : KT Try.prog 36 rowK 2 := KT.array (P := Try.prog) Try.underlying36 (KT.int Try.underlying5) (by kernel_rfl) rfl (by kernel_rfl)
theorem kt_dig : KT Try.prog 37 rowK 2 := KT.array (P := Try.prog) Try.underlying37 (KT.int Try.underlying5) (by kernel_rfl) rfl (by kernel_rfl)
theorem rowK_len : rowK.length = 32 := by kernel_rfl
theorem rowsK_len : (List.replicate 256 rowK).flatten.length = 8192 := by kernel_rfl
theorem lamK_len : lamK.length = 16384 := by kernel_rfl
theorem kt_lam : KT Try.prog 58 lamK 4 :=
  KT.struct Try.underlying58 (by rw [lamK_len]; kernel_rfl) (by kernel_rfl) (KFields.cons rfl (by kernel_rfl) rowsK_len (KT.array (P := Try.prog) Try.underlying55 kt_row (by kernel_rfl) rowK_len (by kernel_rfl)) (KFields.cons rfl (by kernel_rfl) rowsK_len (KT.array (P := Try.prog) Try.underlying56 kt_dig (by kernel_rfl) rowK_len (by kernel_rfl)) (KFields.nil _)))
theorem rowK_rep : rowK = List.replicate 32 IntKind.u8 := by kernel_rfl
theorem flat_rep (n m : Nat) (k : IntKind) : (List.replicate n (List.replicate m k)).flatten = List.replicate (n * m) k := by simp
theorem lamK_eq : lamK = List.replicate 16384 IntKind.u8 := by
  unfold lamK
  rw [rowK_rep, flat_rep, List.append_nil, List.replicate_append_replicate]
theorem lam_zip {xs : List Nat} (h : xs.length = 16384) : (nn xs).map (Value.int .u8) = zipK lamK (nn xs) := by rw [lamK_eq, zipK_rep _ 16384 _ (by rw [nn_len]; exact h)]
theorem lam_wf {xs : List Nat} (h : ∀ x ∈ xs, x < 256) : wfK lamK (nn xs) := by
  rw [lamK_eq]
  intro i k n h1 h2
  obtain ⟨x, hx, rfl⟩ := List.mem_map.1 (List.mem_of_getElem? h2)
  have := h x hx
  have hk : k = .u8 := List.eq_of_mem_replicate (List.mem_of_getElem? h1)
  subst hk
  simp [Lit.wf, IntKind.min, IntKind.max, IntKind.bits, IntKind.signed]
  omega
theorem secret_neg (tab seed : List Nat) : secretN tab seed (-5) (-1) (-9) = secretN tab seed 0 0 0 := by
  unfold secretN
  rw [numN_neg (show (-5 : Int) < 0 by omega), numN_neg (show (-1 : Int) < 0 by omega), numN_neg (show (-9 : Int) < 0 by omega)]
  rfl
theorem secret_neg1 (tab seed : List Nat) (b v : Int) : secretN tab seed (-1) b v = secretN tab seed 0 b v := by
  unfold secretN
  rw [numN_neg (show (-1 : Int) < 0 by omega)]
  rfl
theorem secs_neg1 (tab seed dl : List Nat) : secsN tab seed (-1) dl = secsN tab seed 0 dl := by
  unfold secsN
  congr 1
theorem oths_neg1 (tab seed dl : List Nat) : othsN tab seed (-1) dl = othsN tab seed 0 dl := by
  unfold othsN
  congr 1
theorem key_neg (tab seed : List Nat) : keyL tab seed (-1) = keyL tab seed 0 := by unfold keyL; rw [secs_neg1, oths_neg1]
def dlE : List Nat := [1, 0, 0, 0, 0, 0, 0, 0, 0, 0, 0, 0, 0, 0, 0, 0, 0, 0, 0, 0, 0, 0, 0, 0, 0, 0, 0, 0, 0, 0, 0, 1]
def seedE : List Nat := [9, 0, 0, 0, 0, 0, 0, 0, 0, 0, 0, 0, 0, 0, 0, 0, 0, 0, 0, 0, 0, 0, 0, 0, 0, 0, 0, 0, 0, 0, 0, 0]
theorem dlE_b : Bytes (nn dlE) := bytes_nn (by decide)
theorem dlE_len : dlE.length = 32 := rfl
theorem seedE_len : seedE.length = 32 := rfl
theorem dlE_all : ∀ i : Fin 256, dlE.getD (i.val / 8) 0 / 2 ^ (7 - i.val % 8) % 2 = if i.val = 7 ∨ i.val = 255 then 1 else 0 := by decide +kernel
theorem dlE_bit (i : Nat) (h : i < 256) : bitF (nn dlE) (i : Int) = if i = 7 ∨ i = 255 then 1 else 0 := by
  rw [bitF_nat dlE_b, dlE_all ⟨i, h⟩]
  simp only []
  split <;> rfl
attribute [local irreducible] ofN textN numN macN taggedN rowsN fillN keyL secsN othsN lamK secretN halfN tabL dlE seedE

set_option maxHeartbeats 8000000 in
theorem lamportNumbers_walk (w : World) :
    Calls Try.prog 5 #[] w fun e w' => e = .returned (.bool true) ∧ Below w.heap.size w w' := by
  have BL := Bl.refl w
  have hTL := tabL_len
  have hsl := secretN_len tabL seedE 0 0 0
  have hkl := keyL_len tabL seedE 0
  have hdl := dlE_len
  have hsd := seedE_len
  obtain ⟨Z, hZ⟩ : ∃ Z : List Nat, Z = List.replicate 16384 0 := ⟨_, rfl⟩
  obtain ⟨Y, hY⟩ : ∃ Z : List Nat, Z = List.replicate 8192 0 := ⟨_, rfl⟩
  have hYl : Y.length = 8192 := by rw [hY, List.length_replicate]
  have hYZ : Z = Y ++ Y := by rw [hZ, hY]; exact zb_split
  have hZl : Z.length = 16384 := by rw [hZ, List.length_replicate]
  have hZb : ∀ x ∈ Z, x < 256 := fun x hx => by rw [hZ] at hx; rw [List.eq_of_mem_replicate hx]; omega
  go_enter Try.func5, Try.ntmps5
  refine wp_seq_k fun K1 hK1 => ?_
  refine cPlain ?_
  refine sv 0 (.bool false) .of ?_
  simp only [List.set_cons_zero, List.set_cons_succ]
  refine wpList_nil ?_
  refine hK1 _ _ ?_
  refine wp_seq_k fun K2 hK2 => ?_
  refine cPlain ?_
  refine xCall 6 13 #[] (by kernel_rfl) ?_
  refine (table_any w).mono ?_
  rintro en w1 ⟨he, hb1⟩
  rw [tableN_eq] at he
  subst he
  have e1 := belE0 hb1
  have ze1 := e1.size
  replace BL := BL.e0 e1
  clear e1
  refine ⟨.agg (cellsOf .u32 (nn tabL)), rfl, ?_⟩
  simp only [List.set_cons_zero, List.set_cons_succ]
  refine xAlloc 1 26 ((nn (List.replicate 72 0)).map (Value.int .u32)) rfl (by kernel_rfl) ?_
  intro w2 n1
  have zn1 := n1.z
  have b1 := n1.c
  replace b1 : Blk .u32 w2 w1.heap.size 26 (nn (List.replicate 72 0)) := b1
  replace BL := BL.e0 n1.e
  simp only [List.set_cons_zero, List.set_cons_succ]
  refine xStoreA 26 (.tmp 1) (.tmp 6) rfl .u32 w1.heap.size 26 (nn (List.replicate 72 0)) 0 (nn tabL) (by kernel_rfl) (by kernel_rfl) b1 (by rw [show (nn tabL).length = 72 by ((try simp only [nn_len, List.length_append, List.length_replicate]); try omega)]; kernel_rfl) (by (try simp only [nn_len, List.length_append, List.length_replicate]); try omega) (nn tabL) (over_whole _ _ (by (try simp only [nn_len, List.length_append, List.length_replicate]); try omega)) ?_
  intro w3 t1
  have zt1 := t1.z
  have BL_ := BL.ev t1.e (fun i h => show w.heap.size ≤ i by have h : i = w1.heap.size := h; omega)
  replace BL := BL_; clear BL_
  replace b1 : Blk .u32 w3 w1.heap.size 26 (nn tabL) := t1.c
  clear t1
  refine wpList_nil ?_
  refine hK2 _ _ ?_
  refine wp_seq_k fun K3 hK3 => ?_
  refine cPlain ?_
  refine sv 7 (.agg (cellsOf .u8 (nn (dlE)))) (by unfold dlE; exact Val.of) ?_
  simp only [List.set_cons_zero, List.set_cons_succ]
  refine xAlloc 2 37 ((nn (List.replicate 32 0)).map (Value.int .u8)) rfl (by kernel_rfl) ?_
  intro w4 n2
  have zn2 := n2.z
  have b2 := n2.c
  replace b2 : Blk .u8 w4 w3.heap.size 37 (nn (List.replicate 32 0)) := b2
  replace BL := BL.e0 n2.e
  replace b1 := b1.e0 n2.e
  simp only [List.set_cons_zero, List.set_cons_succ]
  refine xStoreA 37 (.tmp 2) (.tmp 7) rfl .u8 w3.heap.size 37 (nn (List.replicate 32 0)) 0 (nn (dlE)) (by kernel_rfl) (by kernel_rfl) b2 (by rw [show (nn (dlE)).length = 32 by ((try simp only [nn_len, List.length_append, List.length_replicate]); try omega)]; kernel_rfl) (by (try simp only [nn_len, List.length_append, List.length_replicate]); try omega) (nn (dlE)) (over_whole _ _ (by (try simp only [nn_len, List.length_append, List.length_replicate]); try omega)) ?_
  intro w5 t2
  have zt2 := t2.z
  have BL_ := BL.ev t2.e (fun i h => show w.heap.size ≤ i by have h : i = w3.heap.size := h; omega)
  have b1_ := b1.ev t2.e (show ¬ (w1.heap.size = w3.heap.size) by omega)
  replace BL := BL_; clear BL_
  replace b1 := b1_; clear b1_
  replace b2 : Blk .u8 w5 w3.heap.size 37 (nn (dlE)) := t2.c
  clear t2
  refine wpList_nil ?_
  refine hK3 _ _ ?_
  refine wp_seq_k fun K4 hK4 => ?_
  refine wp_seq_k fun K5 hK5 => ?_
  refine cPlain ?_
  refine sv 3 (.int .i64 0) .of ?_
  simp only [List.set_cons_zero, List.set_cons_succ]
  refine wpList_nil ?_
  refine hK5 _ _ ?_
  refine wp_block ?_
  refine cLoop (fun N_ A_ w_ => ∃ (i : Nat), (N_ = 256 - i ∧ (i ≤ 256) ∧ (∃ s1 : Nat → Value, A_ = ⟨[(s1 0), .pointer (some ⟨w1.heap.size, 0, none⟩), .pointer (some ⟨w3.heap.size, 0, none⟩), .int .i64 ((i : Nat) : Int), undef, undef, .agg (cellsOf .u32 (nn tabL)), .agg (cellsOf .u8 (nn (dlE))), (s1 8), (s1 9), (s1 10), (s1 11), (s1 12), (s1 13), (s1 14), (s1 15), (s1 16), (s1 17), (s1 18), (s1 19), (s1 20), (s1 21), (s1 22), (s1 23), (s1 24), (s1 25), (s1 26), (s1 27), (s1 28), (s1 29), (s1 30), (s1 31), undef, undef, undef, undef, undef, undef, undef, undef, undef, undef, undef, undef, undef, undef, undef, undef, undef, undef, undef, undef, undef, undef, undef, undef, undef, undef, undef, undef, undef, undef, undef, undef, undef, undef, undef, undef, undef, undef, undef, undef, undef, undef, undef, undef, undef, undef, undef, undef, undef, undef, undef, undef, undef, undef, undef, undef, undef, undef, undef].toArray, []⟩) ∧ Bl w.heap.size w w_ ∧ Blk .u32 w_ w1.heap.size 26 (nn tabL) ∧ Blk .u8 w_ w3.heap.size 37 (nn (dlE)) ∧ w5.heap.size ≤ w_.heap.size)) _ ⟨0, rfl, (Nat.zero_le _), cutE, BL, b1, b2, Nat.le_refl _⟩ ?_
  clear BL b1 b2
  rintro n_ a_ wl0 ⟨i, rfl, hc0_0, ⟨s1, rfl⟩, BL, b1, b2, zl0⟩
  refine wp_seq_k fun K6 hK6 => ?_
  refine wp_seq_k fun K7 hK7 => ?_
  refine cPlain ?_
  refine sv 8 (.int .i64 ((i : Nat) : Int)) .of ?_
  simp only [List.set_cons_zero, List.set_cons_succ]
  refine sv 9 (.bool (decide (((i : Nat) : Int) < 256))) (Val.cmp .lss 3 _ (.tmp 8) _ rfl .i64 ((i : Nat) : Int) 256 (by kernel_rfl) (by kernel_rfl) (by simp) _ rfl) ?_
  simp only [List.set_cons_zero, List.set_cons_succ]
  refine wpList_nil ?_
  refine hK7 _ _ ?_
  refine cDec (((i : Nat) : Int) < 256) (by kernel_rfl) (fun c9 => ?_) (fun c9 => ?_)
  · skip
    refine wp_skip ?_
    refine hK6 _ _ ?_
    refine wp_seq_k fun K8 hK8 => ?_
    refine wp_block ?_
    refine wp_seq_k fun K9 hK9 => ?_
    have e2 := drew_e0 wl0
    refine zg (fun w_ => Bl w.heap.size w w_ ∧ Blk .u32 w_ w1.heap.size 26 (nn tabL) ∧ Blk .u8 w_ w3.heap.size 37 (nn (dlE)) ∧ wl0.heap.size ≤ w_.heap.size) (fun w_ => Bl w.heap.size w w_ ∧ Blk .u32 w_ w1.heap.size 26 (nn tabL) ∧ Blk .u8 w_ w3.heap.size 37 (nn (dlE)) ∧ wl0.heap.size ≤ w_.heap.size) 100000 20 ⟨BL.e0 e2, b1.e0 e2, b2.e0 e2, Nat.le_refl _⟩ ?_
    clear BL b1 b2
    clear e2
    intro w6
    rintro ⟨BL, b1, b2, z1⟩
    refine zv 0 12 (.agg (cellsOf .u8 (nn (dlE)))) (fun _ ⟨BL, b1, b2, z1⟩ => Val.blk 37 _ rfl 0 32 (by kernel_rfl) b2 _ Try.underlying37 rfl (by kernel_rfl) (by (try simp only [nn_len, List.length_append, List.length_replicate]); try omega) _ (seg_all' _ (by (try simp only [nn_len, List.length_append, List.length_replicate]); try omega))) ⟨BL, b1, b2, by omega⟩ ?_
    simp only [List.set_cons_zero, List.set_cons_succ]
    refine zv 1 13 (.int .i64 ((i : Nat) : Int)) (fun _ _ => .of) ⟨BL, b1, b2, by omega⟩ ?_
    simp only [List.set_cons_zero, List.set_cons_succ]
    refine zv 3 15 (.agg (cellsOf .u8 (nn (dlE)))) (fun _ ⟨BL, b1, b2, z1⟩ => Val.blk 37 _ rfl 0 32 (by kernel_rfl) b2 _ Try.underlying37 rfl (by kernel_rfl) (by (try simp only [nn_len, List.length_append, List.length_replicate]); try omega) _ (seg_all' _ (by (try simp only [nn_len, List.length_append, List.length_replicate]); try omega))) ⟨BL, b1, b2, by omega⟩ ?_
    simp only [List.set_cons_zero, List.set_cons_succ]
    refine zv 4 16 (.int .i64 ((i : Nat) : Int)) (fun _ _ => .of) ⟨BL, b1, b2, by omega⟩ ?_
    simp only [List.set_cons_zero, List.set_cons_succ]
    refine zo1 2 rfl ?_
    refine xCall 14 32 #[.agg (cellsOf .u8 (nn (dlE))), .int .i64 ((i : Nat) : Int)] (by kernel_rfl) ?_
    refine (bit_any (nn dlE) (by rw [nn_len]; exact dlE_len) dlE_b (i : Int) (by omega) (by omega) w6).mono ?_
    rintro en w7 ⟨rfl, hw⟩
    have e3 : E0 w6 w7 := (hw ▸ alloc_e0 _ _)
    have ze3 := e3.size
    replace BL := BL.e0 e3
    replace b1 := b1.e0 e3
    replace b2 := b2.e0 e3
    clear e3
    refine ⟨.int .i64 (bitF (nn dlE) (i : Int)), rfl, ?_⟩
    refine ze 2 ⟨BL, b1, b2, by omega⟩ ?_
    simp only [List.set_cons_zero, List.set_cons_succ]
    refine zo1 5 rfl ?_
    refine xCall 17 33 #[.agg (cellsOf .u8 (nn (dlE))), .int .i64 ((i : Nat) : Int)] (by kernel_rfl) ?_
    refine (r9bit_any dlE dlE_len dlE_b i (by omega) w7).mono ?_
    rintro en w8 ⟨rfl, hb1⟩
    have e4 := belE0 hb1
    have ze4 := e4.size
    replace BL := BL.e0 e4
    replace b1 := b1.e0 e4
    replace b2 := b2.e0 e4
    clear e4
    refine ⟨.int .i64 (bitF (nn dlE) (i : Int)), rfl, ?_⟩
    refine ze 5 ⟨BL, b1, b2, by omega⟩ ?_
    simp only [List.set_cons_zero, List.set_cons_succ]
    refine zv 6 18 (.bool false) (fun _ ⟨BL, b1, b2, z1⟩ => Val.cmp .neq 3 _ (.tmp 14) (.tmp 17) rfl .i64 (bitF (nn dlE) (i : Int)) (bitF (nn dlE) (i : Int)) (by kernel_rfl) (by kernel_rfl) (by simp) _ (by simp [cmpB])) ⟨BL, b1, b2, by omega⟩ ?_
    simp only [List.set_cons_zero, List.set_cons_succ]
    refine zv 7 19 (.bool false) (fun _ _ => .of) ⟨BL, b1, b2, by omega⟩ ?_
    simp only [List.set_cons_zero, List.set_cons_succ]
    refine zv 8 20 (.agg (cellsOf .u8 (nn (dlE)))) (fun _ ⟨BL, b1, b2, z1⟩ => Val.blk 37 _ rfl 0 32 (by kernel_rfl) b2 _ Try.underlying37 rfl (by kernel_rfl) (by (try simp only [nn_len, List.length_append, List.length_replicate]); try omega) _ (seg_all' _ (by (try simp only [nn_len, List.length_append, List.length_replicate]); try omega))) ⟨BL, b1, b2, by omega⟩ ?_
    simp only [List.set_cons_zero, List.set_cons_succ]
    refine zv 9 21 (.int .i64 ((i : Nat) : Int)) (fun _ _ => .of) ⟨BL, b1, b2, by omega⟩ ?_
    simp only [List.set_cons_zero, List.set_cons_succ]
    refine zv 12 24 (.int .i64 ((i : Nat) : Int)) (fun _ _ => .of) ⟨BL, b1, b2, by omega⟩ ?_
    simp only [List.set_cons_zero, List.set_cons_succ]
    refine zv 13 25 (.bool (decide (i = 7))) (fun _ ⟨BL, b1, b2, z1⟩ => Val.cmp .eql 3 _ (.tmp 24) _ rfl .i64 ((i : Nat) : Int) 7 (by kernel_rfl) (by kernel_rfl) (by simp) _ (by simp only [cmpB]; simp; omega)) ⟨BL, b1, b2, by omega⟩ ?_
    simp only [List.set_cons_zero, List.set_cons_succ]
    refine zo1 10 rfl ?_
    refine xCall 22 32 #[.agg (cellsOf .u8 (nn (dlE))), .int .i64 ((i : Nat) : Int)] (by kernel_rfl) ?_
    refine (bit_any (nn dlE) (by rw [nn_len]; exact dlE_len) dlE_b (i : Int) (by omega) (by omega) w8).mono ?_
    rintro en w9 ⟨rfl, hw⟩
    have e5 : E0 w8 w9 := (hw ▸ alloc_e0 _ _)
    have ze5 := e5.size
    replace BL := BL.e0 e5
    replace b1 := b1.e0 e5
    replace b2 := b2.e0 e5
    clear e5
    refine ⟨.int .i64 (bitF (nn dlE) (i : Int)), rfl, ?_⟩
    refine ze 10 ⟨BL, b1, b2, by omega⟩ ?_
    simp only [List.set_cons_zero, List.set_cons_succ]
    refine zv 11 23 (.bool (decide (i = 7 ∨ i = 255))) (fun _ ⟨BL, b1, b2, z1⟩ => Val.cmp .eql 3 _ (.tmp 22) _ rfl .i64 (bitF (nn dlE) (i : Int)) 1 (by kernel_rfl) (by kernel_rfl) (by simp) _ (by rw [dlE_bit i (by omega)]; simp only [cmpB]; split <;> simp_all)) ⟨BL, b1, b2, by omega⟩ ?_
    simp only [List.set_cons_zero, List.set_cons_succ]
    refine zv 14 26 (.bool (decide (i = 7))) (fun _ _ => .of) ⟨BL, b1, b2, by omega⟩ ?_
    simp only [List.set_cons_zero, List.set_cons_succ]
    by_cases g27 : i = 7
    · skip
      have dg27 : decide (i = 7) = true := decide_eq_true g27
      simp only [dg27]
      clear dg27
      refine zs 15 27 ⟨BL, b1, b2, by omega⟩ ?_
      simp only [List.set_cons_zero, List.set_cons_succ]
      refine zs 16 28 ⟨BL, b1, b2, by omega⟩ ?_
      simp only [List.set_cons_zero, List.set_cons_succ]
      refine zv 17 29 (.bool true) (fun _ _ => .of) ⟨BL, b1, b2, by omega⟩ ?_
      simp only [List.set_cons_zero, List.set_cons_succ]
      refine zv 18 30 (.bool false) (fun _ ⟨BL, b1, b2, z1⟩ => Val.bools .neq 4 _ (.tmp 23) (.tmp 29) rfl Try.underlying4 (decide (i = 7 ∨ i = 255)) true (by kernel_rfl) (by kernel_rfl) (.inr rfl) false (by simp; omega)) ⟨BL, b1, b2, by omega⟩ ?_
      simp only [List.set_cons_zero, List.set_cons_succ]
      refine zv 19 31 (.bool false) (fun _ _ => .of) ⟨BL, b1, b2, by omega⟩ ?_
      simp only [List.set_cons_zero, List.set_cons_succ]
      refine zd (by kernel_rfl) ?_ _
      refine hK9 _ _ ?_
      refine cF ?_
      refine wp_skip ?_
      refine hK8 _ _ ?_
      refine cPlain ?_
      refine sv 10 (.int .i64 ((i : Nat) : Int)) .of ?_
      simp only [List.set_cons_zero, List.set_cons_succ]
      refine sv 11 (.int .i64 (((i : Nat) : Int) + 1)) (Val.add 3 _ (.tmp 10) _ rfl ((i : Nat) : Int) 1 (by kernel_rfl) (by kernel_rfl) (by omega)) ?_
      simp only [List.set_cons_zero, List.set_cons_succ]
      refine sv 3 (.int .i64 (((i : Nat) : Int) + 1)) .of ?_
      simp only [List.set_cons_zero, List.set_cons_succ]
      refine wpList_nil ?_
      refine ⟨_, ?_, i + 1, rfl, (by omega), cutE, BL, b1, b2, by omega⟩
      omega
    · skip
      have dg27 : decide (i = 7) = false := decide_eq_false g27
      simp only [dg27]
      clear dg27
      refine zv 15 27 (.int .i64 ((i : Nat) : Int)) (fun _ _ => .of) ⟨BL, b1, b2, by omega⟩ ?_
      simp only [List.set_cons_zero, List.set_cons_succ]
      refine zv 16 28 (.bool (decide (i = 255))) (fun _ ⟨BL, b1, b2, z1⟩ => Val.cmp .eql 3 _ (.tmp 27) _ rfl .i64 ((i : Nat) : Int) 255 (by kernel_rfl) (by kernel_rfl) (by simp) _ (by simp only [cmpB]; simp; omega)) ⟨BL, b1, b2, by omega⟩ ?_
      simp only [List.set_cons_zero, List.set_cons_succ]
      refine zv 17 29 (.bool (decide (i = 255))) (fun _ _ => .of) ⟨BL, b1, b2, by omega⟩ ?_
      simp only [List.set_cons_zero, List.set_cons_succ]
      refine zv 18 30 (.bool false) (fun _ ⟨BL, b1, b2, z1⟩ => Val.bools .neq 4 _ (.tmp 23) (.tmp 29) rfl Try.underlying4 (decide (i = 7 ∨ i = 255)) (decide (i = 255)) (by kernel_rfl) (by kernel_rfl) (.inr rfl) false (by simp; omega)) ⟨BL, b1, b2, by omega⟩ ?_
      simp only [List.set_cons_zero, List.set_cons_succ]
      refine zv 19 31 (.bool false) (fun _ _ => .of) ⟨BL, b1, b2, by omega⟩ ?_
      simp only [List.set_cons_zero, List.set_cons_succ]
      refine zd (by kernel_rfl) ?_ _
      refine hK9 _ _ ?_
      refine cF ?_
      refine wp_skip ?_
      refine hK8 _ _ ?_
      refine cPlain ?_
      refine sv 10 (.int .i64 ((i : Nat) : Int)) .of ?_
      simp only [List.set_cons_zero, List.set_cons_succ]
      refine sv 11 (.int .i64 (((i : Nat) : Int) + 1)) (Val.add 3 _ (.tmp 10) _ rfl ((i : Nat) : Int) 1 (by kernel_rfl) (by kernel_rfl) (by omega)) ?_
      simp only [List.set_cons_zero, List.set_cons_succ]
      refine sv 3 (.int .i64 (((i : Nat) : Int) + 1)) .of ?_
      simp only [List.set_cons_zero, List.set_cons_succ]
      refine wpList_nil ?_
      refine ⟨_, ?_, i + 1, rfl, (by omega), cutE, BL, b1, b2, by omega⟩
      omega
  · skip
    refine wp_exit ?_
    simp only [Exit.then, Exit.inBlock, ↓reduceIte, Nat.reduceEqDiff]
    refine hK4 _ _ ?_
    refine wp_seq_k fun K10 hK10 => ?_
    refine cPlain ?_
    refine sv 32 (.agg (cellsOf .u8 (nn (seedE)))) (by unfold seedE; exact Val.of) ?_
    simp only [List.set_cons_zero, List.set_cons_succ]
    refine xAlloc 4 36 ((nn (List.replicate 32 0)).map (Value.int .u8)) rfl (by kernel_rfl) ?_
    intro w10 n3
    have zn3 := n3.z
    have b4 := n3.c
    replace b4 : Blk .u8 w10 wl0.heap.size 36 (nn (List.replicate 32 0)) := b4
    replace BL := BL.e0 n3.e
    replace b1 := b1.e0 n3.e
    replace b2 := b2.e0 n3.e
    simp only [List.set_cons_zero, List.set_cons_succ]
    refine xStoreA 36 (.tmp 4) (.tmp 32) rfl .u8 wl0.heap.size 36 (nn (List.replicate 32 0)) 0 (nn (seedE)) (by kernel_rfl) (by kernel_rfl) b4 (by rw [show (nn (seedE)).length = 32 by ((try simp only [nn_len, List.length_append, List.length_replicate]); try omega)]; kernel_rfl) (by (try simp only [nn_len, List.length_append, List.length_replicate]); try omega) (nn (seedE)) (over_whole _ _ (by (try simp only [nn_len, List.length_append, List.length_replicate]); try omega)) ?_
    intro w11 t3
    have zt3 := t3.z
    have BL_ := BL.ev t3.e (fun i h => show w.heap.size ≤ i by have h : i = wl0.heap.size := h; omega)
    have b1_ := b1.ev t3.e (show ¬ (w1.heap.size = wl0.heap.size) by omega)
    have b2_ := b2.ev t3.e (show ¬ (w3.heap.size = wl0.heap.size) by omega)
    replace BL := BL_; clear BL_
    replace b1 := b1_; clear b1_
    replace b2 := b2_; clear b2_
    replace b4 : Blk .u8 w11 wl0.heap.size 36 (nn (seedE)) := t3.c
    clear t3
    refine wpList_nil ?_
    refine hK10 _ _ ?_
    refine wp_seq_k fun K11 hK11 => ?_
    have e6 := drew_e0 w11
    refine zg (fun w_ => Bl w.heap.size w w_ ∧ Blk .u32 w_ w1.heap.size 26 (nn tabL) ∧ Blk .u8 w_ w3.heap.size 37 (nn (dlE)) ∧ Blk .u8 w_ wl0.heap.size 36 (nn (seedE)) ∧ w11.heap.size ≤ w_.heap.size) (fun w_ => Bl w.heap.size w w_ ∧ Blk .u32 w_ w1.heap.size 26 (nn tabL) ∧ Blk .u8 w_ w3.heap.size 37 (nn (dlE)) ∧ Blk .u8 w_ wl0.heap.size 36 (nn (seedE)) ∧ w11.heap.size ≤ w_.heap.size) 100000 23 ⟨BL.e0 e6, b1.e0 e6, b2.e0 e6, b4.e0 e6, Nat.le_refl _⟩ ?_
    clear BL b1 b2 b4
    clear e6
    intro w12
    rintro ⟨BL, b1, b2, b4, z2⟩
    refine zv 0 33 (.agg (cellsOf .u8 (nn (dlE)))) (fun _ ⟨BL, b1, b2, b4, z2⟩ => Val.blk 37 _ rfl 0 32 (by kernel_rfl) b2 _ Try.underlying37 rfl (by kernel_rfl) (by (try simp only [nn_len, List.length_append, List.length_replicate]); try omega) _ (seg_all' _ (by (try simp only [nn_len, List.length_append, List.length_replicate]); try omega))) ⟨BL, b1, b2, b4, by omega⟩ ?_
    simp only [List.set_cons_zero, List.set_cons_succ]
    refine zo1 1 rfl ?_
    refine xCall 34 32 #[.agg (cellsOf .u8 (nn (dlE))), .int .i64 (-1)] (by kernel_rfl) ?_
    refine (bit_out dlE (-1) (by omega) w12).mono ?_
    rintro en w13 ⟨rfl, hb1⟩
    have e7 := belE0 hb1
    have ze7 := e7.size
    replace BL := BL.e0 e7
    replace b1 := b1.e0 e7
    replace b2 := b2.e0 e7
    replace b4 := b4.e0 e7
    clear e7
    refine ⟨.int .i64 0, rfl, ?_⟩
    refine ze 1 ⟨BL, b1, b2, b4, by omega⟩ ?_
    simp only [List.set_cons_zero, List.set_cons_succ]
    refine zv 2 35 (.bool true) (fun _ ⟨BL, b1, b2, b4, z2⟩ => Val.cmp .eql 3 _ (.tmp 34) _ rfl .i64 0 0 (by kernel_rfl) (by kernel_rfl) (by simp) _ rfl) ⟨BL, b1, b2, b4, by omega⟩ ?_
    simp only [List.set_cons_zero, List.set_cons_succ]
    refine zv 3 36 (.bool true) (fun _ _ => .of) ⟨BL, b1, b2, b4, by omega⟩ ?_
    simp only [List.set_cons_zero, List.set_cons_succ]
    refine zv 4 37 (.agg (cellsOf .u8 (nn (dlE)))) (fun _ ⟨BL, b1, b2, b4, z2⟩ => Val.blk 37 _ rfl 0 32 (by kernel_rfl) b2 _ Try.underlying37 rfl (by kernel_rfl) (by (try simp only [nn_len, List.length_append, List.length_replicate]); try omega) _ (seg_all' _ (by (try simp only [nn_len, List.length_append, List.length_replicate]); try omega))) ⟨BL, b1, b2, b4, by omega⟩ ?_
    simp only [List.set_cons_zero, List.set_cons_succ]
    refine zo1 5 rfl ?_
    refine xCall 38 32 #[.agg (cellsOf .u8 (nn (dlE))), .int .i64 256] (by kernel_rfl) ?_
    refine (bit_out dlE 256 (by omega) w13).mono ?_
    rintro en w14 ⟨rfl, hb1⟩
    have e8 := belE0 hb1
    have ze8 := e8.size
    replace BL := BL.e0 e8
    replace b1 := b1.e0 e8
    replace b2 := b2.e0 e8
    replace b4 := b4.e0 e8
    clear e8
    refine ⟨.int .i64 0, rfl, ?_⟩
    refine ze 5 ⟨BL, b1, b2, b4, by omega⟩ ?_
    simp only [List.set_cons_zero, List.set_cons_succ]
    refine zv 6 39 (.bool true) (fun _ ⟨BL, b1, b2, b4, z2⟩ => Val.cmp .eql 3 _ (.tmp 38) _ rfl .i64 0 0 (by kernel_rfl) (by kernel_rfl) (by simp) _ rfl) ⟨BL, b1, b2, b4, by omega⟩ ?_
    simp only [List.set_cons_zero, List.set_cons_succ]
    refine zv 7 40 (.bool true) (fun _ _ => .of) ⟨BL, b1, b2, b4, by omega⟩ ?_
    simp only [List.set_cons_zero, List.set_cons_succ]
    refine zv 8 41 (.bool true) (fun _ _ => .of) ⟨BL, b1, b2, b4, by omega⟩ ?_
    simp only [List.set_cons_zero, List.set_cons_succ]
    refine zv 9 42 (.agg (cellsOf .u8 (nn (seedE)))) (fun _ ⟨BL, b1, b2, b4, z2⟩ => Val.blk 36 _ rfl 0 32 (by kernel_rfl) b4 _ Try.underlying36 rfl (by kernel_rfl) (by (try simp only [nn_len, List.length_append, List.length_replicate]); try omega) _ (seg_all' _ (by (try simp only [nn_len, List.length_append, List.length_replicate]); try omega))) ⟨BL, b1, b2, b4, by omega⟩ ?_
    simp only [List.set_cons_zero, List.set_cons_succ]
    refine zv 11 44 (.agg (cellsOf .u8 (nn (seedE)))) (fun _ ⟨BL, b1, b2, b4, z2⟩ => Val.blk 36 _ rfl 0 32 (by kernel_rfl) b4 _ Try.underlying36 rfl (by kernel_rfl) (by (try simp only [nn_len, List.length_append, List.length_replicate]); try omega) _ (seg_all' _ (by (try simp only [nn_len, List.length_append, List.length_replicate]); try omega))) ⟨BL, b1, b2, b4, by omega⟩ ?_
    simp only [List.set_cons_zero, List.set_cons_succ]
    refine zo1 10 rfl ?_
    refine xCall 43 34 #[.pointer (some ⟨w1.heap.size, 0, none⟩), .agg (cellsOf .u8 (nn (seedE))), .int .i64 (-5), .int .i64 (-1), .int .i64 (-9)] (by kernel_rfl) ?_
    refine (secret_any w1.heap.size tabL hTL w14 b1 seedE seedE_len (-5) (-1) (-9) (by omega) (by omega) (by omega)).mono ?_
    rintro en w15 ⟨he, hb1⟩
    rw [secret_neg] at he
    subst he
    have e9 := belE0 hb1
    have ze9 := e9.size
    replace BL := BL.e0 e9
    replace b1 := b1.e0 e9
    replace b2 := b2.e0 e9
    replace b4 := b4.e0 e9
    clear e9
    refine ⟨.agg (cellsOf .u8 (nn (secretN tabL seedE 0 0 0))), rfl, ?_⟩
    refine ze 10 ⟨BL, b1, b2, b4, by omega⟩ ?_
    simp only [List.set_cons_zero, List.set_cons_succ]
    refine zo1 12 rfl ?_
    refine xCall 45 34 #[.pointer (some ⟨w1.heap.size, 0, none⟩), .agg (cellsOf .u8 (nn (seedE))), .int .i64 0, .int .i64 0, .int .i64 0] (by kernel_rfl) ?_
    refine (secret_any w1.heap.size tabL hTL w15 b1 seedE seedE_len 0 0 0 (by omega) (by omega) (by omega)).mono ?_
    rintro en w16 ⟨rfl, hb1⟩
    have e10 := belE0 hb1
    have ze10 := e10.size
    replace BL := BL.e0 e10
    replace b1 := b1.e0 e10
    replace b2 := b2.e0 e10
    replace b4 := b4.e0 e10
    clear e10
    refine ⟨.agg (cellsOf .u8 (nn (secretN tabL seedE 0 0 0))), rfl, ?_⟩
    refine ze 12 ⟨BL, b1, b2, b4, by omega⟩ ?_
    simp only [List.set_cons_zero, List.set_cons_succ]
    refine zv 13 46 (.bool true) (fun _ ⟨BL, b1, b2, b4, z2⟩ => Val.eqA .eql 36 _ (.tmp 43) (.tmp 45) rfl Try.underlying36 Try.underlying5 (by kernel_rfl) (by kernel_rfl) (nn (secretN tabL seedE 0 0 0)) (nn (secretN tabL seedE 0 0 0)) (by kernel_rfl) (by kernel_rfl) (by rw [nn_len]; exact hsl) (by rw [nn_len]; exact hsl) (.inl rfl) true (by simp)) ⟨BL, b1, b2, b4, by omega⟩ ?_
    simp only [List.set_cons_zero, List.set_cons_succ]
    refine zv 14 47 (.bool true) (fun _ _ => .of) ⟨BL, b1, b2, b4, by omega⟩ ?_
    simp only [List.set_cons_zero, List.set_cons_succ]
    refine zv 15 48 (.bool true) (fun _ _ => .of) ⟨BL, b1, b2, b4, by omega⟩ ?_
    simp only [List.set_cons_zero, List.set_cons_succ]
    refine zv 16 49 (.agg (cellsOf .u8 (nn (seedE)))) (fun _ ⟨BL, b1, b2, b4, z2⟩ => Val.blk 36 _ rfl 0 32 (by kernel_rfl) b4 _ Try.underlying36 rfl (by kernel_rfl) (by (try simp only [nn_len, List.length_append, List.length_replicate]); try omega) _ (seg_all' _ (by (try simp only [nn_len, List.length_append, List.length_replicate]); try omega))) ⟨BL, b1, b2, b4, by omega⟩ ?_
    simp only [List.set_cons_zero, List.set_cons_succ]
    refine zv 18 51 (.agg (cellsOf .u8 (nn (seedE)))) (fun _ ⟨BL, b1, b2, b4, z2⟩ => Val.blk 36 _ rfl 0 32 (by kernel_rfl) b4 _ Try.underlying36 rfl (by kernel_rfl) (by (try simp only [nn_len, List.length_append, List.length_replicate]); try omega) _ (seg_all' _ (by (try simp only [nn_len, List.length_append, List.length_replicate]); try omega))) ⟨BL, b1, b2, b4, by omega⟩ ?_
    simp only [List.set_cons_zero, List.set_cons_succ]
    refine zo1 17 rfl ?_
    refine xCall 50 35 #[.pointer (some ⟨w1.heap.size, 0, none⟩), .agg (cellsOf .u8 (nn (seedE))), .int .i64 (-1)] (by kernel_rfl) ?_
    refine (key_any w1.heap.size tabL hTL w16 b1 seedE seedE_len (-1) (by omega)).mono ?_
    rintro en w17 ⟨he, hb1⟩
    rw [key_neg] at he
    subst he
    have e11 := belE0 hb1
    have ze11 := e11.size
    replace BL := BL.e0 e11
    replace b1 := b1.e0 e11
    replace b2 := b2.e0 e11
    replace b4 := b4.e0 e11
    clear e11
    refine ⟨.agg (cellsOf .u8 (nn (keyL tabL seedE 0))), rfl, ?_⟩
    refine ze 17 ⟨BL, b1, b2, b4, by omega⟩ ?_
    simp only [List.set_cons_zero, List.set_cons_succ]
    refine zo1 19 rfl ?_
    refine xCall 52 35 #[.pointer (some ⟨w1.heap.size, 0, none⟩), .agg (cellsOf .u8 (nn (seedE))), .int .i64 0] (by kernel_rfl) ?_
    refine (key_any w1.heap.size tabL hTL w17 b1 seedE seedE_len 0 (by omega)).mono ?_
    rintro en w18 ⟨rfl, hb1⟩
    have e12 := belE0 hb1
    have ze12 := e12.size
    replace BL := BL.e0 e12
    replace b1 := b1.e0 e12
    replace b2 := b2.e0 e12
    replace b4 := b4.e0 e12
    clear e12
    refine ⟨.agg (cellsOf .u8 (nn (keyL tabL seedE 0))), rfl, ?_⟩
    refine ze 19 ⟨BL, b1, b2, b4, by omega⟩ ?_
    simp only [List.set_cons_zero, List.set_cons_succ]
    refine zv 20 53 (.bool true) (fun _ ⟨BL, b1, b2, b4, z2⟩ => Val.eqA .eql 37 _ (.tmp 50) (.tmp 52) rfl Try.underlying37 Try.underlying5 (by kernel_rfl) (by kernel_rfl) (nn (keyL tabL seedE 0)) (nn (keyL tabL seedE 0)) (by kernel_rfl) (by kernel_rfl) (by rw [nn_len]; exact hkl) (by rw [nn_len]; exact hkl) (.inl rfl) true (by simp)) ⟨BL, b1, b2, b4, by omega⟩ ?_
    simp only [List.set_cons_zero, List.set_cons_succ]
    refine zv 21 54 (.bool true) (fun _ _ => .of) ⟨BL, b1, b2, b4, by omega⟩ ?_
    simp only [List.set_cons_zero, List.set_cons_succ]
    refine zv 22 5 (.bool true) (fun _ _ => .of) ⟨BL, b1, b2, b4, by omega⟩ ?_
    simp only [List.set_cons_zero, List.set_cons_succ]
    refine zd (by kernel_rfl) ?_ _
    refine hK11 _ _ ?_
    refine wp_seq_k fun K12 hK12 => ?_
    refine cPlain ?_
    refine sv 55 (.bool true) .of ?_
    simp only [List.set_cons_zero, List.set_cons_succ]
    refine sv 56 (.bool true) .of ?_
    simp only [List.set_cons_zero, List.set_cons_succ]
    refine sv 57 (.agg (cellsOf .u8 (nn (seedE)))) (Val.blk 36 _ rfl 0 32 (by kernel_rfl) b4 _ Try.underlying36 rfl (by kernel_rfl) (by (try simp only [nn_len, List.length_append, List.length_replicate]); try omega) _ (seg_all' _ (by (try simp only [nn_len, List.length_append, List.length_replicate]); try omega))) ?_
    simp only [List.set_cons_zero, List.set_cons_succ]
    refine xCall 58 34 #[.pointer none, .agg (cellsOf .u8 (nn (seedE))), .int .i64 1, .int .i64 2, .int .i64 1] (by kernel_rfl) ?_
    refine (secret_nil seedE seedE_len 1 2 1 (by omega) (by omega) (by omega) w18).mono ?_
    rintro en w19 ⟨rfl, hb1⟩
    have e13 := belE0 hb1
    have ze13 := e13.size
    replace BL := BL.e0 e13
    replace b1 := b1.e0 e13
    replace b2 := b2.e0 e13
    replace b4 := b4.e0 e13
    clear e13
    refine ⟨.agg (cellsOf .u8 (nn (List.replicate 32 0))), rfl, ?_⟩
    simp only [List.set_cons_zero, List.set_cons_succ]
    refine sv 59 (.agg (cellsOf .u8 (nn (List.replicate 32 0)))) .of ?_
    simp only [List.set_cons_zero, List.set_cons_succ]
    refine sv 60 (.bool true) (Val.eqA .eql 36 _ (.tmp 58) (.tmp 59) rfl Try.underlying36 Try.underlying5 (by kernel_rfl) (by kernel_rfl) (nn (List.replicate 32 0)) (nn (List.replicate 32 0)) (by kernel_rfl) (by kernel_rfl) (by rw [nn_len]; rfl) (by rw [nn_len]; rfl) (.inl rfl) true (by simp)) ?_
    simp only [List.set_cons_zero, List.set_cons_succ]
    refine sv 61 (.bool true) .of ?_
    simp only [List.set_cons_zero, List.set_cons_succ]
    refine sv 62 (.bool true) .of ?_
    simp only [List.set_cons_zero, List.set_cons_succ]
    refine sv 63 (.agg (cellsOf .u8 (nn (seedE)))) (Val.blk 36 _ rfl 0 32 (by kernel_rfl) b4 _ Try.underlying36 rfl (by kernel_rfl) (by (try simp only [nn_len, List.length_append, List.length_replicate]); try omega) _ (seg_all' _ (by (try simp only [nn_len, List.length_append, List.length_replicate]); try omega))) ?_
    simp only [List.set_cons_zero, List.set_cons_succ]
    refine xCall 64 36 #[.pointer none, .agg (cellsOf .u8 (nn (seedE)))] (by kernel_rfl) ?_
    refine (half_nil seedE seedE_len w19).mono ?_
    rintro en w20 ⟨rfl, hb1⟩
    have e14 := belE0 hb1
    have ze14 := e14.size
    replace BL := BL.e0 e14
    replace b1 := b1.e0 e14
    replace b2 := b2.e0 e14
    replace b4 := b4.e0 e14
    clear e14
    refine ⟨.agg (cellsOf .u8 (nn (List.replicate 32 0))), rfl, ?_⟩
    simp only [List.set_cons_zero, List.set_cons_succ]
    refine sv 65 (.agg (cellsOf .u8 (nn (List.replicate 32 0)))) .of ?_
    simp only [List.set_cons_zero, List.set_cons_succ]
    refine sv 66 (.bool true) (Val.eqA .eql 37 _ (.tmp 64) (.tmp 65) rfl Try.underlying37 Try.underlying5 (by kernel_rfl) (by kernel_rfl) (nn (List.replicate 32 0)) (nn (List.replicate 32 0)) (by kernel_rfl) (by kernel_rfl) (by rw [nn_len]; rfl) (by rw [nn_len]; rfl) (.inl rfl) true (by simp)) ?_
    simp only [List.set_cons_zero, List.set_cons_succ]
    refine sv 67 (.bool true) .of ?_
    simp only [List.set_cons_zero, List.set_cons_succ]
    refine sv 68 (.bool true) .of ?_
    simp only [List.set_cons_zero, List.set_cons_succ]
    refine sv 69 (.agg (cellsOf .u8 (nn (seedE)))) (Val.blk 36 _ rfl 0 32 (by kernel_rfl) b4 _ Try.underlying36 rfl (by kernel_rfl) (by (try simp only [nn_len, List.length_append, List.length_replicate]); try omega) _ (seg_all' _ (by (try simp only [nn_len, List.length_append, List.length_replicate]); try omega))) ?_
    simp only [List.set_cons_zero, List.set_cons_succ]
    refine xCall 70 35 #[.pointer none, .agg (cellsOf .u8 (nn (seedE))), .int .i64 1] (by kernel_rfl) ?_
    refine (key_nil seedE seedE_len 1 (by omega) w20).mono ?_
    rintro en w21 ⟨rfl, hb1⟩
    have e15 := belE0 hb1
    have ze15 := e15.size
    replace BL := BL.e0 e15
    replace b1 := b1.e0 e15
    replace b2 := b2.e0 e15
    replace b4 := b4.e0 e15
    clear e15
    refine ⟨.agg (cellsOf .u8 (nn (List.replicate 32 0))), rfl, ?_⟩
    simp only [List.set_cons_zero, List.set_cons_succ]
    refine sv 71 (.agg (cellsOf .u8 (nn (List.replicate 32 0)))) .of ?_
    simp only [List.set_cons_zero, List.set_cons_succ]
    refine sv 72 (.bool true) (Val.eqA .eql 37 _ (.tmp 70) (.tmp 71) rfl Try.underlying37 Try.underlying5 (by kernel_rfl) (by kernel_rfl) (nn (List.replicate 32 0)) (nn (List.replicate 32 0)) (by kernel_rfl) (by kernel_rfl) (by rw [nn_len]; rfl) (by rw [nn_len]; rfl) (.inl rfl) true (by simp)) ?_
    simp only [List.set_cons_zero, List.set_cons_succ]
    refine sv 73 (.bool true) .of ?_
    simp only [List.set_cons_zero, List.set_cons_succ]
    refine sv 74 (.bool true) .of ?_
    simp only [List.set_cons_zero, List.set_cons_succ]
    refine sv 75 (.agg (cellsOf .u8 (nn (seedE)))) (Val.blk 36 _ rfl 0 32 (by kernel_rfl) b4 _ Try.underlying36 rfl (by kernel_rfl) (by (try simp only [nn_len, List.length_append, List.length_replicate]); try omega) _ (seg_all' _ (by (try simp only [nn_len, List.length_append, List.length_replicate]); try omega))) ?_
    simp only [List.set_cons_zero, List.set_cons_succ]
    refine sv 76 (.agg (cellsOf .u8 (nn (dlE)))) (Val.blk 37 _ rfl 0 32 (by kernel_rfl) b2 _ Try.underlying37 rfl (by kernel_rfl) (by (try simp only [nn_len, List.length_append, List.length_replicate]); try omega) _ (seg_all' _ (by (try simp only [nn_len, List.length_append, List.length_replicate]); try omega))) ?_
    simp only [List.set_cons_zero, List.set_cons_succ]
    refine xCall 77 37 #[.pointer none, .agg (cellsOf .u8 (nn (seedE))), .int .i64 1, .agg (cellsOf .u8 (nn (dlE)))] (by kernel_rfl) ?_
    refine (sign_nil seedE seedE_len 1 (by omega) dlE dlE_len dlE_b w21).mono ?_
    rintro en w22 ⟨he, hb1⟩
    rw [← hZ] at he
    subst he
    have e16 := belE0 hb1
    have ze16 := e16.size
    replace BL := BL.e0 e16
    replace b1 := b1.e0 e16
    replace b2 := b2.e0 e16
    replace b4 := b4.e0 e16
    clear e16
    refine ⟨.agg (cellsOf .u8 (nn (Z))), rfl, ?_⟩
    simp only [List.set_cons_zero, List.set_cons_succ]
    refine sv 78 (.agg (cellsOf .u8 (nn (Z)))) (by rw [hZ]; exact Val.of) ?_
    simp only [List.set_cons_zero, List.set_cons_succ]
    refine sv 79 (.bool true) (Val.eqK .eql 58 _ (.tmp 77) (.tmp 78) rfl kt_lam 6 (by kernel_rfl) (by decide) Try.underlying58 rfl (by rw [lamK_len]; kernel_rfl) (by kernel_rfl) (nn Z) (nn Z) (by rw [← lam_zip hZl]; kernel_rfl) (by rw [← lam_zip hZl]; kernel_rfl) (by rw [nn_len, hZl, lamK_len]) (by rw [nn_len, hZl, lamK_len]) (lam_wf hZb) (lam_wf hZb) (.inl rfl) _ (by simp)) ?_
    simp only [List.set_cons_zero, List.set_cons_succ]
    refine sv 80 (.bool true) .of ?_
    simp only [List.set_cons_zero, List.set_cons_succ]
    refine sv 81 (.bool true) .of ?_
    simp only [List.set_cons_zero, List.set_cons_succ]
    refine sv 82 (.agg (cellsOf .u8 (nn (dlE)))) (Val.blk 37 _ rfl 0 32 (by kernel_rfl) b2 _ Try.underlying37 rfl (by kernel_rfl) (by (try simp only [nn_len, List.length_append, List.length_replicate]); try omega) _ (seg_all' _ (by (try simp only [nn_len, List.length_append, List.length_replicate]); try omega))) ?_
    simp only [List.set_cons_zero, List.set_cons_succ]
    refine sv 83 (.agg (cellsOf .u8 (nn (Z)))) (by rw [hZ]; exact Val.of) ?_
    simp only [List.set_cons_zero, List.set_cons_succ]
    refine xCall 84 38 #[.pointer none, .agg (cellsOf .u8 (nn (dlE))), .agg (cellsOf .u8 (nn (Z)))] (by kernel_rfl) ?_
    have hop := fun W => open_nil dlE Y Y dlE_len dlE_b hYl hYl W
    rw [← hYZ] at hop
    refine (hop w22).mono ?_
    rintro en w23 ⟨rfl, hb1⟩
    have e17 := belE0 hb1
    have ze17 := e17.size
    replace BL := BL.e0 e17
    replace b1 := b1.e0 e17
    replace b2 := b2.e0 e17
    replace b4 := b4.e0 e17
    clear e17
    refine ⟨.agg (cellsOf .u8 (nn (List.replicate 32 0))), rfl, ?_⟩
    simp only [List.set_cons_zero, List.set_cons_succ]
    refine sv 85 (.agg (cellsOf .u8 (nn (List.replicate 32 0)))) .of ?_
    simp only [List.set_cons_zero, List.set_cons_succ]
    refine sv 86 (.bool true) (Val.eqA .eql 37 _ (.tmp 84) (.tmp 85) rfl Try.underlying37 Try.underlying5 (by kernel_rfl) (by kernel_rfl) (nn (List.replicate 32 0)) (nn (List.replicate 32 0)) (by kernel_rfl) (by kernel_rfl) (by rw [nn_len]; rfl) (by rw [nn_len]; rfl) (.inl rfl) true (by simp)) ?_
    simp only [List.set_cons_zero, List.set_cons_succ]
    refine sv 87 (.bool true) .of ?_
    simp only [List.set_cons_zero, List.set_cons_succ]
    refine sv 88 (.bool true) .of ?_
    simp only [List.set_cons_zero, List.set_cons_succ]
    refine xCall 89 39 #[] (by kernel_rfl) ?_
    refine (awake09 w23).mono ?_
    rintro en w24 ⟨rfl, hb1⟩
    have e18 := belE0 hb1
    have ze18 := e18.size
    replace BL := BL.e0 e18
    replace b1 := b1.e0 e18
    replace b2 := b2.e0 e18
    replace b4 := b4.e0 e18
    clear e18
    refine ⟨.bool true, rfl, ?_⟩
    simp only [List.set_cons_zero, List.set_cons_succ]
    refine sv 90 (.bool true) .of ?_
    simp only [List.set_cons_zero, List.set_cons_succ]
    refine sv 0 (.bool true) .of ?_
    simp only [List.set_cons_zero, List.set_cons_succ]
    refine wpList_nil ?_
    refine hK12 _ _ ?_
    refine wp_ret ?_
    (try simp only [Exit.then, Exit.inBlock])
    refine bodyPost_ret (v := .bool true) rT rfl ?_
    exact ⟨rfl, BL.b⟩

end Go.Proofs.Yteaijjefbadnbaa
