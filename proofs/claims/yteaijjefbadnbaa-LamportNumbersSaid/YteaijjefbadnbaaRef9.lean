/-
  ref03.Tagged; ref09: varint, Secret, Half, Bit, Parts, Text, Open.
-/
import Derived.Test.YteaijjefbadnbaaRef3
import Derived.Test.YteaijjefbadnbaaPartsL
namespace Go.Proofs.Yteaijjefbadnbaa
open Go.RowKit
set_option linter.unusedVariables false
set_option linter.unusedSimpArgs false
set_option maxRecDepth 100000
attribute [local irreducible] wpList Code.wp wpAnyZ
theorem SL.castR {k : IntKind} {w : World} {v v' : Value} {xs ys : List Int} (h : SL k w v xs) (hv : v = v') (he : xs = ys) : SL k w v' ys := hv ▸ he ▸ h
theorem textN_len {tag : Nat} {ps : List (List Nat)} (h : ∀ p ∈ ps, p.length ≤ 1000000) (hn : ps.length ≤ 1000) : (textN tag ps).length ≤ 1100000000 := by rw [← textK_all]; exact textK_len h (by omega) hn _
theorem numN_neg {n : Int} (h : n < 0) : numN n = numN ((0 : Nat) : Int) := by unfold numN; rw [show n.toNat = 0 by omega]; rfl
theorem tagged_eq (tab : List Nat) (tag : Nat) (ps : List (List Nat)) : ofN tab (textN tag ps) = taggedN tab tag ps := by unfold taggedN; rfl
theorem secret_eq (tab seed : List Nat) (leaf bit val : Int) : macN tab seed (textN 1 [numN leaf, numN bit, numN val]) = secretN tab seed leaf bit val := by unfold secretN; rfl
theorem half_eq (tab sec : List Nat) : taggedN tab 2 [sec] = halfN tab sec := by unfold halfN; rfl
theorem macN_b (tab key bs : List Nat) : ∀ x ∈ macN tab key bs, x < 256 := ofN_b _ _
theorem secretN_b (tab seed : List Nat) (leaf bit val : Int) : ∀ x ∈ secretN tab seed leaf bit val, x < 256 := by rw [← secret_eq]; exact macN_b _ _ _
theorem halfN_b (tab sec : List Nat) : ∀ x ∈ halfN tab sec, x < 256 := by rw [← half_eq, ← tagged_eq]; exact ofN_b _ _
theorem nums3 (a b c : Int) : ∀ p ∈ [numN a, numN b, numN c], p.length ≤ 1000000 := by
  intro p hp
  simp only [List.mem_cons, List.not_mem_nil, or_false] at hp
  rcases hp with rfl | rfl | rfl <;> (refine Nat.le_trans (numN_len _) (by omega))
theorem nums3b (a b c : Int) : ∀ p ∈ [numN a, numN b, numN c], ∀ x ∈ p, x < 256 := by
  intro p hp
  simp only [List.mem_cons, List.not_mem_nil, or_false] at hp
  rcases hp with rfl | rfl | rfl <;> exact numN_b _

attribute [local irreducible] ofN textN numN secretN halfN macN taggedN
set_option maxHeartbeats 4000000 in
theorem rtagged_any (tab : List Nat) (ht : tab.length = 72) (h32 : ∀ x ∈ tab, x < 4294967296) (w : World) (tag : Nat) (ht8 : tag < 256) (v : Value) (us : List Value) (ps : List (List Nat)) (HV : SV w v us) (HY : SLs .u8 w.heap.size w us (ps.map nn)) (hps : ∀ p ∈ ps, p.length ≤ 1000000) (hn : ps.length ≤ 1000) (hb : ∀ p ∈ ps, ∀ x ∈ p, x < 256) :
    Calls Try.prog 101 #[.agg (cellsOf .u32 (nn tab)), .int .u8 ((tag : Nat) : Int), v] w fun e w' => e = .returned (.agg (cellsOf .u8 (nn (taggedN tab tag ps)))) ∧ Below w.heap.size w w' := by
  have BL := Bl.refl w
  have htl := textN_len (tag := tag) hps hn
  have hol := ofN_32 tab (textN tag ps)
  rw [← tagged_eq]
  go_enter Try.func101, Try.ntmps101
  refine wp_seq_k fun K1 hK1 => ?_
  refine cPlain ?_
  refine xBox 3 26 _ ((nn tab).map (Value.int .u32)) rfl (cells_toList _ _) ?_
  intro w1 n1
  have zn1 := n1.z
  have b3 := n1.c
  replace b3 : Blk .u32 w1 w.heap.size 26 (nn tab) := b3
  replace BL := BL.e0 n1.e
  have HV : SV w1 v us := HV.e0 n1.e
  have HY : SLs .u8 w.heap.size w1 us (ps.map nn) := SLs.e0 n1.e HY
  simp only [List.set_cons_zero, List.set_cons_succ]
  refine xAlloc 6 37 ((nn (List.replicate 32 0)).map (Value.int .u8)) rfl (by kernel_rfl) ?_
  intro w2 n2
  have zn2 := n2.z
  have b6 := n2.c
  replace b6 : Blk .u8 w2 w1.heap.size 37 (nn (List.replicate 32 0)) := b6
  replace BL := BL.e0 n2.e
  have HV : SV w2 v us := HV.e0 n2.e
  have HY : SLs .u8 w.heap.size w2 us (ps.map nn) := SLs.e0 n2.e HY
  replace b3 := b3.e0 n2.e
  simp only [List.set_cons_zero, List.set_cons_succ]
  refine wpList_nil ?_
  refine hK1 _ _ ?_
  refine wp_seq_k fun K2 hK2 => ?_
  have e1 := drew_e0 w2
  refine zg (fun w_ => Bl w.heap.size w w_ ∧ SV w_ v us ∧ SLs .u8 w.heap.size w_ us (ps.map nn) ∧ Blk .u32 w_ w.heap.size 26 (nn tab) ∧ Blk .u8 w_ w1.heap.size 37 (nn (List.replicate 32 0)) ∧ w2.heap.size ≤ w_.heap.size) (fun w_ => Bl w.heap.size w w_ ∧ SV w_ v us ∧ SLs .u8 w.heap.size w_ us (ps.map nn) ∧ Blk .u32 w_ w.heap.size 26 (nn tab) ∧ Blk .u8 w_ w1.heap.size 37 (nn (List.replicate 32 0)) ∧ w2.heap.size ≤ w_.heap.size) 5 6 ⟨BL.e0 e1, HV.e0 e1, SLs.e0 e1 HY, b3.e0 e1, b6.e0 e1, Nat.le_refl _⟩ ?_
  clear BL HV HY b3 b6
  clear e1
  intro w3
  rintro ⟨BL, HV, HY, b3, b6, z1⟩
  refine zv 0 7 (.agg (cellsOf .u32 (nn tab))) (fun _ ⟨BL, HV, HY, b3, b6, z1⟩ => Val.blk 26 _ rfl 0 72 (by kernel_rfl) b3 _ Try.underlying26 rfl (by kernel_rfl) (by (try simp only [nn_len, List.length_cons, List.length_nil, List.length_set, List.length_replicate]); try omega) _ (seg_all' _ (by (try simp only [nn_len, List.length_cons, List.length_nil, List.length_set, List.length_replicate]); try omega))) ⟨BL, HV, HY, b3, b6, by omega⟩ ?_
  simp only [List.set_cons_zero, List.set_cons_succ]
  refine zv 1 8 (.int .u8 ((tag : Nat) : Int)) (fun _ _ => .of) ⟨BL, HV, HY, b3, b6, by omega⟩ ?_
  simp only [List.set_cons_zero, List.set_cons_succ]
  refine zv 2 9 (v) (fun _ _ => .of) ⟨BL, HV, HY, b3, b6, by omega⟩ ?_
  simp only [List.set_cons_zero, List.set_cons_succ]
  refine zo1 3 rfl ?_
  refine xCall 10 122 #[.int .u8 ((tag : Nat) : Int), v] (by kernel_rfl) ?_
  refine (rtext_any tag ht8 v us ps w.heap.size w3 (by omega) HV HY hps hn).mono ?_
  rintro en w4 ⟨u, rfl, hS, hb1⟩
  have hsl := hS.lt
  have e2 := belE0 hb1
  have ze2 := e2.size
  replace BL := BL.e0 e2
  have HV : SV w4 v us := HV.e0 e2
  have HY : SLs .u8 w.heap.size w4 us (ps.map nn) := SLs.e0 e2 HY
  replace b3 := b3.e0 e2
  replace b6 := b6.e0 e2
  clear e2
  have S : SL .u8 w4 u (nn (textN tag ps)) := hS
  refine ⟨u, rfl, ?_⟩
  refine ze 3 ⟨BL, HV, HY, b3, b6, by omega⟩ ?_
  simp only [List.set_cons_zero, List.set_cons_succ]
  refine zo1 4 rfl ?_
  refine xCall 11 89 #[.agg (cellsOf .u32 (nn tab)), u] (by kernel_rfl) ?_
  refine (rof_any tab (textN tag ps) u ht h32 (text_b ht8 hb) w4 S (by omega)).mono ?_
  rintro en w5 ⟨rfl, hb1⟩
  have e3 := belE0 hb1
  have ze3 := e3.size
  replace BL := BL.e0 e3
  have HV : SV w5 v us := HV.e0 e3
  have HY : SLs .u8 w.heap.size w5 us (ps.map nn) := SLs.e0 e3 HY
  replace b3 := b3.e0 e3
  replace b6 := b6.e0 e3
  replace S := S.e0 e3
  clear e3
  refine ⟨.agg (cellsOf .u8 (nn (ofN tab (textN tag ps)))), rfl, ?_⟩
  refine ze 4 ⟨BL, HV, HY, b3, b6, by omega⟩ ?_
  simp only [List.set_cons_zero, List.set_cons_succ]
  refine zo1 5 rfl ?_
  refine xStoreA 37 (.tmp 6) (.tmp 11) rfl .u8 w1.heap.size 37 (nn (List.replicate 32 0)) 0 (nn (ofN tab (textN tag ps))) (by kernel_rfl) (by kernel_rfl) b6 (by rw [show (nn (ofN tab (textN tag ps))).length = 32 by ((try simp only [nn_len, List.length_cons, List.length_nil, List.length_set, List.length_replicate]); try omega)]; kernel_rfl) (by (try simp only [nn_len, List.length_cons, List.length_nil, List.length_set, List.length_replicate]); try omega) (nn (ofN tab (textN tag ps))) (over_whole _ _ (by (try simp only [nn_len, List.length_cons, List.length_nil, List.length_set, List.length_replicate]); try omega)) ?_
  intro w6 t1
  have zt1 := t1.z
  have BL_ := BL.ev t1.e (fun i h => show w.heap.size ≤ i by have h : i = w1.heap.size := h; omega)
  have b3_ := b3.ev t1.e (show ¬ (w.heap.size = w1.heap.size) by omega)
  replace BL := BL_; clear BL_
  replace b3 := b3_; clear b3_
  replace b6 : Blk .u8 w6 w1.heap.size 37 (nn (ofN tab (textN tag ps))) := t1.c
  clear t1
  refine zz 5 ?_
  refine zd (by kernel_rfl) ?_ _
  refine hK2 _ _ ?_
  refine wp_ret ?_
  (try simp only [Exit.then, Exit.inBlock])
  refine bodyPost_ret (rC rfl _ w1.heap.size _ _ (by kernel_rfl) b6.cel _ Try.underlying37 rfl (by rw [List.length_map, show (nn (ofN tab (textN tag ps))).length = 32 by ((try simp only [nn_len, List.length_cons, List.length_nil, List.length_set, List.length_replicate]); try omega)]; kernel_rfl)) rfl ?_
  exact ⟨rfl, BL.b⟩

theorem bitF_nat {dl : List Nat} (hdb : Bytes (nn dl)) (i : Nat) : bitF (nn dl) (i : Int) = ((dl.getD (i / 8) 0 / 2 ^ (7 - i % 8) % 2 : Nat) : Int) := by
  rw [bitF_eq _ hdb, show ((i : Int) / 8).toNat = i / 8 by omega, show (7 - (i : Int) % 8).toNat = 7 - i % 8 by omega, nn_getD]
  have h2 : ((2 ^ (7 - i % 8) : Nat) : Int) = (2 : Int) ^ (7 - i % 8) := by simp
  rw [← h2, ← Int.natCast_ediv]
  omega
theorem div_two (d k : Nat) : d / 2 ^ k / 2 = d / 2 ^ (k + 1) := by rw [Nat.div_div_eq_div_mul, Nat.pow_succ]
set_option maxHeartbeats 4000000 in
theorem r9bit_any (dl : List Nat) (hdl : dl.length = 32) (hdb : Bytes (nn dl)) (i : Nat) (hi : i < 256) (w : World) :
    Calls Try.prog 33 #[.agg (cellsOf .u8 (nn dl)), .int .i64 (i : Int)] w fun e w' => e = .returned (.int .i64 (bitF (nn dl) (i : Int))) ∧ Below w.heap.size w w' := by
  have BL := Bl.refl w
  have hlt : dl.getD (i / 8) 0 < 256 := by have := hdb.getD (i / 8); rw [nn_getD] at this; omega
  rw [bitF_nat hdb]
  go_enter Try.func33, Try.ntmps33
  refine wp_seq_k fun K1 hK1 => ?_
  refine cPlain ?_
  refine xBox 2 37 _ ((nn (dl)).map (Value.int .u8)) rfl (cells_toList _ _) ?_
  intro w1 n1
  have zn1 := n1.z
  have b2 := n1.c
  replace b2 : Blk .u8 w1 w.heap.size 37 (nn (dl)) := b2
  replace BL := BL.e0 n1.e
  simp only [List.set_cons_zero, List.set_cons_succ]
  refine sv 4 (.int .i64 0) .of ?_
  simp only [List.set_cons_zero, List.set_cons_succ]
  refine wpList_nil ?_
  refine hK1 _ _ ?_
  refine wp_seq_k fun K2 hK2 => ?_
  refine wp_seq_k fun K3 hK3 => ?_
  refine cPlain ?_
  refine sv 7 (.int .i64 (i : Int)) .of ?_
  simp only [List.set_cons_zero, List.set_cons_succ]
  refine sv 8 (.bool (decide ((i : Int) < 0))) (Val.cmp .lss 3 _ (.tmp 7) _ rfl .i64 (i : Int) 0 (by kernel_rfl) (by kernel_rfl) (by simp) _ rfl) ?_
  simp only [List.set_cons_zero, List.set_cons_succ]
  refine sv 9 (.bool (decide ((i : Int) < 0))) .of ?_
  simp only [List.set_cons_zero, List.set_cons_succ]
  by_cases g10 : (i : Int) < 0
  · skip
    omega
  · skip
    have dg10 : decide ((i : Int) < 0) = false := decide_eq_false g10
    simp only [dg10]
    clear dg10
    refine sv 10 (.int .i64 (i : Int)) .of ?_
    simp only [List.set_cons_zero, List.set_cons_succ]
    refine sv 11 (.bool (decide (255 < (i : Int)))) (Val.cmp .gtr 3 _ (.tmp 10) _ rfl .i64 (i : Int) 255 (by kernel_rfl) (by kernel_rfl) (by simp) _ rfl) ?_
    simp only [List.set_cons_zero, List.set_cons_succ]
    refine sv 12 (.bool (decide (255 < (i : Int)))) .of ?_
    simp only [List.set_cons_zero, List.set_cons_succ]
    refine wpList_nil ?_
    refine hK3 _ _ ?_
    refine cDec (255 < (i : Int)) (by kernel_rfl) (fun c12 => ?_) (fun c12 => ?_)
    · skip
      omega
    · skip
      refine wp_skip ?_
      refine hK2 _ _ ?_
      refine wp_seq_k fun K4 hK4 => ?_
      refine cPlain ?_
      refine sv 13 (.int .i64 (i : Int)) .of ?_
      simp only [List.set_cons_zero, List.set_cons_succ]
      refine sv 14 (.int .i64 ((i / 8 : Nat) : Int)) (Val.quoI 3 _ (.tmp 13) _ rfl i 8 (by kernel_rfl) (by kernel_rfl) (by omega) (by omega)) ?_
      simp only [List.set_cons_zero, List.set_cons_succ]
      refine sv 15 (.pointer (some ⟨w.heap.size, (i / 8), none⟩)) (Val.idxA01 37 (.tmp 2) (.tmp 14) rfl w.heap.size (i / 8) (by kernel_rfl) (by kernel_rfl) Try.underlying37 (by kernel_rfl) (by omega)) ?_
      simp only [List.set_cons_zero, List.set_cons_succ]
      refine sv 16 (.int .u8 (((dl).getD (i / 8) 0 : Nat) : Int)) (Val.nblk1 5 _ rfl w.heap.size (i / 8) (by kernel_rfl) (fun _ => (by kernel_rfl)) b2 (by omega)) ?_
      simp only [List.set_cons_zero, List.set_cons_succ]
      refine sv 17 (.int .i64 (((dl).getD (i / 8) 0 : Nat) : Int)) (Val.conv64 5 3 (.tmp 16) rfl Try.underlying5 Try.underlying3 (((dl).getD (i / 8) 0 : Nat) : Int) (by kernel_rfl) (by omega)) ?_
      simp only [List.set_cons_zero, List.set_cons_succ]
      refine sv 5 (.int .i64 (((dl).getD (i / 8) 0 : Nat) : Int)) .of ?_
      simp only [List.set_cons_zero, List.set_cons_succ]
      refine wpList_nil ?_
      refine hK4 _ _ ?_
      refine wp_seq_k fun K5 hK5 => ?_
      refine wp_seq_k fun K6 hK6 => ?_
      refine cPlain ?_
      refine sv 18 (.int .i64 (i : Int)) .of ?_
      simp only [List.set_cons_zero, List.set_cons_succ]
      refine sv 19 (.int .i64 ((i % 8 : Nat) : Int)) (Val.remN 3 _ (.tmp 18) _ rfl .i64 i 8 (by kernel_rfl) (by kernel_rfl) (by omega)) ?_
      simp only [List.set_cons_zero, List.set_cons_succ]
      refine sv 6 (.int .i64 ((i % 8 : Nat) : Int)) .of ?_
      simp only [List.set_cons_zero, List.set_cons_succ]
      refine wpList_nil ?_
      refine hK6 _ _ ?_
      refine wp_block ?_
      refine cLoop (fun N_ A_ w_ => ∃ (t c : Nat), (N_ = 7 - (i % 8 + t) ∧ (i % 8 + t ≤ 7) ∧ (c = dl.getD (i / 8) 0 / 2 ^ t) ∧ (∃ s1 : Nat → Value, A_ = ⟨[.agg (cellsOf .u8 (nn (dl))), .int .i64 (i : Int), .pointer (some ⟨w.heap.size, 0, none⟩), undef, .int .i64 0, .int .i64 ((c : Nat) : Int), .int .i64 ((i % 8 + t : Nat) : Int), .int .i64 (i : Int), .bool false, .bool false, .int .i64 (i : Int), .bool (decide (255 < (i : Int))), .bool (decide (255 < (i : Int))), .int .i64 (i : Int), .int .i64 ((i / 8 : Nat) : Int), .pointer (some ⟨w.heap.size, (i / 8), none⟩), .int .u8 (((dl).getD (i / 8) 0 : Nat) : Int), .int .i64 (((dl).getD (i / 8) 0 : Nat) : Int), .int .i64 (i : Int), .int .i64 ((i % 8 : Nat) : Int), (s1 20), (s1 21), (s1 22), (s1 23), (s1 24), (s1 25), undef, undef].toArray, []⟩) ∧ Bl w.heap.size w w_ ∧ Blk .u8 w_ w.heap.size 37 (nn (dl)) ∧ w1.heap.size ≤ w_.heap.size)) _ ⟨0, dl.getD (i / 8) 0, rfl, (by omega), (by simp), cutE, BL, b2, Nat.le_refl _⟩ ?_
      clear BL b2
      rintro n_ a_ wl0 ⟨t, c, rfl, hc0_0, hc0_1, ⟨s1, rfl⟩, BL, b2, zl0⟩
      have hcl : c ≤ dl.getD (i / 8) 0 := by rw [hc0_1]; exact Nat.div_le_self _ _
      refine wp_seq_k fun K7 hK7 => ?_
      refine wp_seq_k fun K8 hK8 => ?_
      refine cPlain ?_
      refine sv 20 (.int .i64 ((i % 8 + t : Nat) : Int)) .of ?_
      simp only [List.set_cons_zero, List.set_cons_succ]
      refine sv 21 (.bool (decide (((i % 8 + t : Nat) : Int) < 7))) (Val.cmp .lss 3 _ (.tmp 20) _ rfl .i64 ((i % 8 + t : Nat) : Int) 7 (by kernel_rfl) (by kernel_rfl) (by simp) _ rfl) ?_
      simp only [List.set_cons_zero, List.set_cons_succ]
      refine wpList_nil ?_
      refine hK8 _ _ ?_
      refine cDec (((i % 8 + t : Nat) : Int) < 7) (by kernel_rfl) (fun c21 => ?_) (fun c21 => ?_)
      · skip
        refine wp_skip ?_
        refine hK7 _ _ ?_
        refine wp_seq_k fun K9 hK9 => ?_
        refine wp_block ?_
        refine cPlain ?_
        refine sv 24 (.int .i64 ((c : Nat) : Int)) .of ?_
        simp only [List.set_cons_zero, List.set_cons_succ]
        refine sv 25 (.int .i64 ((c / 2 : Nat) : Int)) (Val.quoI 3 _ (.tmp 24) _ rfl c 2 (by kernel_rfl) (by kernel_rfl) (by omega) (by omega)) ?_
        simp only [List.set_cons_zero, List.set_cons_succ]
        refine sv 5 (.int .i64 ((c / 2 : Nat) : Int)) .of ?_
        simp only [List.set_cons_zero, List.set_cons_succ]
        refine wpList_nil ?_
        refine hK9 _ _ ?_
        refine cPlain ?_
        refine sv 22 (.int .i64 ((i % 8 + t : Nat) : Int)) .of ?_
        simp only [List.set_cons_zero, List.set_cons_succ]
        refine sv 23 (.int .i64 (((i % 8 + t : Nat) : Int) + 1)) (Val.add 3 _ (.tmp 22) _ rfl ((i % 8 + t : Nat) : Int) 1 (by kernel_rfl) (by kernel_rfl) (by omega)) ?_
        simp only [List.set_cons_zero, List.set_cons_succ]
        refine sv 6 (.int .i64 (((i % 8 + t : Nat) : Int) + 1)) .of ?_
        simp only [List.set_cons_zero, List.set_cons_succ]
        refine wpList_nil ?_
        refine ⟨_, ?_, t + 1, c / 2, rfl, (by omega), (by rw [hc0_1, div_two]), cutE, BL, b2, by omega⟩
        omega
      · skip
        have hfin : c % 2 = dl.getD (i / 8) 0 / 2 ^ (7 - i % 8) % 2 := by rw [hc0_1, show t = 7 - i % 8 by omega]
        refine wp_exit ?_
        simp only [Exit.then, Exit.inBlock, ↓reduceIte, Nat.reduceEqDiff]
        refine hK5 _ _ ?_
        refine wp_seq_k fun K10 hK10 => ?_
        refine cPlain ?_
        refine sv 26 (.int .i64 ((c : Nat) : Int)) .of ?_
        simp only [List.set_cons_zero, List.set_cons_succ]
        refine sv 27 (.int .i64 ((c % 2 : Nat) : Int)) (Val.remN 3 _ (.tmp 26) _ rfl .i64 c 2 (by kernel_rfl) (by kernel_rfl) (by omega)) ?_
        simp only [List.set_cons_zero, List.set_cons_succ]
        refine sv 4 (.int .i64 ((c % 2 : Nat) : Int)) .of ?_
        simp only [List.set_cons_zero, List.set_cons_succ]
        refine wpList_nil ?_
        refine hK10 _ _ ?_
        refine wp_ret ?_
        (try simp only [Exit.then, Exit.inBlock])
        refine bodyPost_ret (v := .int .i64 ((c % 2 : Nat) : Int)) rT rfl ?_
        rw [← hfin]
        exact ⟨rfl, BL.b⟩

theorem r9bit_out (dl : List Nat) (i : Int) (hi : i < 0 ∨ 255 < i) (w : World) :
    Calls Try.prog 33 #[.agg (cellsOf .u8 (nn dl)), .int .i64 i] w fun e w' => e = .returned (.int .i64 0) ∧ Below w.heap.size w w' := by
  have BL := Bl.refl w
  go_enter Try.func33, Try.ntmps33
  refine wp_seq_k fun K1 hK1 => ?_
  refine cPlain ?_
  refine xBox 2 37 _ ((nn (dl)).map (Value.int .u8)) rfl (cells_toList _ _) ?_
  intro w1 n1
  have zn1 := n1.z
  have b2 := n1.c
  replace b2 : Blk .u8 w1 w.heap.size 37 (nn (dl)) := b2
  replace BL := BL.e0 n1.e
  simp only [List.set_cons_zero, List.set_cons_succ]
  refine sv 4 (.int .i64 0) .of ?_
  simp only [List.set_cons_zero, List.set_cons_succ]
  refine wpList_nil ?_
  refine hK1 _ _ ?_
  refine wp_seq_k fun K2 hK2 => ?_
  refine wp_seq_k fun K3 hK3 => ?_
  refine cPlain ?_
  refine sv 7 (.int .i64 i) .of ?_
  simp only [List.set_cons_zero, List.set_cons_succ]
  refine sv 8 (.bool (decide (i < 0))) (Val.cmp .lss 3 _ (.tmp 7) _ rfl .i64 i 0 (by kernel_rfl) (by kernel_rfl) (by simp) _ rfl) ?_
  simp only [List.set_cons_zero, List.set_cons_succ]
  refine sv 9 (.bool (decide (i < 0))) .of ?_
  simp only [List.set_cons_zero, List.set_cons_succ]
  by_cases g10 : i < 0
  · skip
    have dg10 : decide (i < 0) = true := decide_eq_true g10
    simp only [dg10]
    clear dg10
    refine xSkip 10 ?_
    simp only [List.set_cons_zero, List.set_cons_succ]
    refine xSkip 11 ?_
    simp only [List.set_cons_zero, List.set_cons_succ]
    refine sv 12 (.bool true) .of ?_
    simp only [List.set_cons_zero, List.set_cons_succ]
    refine wpList_nil ?_
    refine hK3 _ _ ?_
    refine cT ?_
    refine wp_seq_k fun K4 hK4 => ?_
    refine cPlain ?_
    refine sv 4 (.int .i64 0) .of ?_
    simp only [List.set_cons_zero, List.set_cons_succ]
    refine wpList_nil ?_
    refine hK4 _ _ ?_
    refine wp_ret ?_
    (try simp only [Exit.then, Exit.inBlock])
    refine bodyPost_ret (v := .int .i64 0) rT rfl ?_
    exact ⟨rfl, BL.b⟩
  · skip
    have dg10 : decide (i < 0) = false := decide_eq_false g10
    simp only [dg10]
    clear dg10
    refine sv 10 (.int .i64 i) .of ?_
    simp only [List.set_cons_zero, List.set_cons_succ]
    refine sv 11 (.bool (decide (255 < i))) (Val.cmp .gtr 3 _ (.tmp 10) _ rfl .i64 i 255 (by kernel_rfl) (by kernel_rfl) (by simp) _ rfl) ?_
    simp only [List.set_cons_zero, List.set_cons_succ]
    refine sv 12 (.bool (decide (255 < i))) .of ?_
    simp only [List.set_cons_zero, List.set_cons_succ]
    refine wpList_nil ?_
    refine hK3 _ _ ?_
    refine cDec (255 < i) (by kernel_rfl) (fun c12 => ?_) (fun c12 => ?_)
    · skip
      refine wp_seq_k fun K5 hK5 => ?_
      refine cPlain ?_
      refine sv 4 (.int .i64 0) .of ?_
      simp only [List.set_cons_zero, List.set_cons_succ]
      refine wpList_nil ?_
      refine hK5 _ _ ?_
      refine wp_ret ?_
      (try simp only [Exit.then, Exit.inBlock])
      refine bodyPost_ret (v := .int .i64 0) rT rfl ?_
      exact ⟨rfl, BL.b⟩
    · skip
      omega

theorem bit_out (dl : List Nat) (i : Int) (hi : i < 0 ∨ 255 < i) (w : World) :
    Calls Try.prog 32 #[.agg (cellsOf .u8 (nn dl)), .int .i64 i] w fun e w' => e = .returned (.int .i64 0) ∧ Below w.heap.size w w' := by
  have BL := Bl.refl w
  go_enter Try.func32, Try.ntmps32
  refine wp_seq_k fun K1 hK1 => ?_
  refine cPlain ?_
  refine xBox 2 37 _ ((nn (dl)).map (Value.int .u8)) rfl (cells_toList _ _) ?_
  intro w1 n1
  have zn1 := n1.z
  have b2 := n1.c
  replace b2 : Blk .u8 w1 w.heap.size 37 (nn (dl)) := b2
  replace BL := BL.e0 n1.e
  simp only [List.set_cons_zero, List.set_cons_succ]
  refine sv 4 (.int .i64 0) .of ?_
  simp only [List.set_cons_zero, List.set_cons_succ]
  refine wpList_nil ?_
  refine hK1 _ _ ?_
  refine wp_seq_k fun K2 hK2 => ?_
  refine wp_seq_k fun K3 hK3 => ?_
  refine cPlain ?_
  refine sv 5 (.int .i64 i) .of ?_
  simp only [List.set_cons_zero, List.set_cons_succ]
  refine sv 6 (.bool (decide (i < 0))) (Val.cmp .lss 3 _ (.tmp 5) _ rfl .i64 i 0 (by kernel_rfl) (by kernel_rfl) (by simp) _ rfl) ?_
  simp only [List.set_cons_zero, List.set_cons_succ]
  refine sv 7 (.bool (decide (i < 0))) .of ?_
  simp only [List.set_cons_zero, List.set_cons_succ]
  by_cases g8 : i < 0
  · skip
    have dg8 : decide (i < 0) = true := decide_eq_true g8
    simp only [dg8]
    clear dg8
    refine xSkip 8 ?_
    simp only [List.set_cons_zero, List.set_cons_succ]
    refine xSkip 9 ?_
    simp only [List.set_cons_zero, List.set_cons_succ]
    refine sv 10 (.bool true) .of ?_
    simp only [List.set_cons_zero, List.set_cons_succ]
    refine wpList_nil ?_
    refine hK3 _ _ ?_
    refine cT ?_
    refine wp_seq_k fun K4 hK4 => ?_
    refine cPlain ?_
    refine sv 4 (.int .i64 0) .of ?_
    simp only [List.set_cons_zero, List.set_cons_succ]
    refine wpList_nil ?_
    refine hK4 _ _ ?_
    refine wp_ret ?_
    (try simp only [Exit.then, Exit.inBlock])
    refine bodyPost_ret (v := .int .i64 0) rT rfl ?_
    exact ⟨rfl, BL.b⟩
  · skip
    have dg8 : decide (i < 0) = false := decide_eq_false g8
    simp only [dg8]
    clear dg8
    refine sv 8 (.int .i64 i) .of ?_
    simp only [List.set_cons_zero, List.set_cons_succ]
    refine sv 9 (.bool (decide (256 ≤ i))) (Val.cmp .geq 3 _ (.tmp 8) _ rfl .i64 i 256 (by kernel_rfl) (by kernel_rfl) (by simp) _ rfl) ?_
    simp only [List.set_cons_zero, List.set_cons_succ]
    refine sv 10 (.bool (decide (256 ≤ i))) .of ?_
    simp only [List.set_cons_zero, List.set_cons_succ]
    refine wpList_nil ?_
    refine hK3 _ _ ?_
    refine cDec (256 ≤ i) (by kernel_rfl) (fun c10 => ?_) (fun c10 => ?_)
    · skip
      refine wp_seq_k fun K5 hK5 => ?_
      refine cPlain ?_
      refine sv 4 (.int .i64 0) .of ?_
      simp only [List.set_cons_zero, List.set_cons_succ]
      refine wpList_nil ?_
      refine hK5 _ _ ?_
      refine wp_ret ?_
      (try simp only [Exit.then, Exit.inBlock])
      refine bodyPost_ret (v := .int .i64 0) rT rfl ?_
      exact ⟨rfl, BL.b⟩
    · skip
      omega

end Go.Proofs.Yteaijjefbadnbaa
