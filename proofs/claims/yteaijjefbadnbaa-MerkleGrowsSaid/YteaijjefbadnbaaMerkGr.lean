/-
  MerkleGrows: the walk.
-/
import Derived.Test.YteaijjefbadnbaaMerkA
import Derived.Test.YteaijjefbadnbaaNnB
namespace Go.Proofs.Yteaijjefbadnbaa
open Go.RowKit
set_option linter.unusedVariables false
set_option linter.unusedSimpArgs false
set_option maxRecDepth 100000
attribute [local irreducible] wpList Code.wp wpAnyZ taggedN mnode ofN textN growN

set_option maxHeartbeats 8000000 in
theorem merkleGrows_walk (tab : List Nat) (ht : tab.length = 72) (w : World) (v : Value) (l : List (List Nat)) (D : SE .u8 32 w v (nnd l)) (v2 : Value) (l2 : List (List Nat)) (D2 : SE .u8 32 w v2 (nnd l2)) (hb : Nat) (hb8 : hb < 256) (leaf : Int) :
    Calls Try.prog 9 #[.agg (cellsOf .u32 (nn tab)), v, v2, .int .u8 ((hb : Nat) : Int), .int .i64 leaf] w fun e w' => e = .returned (.bool true) ∧ Below w.heap.size w w' := by
  have BL := Bl.refl w
  have hvl := D.lt
  have hvl2 := D2.lt
  have hl32 := nnd_lens D.lens
  have hl32b := nnd_lens D2.lens
  obtain ⟨H, hH⟩ : ∃ H, hb % 6 = H := ⟨_, rfl⟩
  have hH5 : H ≤ 5 := by omega
  have hpw : 2 ^ H ≤ 256 := Nat.pow_le_pow_right (by omega) (by omega : H ≤ 8)
  have hp1 : 0 < 2 ^ H := Nat.two_pow_pos _
  obtain ⟨ea, hea⟩ : ∃ es, growN l (2 ^ H) = es := ⟨_, rfl⟩
  obtain ⟨eb, heb⟩ : ∃ es, growN l2 (2 ^ H) = es := ⟨_, rfl⟩
  have hean : ea.length = 2 ^ H := by rw [← hea, growN_len]
  have hebn : eb.length = 2 ^ H := by rw [← heb, growN_len]
  have ha32 : ∀ d ∈ ea, d.length = 32 := by rw [← hea]; exact growN_lens hl32 _
  have hb32 : ∀ d ∈ eb, d.length = 32 := by rw [← heb]; exact growN_lens hl32b _
  have hab32 : ∀ d ∈ ea ++ eb, d.length = 32 := fun d hd => (List.mem_append.1 hd).elim (ha32 d) (hb32 d)
  have habn : (ea ++ eb).length = 2 ^ (H + 1) := by rw [List.length_append, hean, hebn, Nat.pow_succ]; omega
  obtain ⟨kk, hkk⟩ : ∃ kk, pickN leaf (2 ^ H) = kk := ⟨_, rfl⟩
  have hkl := pickN_lt leaf hp1
  rw [hkk] at hkl
  have hkl2 : kk < 2 ^ (H + 1) := by rw [Nat.pow_succ]; omega
  have hkl3 : kk + 2 ^ H < 2 ^ (H + 1) := by rw [Nat.pow_succ]; omega
  have hxl := mroot_len tab H ea hean ha32
  have hyl := mroot_len tab H eb hebn hb32
  have hzl := mroot_len tab (H + 1) (ea ++ eb) habn hab32
  have htwo := mroot_two tab H ea eb hean hebn
  have hlo := mpath_lo tab H ea eb kk hean hebn hkl
  have hhi := mpath_hi tab H ea eb kk hean hebn hkl
  rw [Nat.add_comm (2 ^ H) kk] at hhi
  go_enter Try.func9, Try.ntmps9
  refine wp_seq_k fun K1 hK1 => ?_
  refine cPlain ?_
  refine xBox 5 26 _ ((nn tab).map (Value.int .u32)) rfl (cells_toList _ _) ?_
  intro w1 n1
  have zn1 := n1.z
  have b5 := n1.c
  replace b5 : Blk .u32 w1 w.heap.size 26 (nn tab) := b5
  replace BL := BL.e0 n1.e
  replace D := D.e0 n1.e
  replace D2 := D2.e0 n1.e
  simp only [List.set_cons_zero, List.set_cons_succ]
  refine sv 10 (.bool false) .of ?_
  simp only [List.set_cons_zero, List.set_cons_succ]
  refine wpList_nil ?_
  refine hK1 _ _ ?_
  refine wp_seq_k fun K2 hK2 => ?_
  refine cPlain ?_
  refine sv 29 (v) .of ?_
  simp only [List.set_cons_zero, List.set_cons_succ]
  refine sv 30 (.int .u8 ((hb : Nat) : Int)) .of ?_
  simp only [List.set_cons_zero, List.set_cons_succ]
  refine xCall 31 44 #[v, .int .u8 ((hb : Nat) : Int)] (by kernel_rfl) ?_
  refine (grown_any v l hb hb8 w1 D).mono ?_
  rintro en w2 ⟨ra, rfl, hG, hb1⟩
  rw [hH, hea] at hG
  obtain ⟨Aa, Ca, hr, hGc⟩ := hG.len
  rw [nnd_len, hean] at hr
  subst hr
  have e1 := belE0 hb1
  have ze1 := e1.size
  replace BL := BL.e0 e1
  replace D := D.e0 e1
  replace D2 := D2.e0 e1
  replace b5 := b5.e0 e1
  clear e1
  have Ga : OwnE 37 .u8 32 w1.heap.size w2 (.slice Aa (2 ^ H) Ca) (nnd ea) := hG
  have lGa_1 := Ga.ge
  refine ⟨.slice Aa (2 ^ H) Ca, rfl, ?_⟩
  simp only [List.set_cons_zero, List.set_cons_succ]
  refine sv 32 (v2) .of ?_
  simp only [List.set_cons_zero, List.set_cons_succ]
  refine sv 33 (.int .u8 ((hb : Nat) : Int)) .of ?_
  simp only [List.set_cons_zero, List.set_cons_succ]
  refine xCall 34 44 #[v2, .int .u8 ((hb : Nat) : Int)] (by kernel_rfl) ?_
  refine (grown_any v2 l2 hb hb8 w2 D2).mono ?_
  rintro en w3 ⟨rb, rfl, hG, hb1⟩
  rw [hH, heb] at hG
  obtain ⟨Ab, Cb, hr, hGc⟩ := hG.len
  rw [nnd_len, hebn] at hr
  subst hr
  have e2 := belE0 hb1
  have ze2 := e2.size
  replace BL := BL.e0 e2
  replace D := D.e0 e2
  replace D2 := D2.e0 e2
  replace b5 := b5.e0 e2
  replace Ga := Ga.e0 e2
  clear e2
  have Gb : OwnE 37 .u8 32 w2.heap.size w3 (.slice Ab (2 ^ H) Cb) (nnd eb) := hG
  have lGb_1 := Gb.ge
  refine ⟨.slice Ab (2 ^ H) Cb, rfl, ?_⟩
  simp only [List.set_cons_zero, List.set_cons_succ]
  refine sv 11 (.slice Aa (2 ^ H) Ca) .of ?_
  simp only [List.set_cons_zero, List.set_cons_succ]
  refine sv 12 (.slice Ab (2 ^ H) Cb) .of ?_
  simp only [List.set_cons_zero, List.set_cons_succ]
  refine wpList_nil ?_
  refine hK2 _ _ ?_
  refine wp_seq_k fun K3 hK3 => ?_
  refine cPlain ?_
  refine sv 35 (.slice Aa (2 ^ H) Ca) .of ?_
  simp only [List.set_cons_zero, List.set_cons_succ]
  refine xCall 36 48 #[.slice Aa (2 ^ H) Ca] (by kernel_rfl) ?_
  refine (copyD_any _ ea w3 Ga.se (by omega)).mono ?_
  rintro en w4 ⟨rc, rfl, hG, hb1⟩
  have e3 := belE0 hb1
  have ze3 := e3.size
  replace BL := BL.e0 e3
  replace D := D.e0 e3
  replace D2 := D2.e0 e3
  replace b5 := b5.e0 e3
  replace Ga := Ga.e0 e3
  replace Gb := Gb.e0 e3
  clear e3
  have Gc : OwnE 37 .u8 32 w3.heap.size w4 rc (nnd ea) := hG
  have lGc_1 := Gc.ge
  refine ⟨rc, rfl, ?_⟩
  simp only [List.set_cons_zero, List.set_cons_succ]
  refine sv 37 (.slice Ab (2 ^ H) Cb) .of ?_
  simp only [List.set_cons_zero, List.set_cons_succ]
  refine xAppE 38 (.tmp 36) (.tmp 37) 63 37 .u8 32 32 rfl Try.underlying63 (by kernel_rfl) (by omega) w3.heap.size rc (nnd ea) (by kernel_rfl) Gc (.slice Ab (2 ^ H) Cb) (nnd eb) (by kernel_rfl) Gb.se ?va1_1 ?va1_2 ?va1_3 ?_
  case va1_1 => (simp only [nnd_len]; omega)
  case va1_2 => (simp only [nnd_len]; unfold maxLen; omega)
  case va1_3 => omega
  intro va1 w5 rva1 e4
  have ze4 := e4.size
  have BL_ := BL.ev e4 (fun i h => by have := lGc_1 _ h; omega)
  have D_ := D.ev e4 (fun i hi h => by have := hvl i hi; have := lGc_1 _ h; omega)
  have D2_ := D2.ev e4 (fun i hi h => by have := hvl2 i hi; have := lGc_1 _ h; omega)
  have b5_ := b5.ev e4 (fun h => by have := lGc_1 _ h; omega)
  have Ga_ := Ga.ev e4 (fun i hi h => by have := lGa_1 i hi; have := lGc_1 _ h; omega)
  have Gb_ := Gb.ev e4 (fun i hi h => by have := lGb_1 i hi; have := lGc_1 _ h; omega)
  replace BL := BL_; clear BL_
  replace D := D_; clear D_
  replace D2 := D2_; clear D2_
  replace b5 := b5_; clear b5_
  replace Ga := Ga_; clear Ga_
  replace Gb := Gb_; clear Gb_
  rw [← nnd_app] at rva1
  replace Gc := rva1
  clear rva1 e4
  have lGc_2 := Gc.ge
  simp only [List.set_cons_zero, List.set_cons_succ]
  refine sv 13 (va1) .of ?_
  simp only [List.set_cons_zero, List.set_cons_succ]
  refine wpList_nil ?_
  refine hK3 _ _ ?_
  refine wp_seq_k fun K4 hK4 => ?_
  refine cPlain ?_
  refine sv 40 (.slice Aa (2 ^ H) Ca) .of ?_
  simp only [List.set_cons_zero, List.set_cons_succ]
  refine xCall 41 45 #[.pointer (some ⟨w.heap.size, 0, none⟩), .slice Aa (2 ^ H) Ca] (by kernel_rfl) ?_
  refine (mroot_any w.heap.size tab ht w5 b5 _ ea Ga.se ha32 H (by omega) hean).mono ?_
  rintro en w6 ⟨rfl, hb1⟩
  have e5 := belE0 hb1
  have ze5 := e5.size
  replace BL := BL.e0 e5
  replace D := D.e0 e5
  replace D2 := D2.e0 e5
  replace b5 := b5.e0 e5
  replace Ga := Ga.e0 e5
  replace Gb := Gb.e0 e5
  replace Gc := Gc.e0 e5
  clear e5
  refine ⟨.tuple #[.agg (cellsOf .u8 (nn (mroot tab H ea))), .int .i64 0], rfl, ?_⟩
  simp only [List.set_cons_zero, List.set_cons_succ]
  refine sv 39 (.tuple #[.agg (cellsOf .u8 (nn (mroot tab H ea))), .int .i64 0]) .of ?_
  simp only [List.set_cons_zero, List.set_cons_succ]
  refine sv 42 (.agg (cellsOf .u8 (nn (mroot tab H ea)))) .of ?_
  simp only [List.set_cons_zero, List.set_cons_succ]
  refine sv 43 (.int .i64 0) .of ?_
  simp only [List.set_cons_zero, List.set_cons_succ]
  refine xAlloc 14 37 ((nn (List.replicate 32 0)).map (Value.int .u8)) rfl (by kernel_rfl) ?_
  intro w7 n2
  have zn2 := n2.z
  have b14 := n2.c
  replace b14 : Blk .u8 w7 w6.heap.size 37 (nn (List.replicate 32 0)) := b14
  replace BL := BL.e0 n2.e
  replace D := D.e0 n2.e
  replace D2 := D2.e0 n2.e
  replace b5 := b5.e0 n2.e
  replace Ga := Ga.e0 n2.e
  replace Gb := Gb.e0 n2.e
  replace Gc := Gc.e0 n2.e
  simp only [List.set_cons_zero, List.set_cons_succ]
  refine xStoreA 37 (.tmp 14) (.tmp 42) rfl .u8 w6.heap.size 37 (nn (List.replicate 32 0)) 0 (nn (mroot tab H ea)) (by kernel_rfl) (by kernel_rfl) b14 (by rw [show (nn (mroot tab H ea)).length = 32 by ((try simp only [nn_len, List.length_cons, List.length_nil, List.length_set, List.length_replicate]); try omega)]; kernel_rfl) (by (try simp only [nn_len, List.length_cons, List.length_nil, List.length_set, List.length_replicate]); try omega) (nn (mroot tab H ea)) (over_whole _ _ (by (try simp only [nn_len, List.length_cons, List.length_nil, List.length_set, List.length_replicate]); try omega)) ?_
  intro w8 t1
  have zt1 := t1.z
  have BL_ := BL.ev t1.e (fun i h => show w.heap.size ≤ i by have h : i = w6.heap.size := h; omega)
  have D_ := D.ev t1.e (fun i hi => show ¬ (i = w6.heap.size) by have := hvl i hi; omega)
  have D2_ := D2.ev t1.e (fun i hi => show ¬ (i = w6.heap.size) by have := hvl2 i hi; omega)
  have b5_ := b5.ev t1.e (show ¬ (w.heap.size = w6.heap.size) by omega)
  have Ga_ := Ga.ev t1.e (fun i hi => show ¬ (i = w6.heap.size) by have := lGa_1 i hi; omega)
  have Gb_ := Gb.ev t1.e (fun i hi => show ¬ (i = w6.heap.size) by have := lGb_1 i hi; omega)
  have Gc_ := Gc.ev t1.e (fun i hi => show ¬ (i = w6.heap.size) by have := lGc_2 i hi; omega)
  replace BL := BL_; clear BL_
  replace D := D_; clear D_
  replace D2 := D2_; clear D2_
  replace b5 := b5_; clear b5_
  replace Ga := Ga_; clear Ga_
  replace Gb := Gb_; clear Gb_
  replace Gc := Gc_; clear Gc_
  replace b14 : Blk .u8 w8 w6.heap.size 37 (nn (mroot tab H ea)) := t1.c
  clear t1
  refine sv 15 (.int .i64 0) .of ?_
  simp only [List.set_cons_zero, List.set_cons_succ]
  refine wpList_nil ?_
  refine hK4 _ _ ?_
  refine wp_seq_k fun K5 hK5 => ?_
  refine cPlain ?_
  refine sv 45 (.slice Ab (2 ^ H) Cb) .of ?_
  simp only [List.set_cons_zero, List.set_cons_succ]
  refine xCall 46 45 #[.pointer (some ⟨w.heap.size, 0, none⟩), .slice Ab (2 ^ H) Cb] (by kernel_rfl) ?_
  refine (mroot_any w.heap.size tab ht w8 b5 _ eb Gb.se hb32 H (by omega) hebn).mono ?_
  rintro en w9 ⟨rfl, hb1⟩
  have e6 := belE0 hb1
  have ze6 := e6.size
  replace BL := BL.e0 e6
  replace D := D.e0 e6
  replace D2 := D2.e0 e6
  replace b5 := b5.e0 e6
  replace Ga := Ga.e0 e6
  replace Gb := Gb.e0 e6
  replace Gc := Gc.e0 e6
  replace b14 := b14.e0 e6
  clear e6
  refine ⟨.tuple #[.agg (cellsOf .u8 (nn (mroot tab H eb))), .int .i64 0], rfl, ?_⟩
  simp only [List.set_cons_zero, List.set_cons_succ]
  refine sv 44 (.tuple #[.agg (cellsOf .u8 (nn (mroot tab H eb))), .int .i64 0]) .of ?_
  simp only [List.set_cons_zero, List.set_cons_succ]
  refine sv 47 (.agg (cellsOf .u8 (nn (mroot tab H eb)))) .of ?_
  simp only [List.set_cons_zero, List.set_cons_succ]
  refine sv 48 (.int .i64 0) .of ?_
  simp only [List.set_cons_zero, List.set_cons_succ]
  refine xAlloc 16 37 ((nn (List.replicate 32 0)).map (Value.int .u8)) rfl (by kernel_rfl) ?_
  intro w10 n3
  have zn3 := n3.z
  have b16 := n3.c
  replace b16 : Blk .u8 w10 w9.heap.size 37 (nn (List.replicate 32 0)) := b16
  replace BL := BL.e0 n3.e
  replace D := D.e0 n3.e
  replace D2 := D2.e0 n3.e
  replace b5 := b5.e0 n3.e
  replace Ga := Ga.e0 n3.e
  replace Gb := Gb.e0 n3.e
  replace Gc := Gc.e0 n3.e
  replace b14 := b14.e0 n3.e
  simp only [List.set_cons_zero, List.set_cons_succ]
  refine xStoreA 37 (.tmp 16) (.tmp 47) rfl .u8 w9.heap.size 37 (nn (List.replicate 32 0)) 0 (nn (mroot tab H eb)) (by kernel_rfl) (by kernel_rfl) b16 (by rw [show (nn (mroot tab H eb)).length = 32 by ((try simp only [nn_len, List.length_cons, List.length_nil, List.length_set, List.length_replicate]); try omega)]; kernel_rfl) (by (try simp only [nn_len, List.length_cons, List.length_nil, List.length_set, List.length_replicate]); try omega) (nn (mroot tab H eb)) (over_whole _ _ (by (try simp only [nn_len, List.length_cons, List.length_nil, List.length_set, List.length_replicate]); try omega)) ?_
  intro w11 t2
  have zt2 := t2.z
  have BL_ := BL.ev t2.e (fun i h => show w.heap.size ≤ i by have h : i = w9.heap.size := h; omega)
  have D_ := D.ev t2.e (fun i hi => show ¬ (i = w9.heap.size) by have := hvl i hi; omega)
  have D2_ := D2.ev t2.e (fun i hi => show ¬ (i = w9.heap.size) by have := hvl2 i hi; omega)
  have b5_ := b5.ev t2.e (show ¬ (w.heap.size = w9.heap.size) by omega)
  have Ga_ := Ga.ev t2.e (fun i hi => show ¬ (i = w9.heap.size) by have := lGa_1 i hi; omega)
  have Gb_ := Gb.ev t2.e (fun i hi => show ¬ (i = w9.heap.size) by have := lGb_1 i hi; omega)
  have Gc_ := Gc.ev t2.e (fun i hi => show ¬ (i = w9.heap.size) by have := lGc_2 i hi; omega)
  have b14_ := b14.ev t2.e (show ¬ (w6.heap.size = w9.heap.size) by omega)
  replace BL := BL_; clear BL_
  replace D := D_; clear D_
  replace D2 := D2_; clear D2_
  replace b5 := b5_; clear b5_
  replace Ga := Ga_; clear Ga_
  replace Gb := Gb_; clear Gb_
  replace Gc := Gc_; clear Gc_
  replace b14 := b14_; clear b14_
  replace b16 : Blk .u8 w11 w9.heap.size 37 (nn (mroot tab H eb)) := t2.c
  clear t2
  refine sv 17 (.int .i64 0) .of ?_
  simp only [List.set_cons_zero, List.set_cons_succ]
  refine wpList_nil ?_
  refine hK5 _ _ ?_
  refine wp_seq_k fun K6 hK6 => ?_
  refine cPlain ?_
  refine sv 50 (va1) .of ?_
  simp only [List.set_cons_zero, List.set_cons_succ]
  refine xCall 51 45 #[.pointer (some ⟨w.heap.size, 0, none⟩), va1] (by kernel_rfl) ?_
  refine (mroot_any w.heap.size tab ht w11 b5 _ (ea ++ eb) Gc.se hab32 (H + 1) (by omega) habn).mono ?_
  rintro en w12 ⟨rfl, hb1⟩
  have e7 := belE0 hb1
  have ze7 := e7.size
  replace BL := BL.e0 e7
  replace D := D.e0 e7
  replace D2 := D2.e0 e7
  replace b5 := b5.e0 e7
  replace Ga := Ga.e0 e7
  replace Gb := Gb.e0 e7
  replace Gc := Gc.e0 e7
  replace b14 := b14.e0 e7
  replace b16 := b16.e0 e7
  clear e7
  refine ⟨.tuple #[.agg (cellsOf .u8 (nn (mroot tab (H + 1) (ea ++ eb)))), .int .i64 0], rfl, ?_⟩
  simp only [List.set_cons_zero, List.set_cons_succ]
  refine sv 49 (.tuple #[.agg (cellsOf .u8 (nn (mroot tab (H + 1) (ea ++ eb)))), .int .i64 0]) .of ?_
  simp only [List.set_cons_zero, List.set_cons_succ]
  refine sv 52 (.agg (cellsOf .u8 (nn (mroot tab (H + 1) (ea ++ eb))))) .of ?_
  simp only [List.set_cons_zero, List.set_cons_succ]
  refine sv 53 (.int .i64 0) .of ?_
  simp only [List.set_cons_zero, List.set_cons_succ]
  refine xAlloc 18 37 ((nn (List.replicate 32 0)).map (Value.int .u8)) rfl (by kernel_rfl) ?_
  intro w13 n4
  have zn4 := n4.z
  have b18 := n4.c
  replace b18 : Blk .u8 w13 w12.heap.size 37 (nn (List.replicate 32 0)) := b18
  replace BL := BL.e0 n4.e
  replace D := D.e0 n4.e
  replace D2 := D2.e0 n4.e
  replace b5 := b5.e0 n4.e
  replace Ga := Ga.e0 n4.e
  replace Gb := Gb.e0 n4.e
  replace Gc := Gc.e0 n4.e
  replace b14 := b14.e0 n4.e
  replace b16 := b16.e0 n4.e
  simp only [List.set_cons_zero, List.set_cons_succ]
  refine xStoreA 37 (.tmp 18) (.tmp 52) rfl .u8 w12.heap.size 37 (nn (List.replicate 32 0)) 0 (nn (mroot tab (H + 1) (ea ++ eb))) (by kernel_rfl) (by kernel_rfl) b18 (by rw [show (nn (mroot tab (H + 1) (ea ++ eb))).length = 32 by ((try simp only [nn_len, List.length_cons, List.length_nil, List.length_set, List.length_replicate]); try omega)]; kernel_rfl) (by (try simp only [nn_len, List.length_cons, List.length_nil, List.length_set, List.length_replicate]); try omega) (nn (mroot tab (H + 1) (ea ++ eb))) (over_whole _ _ (by (try simp only [nn_len, List.length_cons, List.length_nil, List.length_set, List.length_replicate]); try omega)) ?_
  intro w14 t3
  have zt3 := t3.z
  have BL_ := BL.ev t3.e (fun i h => show w.heap.size ≤ i by have h : i = w12.heap.size := h; omega)
  have D_ := D.ev t3.e (fun i hi => show ¬ (i = w12.heap.size) by have := hvl i hi; omega)
  have D2_ := D2.ev t3.e (fun i hi => show ¬ (i = w12.heap.size) by have := hvl2 i hi; omega)
  have b5_ := b5.ev t3.e (show ¬ (w.heap.size = w12.heap.size) by omega)
  have Ga_ := Ga.ev t3.e (fun i hi => show ¬ (i = w12.heap.size) by have := lGa_1 i hi; omega)
  have Gb_ := Gb.ev t3.e (fun i hi => show ¬ (i = w12.heap.size) by have := lGb_1 i hi; omega)
  have Gc_ := Gc.ev t3.e (fun i hi => show ¬ (i = w12.heap.size) by have := lGc_2 i hi; omega)
  have b14_ := b14.ev t3.e (show ¬ (w6.heap.size = w12.heap.size) by omega)
  have b16_ := b16.ev t3.e (show ¬ (w9.heap.size = w12.heap.size) by omega)
  replace BL := BL_; clear BL_
  replace D := D_; clear D_
  replace D2 := D2_; clear D2_
  replace b5 := b5_; clear b5_
  replace Ga := Ga_; clear Ga_
  replace Gb := Gb_; clear Gb_
  replace Gc := Gc_; clear Gc_
  replace b14 := b14_; clear b14_
  replace b16 := b16_; clear b16_
  replace b18 : Blk .u8 w14 w12.heap.size 37 (nn (mroot tab (H + 1) (ea ++ eb))) := t3.c
  clear t3
  refine sv 19 (.int .i64 0) .of ?_
  simp only [List.set_cons_zero, List.set_cons_succ]
  refine wpList_nil ?_
  refine hK6 _ _ ?_
  refine wp_seq_k fun K7 hK7 => ?_
  refine wp_seq_k fun K8 hK8 => ?_
  have e8 := drew_e0 w14
  refine zg (fun w_ => Bl w.heap.size w w_ ∧ SE .u8 32 w_ v (nnd l) ∧ SE .u8 32 w_ v2 (nnd l2) ∧ Blk .u32 w_ w.heap.size 26 (nn tab) ∧ OwnE 37 .u8 32 w1.heap.size w_ (.slice Aa (2 ^ H) Ca) (nnd ea) ∧ OwnE 37 .u8 32 w2.heap.size w_ (.slice Ab (2 ^ H) Cb) (nnd eb) ∧ OwnE 37 .u8 32 w3.heap.size w_ va1 (nnd (ea ++ eb)) ∧ Blk .u8 w_ w6.heap.size 37 (nn (mroot tab H ea)) ∧ Blk .u8 w_ w9.heap.size 37 (nn (mroot tab H eb)) ∧ Blk .u8 w_ w12.heap.size 37 (nn (mroot tab (H + 1) (ea ++ eb))) ∧ w14.heap.size ≤ w_.heap.size) (fun w_ => Bl w.heap.size w w_ ∧ SE .u8 32 w_ v (nnd l) ∧ SE .u8 32 w_ v2 (nnd l2) ∧ Blk .u32 w_ w.heap.size 26 (nn tab) ∧ OwnE 37 .u8 32 w1.heap.size w_ (.slice Aa (2 ^ H) Ca) (nnd ea) ∧ OwnE 37 .u8 32 w2.heap.size w_ (.slice Ab (2 ^ H) Cb) (nnd eb) ∧ OwnE 37 .u8 32 w3.heap.size w_ va1 (nnd (ea ++ eb)) ∧ Blk .u8 w_ w6.heap.size 37 (nn (mroot tab H ea)) ∧ Blk .u8 w_ w9.heap.size 37 (nn (mroot tab H eb)) ∧ Blk .u8 w_ w12.heap.size 37 (nn (mroot tab (H + 1) (ea ++ eb))) ∧ w14.heap.size ≤ w_.heap.size) 100000 13 ⟨BL.e0 e8, D.e0 e8, D2.e0 e8, b5.e0 e8, Ga.e0 e8, Gb.e0 e8, Gc.e0 e8, b14.e0 e8, b16.e0 e8, b18.e0 e8, Nat.le_refl _⟩ ?_
  clear BL D D2 b5 Ga Gb Gc b14 b16 b18
  clear e8
  intro w15
  rintro ⟨BL, D, D2, b5, Ga, Gb, Gc, b14, b16, b18, z1⟩
  refine zv 0 54 (.int .i64 0) (fun _ _ => .of) ⟨BL, D, D2, b5, Ga, Gb, Gc, b14, b16, b18, by omega⟩ ?_
  simp only [List.set_cons_zero, List.set_cons_succ]
  refine zv 1 55 (.int .i64 0) (fun _ _ => .of) ⟨BL, D, D2, b5, Ga, Gb, Gc, b14, b16, b18, by omega⟩ ?_
  simp only [List.set_cons_zero, List.set_cons_succ]
  refine zv 2 56 (.int .i64 (0 + 0)) (fun _ ⟨BL, D, D2, b5, Ga, Gb, Gc, b14, b16, b18, z1⟩ => Val.add 67 _ (.tmp 54) (.tmp 55) rfl 0 0 (by kernel_rfl) (by kernel_rfl) (by omega)) ⟨BL, D, D2, b5, Ga, Gb, Gc, b14, b16, b18, by omega⟩ ?_
  simp only [List.set_cons_zero, List.set_cons_succ]
  refine zv 3 57 (.int .i64 0) (fun _ _ => .of) ⟨BL, D, D2, b5, Ga, Gb, Gc, b14, b16, b18, by omega⟩ ?_
  simp only [List.set_cons_zero, List.set_cons_succ]
  refine zv 4 58 (.int .i64 ((0 + 0) + 0)) (fun _ ⟨BL, D, D2, b5, Ga, Gb, Gc, b14, b16, b18, z1⟩ => Val.add 67 _ (.tmp 56) (.tmp 57) rfl (0 + 0) 0 (by kernel_rfl) (by kernel_rfl) (by omega)) ⟨BL, D, D2, b5, Ga, Gb, Gc, b14, b16, b18, by omega⟩ ?_
  simp only [List.set_cons_zero, List.set_cons_succ]
  refine zv 5 59 (.bool false) (fun _ _ => .of) ⟨BL, D, D2, b5, Ga, Gb, Gc, b14, b16, b18, by omega⟩ ?_
  simp only [List.set_cons_zero, List.set_cons_succ]
  refine zv 6 60 (.bool false) (fun _ _ => .of) ⟨BL, D, D2, b5, Ga, Gb, Gc, b14, b16, b18, by omega⟩ ?_
  simp only [List.set_cons_zero, List.set_cons_succ]
  refine zv 7 61 (.agg (cellsOf .u8 (nn (mroot tab (H + 1) (ea ++ eb))))) (fun _ ⟨BL, D, D2, b5, Ga, Gb, Gc, b14, b16, b18, z1⟩ => Val.blk 37 _ rfl 0 32 (by kernel_rfl) b18 _ Try.underlying37 rfl (by kernel_rfl) (by (try simp only [nn_len, List.length_cons, List.length_nil, List.length_set, List.length_replicate]); try omega) _ (seg_all' _ (by (try simp only [nn_len, List.length_cons, List.length_nil, List.length_set, List.length_replicate]); try omega))) ⟨BL, D, D2, b5, Ga, Gb, Gc, b14, b16, b18, by omega⟩ ?_
  simp only [List.set_cons_zero, List.set_cons_succ]
  refine zv 8 62 (.agg (cellsOf .u8 (nn (mroot tab H ea)))) (fun _ ⟨BL, D, D2, b5, Ga, Gb, Gc, b14, b16, b18, z1⟩ => Val.blk 37 _ rfl 0 32 (by kernel_rfl) b14 _ Try.underlying37 rfl (by kernel_rfl) (by (try simp only [nn_len, List.length_cons, List.length_nil, List.length_set, List.length_replicate]); try omega) _ (seg_all' _ (by (try simp only [nn_len, List.length_cons, List.length_nil, List.length_set, List.length_replicate]); try omega))) ⟨BL, D, D2, b5, Ga, Gb, Gc, b14, b16, b18, by omega⟩ ?_
  simp only [List.set_cons_zero, List.set_cons_succ]
  refine zv 9 63 (.agg (cellsOf .u8 (nn (mroot tab H eb)))) (fun _ ⟨BL, D, D2, b5, Ga, Gb, Gc, b14, b16, b18, z1⟩ => Val.blk 37 _ rfl 0 32 (by kernel_rfl) b16 _ Try.underlying37 rfl (by kernel_rfl) (by (try simp only [nn_len, List.length_cons, List.length_nil, List.length_set, List.length_replicate]); try omega) _ (seg_all' _ (by (try simp only [nn_len, List.length_cons, List.length_nil, List.length_set, List.length_replicate]); try omega))) ⟨BL, D, D2, b5, Ga, Gb, Gc, b14, b16, b18, by omega⟩ ?_
  simp only [List.set_cons_zero, List.set_cons_succ]
  refine zo1 10 rfl ?_
  refine xCall 64 40 #[.pointer (some ⟨w.heap.size, 0, none⟩), .agg (cellsOf .u8 (nn (mroot tab H ea))), .agg (cellsOf .u8 (nn (mroot tab H eb)))] (by kernel_rfl) ?_
  refine (mnode_any w.heap.size tab ht w15 b5 (mroot tab H ea) (mroot tab H eb) hxl hyl).mono ?_
  rintro en w16 ⟨rfl, hb1⟩
  have e9 := belE0 hb1
  have ze9 := e9.size
  replace BL := BL.e0 e9
  replace D := D.e0 e9
  replace D2 := D2.e0 e9
  replace b5 := b5.e0 e9
  replace Ga := Ga.e0 e9
  replace Gb := Gb.e0 e9
  replace Gc := Gc.e0 e9
  replace b14 := b14.e0 e9
  replace b16 := b16.e0 e9
  replace b18 := b18.e0 e9
  clear e9
  refine ⟨.agg (cellsOf .u8 (nn (mnode tab (mroot tab H ea) (mroot tab H eb)))), rfl, ?_⟩
  refine ze 10 ⟨BL, D, D2, b5, Ga, Gb, Gc, b14, b16, b18, by omega⟩ ?_
  simp only [List.set_cons_zero, List.set_cons_succ]
  refine zv 11 65 (.bool false) (fun _ ⟨BL, D, D2, b5, Ga, Gb, Gc, b14, b16, b18, z1⟩ => Val.eqA .neq 37 _ (.tmp 61) (.tmp 64) rfl Try.underlying37 Try.underlying5 (by kernel_rfl) (by kernel_rfl) (nn (mroot tab (H + 1) (ea ++ eb))) (nn (mnode tab (mroot tab H ea) (mroot tab H eb))) (by kernel_rfl) (by kernel_rfl) (by rw [nn_len]; exact hzl) (by rw [nn_len]; exact (mnode_len _ _ _)) (.inr rfl) false (by rw [neq_nn, htwo]; simp)) ⟨BL, D, D2, b5, Ga, Gb, Gc, b14, b16, b18, by omega⟩ ?_
  simp only [List.set_cons_zero, List.set_cons_succ]
  refine zv 12 66 (.bool false) (fun _ _ => .of) ⟨BL, D, D2, b5, Ga, Gb, Gc, b14, b16, b18, by omega⟩ ?_
  simp only [List.set_cons_zero, List.set_cons_succ]
  refine zd (by kernel_rfl) ?_ _
  refine hK8 _ _ ?_
  refine cF ?_
  refine wp_skip ?_
  refine hK7 _ _ ?_
  refine wp_seq_k fun K9 hK9 => ?_
  refine cPlain ?_
  refine sv 67 (.int .i64 leaf) .of ?_
  simp only [List.set_cons_zero, List.set_cons_succ]
  refine sv 68 (.slice Aa (2 ^ H) Ca) .of ?_
  simp only [List.set_cons_zero, List.set_cons_succ]
  refine sv 69 (.int .i64 ((2 ^ H) : Int)) .of ?_
  simp only [List.set_cons_zero, List.set_cons_succ]
  refine xCall 70 42 #[.int .i64 leaf, .int .i64 ((2 ^ H) : Int)] (by kernel_rfl) ?_
  refine (pickM_any leaf (2 ^ H) hp1 (by omega) w16).mono ?_
  rintro en w17 ⟨he, hw⟩
  rw [hkk] at he
  subst he
  have e10 : E0 w16 w17 := (hw ▸ Ev.refl _ _)
  have ze10 := e10.size
  replace BL := BL.e0 e10
  replace D := D.e0 e10
  replace D2 := D2.e0 e10
  replace b5 := b5.e0 e10
  replace Ga := Ga.e0 e10
  replace Gb := Gb.e0 e10
  replace Gc := Gc.e0 e10
  replace b14 := b14.e0 e10
  replace b16 := b16.e0 e10
  replace b18 := b18.e0 e10
  clear e10
  refine ⟨.int .i64 ((kk : Nat) : Int), rfl, ?_⟩
  simp only [List.set_cons_zero, List.set_cons_succ]
  refine sv 20 (.int .i64 ((kk : Nat) : Int)) .of ?_
  simp only [List.set_cons_zero, List.set_cons_succ]
  refine wpList_nil ?_
  refine hK9 _ _ ?_
  refine wp_seq_k fun K10 hK10 => ?_
  refine cPlain ?_
  refine sv 72 (.slice Aa (2 ^ H) Ca) .of ?_
  simp only [List.set_cons_zero, List.set_cons_succ]
  refine sv 73 (.int .i64 ((kk : Nat) : Int)) .of ?_
  simp only [List.set_cons_zero, List.set_cons_succ]
  refine xCall 74 46 #[.pointer (some ⟨w.heap.size, 0, none⟩), .slice Aa (2 ^ H) Ca, .int .i64 ((kk : Nat) : Int)] (by kernel_rfl) ?_
  refine (mpath_any w.heap.size tab ht w17 b5 _ ea Ga.se ha32 H (by omega) hean kk hkl).mono ?_
  rintro en w18 ⟨p1A, p1N, p1C, rfl, hBO, hb1⟩
  have e11 := belE0 hb1
  have ze11 := e11.size
  replace BL := BL.e0 e11
  replace D := D.e0 e11
  replace D2 := D2.e0 e11
  replace b5 := b5.e0 e11
  replace Ga := Ga.e0 e11
  replace Gb := Gb.e0 e11
  replace Gc := Gc.e0 e11
  replace b14 := b14.e0 e11
  replace b16 := b16.e0 e11
  replace b18 := b18.e0 e11
  clear e11
  have P1 : OwnE 37 .u8 32 w17.heap.size w18 (.slice p1A p1N p1C) (nnd (mpath tab H ea kk)) := hBO
  have lP1_1 := P1.ge
  refine ⟨.tuple #[.agg #[.int .i64 ((kk : Nat) : Int), .slice p1A p1N p1C], .int .i64 0], rfl, ?_⟩
  simp only [List.set_cons_zero, List.set_cons_succ]
  refine sv 71 (.tuple #[.agg #[.int .i64 ((kk : Nat) : Int), .slice p1A p1N p1C], .int .i64 0]) .of ?_
  simp only [List.set_cons_zero, List.set_cons_succ]
  refine sv 75 (.agg #[.int .i64 ((kk : Nat) : Int), .slice p1A p1N p1C]) .of ?_
  simp only [List.set_cons_zero, List.set_cons_succ]
  refine sv 76 (.int .i64 0) .of ?_
  simp only [List.set_cons_zero, List.set_cons_succ]
  refine xAlloc 21 66 [.int .i64 0, .slice none 0 0] rfl (by kernel_rfl) ?_
  intro w19 n5
  have zn5 := n5.z
  have b21 := n5.c
  replace BL := BL.e0 n5.e
  replace D := D.e0 n5.e
  replace D2 := D2.e0 n5.e
  replace b5 := b5.e0 n5.e
  replace Ga := Ga.e0 n5.e
  replace Gb := Gb.e0 n5.e
  replace Gc := Gc.e0 n5.e
  replace b14 := b14.e0 n5.e
  replace b16 := b16.e0 n5.e
  replace b18 := b18.e0 n5.e
  replace P1 := P1.e0 n5.e
  simp only [List.set_cons_zero, List.set_cons_succ]
  refine xStoreR 66 (.tmp 21) (.tmp 75) rfl w18.heap.size 66 [.int .i64 0, .slice none 0 0] 0 [.int .i64 ((kk : Nat) : Int), .slice p1A p1N p1C] (by kernel_rfl) (by kernel_rfl) b21 (by kernel_rfl) (by simp) rfl [.int .i64 ((kk : Nat) : Int), .slice p1A p1N p1C] rfl ?_
  intro w20 t4
  have zt4 := t4.z
  have BL_ := BL.ev t4.e (fun i h => show w.heap.size ≤ i by have h : i = w18.heap.size := h; omega)
  have D_ := D.ev t4.e (fun i hi => show ¬ (i = w18.heap.size) by have := hvl i hi; omega)
  have D2_ := D2.ev t4.e (fun i hi => show ¬ (i = w18.heap.size) by have := hvl2 i hi; omega)
  have b5_ := b5.ev t4.e (show ¬ (w.heap.size = w18.heap.size) by omega)
  have Ga_ := Ga.ev t4.e (fun i hi => show ¬ (i = w18.heap.size) by have := lGa_1 i hi; omega)
  have Gb_ := Gb.ev t4.e (fun i hi => show ¬ (i = w18.heap.size) by have := lGb_1 i hi; omega)
  have Gc_ := Gc.ev t4.e (fun i hi => show ¬ (i = w18.heap.size) by have := lGc_2 i hi; omega)
  have b14_ := b14.ev t4.e (show ¬ (w6.heap.size = w18.heap.size) by omega)
  have b16_ := b16.ev t4.e (show ¬ (w9.heap.size = w18.heap.size) by omega)
  have b18_ := b18.ev t4.e (show ¬ (w12.heap.size = w18.heap.size) by omega)
  have P1_ := P1.ev t4.e (fun i hi => show ¬ (i = w18.heap.size) by have := lP1_1 i hi; omega)
  replace BL := BL_; clear BL_
  replace D := D_; clear D_
  replace D2 := D2_; clear D2_
  replace b5 := b5_; clear b5_
  replace Ga := Ga_; clear Ga_
  replace Gb := Gb_; clear Gb_
  replace Gc := Gc_; clear Gc_
  replace b14 := b14_; clear b14_
  replace b16 := b16_; clear b16_
  replace b18 := b18_; clear b18_
  replace P1 := P1_; clear P1_
  replace b21 : Cel w20 w18.heap.size 66 [.int .i64 ((kk : Nat) : Int), .slice p1A p1N p1C] := t4.c
  clear t4
  refine sv 22 (.int .i64 0) .of ?_
  simp only [List.set_cons_zero, List.set_cons_succ]
  refine wpList_nil ?_
  refine hK10 _ _ ?_
  refine wp_seq_k fun K11 hK11 => ?_
  refine cPlain ?_
  refine sv 78 (va1) .of ?_
  simp only [List.set_cons_zero, List.set_cons_succ]
  refine sv 79 (.int .i64 ((kk : Nat) : Int)) .of ?_
  simp only [List.set_cons_zero, List.set_cons_succ]
  refine xCall 80 46 #[.pointer (some ⟨w.heap.size, 0, none⟩), va1, .int .i64 ((kk : Nat) : Int)] (by kernel_rfl) ?_
  refine (mpath_any w.heap.size tab ht w20 b5 _ (ea ++ eb) Gc.se hab32 (H + 1) (by omega) habn kk hkl2).mono ?_
  rintro en w21 ⟨p2A, p2N, p2C, rfl, hBO, hb1⟩
  have e12 := belE0 hb1
  have ze12 := e12.size
  replace BL := BL.e0 e12
  replace D := D.e0 e12
  replace D2 := D2.e0 e12
  replace b5 := b5.e0 e12
  replace Ga := Ga.e0 e12
  replace Gb := Gb.e0 e12
  replace Gc := Gc.e0 e12
  replace b14 := b14.e0 e12
  replace b16 := b16.e0 e12
  replace b18 := b18.e0 e12
  replace P1 := P1.e0 e12
  replace b21 := b21.e0 e12
  clear e12
  have P2 : OwnE 37 .u8 32 w20.heap.size w21 (.slice p2A p2N p2C) (nnd (mpath tab (H + 1) (ea ++ eb) kk)) := hBO
  have lP2_1 := P2.ge
  refine ⟨.tuple #[.agg #[.int .i64 ((kk : Nat) : Int), .slice p2A p2N p2C], .int .i64 0], rfl, ?_⟩
  simp only [List.set_cons_zero, List.set_cons_succ]
  refine sv 77 (.tuple #[.agg #[.int .i64 ((kk : Nat) : Int), .slice p2A p2N p2C], .int .i64 0]) .of ?_
  simp only [List.set_cons_zero, List.set_cons_succ]
  refine sv 81 (.agg #[.int .i64 ((kk : Nat) : Int), .slice p2A p2N p2C]) .of ?_
  simp only [List.set_cons_zero, List.set_cons_succ]
  refine sv 82 (.int .i64 0) .of ?_
  simp only [List.set_cons_zero, List.set_cons_succ]
  refine xAlloc 23 66 [.int .i64 0, .slice none 0 0] rfl (by kernel_rfl) ?_
  intro w22 n6
  have zn6 := n6.z
  have b23 := n6.c
  replace BL := BL.e0 n6.e
  replace D := D.e0 n6.e
  replace D2 := D2.e0 n6.e
  replace b5 := b5.e0 n6.e
  replace Ga := Ga.e0 n6.e
  replace Gb := Gb.e0 n6.e
  replace Gc := Gc.e0 n6.e
  replace b14 := b14.e0 n6.e
  replace b16 := b16.e0 n6.e
  replace b18 := b18.e0 n6.e
  replace P1 := P1.e0 n6.e
  replace b21 := b21.e0 n6.e
  replace P2 := P2.e0 n6.e
  simp only [List.set_cons_zero, List.set_cons_succ]
  refine xStoreR 66 (.tmp 23) (.tmp 81) rfl w21.heap.size 66 [.int .i64 0, .slice none 0 0] 0 [.int .i64 ((kk : Nat) : Int), .slice p2A p2N p2C] (by kernel_rfl) (by kernel_rfl) b23 (by kernel_rfl) (by simp) rfl [.int .i64 ((kk : Nat) : Int), .slice p2A p2N p2C] rfl ?_
  intro w23 t5
  have zt5 := t5.z
  have BL_ := BL.ev t5.e (fun i h => show w.heap.size ≤ i by have h : i = w21.heap.size := h; omega)
  have D_ := D.ev t5.e (fun i hi => show ¬ (i = w21.heap.size) by have := hvl i hi; omega)
  have D2_ := D2.ev t5.e (fun i hi => show ¬ (i = w21.heap.size) by have := hvl2 i hi; omega)
  have b5_ := b5.ev t5.e (show ¬ (w.heap.size = w21.heap.size) by omega)
  have Ga_ := Ga.ev t5.e (fun i hi => show ¬ (i = w21.heap.size) by have := lGa_1 i hi; omega)
  have Gb_ := Gb.ev t5.e (fun i hi => show ¬ (i = w21.heap.size) by have := lGb_1 i hi; omega)
  have Gc_ := Gc.ev t5.e (fun i hi => show ¬ (i = w21.heap.size) by have := lGc_2 i hi; omega)
  have b14_ := b14.ev t5.e (show ¬ (w6.heap.size = w21.heap.size) by omega)
  have b16_ := b16.ev t5.e (show ¬ (w9.heap.size = w21.heap.size) by omega)
  have b18_ := b18.ev t5.e (show ¬ (w12.heap.size = w21.heap.size) by omega)
  have P1_ := P1.ev t5.e (fun i hi => show ¬ (i = w21.heap.size) by have := lP1_1 i hi; omega)
  have b21_ := b21.ev t5.e (show ¬ (w18.heap.size = w21.heap.size) by omega)
  have P2_ := P2.ev t5.e (fun i hi => show ¬ (i = w21.heap.size) by have := lP2_1 i hi; omega)
  replace BL := BL_; clear BL_
  replace D := D_; clear D_
  replace D2 := D2_; clear D2_
  replace b5 := b5_; clear b5_
  replace Ga := Ga_; clear Ga_
  replace Gb := Gb_; clear Gb_
  replace Gc := Gc_; clear Gc_
  replace b14 := b14_; clear b14_
  replace b16 := b16_; clear b16_
  replace b18 := b18_; clear b18_
  replace P1 := P1_; clear P1_
  replace b21 := b21_; clear b21_
  replace P2 := P2_; clear P2_
  replace b23 : Cel w23 w21.heap.size 66 [.int .i64 ((kk : Nat) : Int), .slice p2A p2N p2C] := t5.c
  clear t5
  refine sv 24 (.int .i64 0) .of ?_
  simp only [List.set_cons_zero, List.set_cons_succ]
  refine wpList_nil ?_
  refine hK11 _ _ ?_
  refine wp_seq_k fun K12 hK12 => ?_
  refine cPlain ?_
  refine sv 84 (va1) .of ?_
  simp only [List.set_cons_zero, List.set_cons_succ]
  refine sv 85 (.int .i64 ((kk : Nat) : Int)) .of ?_
  simp only [List.set_cons_zero, List.set_cons_succ]
  refine sv 86 (.slice Aa (2 ^ H) Ca) .of ?_
  simp only [List.set_cons_zero, List.set_cons_succ]
  refine sv 87 (.int .i64 ((2 ^ H : Nat) : Int)) .of ?_
  simp only [List.set_cons_zero, List.set_cons_succ]
  refine sv 88 (.int .i64 ((kk + 2 ^ H : Nat) : Int)) (Val.as (Val.add 3 _ (.tmp 85) (.tmp 87) rfl ((kk : Nat) : Int) ((2 ^ H : Nat) : Int) (by kernel_rfl) (by kernel_rfl) (by omega)) (congrArg (Value.int .i64) (by omega))) ?_
  simp only [List.set_cons_zero, List.set_cons_succ]
  refine xCall 89 46 #[.pointer (some ⟨w.heap.size, 0, none⟩), va1, .int .i64 ((kk + 2 ^ H : Nat) : Int)] (by kernel_rfl) ?_
  refine (mpath_any w.heap.size tab ht w23 b5 _ (ea ++ eb) Gc.se hab32 (H + 1) (by omega) habn (kk + 2 ^ H) hkl3).mono ?_
  rintro en w24 ⟨p3A, p3N, p3C, rfl, hBO, hb1⟩
  have e13 := belE0 hb1
  have ze13 := e13.size
  replace BL := BL.e0 e13
  replace D := D.e0 e13
  replace D2 := D2.e0 e13
  replace b5 := b5.e0 e13
  replace Ga := Ga.e0 e13
  replace Gb := Gb.e0 e13
  replace Gc := Gc.e0 e13
  replace b14 := b14.e0 e13
  replace b16 := b16.e0 e13
  replace b18 := b18.e0 e13
  replace P1 := P1.e0 e13
  replace b21 := b21.e0 e13
  replace P2 := P2.e0 e13
  replace b23 := b23.e0 e13
  clear e13
  have P3 : OwnE 37 .u8 32 w23.heap.size w24 (.slice p3A p3N p3C) (nnd (mpath tab (H + 1) (ea ++ eb) (kk + 2 ^ H))) := hBO
  have lP3_1 := P3.ge
  refine ⟨.tuple #[.agg #[.int .i64 (((kk + 2 ^ H) : Nat) : Int), .slice p3A p3N p3C], .int .i64 0], rfl, ?_⟩
  simp only [List.set_cons_zero, List.set_cons_succ]
  refine sv 83 (.tuple #[.agg #[.int .i64 (((kk + 2 ^ H) : Nat) : Int), .slice p3A p3N p3C], .int .i64 0]) .of ?_
  simp only [List.set_cons_zero, List.set_cons_succ]
  refine sv 90 (.agg #[.int .i64 (((kk + 2 ^ H) : Nat) : Int), .slice p3A p3N p3C]) .of ?_
  simp only [List.set_cons_zero, List.set_cons_succ]
  refine sv 91 (.int .i64 0) .of ?_
  simp only [List.set_cons_zero, List.set_cons_succ]
  refine xAlloc 25 66 [.int .i64 0, .slice none 0 0] rfl (by kernel_rfl) ?_
  intro w25 n7
  have zn7 := n7.z
  have b25 := n7.c
  replace BL := BL.e0 n7.e
  replace D := D.e0 n7.e
  replace D2 := D2.e0 n7.e
  replace b5 := b5.e0 n7.e
  replace Ga := Ga.e0 n7.e
  replace Gb := Gb.e0 n7.e
  replace Gc := Gc.e0 n7.e
  replace b14 := b14.e0 n7.e
  replace b16 := b16.e0 n7.e
  replace b18 := b18.e0 n7.e
  replace P1 := P1.e0 n7.e
  replace b21 := b21.e0 n7.e
  replace P2 := P2.e0 n7.e
  replace b23 := b23.e0 n7.e
  replace P3 := P3.e0 n7.e
  simp only [List.set_cons_zero, List.set_cons_succ]
  refine xStoreR 66 (.tmp 25) (.tmp 90) rfl w24.heap.size 66 [.int .i64 0, .slice none 0 0] 0 [.int .i64 (((kk + 2 ^ H) : Nat) : Int), .slice p3A p3N p3C] (by kernel_rfl) (by kernel_rfl) b25 (by kernel_rfl) (by simp) rfl [.int .i64 (((kk + 2 ^ H) : Nat) : Int), .slice p3A p3N p3C] rfl ?_
  intro w26 t6
  have zt6 := t6.z
  have BL_ := BL.ev t6.e (fun i h => show w.heap.size ≤ i by have h : i = w24.heap.size := h; omega)
  have D_ := D.ev t6.e (fun i hi => show ¬ (i = w24.heap.size) by have := hvl i hi; omega)
  have D2_ := D2.ev t6.e (fun i hi => show ¬ (i = w24.heap.size) by have := hvl2 i hi; omega)
  have b5_ := b5.ev t6.e (show ¬ (w.heap.size = w24.heap.size) by omega)
  have Ga_ := Ga.ev t6.e (fun i hi => show ¬ (i = w24.heap.size) by have := lGa_1 i hi; omega)
  have Gb_ := Gb.ev t6.e (fun i hi => show ¬ (i = w24.heap.size) by have := lGb_1 i hi; omega)
  have Gc_ := Gc.ev t6.e (fun i hi => show ¬ (i = w24.heap.size) by have := lGc_2 i hi; omega)
  have b14_ := b14.ev t6.e (show ¬ (w6.heap.size = w24.heap.size) by omega)
  have b16_ := b16.ev t6.e (show ¬ (w9.heap.size = w24.heap.size) by omega)
  have b18_ := b18.ev t6.e (show ¬ (w12.heap.size = w24.heap.size) by omega)
  have P1_ := P1.ev t6.e (fun i hi => show ¬ (i = w24.heap.size) by have := lP1_1 i hi; omega)
  have b21_ := b21.ev t6.e (show ¬ (w18.heap.size = w24.heap.size) by omega)
  have P2_ := P2.ev t6.e (fun i hi => show ¬ (i = w24.heap.size) by have := lP2_1 i hi; omega)
  have b23_ := b23.ev t6.e (show ¬ (w21.heap.size = w24.heap.size) by omega)
  have P3_ := P3.ev t6.e (fun i hi => show ¬ (i = w24.heap.size) by have := lP3_1 i hi; omega)
  replace BL := BL_; clear BL_
  replace D := D_; clear D_
  replace D2 := D2_; clear D2_
  replace b5 := b5_; clear b5_
  replace Ga := Ga_; clear Ga_
  replace Gb := Gb_; clear Gb_
  replace Gc := Gc_; clear Gc_
  replace b14 := b14_; clear b14_
  replace b16 := b16_; clear b16_
  replace b18 := b18_; clear b18_
  replace P1 := P1_; clear P1_
  replace b21 := b21_; clear b21_
  replace P2 := P2_; clear P2_
  replace b23 := b23_; clear b23_
  replace P3 := P3_; clear P3_
  replace b25 : Cel w26 w24.heap.size 66 [.int .i64 (((kk + 2 ^ H) : Nat) : Int), .slice p3A p3N p3C] := t6.c
  clear t6
  refine sv 26 (.int .i64 0) .of ?_
  simp only [List.set_cons_zero, List.set_cons_succ]
  refine wpList_nil ?_
  refine hK12 _ _ ?_
  refine wp_seq_k fun K13 hK13 => ?_
  refine cPlain ?_
  refine sv 93 (.slice Ab (2 ^ H) Cb) .of ?_
  simp only [List.set_cons_zero, List.set_cons_succ]
  refine sv 94 (.int .i64 ((kk : Nat) : Int)) .of ?_
  simp only [List.set_cons_zero, List.set_cons_succ]
  refine xCall 95 46 #[.pointer (some ⟨w.heap.size, 0, none⟩), .slice Ab (2 ^ H) Cb, .int .i64 ((kk : Nat) : Int)] (by kernel_rfl) ?_
  refine (mpath_any w.heap.size tab ht w26 b5 _ eb Gb.se hb32 H (by omega) hebn kk hkl).mono ?_
  rintro en w27 ⟨p4A, p4N, p4C, rfl, hBO, hb1⟩
  have e14 := belE0 hb1
  have ze14 := e14.size
  replace BL := BL.e0 e14
  replace D := D.e0 e14
  replace D2 := D2.e0 e14
  replace b5 := b5.e0 e14
  replace Ga := Ga.e0 e14
  replace Gb := Gb.e0 e14
  replace Gc := Gc.e0 e14
  replace b14 := b14.e0 e14
  replace b16 := b16.e0 e14
  replace b18 := b18.e0 e14
  replace P1 := P1.e0 e14
  replace b21 := b21.e0 e14
  replace P2 := P2.e0 e14
  replace b23 := b23.e0 e14
  replace P3 := P3.e0 e14
  replace b25 := b25.e0 e14
  clear e14
  have P4 : OwnE 37 .u8 32 w26.heap.size w27 (.slice p4A p4N p4C) (nnd (mpath tab H eb kk)) := hBO
  have lP4_1 := P4.ge
  refine ⟨.tuple #[.agg #[.int .i64 ((kk : Nat) : Int), .slice p4A p4N p4C], .int .i64 0], rfl, ?_⟩
  simp only [List.set_cons_zero, List.set_cons_succ]
  refine sv 92 (.tuple #[.agg #[.int .i64 ((kk : Nat) : Int), .slice p4A p4N p4C], .int .i64 0]) .of ?_
  simp only [List.set_cons_zero, List.set_cons_succ]
  refine sv 96 (.agg #[.int .i64 ((kk : Nat) : Int), .slice p4A p4N p4C]) .of ?_
  simp only [List.set_cons_zero, List.set_cons_succ]
  refine sv 97 (.int .i64 0) .of ?_
  simp only [List.set_cons_zero, List.set_cons_succ]
  refine xAlloc 27 66 [.int .i64 0, .slice none 0 0] rfl (by kernel_rfl) ?_
  intro w28 n8
  have zn8 := n8.z
  have b27 := n8.c
  replace BL := BL.e0 n8.e
  replace D := D.e0 n8.e
  replace D2 := D2.e0 n8.e
  replace b5 := b5.e0 n8.e
  replace Ga := Ga.e0 n8.e
  replace Gb := Gb.e0 n8.e
  replace Gc := Gc.e0 n8.e
  replace b14 := b14.e0 n8.e
  replace b16 := b16.e0 n8.e
  replace b18 := b18.e0 n8.e
  replace P1 := P1.e0 n8.e
  replace b21 := b21.e0 n8.e
  replace P2 := P2.e0 n8.e
  replace b23 := b23.e0 n8.e
  replace P3 := P3.e0 n8.e
  replace b25 := b25.e0 n8.e
  replace P4 := P4.e0 n8.e
  simp only [List.set_cons_zero, List.set_cons_succ]
  refine xStoreR 66 (.tmp 27) (.tmp 96) rfl w27.heap.size 66 [.int .i64 0, .slice none 0 0] 0 [.int .i64 ((kk : Nat) : Int), .slice p4A p4N p4C] (by kernel_rfl) (by kernel_rfl) b27 (by kernel_rfl) (by simp) rfl [.int .i64 ((kk : Nat) : Int), .slice p4A p4N p4C] rfl ?_
  intro w29 t7
  have zt7 := t7.z
  have BL_ := BL.ev t7.e (fun i h => show w.heap.size ≤ i by have h : i = w27.heap.size := h; omega)
  have D_ := D.ev t7.e (fun i hi => show ¬ (i = w27.heap.size) by have := hvl i hi; omega)
  have D2_ := D2.ev t7.e (fun i hi => show ¬ (i = w27.heap.size) by have := hvl2 i hi; omega)
  have b5_ := b5.ev t7.e (show ¬ (w.heap.size = w27.heap.size) by omega)
  have Ga_ := Ga.ev t7.e (fun i hi => show ¬ (i = w27.heap.size) by have := lGa_1 i hi; omega)
  have Gb_ := Gb.ev t7.e (fun i hi => show ¬ (i = w27.heap.size) by have := lGb_1 i hi; omega)
  have Gc_ := Gc.ev t7.e (fun i hi => show ¬ (i = w27.heap.size) by have := lGc_2 i hi; omega)
  have b14_ := b14.ev t7.e (show ¬ (w6.heap.size = w27.heap.size) by omega)
  have b16_ := b16.ev t7.e (show ¬ (w9.heap.size = w27.heap.size) by omega)
  have b18_ := b18.ev t7.e (show ¬ (w12.heap.size = w27.heap.size) by omega)
  have P1_ := P1.ev t7.e (fun i hi => show ¬ (i = w27.heap.size) by have := lP1_1 i hi; omega)
  have b21_ := b21.ev t7.e (show ¬ (w18.heap.size = w27.heap.size) by omega)
  have P2_ := P2.ev t7.e (fun i hi => show ¬ (i = w27.heap.size) by have := lP2_1 i hi; omega)
  have b23_ := b23.ev t7.e (show ¬ (w21.heap.size = w27.heap.size) by omega)
  have P3_ := P3.ev t7.e (fun i hi => show ¬ (i = w27.heap.size) by have := lP3_1 i hi; omega)
  have b25_ := b25.ev t7.e (show ¬ (w24.heap.size = w27.heap.size) by omega)
  have P4_ := P4.ev t7.e (fun i hi => show ¬ (i = w27.heap.size) by have := lP4_1 i hi; omega)
  replace BL := BL_; clear BL_
  replace D := D_; clear D_
  replace D2 := D2_; clear D2_
  replace b5 := b5_; clear b5_
  replace Ga := Ga_; clear Ga_
  replace Gb := Gb_; clear Gb_
  replace Gc := Gc_; clear Gc_
  replace b14 := b14_; clear b14_
  replace b16 := b16_; clear b16_
  replace b18 := b18_; clear b18_
  replace P1 := P1_; clear P1_
  replace b21 := b21_; clear b21_
  replace P2 := P2_; clear P2_
  replace b23 := b23_; clear b23_
  replace P3 := P3_; clear P3_
  replace b25 := b25_; clear b25_
  replace P4 := P4_; clear P4_
  replace b27 : Cel w29 w27.heap.size 66 [.int .i64 ((kk : Nat) : Int), .slice p4A p4N p4C] := t7.c
  clear t7
  refine sv 28 (.int .i64 0) .of ?_
  simp only [List.set_cons_zero, List.set_cons_succ]
  refine wpList_nil ?_
  refine hK13 _ _ ?_
  refine wp_seq_k fun K14 hK14 => ?_
  have e15 := drew_e0 w29
  refine zg (fun w_ => Bl w.heap.size w w_ ∧ SE .u8 32 w_ v (nnd l) ∧ SE .u8 32 w_ v2 (nnd l2) ∧ Blk .u32 w_ w.heap.size 26 (nn tab) ∧ OwnE 37 .u8 32 w1.heap.size w_ (.slice Aa (2 ^ H) Ca) (nnd ea) ∧ OwnE 37 .u8 32 w2.heap.size w_ (.slice Ab (2 ^ H) Cb) (nnd eb) ∧ OwnE 37 .u8 32 w3.heap.size w_ va1 (nnd (ea ++ eb)) ∧ Blk .u8 w_ w6.heap.size 37 (nn (mroot tab H ea)) ∧ Blk .u8 w_ w9.heap.size 37 (nn (mroot tab H eb)) ∧ Blk .u8 w_ w12.heap.size 37 (nn (mroot tab (H + 1) (ea ++ eb))) ∧ OwnE 37 .u8 32 w17.heap.size w_ (.slice p1A p1N p1C) (nnd (mpath tab H ea kk)) ∧ Cel w_ w18.heap.size 66 [.int .i64 ((kk : Nat) : Int), .slice p1A p1N p1C] ∧ OwnE 37 .u8 32 w20.heap.size w_ (.slice p2A p2N p2C) (nnd (mpath tab (H + 1) (ea ++ eb) kk)) ∧ Cel w_ w21.heap.size 66 [.int .i64 ((kk : Nat) : Int), .slice p2A p2N p2C] ∧ OwnE 37 .u8 32 w23.heap.size w_ (.slice p3A p3N p3C) (nnd (mpath tab (H + 1) (ea ++ eb) (kk + 2 ^ H))) ∧ Cel w_ w24.heap.size 66 [.int .i64 (((kk + 2 ^ H) : Nat) : Int), .slice p3A p3N p3C] ∧ OwnE 37 .u8 32 w26.heap.size w_ (.slice p4A p4N p4C) (nnd (mpath tab H eb kk)) ∧ Cel w_ w27.heap.size 66 [.int .i64 ((kk : Nat) : Int), .slice p4A p4N p4C] ∧ w29.heap.size ≤ w_.heap.size) (fun w_ => Bl w.heap.size w w_ ∧ SE .u8 32 w_ v (nnd l) ∧ SE .u8 32 w_ v2 (nnd l2) ∧ Blk .u32 w_ w.heap.size 26 (nn tab) ∧ OwnE 37 .u8 32 w1.heap.size w_ (.slice Aa (2 ^ H) Ca) (nnd ea) ∧ OwnE 37 .u8 32 w2.heap.size w_ (.slice Ab (2 ^ H) Cb) (nnd eb) ∧ OwnE 37 .u8 32 w3.heap.size w_ va1 (nnd (ea ++ eb)) ∧ Blk .u8 w_ w6.heap.size 37 (nn (mroot tab H ea)) ∧ Blk .u8 w_ w9.heap.size 37 (nn (mroot tab H eb)) ∧ Blk .u8 w_ w12.heap.size 37 (nn (mroot tab (H + 1) (ea ++ eb))) ∧ OwnE 37 .u8 32 w17.heap.size w_ (.slice p1A p1N p1C) (nnd (mpath tab H ea kk)) ∧ Cel w_ w18.heap.size 66 [.int .i64 ((kk : Nat) : Int), .slice p1A p1N p1C] ∧ OwnE 37 .u8 32 w20.heap.size w_ (.slice p2A p2N p2C) (nnd (mpath tab (H + 1) (ea ++ eb) kk)) ∧ Cel w_ w21.heap.size 66 [.int .i64 ((kk : Nat) : Int), .slice p2A p2N p2C] ∧ OwnE 37 .u8 32 w23.heap.size w_ (.slice p3A p3N p3C) (nnd (mpath tab (H + 1) (ea ++ eb) (kk + 2 ^ H))) ∧ Cel w_ w24.heap.size 66 [.int .i64 (((kk + 2 ^ H) : Nat) : Int), .slice p3A p3N p3C] ∧ OwnE 37 .u8 32 w26.heap.size w_ (.slice p4A p4N p4C) (nnd (mpath tab H eb kk)) ∧ Cel w_ w27.heap.size 66 [.int .i64 ((kk : Nat) : Int), .slice p4A p4N p4C] ∧ w29.heap.size ≤ w_.heap.size) 100000 34 ⟨BL.e0 e15, D.e0 e15, D2.e0 e15, b5.e0 e15, Ga.e0 e15, Gb.e0 e15, Gc.e0 e15, b14.e0 e15, b16.e0 e15, b18.e0 e15, P1.e0 e15, b21.e0 e15, P2.e0 e15, b23.e0 e15, P3.e0 e15, b25.e0 e15, P4.e0 e15, b27.e0 e15, Nat.le_refl _⟩ ?_
  clear BL D D2 b5 Ga Gb Gc b14 b16 b18 P1 b21 P2 b23 P3 b25 P4 b27
  clear e15
  intro w30
  rintro ⟨BL, D, D2, b5, Ga, Gb, Gc, b14, b16, b18, P1, b21, P2, b23, P3, b25, P4, b27, z2⟩
  refine zv 0 98 (.int .i64 0) (fun _ _ => .of) ⟨BL, D, D2, b5, Ga, Gb, Gc, b14, b16, b18, P1, b21, P2, b23, P3, b25, P4, b27, by omega⟩ ?_
  simp only [List.set_cons_zero, List.set_cons_succ]
  refine zv 1 99 (.int .i64 0) (fun _ _ => .of) ⟨BL, D, D2, b5, Ga, Gb, Gc, b14, b16, b18, P1, b21, P2, b23, P3, b25, P4, b27, by omega⟩ ?_
  simp only [List.set_cons_zero, List.set_cons_succ]
  refine zv 2 100 (.int .i64 (0 + 0)) (fun _ ⟨BL, D, D2, b5, Ga, Gb, Gc, b14, b16, b18, P1, b21, P2, b23, P3, b25, P4, b27, z2⟩ => Val.add 67 _ (.tmp 98) (.tmp 99) rfl 0 0 (by kernel_rfl) (by kernel_rfl) (by omega)) ⟨BL, D, D2, b5, Ga, Gb, Gc, b14, b16, b18, P1, b21, P2, b23, P3, b25, P4, b27, by omega⟩ ?_
  simp only [List.set_cons_zero, List.set_cons_succ]
  refine zv 3 101 (.int .i64 0) (fun _ _ => .of) ⟨BL, D, D2, b5, Ga, Gb, Gc, b14, b16, b18, P1, b21, P2, b23, P3, b25, P4, b27, by omega⟩ ?_
  simp only [List.set_cons_zero, List.set_cons_succ]
  refine zv 4 102 (.int .i64 ((0 + 0) + 0)) (fun _ ⟨BL, D, D2, b5, Ga, Gb, Gc, b14, b16, b18, P1, b21, P2, b23, P3, b25, P4, b27, z2⟩ => Val.add 67 _ (.tmp 100) (.tmp 101) rfl (0 + 0) 0 (by kernel_rfl) (by kernel_rfl) (by omega)) ⟨BL, D, D2, b5, Ga, Gb, Gc, b14, b16, b18, P1, b21, P2, b23, P3, b25, P4, b27, by omega⟩ ?_
  simp only [List.set_cons_zero, List.set_cons_succ]
  refine zv 5 103 (.int .i64 0) (fun _ _ => .of) ⟨BL, D, D2, b5, Ga, Gb, Gc, b14, b16, b18, P1, b21, P2, b23, P3, b25, P4, b27, by omega⟩ ?_
  simp only [List.set_cons_zero, List.set_cons_succ]
  refine zv 6 104 (.int .i64 (((0 + 0) + 0) + 0)) (fun _ ⟨BL, D, D2, b5, Ga, Gb, Gc, b14, b16, b18, P1, b21, P2, b23, P3, b25, P4, b27, z2⟩ => Val.add 67 _ (.tmp 102) (.tmp 103) rfl ((0 + 0) + 0) 0 (by kernel_rfl) (by kernel_rfl) (by omega)) ⟨BL, D, D2, b5, Ga, Gb, Gc, b14, b16, b18, P1, b21, P2, b23, P3, b25, P4, b27, by omega⟩ ?_
  simp only [List.set_cons_zero, List.set_cons_succ]
  refine zv 7 105 (.bool true) (fun _ _ => .of) ⟨BL, D, D2, b5, Ga, Gb, Gc, b14, b16, b18, P1, b21, P2, b23, P3, b25, P4, b27, by omega⟩ ?_
  simp only [List.set_cons_zero, List.set_cons_succ]
  refine zv 8 106 (.bool true) (fun _ _ => .of) ⟨BL, D, D2, b5, Ga, Gb, Gc, b14, b16, b18, P1, b21, P2, b23, P3, b25, P4, b27, by omega⟩ ?_
  simp only [List.set_cons_zero, List.set_cons_succ]
  refine zv 9 107 (.pointer (some ⟨w21.heap.size, 1, none⟩)) (fun _ _ => .of) ⟨BL, D, D2, b5, Ga, Gb, Gc, b14, b16, b18, P1, b21, P2, b23, P3, b25, P4, b27, by omega⟩ ?_
  simp only [List.set_cons_zero, List.set_cons_succ]
  refine zv 10 108 (.slice p2A p2N p2C) (fun _ ⟨BL, D, D2, b5, Ga, Gb, Gc, b14, b16, b18, P1, b21, P2, b23, P3, b25, P4, b27, z2⟩ => Val.cel1 63 _ rfl w21.heap.size 1 _ (by kernel_rfl) (fun _ => (by kernel_rfl)) b23 rfl) ⟨BL, D, D2, b5, Ga, Gb, Gc, b14, b16, b18, P1, b21, P2, b23, P3, b25, P4, b27, by omega⟩ ?_
  simp only [List.set_cons_zero, List.set_cons_succ]
  refine zv 11 109 (.pointer (some ⟨w18.heap.size, 1, none⟩)) (fun _ _ => .of) ⟨BL, D, D2, b5, Ga, Gb, Gc, b14, b16, b18, P1, b21, P2, b23, P3, b25, P4, b27, by omega⟩ ?_
  simp only [List.set_cons_zero, List.set_cons_succ]
  refine zv 12 110 (.slice p1A p1N p1C) (fun _ ⟨BL, D, D2, b5, Ga, Gb, Gc, b14, b16, b18, P1, b21, P2, b23, P3, b25, P4, b27, z2⟩ => Val.cel1 63 _ rfl w18.heap.size 1 _ (by kernel_rfl) (fun _ => (by kernel_rfl)) b21 rfl) ⟨BL, D, D2, b5, Ga, Gb, Gc, b14, b16, b18, P1, b21, P2, b23, P3, b25, P4, b27, by omega⟩ ?_
  simp only [List.set_cons_zero, List.set_cons_succ]
  refine zv 14 112 (.agg (cellsOf .u8 (nn (mroot tab H eb)))) (fun _ ⟨BL, D, D2, b5, Ga, Gb, Gc, b14, b16, b18, P1, b21, P2, b23, P3, b25, P4, b27, z2⟩ => Val.blk 37 _ rfl 0 32 (by kernel_rfl) b16 _ Try.underlying37 rfl (by kernel_rfl) (by (try simp only [nn_len, List.length_cons, List.length_nil, List.length_set, List.length_replicate]); try omega) _ (seg_all' _ (by (try simp only [nn_len, List.length_cons, List.length_nil, List.length_set, List.length_replicate]); try omega))) ⟨BL, D, D2, b5, Ga, Gb, Gc, b14, b16, b18, P1, b21, P2, b23, P3, b25, P4, b27, by omega⟩ ?_
  simp only [List.set_cons_zero, List.set_cons_succ]
  refine zo2 13 15 rfl rfl ?_ ?_
  · skip
    refine xCall 111 48 #[.slice p1A p1N p1C] (by kernel_rfl) ?_
    refine (copyD_any _ (mpath tab H ea kk) w30 P1.se (by rw [mpath_len]; omega)).mono ?_
    rintro en w31 ⟨r1, rfl, hG, hb1⟩
    have e16 := belE0 hb1
    have ze16 := e16.size
    replace BL := BL.e0 e16
    replace D := D.e0 e16
    replace D2 := D2.e0 e16
    replace b5 := b5.e0 e16
    replace Ga := Ga.e0 e16
    replace Gb := Gb.e0 e16
    replace Gc := Gc.e0 e16
    replace b14 := b14.e0 e16
    replace b16 := b16.e0 e16
    replace b18 := b18.e0 e16
    replace P1 := P1.e0 e16
    replace b21 := b21.e0 e16
    replace P2 := P2.e0 e16
    replace b23 := b23.e0 e16
    replace P3 := P3.e0 e16
    replace b25 := b25.e0 e16
    replace P4 := P4.e0 e16
    replace b27 := b27.e0 e16
    clear e16
    have K1 : OwnE 37 .u8 32 w30.heap.size w31 r1 (nnd (mpath tab H ea kk)) := hG
    have lK1_1 := K1.ge
    refine ⟨r1, rfl, ?_⟩
    refine ze 13 ⟨BL, D, D2, b5, Ga, Gb, Gc, b14, b16, b18, P1, b21, P2, b23, P3, b25, P4, b27, by omega⟩ ?_
    simp only [List.set_cons_zero, List.set_cons_succ]
    refine zo1 15 rfl ?_
    refine xLitE 113 63 37 1 _ rfl .u8 32 (nnd [(mroot tab H eb)]) (by kernel_rfl) Try.underlying63 (by kernel_rfl) (by omega) rfl (by omega) (by omega) (lenC (by (try simp only [nn_len, List.length_cons, List.length_nil, List.length_set, List.length_replicate]); try omega) lenN) ?_
    intro w32 n9 b113
    have zn9 := n9.z
    replace BL := BL.e0 n9.e
    replace D := D.e0 n9.e
    replace D2 := D2.e0 n9.e
    replace b5 := b5.e0 n9.e
    replace Ga := Ga.e0 n9.e
    replace Gb := Gb.e0 n9.e
    replace Gc := Gc.e0 n9.e
    replace b14 := b14.e0 n9.e
    replace b16 := b16.e0 n9.e
    replace b18 := b18.e0 n9.e
    replace P1 := P1.e0 n9.e
    replace b21 := b21.e0 n9.e
    replace P2 := P2.e0 n9.e
    replace b23 := b23.e0 n9.e
    replace P3 := P3.e0 n9.e
    replace b25 := b25.e0 n9.e
    replace P4 := P4.e0 n9.e
    replace b27 := b27.e0 n9.e
    replace K1 := K1.e0 n9.e
    have lb113_1 := b113.ge
    refine ze 15 ⟨BL, D, D2, b5, Ga, Gb, Gc, b14, b16, b18, P1, b21, P2, b23, P3, b25, P4, b27, by omega⟩ ?_
    simp only [List.set_cons_zero, List.set_cons_succ]
    refine zo1 16 rfl ?_
    refine unguard (by kernel_rfl) ?_
    refine xAppE 114 (.tmp 111) (.tmp 113) 63 37 .u8 32 32 rfl Try.underlying63 (by kernel_rfl) (by omega) w30.heap.size r1 (nnd (mpath tab H ea kk)) (by kernel_rfl) K1 (.slice (some ⟨w31.heap.size, 0, none⟩) 1 1) (nnd [(mroot tab H eb)]) (by kernel_rfl) b113.se ?va2_1 ?va2_2 ?va2_3 ?_
    case va2_1 => (simp only [nnd_len, mpath_len, List.length_cons, List.length_nil]; omega)
    case va2_2 => (simp only [nnd_len, mpath_len, List.length_cons, List.length_nil]; unfold maxLen; omega)
    case va2_3 => omega
    intro va2 w33 rva2 e17
    have ze17 := e17.size
    have BL_ := BL.ev e17 (fun i h => by have := lK1_1 _ h; omega)
    have D_ := D.ev e17 (fun i hi h => by have := hvl i hi; have := lK1_1 _ h; omega)
    have D2_ := D2.ev e17 (fun i hi h => by have := hvl2 i hi; have := lK1_1 _ h; omega)
    have b5_ := b5.ev e17 (fun h => by have := lK1_1 _ h; omega)
    have Ga_ := Ga.ev e17 (fun i hi h => by have := lGa_1 i hi; have := lK1_1 _ h; omega)
    have Gb_ := Gb.ev e17 (fun i hi h => by have := lGb_1 i hi; have := lK1_1 _ h; omega)
    have Gc_ := Gc.ev e17 (fun i hi h => by have := lGc_2 i hi; have := lK1_1 _ h; omega)
    have b14_ := b14.ev e17 (fun h => by have := lK1_1 _ h; omega)
    have b16_ := b16.ev e17 (fun h => by have := lK1_1 _ h; omega)
    have b18_ := b18.ev e17 (fun h => by have := lK1_1 _ h; omega)
    have P1_ := P1.ev e17 (fun i hi h => by have := lP1_1 i hi; have := lK1_1 _ h; omega)
    have b21_ := b21.ev e17 (fun h => by have := lK1_1 _ h; omega)
    have P2_ := P2.ev e17 (fun i hi h => by have := lP2_1 i hi; have := lK1_1 _ h; omega)
    have b23_ := b23.ev e17 (fun h => by have := lK1_1 _ h; omega)
    have P3_ := P3.ev e17 (fun i hi h => by have := lP3_1 i hi; have := lK1_1 _ h; omega)
    have b25_ := b25.ev e17 (fun h => by have := lK1_1 _ h; omega)
    have P4_ := P4.ev e17 (fun i hi h => by have := lP4_1 i hi; have := lK1_1 _ h; omega)
    have b27_ := b27.ev e17 (fun h => by have := lK1_1 _ h; omega)
    have b113_ := b113.ev e17 (fun i hi h => by have := lb113_1 i hi; have := lK1_1 _ h; omega)
    replace BL := BL_; clear BL_
    replace D := D_; clear D_
    replace D2 := D2_; clear D2_
    replace b5 := b5_; clear b5_
    replace Ga := Ga_; clear Ga_
    replace Gb := Gb_; clear Gb_
    replace Gc := Gc_; clear Gc_
    replace b14 := b14_; clear b14_
    replace b16 := b16_; clear b16_
    replace b18 := b18_; clear b18_
    replace P1 := P1_; clear P1_
    replace b21 := b21_; clear b21_
    replace P2 := P2_; clear P2_
    replace b23 := b23_; clear b23_
    replace P3 := P3_; clear P3_
    replace b25 := b25_; clear b25_
    replace P4 := P4_; clear P4_
    replace b27 := b27_; clear b27_
    replace b113 := b113_; clear b113_
    rw [← nnd_app] at rva2
    replace K1 := rva2
    clear rva2 e17
    have lK1_2 := K1.ge
    refine ze 16 ⟨BL, D, D2, b5, Ga, Gb, Gc, b14, b16, b18, P1, b21, P2, b23, P3, b25, P4, b27, by omega⟩ ?_
    simp only [List.set_cons_zero, List.set_cons_succ]
    refine zo1 17 rfl ?_
    refine xCall 115 49 #[.slice p2A p2N p2C, va2] (by kernel_rfl) ?_
    refine (samedig_any _ _ (mpath tab (H + 1) (ea ++ eb) kk) (mpath tab H ea kk ++ [mroot tab H eb]) w33 P2.se K1.se).mono ?_
    rintro en w34 ⟨he, hb1⟩
    rw [decide_eq_true hlo] at he
    subst he
    have e18 := belE0 hb1
    have ze18 := e18.size
    replace BL := BL.e0 e18
    replace D := D.e0 e18
    replace D2 := D2.e0 e18
    replace b5 := b5.e0 e18
    replace Ga := Ga.e0 e18
    replace Gb := Gb.e0 e18
    replace Gc := Gc.e0 e18
    replace b14 := b14.e0 e18
    replace b16 := b16.e0 e18
    replace b18 := b18.e0 e18
    replace P1 := P1.e0 e18
    replace b21 := b21.e0 e18
    replace P2 := P2.e0 e18
    replace b23 := b23.e0 e18
    replace P3 := P3.e0 e18
    replace b25 := b25.e0 e18
    replace P4 := P4.e0 e18
    replace b27 := b27.e0 e18
    replace K1 := K1.e0 e18
    replace b113 := b113.e0 e18
    clear e18
    refine ⟨.bool true, rfl, ?_⟩
    refine ze 17 ⟨BL, D, D2, b5, Ga, Gb, Gc, b14, b16, b18, P1, b21, P2, b23, P3, b25, P4, b27, by omega⟩ ?_
    simp only [List.set_cons_zero, List.set_cons_succ]
    refine zv 18 116 (.bool true) (fun _ _ => .of) ⟨BL, D, D2, b5, Ga, Gb, Gc, b14, b16, b18, P1, b21, P2, b23, P3, b25, P4, b27, by omega⟩ ?_
    simp only [List.set_cons_zero, List.set_cons_succ]
    refine zv 19 117 (.bool true) (fun _ _ => .of) ⟨BL, D, D2, b5, Ga, Gb, Gc, b14, b16, b18, P1, b21, P2, b23, P3, b25, P4, b27, by omega⟩ ?_
    simp only [List.set_cons_zero, List.set_cons_succ]
    refine zv 20 118 (.pointer (some ⟨w24.heap.size, 1, none⟩)) (fun _ _ => .of) ⟨BL, D, D2, b5, Ga, Gb, Gc, b14, b16, b18, P1, b21, P2, b23, P3, b25, P4, b27, by omega⟩ ?_
    simp only [List.set_cons_zero, List.set_cons_succ]
    refine zv 21 119 (.slice p3A p3N p3C) (fun _ ⟨BL, D, D2, b5, Ga, Gb, Gc, b14, b16, b18, P1, b21, P2, b23, P3, b25, P4, b27, z2⟩ => Val.cel1 63 _ rfl w24.heap.size 1 _ (by kernel_rfl) (fun _ => (by kernel_rfl)) b25 rfl) ⟨BL, D, D2, b5, Ga, Gb, Gc, b14, b16, b18, P1, b21, P2, b23, P3, b25, P4, b27, by omega⟩ ?_
    simp only [List.set_cons_zero, List.set_cons_succ]
    refine zv 22 120 (.pointer (some ⟨w27.heap.size, 1, none⟩)) (fun _ _ => .of) ⟨BL, D, D2, b5, Ga, Gb, Gc, b14, b16, b18, P1, b21, P2, b23, P3, b25, P4, b27, by omega⟩ ?_
    simp only [List.set_cons_zero, List.set_cons_succ]
    refine zv 23 121 (.slice p4A p4N p4C) (fun _ ⟨BL, D, D2, b5, Ga, Gb, Gc, b14, b16, b18, P1, b21, P2, b23, P3, b25, P4, b27, z2⟩ => Val.cel1 63 _ rfl w27.heap.size 1 _ (by kernel_rfl) (fun _ => (by kernel_rfl)) b27 rfl) ⟨BL, D, D2, b5, Ga, Gb, Gc, b14, b16, b18, P1, b21, P2, b23, P3, b25, P4, b27, by omega⟩ ?_
    simp only [List.set_cons_zero, List.set_cons_succ]
    refine zv 25 123 (.agg (cellsOf .u8 (nn (mroot tab H ea)))) (fun _ ⟨BL, D, D2, b5, Ga, Gb, Gc, b14, b16, b18, P1, b21, P2, b23, P3, b25, P4, b27, z2⟩ => Val.blk 37 _ rfl 0 32 (by kernel_rfl) b14 _ Try.underlying37 rfl (by kernel_rfl) (by (try simp only [nn_len, List.length_cons, List.length_nil, List.length_set, List.length_replicate]); try omega) _ (seg_all' _ (by (try simp only [nn_len, List.length_cons, List.length_nil, List.length_set, List.length_replicate]); try omega))) ⟨BL, D, D2, b5, Ga, Gb, Gc, b14, b16, b18, P1, b21, P2, b23, P3, b25, P4, b27, by omega⟩ ?_
    simp only [List.set_cons_zero, List.set_cons_succ]
    refine zo2 24 26 rfl rfl ?_ ?_
    · skip
      refine xCall 122 48 #[.slice p4A p4N p4C] (by kernel_rfl) ?_
      refine (copyD_any _ (mpath tab H eb kk) w34 P4.se (by rw [mpath_len]; omega)).mono ?_
      rintro en w35 ⟨r4, rfl, hG, hb1⟩
      have e19 := belE0 hb1
      have ze19 := e19.size
      replace BL := BL.e0 e19
      replace D := D.e0 e19
      replace D2 := D2.e0 e19
      replace b5 := b5.e0 e19
      replace Ga := Ga.e0 e19
      replace Gb := Gb.e0 e19
      replace Gc := Gc.e0 e19
      replace b14 := b14.e0 e19
      replace b16 := b16.e0 e19
      replace b18 := b18.e0 e19
      replace P1 := P1.e0 e19
      replace b21 := b21.e0 e19
      replace P2 := P2.e0 e19
      replace b23 := b23.e0 e19
      replace P3 := P3.e0 e19
      replace b25 := b25.e0 e19
      replace P4 := P4.e0 e19
      replace b27 := b27.e0 e19
      replace K1 := K1.e0 e19
      replace b113 := b113.e0 e19
      clear e19
      have K4 : OwnE 37 .u8 32 w34.heap.size w35 r4 (nnd (mpath tab H eb kk)) := hG
      have lK4_1 := K4.ge
      refine ⟨r4, rfl, ?_⟩
      refine ze 24 ⟨BL, D, D2, b5, Ga, Gb, Gc, b14, b16, b18, P1, b21, P2, b23, P3, b25, P4, b27, by omega⟩ ?_
      simp only [List.set_cons_zero, List.set_cons_succ]
      refine zo1 26 rfl ?_
      refine xLitE 124 63 37 1 _ rfl .u8 32 (nnd [(mroot tab H ea)]) (by kernel_rfl) Try.underlying63 (by kernel_rfl) (by omega) rfl (by omega) (by omega) (lenC (by (try simp only [nn_len, List.length_cons, List.length_nil, List.length_set, List.length_replicate]); try omega) lenN) ?_
      intro w36 n10 b124
      have zn10 := n10.z
      replace BL := BL.e0 n10.e
      replace D := D.e0 n10.e
      replace D2 := D2.e0 n10.e
      replace b5 := b5.e0 n10.e
      replace Ga := Ga.e0 n10.e
      replace Gb := Gb.e0 n10.e
      replace Gc := Gc.e0 n10.e
      replace b14 := b14.e0 n10.e
      replace b16 := b16.e0 n10.e
      replace b18 := b18.e0 n10.e
      replace P1 := P1.e0 n10.e
      replace b21 := b21.e0 n10.e
      replace P2 := P2.e0 n10.e
      replace b23 := b23.e0 n10.e
      replace P3 := P3.e0 n10.e
      replace b25 := b25.e0 n10.e
      replace P4 := P4.e0 n10.e
      replace b27 := b27.e0 n10.e
      replace K1 := K1.e0 n10.e
      replace b113 := b113.e0 n10.e
      replace K4 := K4.e0 n10.e
      have lb124_1 := b124.ge
      refine ze 26 ⟨BL, D, D2, b5, Ga, Gb, Gc, b14, b16, b18, P1, b21, P2, b23, P3, b25, P4, b27, by omega⟩ ?_
      simp only [List.set_cons_zero, List.set_cons_succ]
      refine zo1 27 rfl ?_
      refine unguard (by kernel_rfl) ?_
      refine xAppE 125 (.tmp 122) (.tmp 124) 63 37 .u8 32 32 rfl Try.underlying63 (by kernel_rfl) (by omega) w34.heap.size r4 (nnd (mpath tab H eb kk)) (by kernel_rfl) K4 (.slice (some ⟨w35.heap.size, 0, none⟩) 1 1) (nnd [(mroot tab H ea)]) (by kernel_rfl) b124.se ?va3_1 ?va3_2 ?va3_3 ?_
      case va3_1 => (simp only [nnd_len, mpath_len, List.length_cons, List.length_nil]; omega)
      case va3_2 => (simp only [nnd_len, mpath_len, List.length_cons, List.length_nil]; unfold maxLen; omega)
      case va3_3 => omega
      intro va3 w37 rva3 e20
      have ze20 := e20.size
      have BL_ := BL.ev e20 (fun i h => by have := lK4_1 _ h; omega)
      have D_ := D.ev e20 (fun i hi h => by have := hvl i hi; have := lK4_1 _ h; omega)
      have D2_ := D2.ev e20 (fun i hi h => by have := hvl2 i hi; have := lK4_1 _ h; omega)
      have b5_ := b5.ev e20 (fun h => by have := lK4_1 _ h; omega)
      have Ga_ := Ga.ev e20 (fun i hi h => by have := lGa_1 i hi; have := lK4_1 _ h; omega)
      have Gb_ := Gb.ev e20 (fun i hi h => by have := lGb_1 i hi; have := lK4_1 _ h; omega)
      have Gc_ := Gc.ev e20 (fun i hi h => by have := lGc_2 i hi; have := lK4_1 _ h; omega)
      have b14_ := b14.ev e20 (fun h => by have := lK4_1 _ h; omega)
      have b16_ := b16.ev e20 (fun h => by have := lK4_1 _ h; omega)
      have b18_ := b18.ev e20 (fun h => by have := lK4_1 _ h; omega)
      have P1_ := P1.ev e20 (fun i hi h => by have := lP1_1 i hi; have := lK4_1 _ h; omega)
      have b21_ := b21.ev e20 (fun h => by have := lK4_1 _ h; omega)
      have P2_ := P2.ev e20 (fun i hi h => by have := lP2_1 i hi; have := lK4_1 _ h; omega)
      have b23_ := b23.ev e20 (fun h => by have := lK4_1 _ h; omega)
      have P3_ := P3.ev e20 (fun i hi h => by have := lP3_1 i hi; have := lK4_1 _ h; omega)
      have b25_ := b25.ev e20 (fun h => by have := lK4_1 _ h; omega)
      have P4_ := P4.ev e20 (fun i hi h => by have := lP4_1 i hi; have := lK4_1 _ h; omega)
      have b27_ := b27.ev e20 (fun h => by have := lK4_1 _ h; omega)
      have K1_ := K1.ev e20 (fun i hi h => by have := lK1_2 i hi; have := lK4_1 _ h; omega)
      have b113_ := b113.ev e20 (fun i hi h => by have := lb113_1 i hi; have := lK4_1 _ h; omega)
      have b124_ := b124.ev e20 (fun i hi h => by have := lb124_1 i hi; have := lK4_1 _ h; omega)
      replace BL := BL_; clear BL_
      replace D := D_; clear D_
      replace D2 := D2_; clear D2_
      replace b5 := b5_; clear b5_
      replace Ga := Ga_; clear Ga_
      replace Gb := Gb_; clear Gb_
      replace Gc := Gc_; clear Gc_
      replace b14 := b14_; clear b14_
      replace b16 := b16_; clear b16_
      replace b18 := b18_; clear b18_
      replace P1 := P1_; clear P1_
      replace b21 := b21_; clear b21_
      replace P2 := P2_; clear P2_
      replace b23 := b23_; clear b23_
      replace P3 := P3_; clear P3_
      replace b25 := b25_; clear b25_
      replace P4 := P4_; clear P4_
      replace b27 := b27_; clear b27_
      replace K1 := K1_; clear K1_
      replace b113 := b113_; clear b113_
      replace b124 := b124_; clear b124_
      rw [← nnd_app] at rva3
      replace K4 := rva3
      clear rva3 e20
      have lK4_2 := K4.ge
      refine ze 27 ⟨BL, D, D2, b5, Ga, Gb, Gc, b14, b16, b18, P1, b21, P2, b23, P3, b25, P4, b27, by omega⟩ ?_
      simp only [List.set_cons_zero, List.set_cons_succ]
      refine zo1 28 rfl ?_
      refine xCall 126 49 #[.slice p3A p3N p3C, va3] (by kernel_rfl) ?_
      refine (samedig_any _ _ (mpath tab (H + 1) (ea ++ eb) (kk + 2 ^ H)) (mpath tab H eb kk ++ [mroot tab H ea]) w37 P3.se K4.se).mono ?_
      rintro en w38 ⟨he, hb1⟩
      rw [decide_eq_true hhi] at he
      subst he
      have e21 := belE0 hb1
      have ze21 := e21.size
      replace BL := BL.e0 e21
      replace D := D.e0 e21
      replace D2 := D2.e0 e21
      replace b5 := b5.e0 e21
      replace Ga := Ga.e0 e21
      replace Gb := Gb.e0 e21
      replace Gc := Gc.e0 e21
      replace b14 := b14.e0 e21
      replace b16 := b16.e0 e21
      replace b18 := b18.e0 e21
      replace P1 := P1.e0 e21
      replace b21 := b21.e0 e21
      replace P2 := P2.e0 e21
      replace b23 := b23.e0 e21
      replace P3 := P3.e0 e21
      replace b25 := b25.e0 e21
      replace P4 := P4.e0 e21
      replace b27 := b27.e0 e21
      replace K1 := K1.e0 e21
      replace b113 := b113.e0 e21
      replace K4 := K4.e0 e21
      replace b124 := b124.e0 e21
      clear e21
      refine ⟨.bool true, rfl, ?_⟩
      refine ze 28 ⟨BL, D, D2, b5, Ga, Gb, Gc, b14, b16, b18, P1, b21, P2, b23, P3, b25, P4, b27, by omega⟩ ?_
      simp only [List.set_cons_zero, List.set_cons_succ]
      refine zv 29 127 (.bool true) (fun _ _ => .of) ⟨BL, D, D2, b5, Ga, Gb, Gc, b14, b16, b18, P1, b21, P2, b23, P3, b25, P4, b27, by omega⟩ ?_
      simp only [List.set_cons_zero, List.set_cons_succ]
      refine zv 30 128 (.bool true) (fun _ _ => .of) ⟨BL, D, D2, b5, Ga, Gb, Gc, b14, b16, b18, P1, b21, P2, b23, P3, b25, P4, b27, by omega⟩ ?_
      simp only [List.set_cons_zero, List.set_cons_succ]
      refine zo1 31 rfl ?_
      refine xCall 129 41 #[] (by kernel_rfl) ?_
      refine (awake10 w38).mono ?_
      rintro en w39 ⟨rfl, hb1⟩
      have e22 := belE0 hb1
      have ze22 := e22.size
      replace BL := BL.e0 e22
      replace D := D.e0 e22
      replace D2 := D2.e0 e22
      replace b5 := b5.e0 e22
      replace Ga := Ga.e0 e22
      replace Gb := Gb.e0 e22
      replace Gc := Gc.e0 e22
      replace b14 := b14.e0 e22
      replace b16 := b16.e0 e22
      replace b18 := b18.e0 e22
      replace P1 := P1.e0 e22
      replace b21 := b21.e0 e22
      replace P2 := P2.e0 e22
      replace b23 := b23.e0 e22
      replace P3 := P3.e0 e22
      replace b25 := b25.e0 e22
      replace P4 := P4.e0 e22
      replace b27 := b27.e0 e22
      replace K1 := K1.e0 e22
      replace b113 := b113.e0 e22
      replace K4 := K4.e0 e22
      replace b124 := b124.e0 e22
      clear e22
      refine ⟨.bool true, rfl, ?_⟩
      refine ze 31 ⟨BL, D, D2, b5, Ga, Gb, Gc, b14, b16, b18, P1, b21, P2, b23, P3, b25, P4, b27, by omega⟩ ?_
      simp only [List.set_cons_zero, List.set_cons_succ]
      refine zv 32 130 (.bool true) (fun _ _ => .of) ⟨BL, D, D2, b5, Ga, Gb, Gc, b14, b16, b18, P1, b21, P2, b23, P3, b25, P4, b27, by omega⟩ ?_
      simp only [List.set_cons_zero, List.set_cons_succ]
      refine zv 33 10 (.bool true) (fun _ _ => .of) ⟨BL, D, D2, b5, Ga, Gb, Gc, b14, b16, b18, P1, b21, P2, b23, P3, b25, P4, b27, by omega⟩ ?_
      simp only [List.set_cons_zero, List.set_cons_succ]
      refine zd (by kernel_rfl) ?_ _
      refine hK14 _ _ ?_
      refine wp_ret ?_
      (try simp only [Exit.then, Exit.inBlock])
      refine bodyPost_ret (v := .bool true) rT rfl ?_
      exact ⟨rfl, BL.b⟩
    · skip
      refine xLitE 124 63 37 1 _ rfl .u8 32 (nnd [(mroot tab H ea)]) (by kernel_rfl) Try.underlying63 (by kernel_rfl) (by omega) rfl (by omega) (by omega) (lenC (by (try simp only [nn_len, List.length_cons, List.length_nil, List.length_set, List.length_replicate]); try omega) lenN) ?_
      intro w40 n11 b124
      have zn11 := n11.z
      replace BL := BL.e0 n11.e
      replace D := D.e0 n11.e
      replace D2 := D2.e0 n11.e
      replace b5 := b5.e0 n11.e
      replace Ga := Ga.e0 n11.e
      replace Gb := Gb.e0 n11.e
      replace Gc := Gc.e0 n11.e
      replace b14 := b14.e0 n11.e
      replace b16 := b16.e0 n11.e
      replace b18 := b18.e0 n11.e
      replace P1 := P1.e0 n11.e
      replace b21 := b21.e0 n11.e
      replace P2 := P2.e0 n11.e
      replace b23 := b23.e0 n11.e
      replace P3 := P3.e0 n11.e
      replace b25 := b25.e0 n11.e
      replace P4 := P4.e0 n11.e
      replace b27 := b27.e0 n11.e
      replace K1 := K1.e0 n11.e
      replace b113 := b113.e0 n11.e
      have lb124_2 := b124.ge
      refine ze 26 ⟨BL, D, D2, b5, Ga, Gb, Gc, b14, b16, b18, P1, b21, P2, b23, P3, b25, P4, b27, by omega⟩ ?_
      simp only [List.set_cons_zero, List.set_cons_succ]
      refine zo1 24 rfl ?_
      refine xCall 122 48 #[.slice p4A p4N p4C] (by kernel_rfl) ?_
      refine (copyD_any _ (mpath tab H eb kk) w40 P4.se (by rw [mpath_len]; omega)).mono ?_
      rintro en w41 ⟨r4, rfl, hG, hb1⟩
      have e23 := belE0 hb1
      have ze23 := e23.size
      replace BL := BL.e0 e23
      replace D := D.e0 e23
      replace D2 := D2.e0 e23
      replace b5 := b5.e0 e23
      replace Ga := Ga.e0 e23
      replace Gb := Gb.e0 e23
      replace Gc := Gc.e0 e23
      replace b14 := b14.e0 e23
      replace b16 := b16.e0 e23
      replace b18 := b18.e0 e23
      replace P1 := P1.e0 e23
      replace b21 := b21.e0 e23
      replace P2 := P2.e0 e23
      replace b23 := b23.e0 e23
      replace P3 := P3.e0 e23
      replace b25 := b25.e0 e23
      replace P4 := P4.e0 e23
      replace b27 := b27.e0 e23
      replace K1 := K1.e0 e23
      replace b113 := b113.e0 e23
      replace b124 := b124.e0 e23
      clear e23
      have K4 : OwnE 37 .u8 32 w40.heap.size w41 r4 (nnd (mpath tab H eb kk)) := hG
      have lK4_3 := K4.ge
      refine ⟨r4, rfl, ?_⟩
      refine ze 24 ⟨BL, D, D2, b5, Ga, Gb, Gc, b14, b16, b18, P1, b21, P2, b23, P3, b25, P4, b27, by omega⟩ ?_
      simp only [List.set_cons_zero, List.set_cons_succ]
      refine zo1 27 rfl ?_
      refine unguard (by kernel_rfl) ?_
      refine xAppE 125 (.tmp 122) (.tmp 124) 63 37 .u8 32 32 rfl Try.underlying63 (by kernel_rfl) (by omega) w40.heap.size r4 (nnd (mpath tab H eb kk)) (by kernel_rfl) K4 (.slice (some ⟨w34.heap.size, 0, none⟩) 1 1) (nnd [(mroot tab H ea)]) (by kernel_rfl) b124.se ?va4_1 ?va4_2 ?va4_3 ?_
      case va4_1 => (simp only [nnd_len, mpath_len, List.length_cons, List.length_nil]; omega)
      case va4_2 => (simp only [nnd_len, mpath_len, List.length_cons, List.length_nil]; unfold maxLen; omega)
      case va4_3 => omega
      intro va4 w42 rva4 e24
      have ze24 := e24.size
      have BL_ := BL.ev e24 (fun i h => by have := lK4_3 _ h; omega)
      have D_ := D.ev e24 (fun i hi h => by have := hvl i hi; have := lK4_3 _ h; omega)
      have D2_ := D2.ev e24 (fun i hi h => by have := hvl2 i hi; have := lK4_3 _ h; omega)
      have b5_ := b5.ev e24 (fun h => by have := lK4_3 _ h; omega)
      have Ga_ := Ga.ev e24 (fun i hi h => by have := lGa_1 i hi; have := lK4_3 _ h; omega)
      have Gb_ := Gb.ev e24 (fun i hi h => by have := lGb_1 i hi; have := lK4_3 _ h; omega)
      have Gc_ := Gc.ev e24 (fun i hi h => by have := lGc_2 i hi; have := lK4_3 _ h; omega)
      have b14_ := b14.ev e24 (fun h => by have := lK4_3 _ h; omega)
      have b16_ := b16.ev e24 (fun h => by have := lK4_3 _ h; omega)
      have b18_ := b18.ev e24 (fun h => by have := lK4_3 _ h; omega)
      have P1_ := P1.ev e24 (fun i hi h => by have := lP1_1 i hi; have := lK4_3 _ h; omega)
      have b21_ := b21.ev e24 (fun h => by have := lK4_3 _ h; omega)
      have P2_ := P2.ev e24 (fun i hi h => by have := lP2_1 i hi; have := lK4_3 _ h; omega)
      have b23_ := b23.ev e24 (fun h => by have := lK4_3 _ h; omega)
      have P3_ := P3.ev e24 (fun i hi h => by have := lP3_1 i hi; have := lK4_3 _ h; omega)
      have b25_ := b25.ev e24 (fun h => by have := lK4_3 _ h; omega)
      have P4_ := P4.ev e24 (fun i hi h => by have := lP4_1 i hi; have := lK4_3 _ h; omega)
      have b27_ := b27.ev e24 (fun h => by have := lK4_3 _ h; omega)
      have K1_ := K1.ev e24 (fun i hi h => by have := lK1_2 i hi; have := lK4_3 _ h; omega)
      have b113_ := b113.ev e24 (fun i hi h => by have := lb113_1 i hi; have := lK4_3 _ h; omega)
      have b124_ := b124.ev e24 (fun i hi h => by have := lb124_2 i hi; have := lK4_3 _ h; omega)
      replace BL := BL_; clear BL_
      replace D := D_; clear D_
      replace D2 := D2_; clear D2_
      replace b5 := b5_; clear b5_
      replace Ga := Ga_; clear Ga_
      replace Gb := Gb_; clear Gb_
      replace Gc := Gc_; clear Gc_
      replace b14 := b14_; clear b14_
      replace b16 := b16_; clear b16_
      replace b18 := b18_; clear b18_
      replace P1 := P1_; clear P1_
      replace b21 := b21_; clear b21_
      replace P2 := P2_; clear P2_
      replace b23 := b23_; clear b23_
      replace P3 := P3_; clear P3_
      replace b25 := b25_; clear b25_
      replace P4 := P4_; clear P4_
      replace b27 := b27_; clear b27_
      replace K1 := K1_; clear K1_
      replace b113 := b113_; clear b113_
      replace b124 := b124_; clear b124_
      rw [← nnd_app] at rva4
      replace K4 := rva4
      clear rva4 e24
      have lK4_4 := K4.ge
      refine ze 27 ⟨BL, D, D2, b5, Ga, Gb, Gc, b14, b16, b18, P1, b21, P2, b23, P3, b25, P4, b27, by omega⟩ ?_
      simp only [List.set_cons_zero, List.set_cons_succ]
      refine zo1 28 rfl ?_
      refine xCall 126 49 #[.slice p3A p3N p3C, va4] (by kernel_rfl) ?_
      refine (samedig_any _ _ (mpath tab (H + 1) (ea ++ eb) (kk + 2 ^ H)) (mpath tab H eb kk ++ [mroot tab H ea]) w42 P3.se K4.se).mono ?_
      rintro en w43 ⟨he, hb1⟩
      rw [decide_eq_true hhi] at he
      subst he
      have e25 := belE0 hb1
      have ze25 := e25.size
      replace BL := BL.e0 e25
      replace D := D.e0 e25
      replace D2 := D2.e0 e25
      replace b5 := b5.e0 e25
      replace Ga := Ga.e0 e25
      replace Gb := Gb.e0 e25
      replace Gc := Gc.e0 e25
      replace b14 := b14.e0 e25
      replace b16 := b16.e0 e25
      replace b18 := b18.e0 e25
      replace P1 := P1.e0 e25
      replace b21 := b21.e0 e25
      replace P2 := P2.e0 e25
      replace b23 := b23.e0 e25
      replace P3 := P3.e0 e25
      replace b25 := b25.e0 e25
      replace P4 := P4.e0 e25
      replace b27 := b27.e0 e25
      replace K1 := K1.e0 e25
      replace b113 := b113.e0 e25
      replace b124 := b124.e0 e25
      replace K4 := K4.e0 e25
      clear e25
      refine ⟨.bool true, rfl, ?_⟩
      refine ze 28 ⟨BL, D, D2, b5, Ga, Gb, Gc, b14, b16, b18, P1, b21, P2, b23, P3, b25, P4, b27, by omega⟩ ?_
      simp only [List.set_cons_zero, List.set_cons_succ]
      refine zv 29 127 (.bool true) (fun _ _ => .of) ⟨BL, D, D2, b5, Ga, Gb, Gc, b14, b16, b18, P1, b21, P2, b23, P3, b25, P4, b27, by omega⟩ ?_
      simp only [List.set_cons_zero, List.set_cons_succ]
      refine zv 30 128 (.bool true) (fun _ _ => .of) ⟨BL, D, D2, b5, Ga, Gb, Gc, b14, b16, b18, P1, b21, P2, b23, P3, b25, P4, b27, by omega⟩ ?_
      simp only [List.set_cons_zero, List.set_cons_succ]
      refine zo1 31 rfl ?_
      refine xCall 129 41 #[] (by kernel_rfl) ?_
      refine (awake10 w43).mono ?_
      rintro en w44 ⟨rfl, hb1⟩
      have e26 := belE0 hb1
      have ze26 := e26.size
      replace BL := BL.e0 e26
      replace D := D.e0 e26
      replace D2 := D2.e0 e26
      replace b5 := b5.e0 e26
      replace Ga := Ga.e0 e26
      replace Gb := Gb.e0 e26
      replace Gc := Gc.e0 e26
      replace b14 := b14.e0 e26
      replace b16 := b16.e0 e26
      replace b18 := b18.e0 e26
      replace P1 := P1.e0 e26
      replace b21 := b21.e0 e26
      replace P2 := P2.e0 e26
      replace b23 := b23.e0 e26
      replace P3 := P3.e0 e26
      replace b25 := b25.e0 e26
      replace P4 := P4.e0 e26
      replace b27 := b27.e0 e26
      replace K1 := K1.e0 e26
      replace b113 := b113.e0 e26
      replace b124 := b124.e0 e26
      replace K4 := K4.e0 e26
      clear e26
      refine ⟨.bool true, rfl, ?_⟩
      refine ze 31 ⟨BL, D, D2, b5, Ga, Gb, Gc, b14, b16, b18, P1, b21, P2, b23, P3, b25, P4, b27, by omega⟩ ?_
      simp only [List.set_cons_zero, List.set_cons_succ]
      refine zv 32 130 (.bool true) (fun _ _ => .of) ⟨BL, D, D2, b5, Ga, Gb, Gc, b14, b16, b18, P1, b21, P2, b23, P3, b25, P4, b27, by omega⟩ ?_
      simp only [List.set_cons_zero, List.set_cons_succ]
      refine zv 33 10 (.bool true) (fun _ _ => .of) ⟨BL, D, D2, b5, Ga, Gb, Gc, b14, b16, b18, P1, b21, P2, b23, P3, b25, P4, b27, by omega⟩ ?_
      simp only [List.set_cons_zero, List.set_cons_succ]
      refine zd (by kernel_rfl) ?_ _
      refine hK14 _ _ ?_
      refine wp_ret ?_
      (try simp only [Exit.then, Exit.inBlock])
      refine bodyPost_ret (v := .bool true) rT rfl ?_
      exact ⟨rfl, BL.b⟩
  · skip
    refine xLitE 113 63 37 1 _ rfl .u8 32 (nnd [(mroot tab H eb)]) (by kernel_rfl) Try.underlying63 (by kernel_rfl) (by omega) rfl (by omega) (by omega) (lenC (by (try simp only [nn_len, List.length_cons, List.length_nil, List.length_set, List.length_replicate]); try omega) lenN) ?_
    intro w45 n12 b113
    have zn12 := n12.z
    replace BL := BL.e0 n12.e
    replace D := D.e0 n12.e
    replace D2 := D2.e0 n12.e
    replace b5 := b5.e0 n12.e
    replace Ga := Ga.e0 n12.e
    replace Gb := Gb.e0 n12.e
    replace Gc := Gc.e0 n12.e
    replace b14 := b14.e0 n12.e
    replace b16 := b16.e0 n12.e
    replace b18 := b18.e0 n12.e
    replace P1 := P1.e0 n12.e
    replace b21 := b21.e0 n12.e
    replace P2 := P2.e0 n12.e
    replace b23 := b23.e0 n12.e
    replace P3 := P3.e0 n12.e
    replace b25 := b25.e0 n12.e
    replace P4 := P4.e0 n12.e
    replace b27 := b27.e0 n12.e
    have lb113_2 := b113.ge
    refine ze 15 ⟨BL, D, D2, b5, Ga, Gb, Gc, b14, b16, b18, P1, b21, P2, b23, P3, b25, P4, b27, by omega⟩ ?_
    simp only [List.set_cons_zero, List.set_cons_succ]
    refine zo1 13 rfl ?_
    refine xCall 111 48 #[.slice p1A p1N p1C] (by kernel_rfl) ?_
    refine (copyD_any _ (mpath tab H ea kk) w45 P1.se (by rw [mpath_len]; omega)).mono ?_
    rintro en w46 ⟨r1, rfl, hG, hb1⟩
    have e27 := belE0 hb1
    have ze27 := e27.size
    replace BL := BL.e0 e27
    replace D := D.e0 e27
    replace D2 := D2.e0 e27
    replace b5 := b5.e0 e27
    replace Ga := Ga.e0 e27
    replace Gb := Gb.e0 e27
    replace Gc := Gc.e0 e27
    replace b14 := b14.e0 e27
    replace b16 := b16.e0 e27
    replace b18 := b18.e0 e27
    replace P1 := P1.e0 e27
    replace b21 := b21.e0 e27
    replace P2 := P2.e0 e27
    replace b23 := b23.e0 e27
    replace P3 := P3.e0 e27
    replace b25 := b25.e0 e27
    replace P4 := P4.e0 e27
    replace b27 := b27.e0 e27
    replace b113 := b113.e0 e27
    clear e27
    have K1 : OwnE 37 .u8 32 w45.heap.size w46 r1 (nnd (mpath tab H ea kk)) := hG
    have lK1_3 := K1.ge
    refine ⟨r1, rfl, ?_⟩
    refine ze 13 ⟨BL, D, D2, b5, Ga, Gb, Gc, b14, b16, b18, P1, b21, P2, b23, P3, b25, P4, b27, by omega⟩ ?_
    simp only [List.set_cons_zero, List.set_cons_succ]
    refine zo1 16 rfl ?_
    refine unguard (by kernel_rfl) ?_
    refine xAppE 114 (.tmp 111) (.tmp 113) 63 37 .u8 32 32 rfl Try.underlying63 (by kernel_rfl) (by omega) w45.heap.size r1 (nnd (mpath tab H ea kk)) (by kernel_rfl) K1 (.slice (some ⟨w30.heap.size, 0, none⟩) 1 1) (nnd [(mroot tab H eb)]) (by kernel_rfl) b113.se ?va5_1 ?va5_2 ?va5_3 ?_
    case va5_1 => (simp only [nnd_len, mpath_len, List.length_cons, List.length_nil]; omega)
    case va5_2 => (simp only [nnd_len, mpath_len, List.length_cons, List.length_nil]; unfold maxLen; omega)
    case va5_3 => omega
    intro va5 w47 rva5 e28
    have ze28 := e28.size
    have BL_ := BL.ev e28 (fun i h => by have := lK1_3 _ h; omega)
    have D_ := D.ev e28 (fun i hi h => by have := hvl i hi; have := lK1_3 _ h; omega)
    have D2_ := D2.ev e28 (fun i hi h => by have := hvl2 i hi; have := lK1_3 _ h; omega)
    have b5_ := b5.ev e28 (fun h => by have := lK1_3 _ h; omega)
    have Ga_ := Ga.ev e28 (fun i hi h => by have := lGa_1 i hi; have := lK1_3 _ h; omega)
    have Gb_ := Gb.ev e28 (fun i hi h => by have := lGb_1 i hi; have := lK1_3 _ h; omega)
    have Gc_ := Gc.ev e28 (fun i hi h => by have := lGc_2 i hi; have := lK1_3 _ h; omega)
    have b14_ := b14.ev e28 (fun h => by have := lK1_3 _ h; omega)
    have b16_ := b16.ev e28 (fun h => by have := lK1_3 _ h; omega)
    have b18_ := b18.ev e28 (fun h => by have := lK1_3 _ h; omega)
    have P1_ := P1.ev e28 (fun i hi h => by have := lP1_1 i hi; have := lK1_3 _ h; omega)
    have b21_ := b21.ev e28 (fun h => by have := lK1_3 _ h; omega)
    have P2_ := P2.ev e28 (fun i hi h => by have := lP2_1 i hi; have := lK1_3 _ h; omega)
    have b23_ := b23.ev e28 (fun h => by have := lK1_3 _ h; omega)
    have P3_ := P3.ev e28 (fun i hi h => by have := lP3_1 i hi; have := lK1_3 _ h; omega)
    have b25_ := b25.ev e28 (fun h => by have := lK1_3 _ h; omega)
    have P4_ := P4.ev e28 (fun i hi h => by have := lP4_1 i hi; have := lK1_3 _ h; omega)
    have b27_ := b27.ev e28 (fun h => by have := lK1_3 _ h; omega)
    have b113_ := b113.ev e28 (fun i hi h => by have := lb113_2 i hi; have := lK1_3 _ h; omega)
    replace BL := BL_; clear BL_
    replace D := D_; clear D_
    replace D2 := D2_; clear D2_
    replace b5 := b5_; clear b5_
    replace Ga := Ga_; clear Ga_
    replace Gb := Gb_; clear Gb_
    replace Gc := Gc_; clear Gc_
    replace b14 := b14_; clear b14_
    replace b16 := b16_; clear b16_
    replace b18 := b18_; clear b18_
    replace P1 := P1_; clear P1_
    replace b21 := b21_; clear b21_
    replace P2 := P2_; clear P2_
    replace b23 := b23_; clear b23_
    replace P3 := P3_; clear P3_
    replace b25 := b25_; clear b25_
    replace P4 := P4_; clear P4_
    replace b27 := b27_; clear b27_
    replace b113 := b113_; clear b113_
    rw [← nnd_app] at rva5
    replace K1 := rva5
    clear rva5 e28
    have lK1_4 := K1.ge
    refine ze 16 ⟨BL, D, D2, b5, Ga, Gb, Gc, b14, b16, b18, P1, b21, P2, b23, P3, b25, P4, b27, by omega⟩ ?_
    simp only [List.set_cons_zero, List.set_cons_succ]
    refine zo1 17 rfl ?_
    refine xCall 115 49 #[.slice p2A p2N p2C, va5] (by kernel_rfl) ?_
    refine (samedig_any _ _ (mpath tab (H + 1) (ea ++ eb) kk) (mpath tab H ea kk ++ [mroot tab H eb]) w47 P2.se K1.se).mono ?_
    rintro en w48 ⟨he, hb1⟩
    rw [decide_eq_true hlo] at he
    subst he
    have e29 := belE0 hb1
    have ze29 := e29.size
    replace BL := BL.e0 e29
    replace D := D.e0 e29
    replace D2 := D2.e0 e29
    replace b5 := b5.e0 e29
    replace Ga := Ga.e0 e29
    replace Gb := Gb.e0 e29
    replace Gc := Gc.e0 e29
    replace b14 := b14.e0 e29
    replace b16 := b16.e0 e29
    replace b18 := b18.e0 e29
    replace P1 := P1.e0 e29
    replace b21 := b21.e0 e29
    replace P2 := P2.e0 e29
    replace b23 := b23.e0 e29
    replace P3 := P3.e0 e29
    replace b25 := b25.e0 e29
    replace P4 := P4.e0 e29
    replace b27 := b27.e0 e29
    replace b113 := b113.e0 e29
    replace K1 := K1.e0 e29
    clear e29
    refine ⟨.bool true, rfl, ?_⟩
    refine ze 17 ⟨BL, D, D2, b5, Ga, Gb, Gc, b14, b16, b18, P1, b21, P2, b23, P3, b25, P4, b27, by omega⟩ ?_
    simp only [List.set_cons_zero, List.set_cons_succ]
    refine zv 18 116 (.bool true) (fun _ _ => .of) ⟨BL, D, D2, b5, Ga, Gb, Gc, b14, b16, b18, P1, b21, P2, b23, P3, b25, P4, b27, by omega⟩ ?_
    simp only [List.set_cons_zero, List.set_cons_succ]
    refine zv 19 117 (.bool true) (fun _ _ => .of) ⟨BL, D, D2, b5, Ga, Gb, Gc, b14, b16, b18, P1, b21, P2, b23, P3, b25, P4, b27, by omega⟩ ?_
    simp only [List.set_cons_zero, List.set_cons_succ]
    refine zv 20 118 (.pointer (some ⟨w24.heap.size, 1, none⟩)) (fun _ _ => .of) ⟨BL, D, D2, b5, Ga, Gb, Gc, b14, b16, b18, P1, b21, P2, b23, P3, b25, P4, b27, by omega⟩ ?_
    simp only [List.set_cons_zero, List.set_cons_succ]
    refine zv 21 119 (.slice p3A p3N p3C) (fun _ ⟨BL, D, D2, b5, Ga, Gb, Gc, b14, b16, b18, P1, b21, P2, b23, P3, b25, P4, b27, z2⟩ => Val.cel1 63 _ rfl w24.heap.size 1 _ (by kernel_rfl) (fun _ => (by kernel_rfl)) b25 rfl) ⟨BL, D, D2, b5, Ga, Gb, Gc, b14, b16, b18, P1, b21, P2, b23, P3, b25, P4, b27, by omega⟩ ?_
    simp only [List.set_cons_zero, List.set_cons_succ]
    refine zv 22 120 (.pointer (some ⟨w27.heap.size, 1, none⟩)) (fun _ _ => .of) ⟨BL, D, D2, b5, Ga, Gb, Gc, b14, b16, b18, P1, b21, P2, b23, P3, b25, P4, b27, by omega⟩ ?_
    simp only [List.set_cons_zero, List.set_cons_succ]
    refine zv 23 121 (.slice p4A p4N p4C) (fun _ ⟨BL, D, D2, b5, Ga, Gb, Gc, b14, b16, b18, P1, b21, P2, b23, P3, b25, P4, b27, z2⟩ => Val.cel1 63 _ rfl w27.heap.size 1 _ (by kernel_rfl) (fun _ => (by kernel_rfl)) b27 rfl) ⟨BL, D, D2, b5, Ga, Gb, Gc, b14, b16, b18, P1, b21, P2, b23, P3, b25, P4, b27, by omega⟩ ?_
    simp only [List.set_cons_zero, List.set_cons_succ]
    refine zv 25 123 (.agg (cellsOf .u8 (nn (mroot tab H ea)))) (fun _ ⟨BL, D, D2, b5, Ga, Gb, Gc, b14, b16, b18, P1, b21, P2, b23, P3, b25, P4, b27, z2⟩ => Val.blk 37 _ rfl 0 32 (by kernel_rfl) b14 _ Try.underlying37 rfl (by kernel_rfl) (by (try simp only [nn_len, List.length_cons, List.length_nil, List.length_set, List.length_replicate]); try omega) _ (seg_all' _ (by (try simp only [nn_len, List.length_cons, List.length_nil, List.length_set, List.length_replicate]); try omega))) ⟨BL, D, D2, b5, Ga, Gb, Gc, b14, b16, b18, P1, b21, P2, b23, P3, b25, P4, b27, by omega⟩ ?_
    simp only [List.set_cons_zero, List.set_cons_succ]
    refine zo2 24 26 rfl rfl ?_ ?_
    · skip
      refine xCall 122 48 #[.slice p4A p4N p4C] (by kernel_rfl) ?_
      refine (copyD_any _ (mpath tab H eb kk) w48 P4.se (by rw [mpath_len]; omega)).mono ?_
      rintro en w49 ⟨r4, rfl, hG, hb1⟩
      have e30 := belE0 hb1
      have ze30 := e30.size
      replace BL := BL.e0 e30
      replace D := D.e0 e30
      replace D2 := D2.e0 e30
      replace b5 := b5.e0 e30
      replace Ga := Ga.e0 e30
      replace Gb := Gb.e0 e30
      replace Gc := Gc.e0 e30
      replace b14 := b14.e0 e30
      replace b16 := b16.e0 e30
      replace b18 := b18.e0 e30
      replace P1 := P1.e0 e30
      replace b21 := b21.e0 e30
      replace P2 := P2.e0 e30
      replace b23 := b23.e0 e30
      replace P3 := P3.e0 e30
      replace b25 := b25.e0 e30
      replace P4 := P4.e0 e30
      replace b27 := b27.e0 e30
      replace b113 := b113.e0 e30
      replace K1 := K1.e0 e30
      clear e30
      have K4 : OwnE 37 .u8 32 w48.heap.size w49 r4 (nnd (mpath tab H eb kk)) := hG
      have lK4_5 := K4.ge
      refine ⟨r4, rfl, ?_⟩
      refine ze 24 ⟨BL, D, D2, b5, Ga, Gb, Gc, b14, b16, b18, P1, b21, P2, b23, P3, b25, P4, b27, by omega⟩ ?_
      simp only [List.set_cons_zero, List.set_cons_succ]
      refine zo1 26 rfl ?_
      refine xLitE 124 63 37 1 _ rfl .u8 32 (nnd [(mroot tab H ea)]) (by kernel_rfl) Try.underlying63 (by kernel_rfl) (by omega) rfl (by omega) (by omega) (lenC (by (try simp only [nn_len, List.length_cons, List.length_nil, List.length_set, List.length_replicate]); try omega) lenN) ?_
      intro w50 n13 b124
      have zn13 := n13.z
      replace BL := BL.e0 n13.e
      replace D := D.e0 n13.e
      replace D2 := D2.e0 n13.e
      replace b5 := b5.e0 n13.e
      replace Ga := Ga.e0 n13.e
      replace Gb := Gb.e0 n13.e
      replace Gc := Gc.e0 n13.e
      replace b14 := b14.e0 n13.e
      replace b16 := b16.e0 n13.e
      replace b18 := b18.e0 n13.e
      replace P1 := P1.e0 n13.e
      replace b21 := b21.e0 n13.e
      replace P2 := P2.e0 n13.e
      replace b23 := b23.e0 n13.e
      replace P3 := P3.e0 n13.e
      replace b25 := b25.e0 n13.e
      replace P4 := P4.e0 n13.e
      replace b27 := b27.e0 n13.e
      replace b113 := b113.e0 n13.e
      replace K1 := K1.e0 n13.e
      replace K4 := K4.e0 n13.e
      have lb124_3 := b124.ge
      refine ze 26 ⟨BL, D, D2, b5, Ga, Gb, Gc, b14, b16, b18, P1, b21, P2, b23, P3, b25, P4, b27, by omega⟩ ?_
      simp only [List.set_cons_zero, List.set_cons_succ]
      refine zo1 27 rfl ?_
      refine unguard (by kernel_rfl) ?_
      refine xAppE 125 (.tmp 122) (.tmp 124) 63 37 .u8 32 32 rfl Try.underlying63 (by kernel_rfl) (by omega) w48.heap.size r4 (nnd (mpath tab H eb kk)) (by kernel_rfl) K4 (.slice (some ⟨w49.heap.size, 0, none⟩) 1 1) (nnd [(mroot tab H ea)]) (by kernel_rfl) b124.se ?va6_1 ?va6_2 ?va6_3 ?_
      case va6_1 => (simp only [nnd_len, mpath_len, List.length_cons, List.length_nil]; omega)
      case va6_2 => (simp only [nnd_len, mpath_len, List.length_cons, List.length_nil]; unfold maxLen; omega)
      case va6_3 => omega
      intro va6 w51 rva6 e31
      have ze31 := e31.size
      have BL_ := BL.ev e31 (fun i h => by have := lK4_5 _ h; omega)
      have D_ := D.ev e31 (fun i hi h => by have := hvl i hi; have := lK4_5 _ h; omega)
      have D2_ := D2.ev e31 (fun i hi h => by have := hvl2 i hi; have := lK4_5 _ h; omega)
      have b5_ := b5.ev e31 (fun h => by have := lK4_5 _ h; omega)
      have Ga_ := Ga.ev e31 (fun i hi h => by have := lGa_1 i hi; have := lK4_5 _ h; omega)
      have Gb_ := Gb.ev e31 (fun i hi h => by have := lGb_1 i hi; have := lK4_5 _ h; omega)
      have Gc_ := Gc.ev e31 (fun i hi h => by have := lGc_2 i hi; have := lK4_5 _ h; omega)
      have b14_ := b14.ev e31 (fun h => by have := lK4_5 _ h; omega)
      have b16_ := b16.ev e31 (fun h => by have := lK4_5 _ h; omega)
      have b18_ := b18.ev e31 (fun h => by have := lK4_5 _ h; omega)
      have P1_ := P1.ev e31 (fun i hi h => by have := lP1_1 i hi; have := lK4_5 _ h; omega)
      have b21_ := b21.ev e31 (fun h => by have := lK4_5 _ h; omega)
      have P2_ := P2.ev e31 (fun i hi h => by have := lP2_1 i hi; have := lK4_5 _ h; omega)
      have b23_ := b23.ev e31 (fun h => by have := lK4_5 _ h; omega)
      have P3_ := P3.ev e31 (fun i hi h => by have := lP3_1 i hi; have := lK4_5 _ h; omega)
      have b25_ := b25.ev e31 (fun h => by have := lK4_5 _ h; omega)
      have P4_ := P4.ev e31 (fun i hi h => by have := lP4_1 i hi; have := lK4_5 _ h; omega)
      have b27_ := b27.ev e31 (fun h => by have := lK4_5 _ h; omega)
      have b113_ := b113.ev e31 (fun i hi h => by have := lb113_2 i hi; have := lK4_5 _ h; omega)
      have K1_ := K1.ev e31 (fun i hi h => by have := lK1_4 i hi; have := lK4_5 _ h; omega)
      have b124_ := b124.ev e31 (fun i hi h => by have := lb124_3 i hi; have := lK4_5 _ h; omega)
      replace BL := BL_; clear BL_
      replace D := D_; clear D_
      replace D2 := D2_; clear D2_
      replace b5 := b5_; clear b5_
      replace Ga := Ga_; clear Ga_
      replace Gb := Gb_; clear Gb_
      replace Gc := Gc_; clear Gc_
      replace b14 := b14_; clear b14_
      replace b16 := b16_; clear b16_
      replace b18 := b18_; clear b18_
      replace P1 := P1_; clear P1_
      replace b21 := b21_; clear b21_
      replace P2 := P2_; clear P2_
      replace b23 := b23_; clear b23_
      replace P3 := P3_; clear P3_
      replace b25 := b25_; clear b25_
      replace P4 := P4_; clear P4_
      replace b27 := b27_; clear b27_
      replace b113 := b113_; clear b113_
      replace K1 := K1_; clear K1_
      replace b124 := b124_; clear b124_
      rw [← nnd_app] at rva6
      replace K4 := rva6
      clear rva6 e31
      have lK4_6 := K4.ge
      refine ze 27 ⟨BL, D, D2, b5, Ga, Gb, Gc, b14, b16, b18, P1, b21, P2, b23, P3, b25, P4, b27, by omega⟩ ?_
      simp only [List.set_cons_zero, List.set_cons_succ]
      refine zo1 28 rfl ?_
      refine xCall 126 49 #[.slice p3A p3N p3C, va6] (by kernel_rfl) ?_
      refine (samedig_any _ _ (mpath tab (H + 1) (ea ++ eb) (kk + 2 ^ H)) (mpath tab H eb kk ++ [mroot tab H ea]) w51 P3.se K4.se).mono ?_
      rintro en w52 ⟨he, hb1⟩
      rw [decide_eq_true hhi] at he
      subst he
      have e32 := belE0 hb1
      have ze32 := e32.size
      replace BL := BL.e0 e32
      replace D := D.e0 e32
      replace D2 := D2.e0 e32
      replace b5 := b5.e0 e32
      replace Ga := Ga.e0 e32
      replace Gb := Gb.e0 e32
      replace Gc := Gc.e0 e32
      replace b14 := b14.e0 e32
      replace b16 := b16.e0 e32
      replace b18 := b18.e0 e32
      replace P1 := P1.e0 e32
      replace b21 := b21.e0 e32
      replace P2 := P2.e0 e32
      replace b23 := b23.e0 e32
      replace P3 := P3.e0 e32
      replace b25 := b25.e0 e32
      replace P4 := P4.e0 e32
      replace b27 := b27.e0 e32
      replace b113 := b113.e0 e32
      replace K1 := K1.e0 e32
      replace K4 := K4.e0 e32
      replace b124 := b124.e0 e32
      clear e32
      refine ⟨.bool true, rfl, ?_⟩
      refine ze 28 ⟨BL, D, D2, b5, Ga, Gb, Gc, b14, b16, b18, P1, b21, P2, b23, P3, b25, P4, b27, by omega⟩ ?_
      simp only [List.set_cons_zero, List.set_cons_succ]
      refine zv 29 127 (.bool true) (fun _ _ => .of) ⟨BL, D, D2, b5, Ga, Gb, Gc, b14, b16, b18, P1, b21, P2, b23, P3, b25, P4, b27, by omega⟩ ?_
      simp only [List.set_cons_zero, List.set_cons_succ]
      refine zv 30 128 (.bool true) (fun _ _ => .of) ⟨BL, D, D2, b5, Ga, Gb, Gc, b14, b16, b18, P1, b21, P2, b23, P3, b25, P4, b27, by omega⟩ ?_
      simp only [List.set_cons_zero, List.set_cons_succ]
      refine zo1 31 rfl ?_
      refine xCall 129 41 #[] (by kernel_rfl) ?_
      refine (awake10 w52).mono ?_
      rintro en w53 ⟨rfl, hb1⟩
      have e33 := belE0 hb1
      have ze33 := e33.size
      replace BL := BL.e0 e33
      replace D := D.e0 e33
      replace D2 := D2.e0 e33
      replace b5 := b5.e0 e33
      replace Ga := Ga.e0 e33
      replace Gb := Gb.e0 e33
      replace Gc := Gc.e0 e33
      replace b14 := b14.e0 e33
      replace b16 := b16.e0 e33
      replace b18 := b18.e0 e33
      replace P1 := P1.e0 e33
      replace b21 := b21.e0 e33
      replace P2 := P2.e0 e33
      replace b23 := b23.e0 e33
      replace P3 := P3.e0 e33
      replace b25 := b25.e0 e33
      replace P4 := P4.e0 e33
      replace b27 := b27.e0 e33
      replace b113 := b113.e0 e33
      replace K1 := K1.e0 e33
      replace K4 := K4.e0 e33
      replace b124 := b124.e0 e33
      clear e33
      refine ⟨.bool true, rfl, ?_⟩
      refine ze 31 ⟨BL, D, D2, b5, Ga, Gb, Gc, b14, b16, b18, P1, b21, P2, b23, P3, b25, P4, b27, by omega⟩ ?_
      simp only [List.set_cons_zero, List.set_cons_succ]
      refine zv 32 130 (.bool true) (fun _ _ => .of) ⟨BL, D, D2, b5, Ga, Gb, Gc, b14, b16, b18, P1, b21, P2, b23, P3, b25, P4, b27, by omega⟩ ?_
      simp only [List.set_cons_zero, List.set_cons_succ]
      refine zv 33 10 (.bool true) (fun _ _ => .of) ⟨BL, D, D2, b5, Ga, Gb, Gc, b14, b16, b18, P1, b21, P2, b23, P3, b25, P4, b27, by omega⟩ ?_
      simp only [List.set_cons_zero, List.set_cons_succ]
      refine zd (by kernel_rfl) ?_ _
      refine hK14 _ _ ?_
      refine wp_ret ?_
      (try simp only [Exit.then, Exit.inBlock])
      refine bodyPost_ret (v := .bool true) rT rfl ?_
      exact ⟨rfl, BL.b⟩
    · skip
      refine xLitE 124 63 37 1 _ rfl .u8 32 (nnd [(mroot tab H ea)]) (by kernel_rfl) Try.underlying63 (by kernel_rfl) (by omega) rfl (by omega) (by omega) (lenC (by (try simp only [nn_len, List.length_cons, List.length_nil, List.length_set, List.length_replicate]); try omega) lenN) ?_
      intro w54 n14 b124
      have zn14 := n14.z
      replace BL := BL.e0 n14.e
      replace D := D.e0 n14.e
      replace D2 := D2.e0 n14.e
      replace b5 := b5.e0 n14.e
      replace Ga := Ga.e0 n14.e
      replace Gb := Gb.e0 n14.e
      replace Gc := Gc.e0 n14.e
      replace b14 := b14.e0 n14.e
      replace b16 := b16.e0 n14.e
      replace b18 := b18.e0 n14.e
      replace P1 := P1.e0 n14.e
      replace b21 := b21.e0 n14.e
      replace P2 := P2.e0 n14.e
      replace b23 := b23.e0 n14.e
      replace P3 := P3.e0 n14.e
      replace b25 := b25.e0 n14.e
      replace P4 := P4.e0 n14.e
      replace b27 := b27.e0 n14.e
      replace b113 := b113.e0 n14.e
      replace K1 := K1.e0 n14.e
      have lb124_4 := b124.ge
      refine ze 26 ⟨BL, D, D2, b5, Ga, Gb, Gc, b14, b16, b18, P1, b21, P2, b23, P3, b25, P4, b27, by omega⟩ ?_
      simp only [List.set_cons_zero, List.set_cons_succ]
      refine zo1 24 rfl ?_
      refine xCall 122 48 #[.slice p4A p4N p4C] (by kernel_rfl) ?_
      refine (copyD_any _ (mpath tab H eb kk) w54 P4.se (by rw [mpath_len]; omega)).mono ?_
      rintro en w55 ⟨r4, rfl, hG, hb1⟩
      have e34 := belE0 hb1
      have ze34 := e34.size
      replace BL := BL.e0 e34
      replace D := D.e0 e34
      replace D2 := D2.e0 e34
      replace b5 := b5.e0 e34
      replace Ga := Ga.e0 e34
      replace Gb := Gb.e0 e34
      replace Gc := Gc.e0 e34
      replace b14 := b14.e0 e34
      replace b16 := b16.e0 e34
      replace b18 := b18.e0 e34
      replace P1 := P1.e0 e34
      replace b21 := b21.e0 e34
      replace P2 := P2.e0 e34
      replace b23 := b23.e0 e34
      replace P3 := P3.e0 e34
      replace b25 := b25.e0 e34
      replace P4 := P4.e0 e34
      replace b27 := b27.e0 e34
      replace b113 := b113.e0 e34
      replace K1 := K1.e0 e34
      replace b124 := b124.e0 e34
      clear e34
      have K4 : OwnE 37 .u8 32 w54.heap.size w55 r4 (nnd (mpath tab H eb kk)) := hG
      have lK4_7 := K4.ge
      refine ⟨r4, rfl, ?_⟩
      refine ze 24 ⟨BL, D, D2, b5, Ga, Gb, Gc, b14, b16, b18, P1, b21, P2, b23, P3, b25, P4, b27, by omega⟩ ?_
      simp only [List.set_cons_zero, List.set_cons_succ]
      refine zo1 27 rfl ?_
      refine unguard (by kernel_rfl) ?_
      refine xAppE 125 (.tmp 122) (.tmp 124) 63 37 .u8 32 32 rfl Try.underlying63 (by kernel_rfl) (by omega) w54.heap.size r4 (nnd (mpath tab H eb kk)) (by kernel_rfl) K4 (.slice (some ⟨w48.heap.size, 0, none⟩) 1 1) (nnd [(mroot tab H ea)]) (by kernel_rfl) b124.se ?va7_1 ?va7_2 ?va7_3 ?_
      case va7_1 => (simp only [nnd_len, mpath_len, List.length_cons, List.length_nil]; omega)
      case va7_2 => (simp only [nnd_len, mpath_len, List.length_cons, List.length_nil]; unfold maxLen; omega)
      case va7_3 => omega
      intro va7 w56 rva7 e35
      have ze35 := e35.size
      have BL_ := BL.ev e35 (fun i h => by have := lK4_7 _ h; omega)
      have D_ := D.ev e35 (fun i hi h => by have := hvl i hi; have := lK4_7 _ h; omega)
      have D2_ := D2.ev e35 (fun i hi h => by have := hvl2 i hi; have := lK4_7 _ h; omega)
      have b5_ := b5.ev e35 (fun h => by have := lK4_7 _ h; omega)
      have Ga_ := Ga.ev e35 (fun i hi h => by have := lGa_1 i hi; have := lK4_7 _ h; omega)
      have Gb_ := Gb.ev e35 (fun i hi h => by have := lGb_1 i hi; have := lK4_7 _ h; omega)
      have Gc_ := Gc.ev e35 (fun i hi h => by have := lGc_2 i hi; have := lK4_7 _ h; omega)
      have b14_ := b14.ev e35 (fun h => by have := lK4_7 _ h; omega)
      have b16_ := b16.ev e35 (fun h => by have := lK4_7 _ h; omega)
      have b18_ := b18.ev e35 (fun h => by have := lK4_7 _ h; omega)
      have P1_ := P1.ev e35 (fun i hi h => by have := lP1_1 i hi; have := lK4_7 _ h; omega)
      have b21_ := b21.ev e35 (fun h => by have := lK4_7 _ h; omega)
      have P2_ := P2.ev e35 (fun i hi h => by have := lP2_1 i hi; have := lK4_7 _ h; omega)
      have b23_ := b23.ev e35 (fun h => by have := lK4_7 _ h; omega)
      have P3_ := P3.ev e35 (fun i hi h => by have := lP3_1 i hi; have := lK4_7 _ h; omega)
      have b25_ := b25.ev e35 (fun h => by have := lK4_7 _ h; omega)
      have P4_ := P4.ev e35 (fun i hi h => by have := lP4_1 i hi; have := lK4_7 _ h; omega)
      have b27_ := b27.ev e35 (fun h => by have := lK4_7 _ h; omega)
      have b113_ := b113.ev e35 (fun i hi h => by have := lb113_2 i hi; have := lK4_7 _ h; omega)
      have K1_ := K1.ev e35 (fun i hi h => by have := lK1_4 i hi; have := lK4_7 _ h; omega)
      have b124_ := b124.ev e35 (fun i hi h => by have := lb124_4 i hi; have := lK4_7 _ h; omega)
      replace BL := BL_; clear BL_
      replace D := D_; clear D_
      replace D2 := D2_; clear D2_
      replace b5 := b5_; clear b5_
      replace Ga := Ga_; clear Ga_
      replace Gb := Gb_; clear Gb_
      replace Gc := Gc_; clear Gc_
      replace b14 := b14_; clear b14_
      replace b16 := b16_; clear b16_
      replace b18 := b18_; clear b18_
      replace P1 := P1_; clear P1_
      replace b21 := b21_; clear b21_
      replace P2 := P2_; clear P2_
      replace b23 := b23_; clear b23_
      replace P3 := P3_; clear P3_
      replace b25 := b25_; clear b25_
      replace P4 := P4_; clear P4_
      replace b27 := b27_; clear b27_
      replace b113 := b113_; clear b113_
      replace K1 := K1_; clear K1_
      replace b124 := b124_; clear b124_
      rw [← nnd_app] at rva7
      replace K4 := rva7
      clear rva7 e35
      have lK4_8 := K4.ge
      refine ze 27 ⟨BL, D, D2, b5, Ga, Gb, Gc, b14, b16, b18, P1, b21, P2, b23, P3, b25, P4, b27, by omega⟩ ?_
      simp only [List.set_cons_zero, List.set_cons_succ]
      refine zo1 28 rfl ?_
      refine xCall 126 49 #[.slice p3A p3N p3C, va7] (by kernel_rfl) ?_
      refine (samedig_any _ _ (mpath tab (H + 1) (ea ++ eb) (kk + 2 ^ H)) (mpath tab H eb kk ++ [mroot tab H ea]) w56 P3.se K4.se).mono ?_
      rintro en w57 ⟨he, hb1⟩
      rw [decide_eq_true hhi] at he
      subst he
      have e36 := belE0 hb1
      have ze36 := e36.size
      replace BL := BL.e0 e36
      replace D := D.e0 e36
      replace D2 := D2.e0 e36
      replace b5 := b5.e0 e36
      replace Ga := Ga.e0 e36
      replace Gb := Gb.e0 e36
      replace Gc := Gc.e0 e36
      replace b14 := b14.e0 e36
      replace b16 := b16.e0 e36
      replace b18 := b18.e0 e36
      replace P1 := P1.e0 e36
      replace b21 := b21.e0 e36
      replace P2 := P2.e0 e36
      replace b23 := b23.e0 e36
      replace P3 := P3.e0 e36
      replace b25 := b25.e0 e36
      replace P4 := P4.e0 e36
      replace b27 := b27.e0 e36
      replace b113 := b113.e0 e36
      replace K1 := K1.e0 e36
      replace b124 := b124.e0 e36
      replace K4 := K4.e0 e36
      clear e36
      refine ⟨.bool true, rfl, ?_⟩
      refine ze 28 ⟨BL, D, D2, b5, Ga, Gb, Gc, b14, b16, b18, P1, b21, P2, b23, P3, b25, P4, b27, by omega⟩ ?_
      simp only [List.set_cons_zero, List.set_cons_succ]
      refine zv 29 127 (.bool true) (fun _ _ => .of) ⟨BL, D, D2, b5, Ga, Gb, Gc, b14, b16, b18, P1, b21, P2, b23, P3, b25, P4, b27, by omega⟩ ?_
      simp only [List.set_cons_zero, List.set_cons_succ]
      refine zv 30 128 (.bool true) (fun _ _ => .of) ⟨BL, D, D2, b5, Ga, Gb, Gc, b14, b16, b18, P1, b21, P2, b23, P3, b25, P4, b27, by omega⟩ ?_
      simp only [List.set_cons_zero, List.set_cons_succ]
      refine zo1 31 rfl ?_
      refine xCall 129 41 #[] (by kernel_rfl) ?_
      refine (awake10 w57).mono ?_
      rintro en w58 ⟨rfl, hb1⟩
      have e37 := belE0 hb1
      have ze37 := e37.size
      replace BL := BL.e0 e37
      replace D := D.e0 e37
      replace D2 := D2.e0 e37
      replace b5 := b5.e0 e37
      replace Ga := Ga.e0 e37
      replace Gb := Gb.e0 e37
      replace Gc := Gc.e0 e37
      replace b14 := b14.e0 e37
      replace b16 := b16.e0 e37
      replace b18 := b18.e0 e37
      replace P1 := P1.e0 e37
      replace b21 := b21.e0 e37
      replace P2 := P2.e0 e37
      replace b23 := b23.e0 e37
      replace P3 := P3.e0 e37
      replace b25 := b25.e0 e37
      replace P4 := P4.e0 e37
      replace b27 := b27.e0 e37
      replace b113 := b113.e0 e37
      replace K1 := K1.e0 e37
      replace b124 := b124.e0 e37
      replace K4 := K4.e0 e37
      clear e37
      refine ⟨.bool true, rfl, ?_⟩
      refine ze 31 ⟨BL, D, D2, b5, Ga, Gb, Gc, b14, b16, b18, P1, b21, P2, b23, P3, b25, P4, b27, by omega⟩ ?_
      simp only [List.set_cons_zero, List.set_cons_succ]
      refine zv 32 130 (.bool true) (fun _ _ => .of) ⟨BL, D, D2, b5, Ga, Gb, Gc, b14, b16, b18, P1, b21, P2, b23, P3, b25, P4, b27, by omega⟩ ?_
      simp only [List.set_cons_zero, List.set_cons_succ]
      refine zv 33 10 (.bool true) (fun _ _ => .of) ⟨BL, D, D2, b5, Ga, Gb, Gc, b14, b16, b18, P1, b21, P2, b23, P3, b25, P4, b27, by omega⟩ ?_
      simp only [List.set_cons_zero, List.set_cons_succ]
      refine zd (by kernel_rfl) ?_ _
      refine hK14 _ _ ?_
      refine wp_ret ?_
      (try simp only [Exit.then, Exit.inBlock])
      refine bodyPost_ret (v := .bool true) rT rfl ?_
      exact ⟨rfl, BL.b⟩

theorem merkleGrows_any (w : World) (x0 : List Value) (R0 : RInts .u32 72 w x0) (v1 : Value) (es1 : List (List Int)) (D1 : SE .u8 32 w v1 es1) (w1 : ∀ y ∈ es1, ∀ n ∈ y, (Lit.int .u8 n).wf = true) (v2 : Value) (es2 : List (List Int)) (D2 : SE .u8 32 w v2 es2) (w2 : ∀ y ∈ es2, ∀ n ∈ y, (Lit.int .u8 n).wf = true) (t : Int) (h2 : 0 ≤ t ∧ t ≤ 255) (leaf : Int) (h3 : -9223372036854775808 ≤ leaf ∧ leaf ≤ 9223372036854775807) :
    Calls Try.prog 9 #[.agg x0.toArray, v1, v2, .int .u8 t, .int .i64 leaf] w fun e w' => e = .returned (.bool true) ∧ Below w.heap.size w w' := by
  obtain ⟨tab, ht, rfl, _⟩ := rints32 R0
  obtain ⟨l, rfl, _⟩ := nnd_of w1
  obtain ⟨l2, rfl, _⟩ := nnd_of w2
  obtain ⟨c, rfl⟩ : ∃ c : Nat, t = (c : Int) := ⟨t.toNat, by omega⟩
  exact merkleGrows_walk tab ht w v1 l D1 v2 l2 D2 c (by omega) leaf
end Go.Proofs.Yteaijjefbadnbaa
