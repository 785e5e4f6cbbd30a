/-
  Without a table: lamport.Secret, Half, Sign, Open, Key.
-/
import Derived.Test.YteaijjefbadnbaaNilL
import Derived.Test.YteaijjefbadnbaaLamKey
namespace Go.Proofs.Yteaijjefbadnbaa
open Go.RowKit
set_option linter.unusedVariables false
set_option linter.unusedSimpArgs false
set_option maxRecDepth 100000
attribute [local irreducible] wpList Code.wp wpAnyZ rowsN fillN secretN halfN
theorem over_rep (n o m : Nat) (h : o + m ≤ n) : over (nn (List.replicate n 0)) o (nn (List.replicate m 0)) = nn (List.replicate n 0) := by
  unfold over
  rw [nn_len, List.length_replicate, ← nn_take, ← nn_drop, ← nn_app, ← nn_app, List.take_replicate, List.drop_replicate, List.replicate_append_replicate, List.replicate_append_replicate]
  congr 2
  omega

set_option maxHeartbeats 4000000 in
theorem secret_nil (seed : List Nat) (hs : seed.length = 32) (leaf bit val : Int) (h1 : leaf ≤ 9223372036854775807) (h2 : bit ≤ 9223372036854775807) (h3 : val ≤ 9223372036854775807) (w : World) :
    Calls Try.prog 34 #[.pointer none, .agg (cellsOf .u8 (nn seed)), .int .i64 leaf, .int .i64 bit, .int .i64 val] w fun e w' => e = .returned (.agg (cellsOf .u8 (nn (List.replicate 32 0)))) ∧ Below w.heap.size w w' := by
  have BL := Bl.refl w
  have hbs := blobsB_small [numN leaf, numN bit, numN val] 10 (fun p hp => by rcases List.mem_cons.1 hp with rfl | hp; exact numN_len _; rcases List.mem_cons.1 hp with rfl | hp; exact numN_len _; rw [List.mem_singleton.1 hp]; exact numN_len _) (by omega)
  go_enter Try.func34, Try.ntmps34
  refine wp_seq_k fun K1 hK1 => ?_
  refine cPlain ?_
  refine xBox 6 36 _ ((nn (seed)).map (Value.int .u8)) rfl (cells_toList _ _) ?_
  intro w1 n1
  have zn1 := n1.z
  have b6 := n1.c
  replace b6 : Blk .u8 w1 w.heap.size 36 (nn (seed)) := b6
  replace BL := BL.e0 n1.e
  simp only [List.set_cons_zero, List.set_cons_succ]
  refine xAlloc 10 36 ((nn (List.replicate 32 0)).map (Value.int .u8)) rfl (by kernel_rfl) ?_
  intro w2 n2
  have zn2 := n2.z
  have b10 := n2.c
  replace b10 : Blk .u8 w2 w1.heap.size 36 (nn (List.replicate 32 0)) := b10
  replace BL := BL.e0 n2.e
  replace b6 := b6.e0 n2.e
  simp only [List.set_cons_zero, List.set_cons_succ]
  refine wpList_nil ?_
  refine hK1 _ _ ?_
  refine wp_seq_k fun K2 hK2 => ?_
  have e1 := drew_e0 w2
  refine zg (fun w_ => Bl w.heap.size w w_ ∧ Blk .u8 w_ w.heap.size 36 (nn (seed)) ∧ Blk .u8 w_ w1.heap.size 36 (nn (List.replicate 32 0)) ∧ w2.heap.size ≤ w_.heap.size) (fun w_ => Bl w.heap.size w w_ ∧ Blk .u8 w_ w.heap.size 36 (nn (seed)) ∧ Blk .u8 w_ w1.heap.size 36 (nn (List.replicate 32 0)) ∧ w2.heap.size ≤ w_.heap.size) 11 12 ⟨BL.e0 e1, b6.e0 e1, b10.e0 e1, Nat.le_refl _⟩ ?_
  clear BL b6 b10
  clear e1
  intro w3
  rintro ⟨BL, b6, b10, z1⟩
  refine zv 0 11 (.pointer none) (fun _ _ => .of) ⟨BL, b6, b10, by omega⟩ ?_
  simp only [List.set_cons_zero, List.set_cons_succ]
  refine zv 1 12 (.slice (some ⟨w.heap.size, 0, none⟩) 32 32) (fun _ _ => .of) ⟨BL, b6, b10, by omega⟩ ?_
  simp only [List.set_cons_zero, List.set_cons_succ]
  refine zv 2 13 (.int .i64 leaf) (fun _ _ => .of) ⟨BL, b6, b10, by omega⟩ ?_
  simp only [List.set_cons_zero, List.set_cons_succ]
  refine zv 4 15 (.int .i64 bit) (fun _ _ => .of) ⟨BL, b6, b10, by omega⟩ ?_
  simp only [List.set_cons_zero, List.set_cons_succ]
  refine zv 6 17 (.int .i64 val) (fun _ _ => .of) ⟨BL, b6, b10, by omega⟩ ?_
  simp only [List.set_cons_zero, List.set_cons_succ]
  refine zo1 3 rfl ?_
  refine xCall 14 94 #[.int .i64 leaf] (by kernel_rfl) ?_
  refine (number_any leaf h1 w3).mono ?_
  rintro en w4 ⟨m1, hm1, hN1, hb1⟩
  obtain ⟨A1, C1, hu1⟩ := hN1.len
  rw [hu1] at hm1 hN1
  subst hm1
  have e2 := belE0 hb1
  have ze2 := e2.size
  replace BL := BL.e0 e2
  replace b6 := b6.e0 e2
  replace b10 := b10.e0 e2
  clear e2
  have N1 : Own 5 .u8 w3.heap.size w4 (.slice A1 (nn (numN leaf)).length C1) (nn (numN leaf)) := hN1
  have lN1_1 := N1.ge
  refine ⟨.slice A1 (nn (numN leaf)).length C1, rfl, ?_⟩
  refine ze 3 ⟨BL, b6, b10, by omega⟩ ?_
  simp only [List.set_cons_zero, List.set_cons_succ]
  refine zo1 5 rfl ?_
  refine xCall 16 94 #[.int .i64 bit] (by kernel_rfl) ?_
  refine (number_any bit h2 w4).mono ?_
  rintro en w5 ⟨m2, hm2, hN2, hb1⟩
  obtain ⟨A2, C2, hu2⟩ := hN2.len
  rw [hu2] at hm2 hN2
  subst hm2
  have e3 := belE0 hb1
  have ze3 := e3.size
  replace BL := BL.e0 e3
  replace b6 := b6.e0 e3
  replace b10 := b10.e0 e3
  replace N1 := N1.e0 e3
  clear e3
  have N2 : Own 5 .u8 w4.heap.size w5 (.slice A2 (nn (numN bit)).length C2) (nn (numN bit)) := hN2
  have lN2_1 := N2.ge
  refine ⟨.slice A2 (nn (numN bit)).length C2, rfl, ?_⟩
  refine ze 5 ⟨BL, b6, b10, by omega⟩ ?_
  simp only [List.set_cons_zero, List.set_cons_succ]
  refine zo1 7 rfl ?_
  refine xCall 18 94 #[.int .i64 val] (by kernel_rfl) ?_
  refine (number_any val h3 w5).mono ?_
  rintro en w6 ⟨m3, hm3, hN3, hb1⟩
  obtain ⟨A3, C3, hu3⟩ := hN3.len
  rw [hu3] at hm3 hN3
  subst hm3
  have e4 := belE0 hb1
  have ze4 := e4.size
  replace BL := BL.e0 e4
  replace b6 := b6.e0 e4
  replace b10 := b10.e0 e4
  replace N1 := N1.e0 e4
  replace N2 := N2.e0 e4
  clear e4
  have N3 : Own 5 .u8 w5.heap.size w6 (.slice A3 (nn (numN val)).length C3) (nn (numN val)) := hN3
  have lN3_1 := N3.ge
  refine ⟨.slice A3 (nn (numN val)).length C3, rfl, ?_⟩
  refine ze 7 ⟨BL, b6, b10, by omega⟩ ?_
  simp only [List.set_cons_zero, List.set_cons_succ]
  refine zo1 8 rfl ?_
  refine xLit 19 124 30 3 _ #[(0, .slice A1 (nn (numN leaf)).length C1), (1, .slice A2 (nn (numN bit)).length C2), (2, .slice A3 (nn (numN val)).length C3)] [.slice A1 (nn (numN leaf)).length C1, .slice A2 (nn (numN bit)).length C2, .slice A3 (nn (numN val)).length C3] rfl (by kernel_rfl) (by kernel_rfl) ?_
  intro w7 n3
  have zn3 := n3.z
  have b19 := n3.c
  replace BL := BL.e0 n3.e
  replace b6 := b6.e0 n3.e
  replace b10 := b10.e0 n3.e
  replace N1 := N1.e0 n3.e
  replace N2 := N2.e0 n3.e
  replace N3 := N3.e0 n3.e
  refine ze 8 ⟨BL, b6, b10, by omega⟩ ?_
  simp only [List.set_cons_zero, List.set_cons_succ]
  refine zo1 9 rfl ?_
  refine xCall 20 29 #[.int .u8 1, .slice (some ⟨w6.heap.size, 0, none⟩) 3 3] (by kernel_rfl) ?_
  refine (mactext_any ((1 : Nat) : Int) _ [.slice A1 (nn (numN leaf)).length C1, .slice A2 (nn (numN bit)).length C2, .slice A3 (nn (numN val)).length C3] ([numN leaf, numN bit, numN val].map nn) w7 (SV.ofCelM (n := 3) b19 rfl (by unfold maxLen; omega)) w7.heap.size (by omega) (SLs.three N1.sl (fun g hg => by have := lN1_1 g hg; omega) N2.sl (fun g hg => by have := lN2_1 g hg; omega) N3.sl (fun g hg => by have := lN3_1 g hg; omega)) (by simp only [List.length_cons, List.length_nil] at hbs; omega)).mono ?_
  rintro en w8 ⟨u, rfl, hO, hb1⟩
  have e5 := belE0 hb1
  have ze5 := e5.size
  replace BL := BL.e0 e5
  replace b6 := b6.e0 e5
  replace b10 := b10.e0 e5
  replace N1 := N1.e0 e5
  replace N2 := N2.e0 e5
  replace N3 := N3.e0 e5
  replace b19 := b19.e0 e5
  clear e5
  refine ⟨u, rfl, ?_⟩
  refine ze 9 ⟨BL, b6, b10, by omega⟩ ?_
  simp only [List.set_cons_zero, List.set_cons_succ]
  refine zo1 10 rfl ?_
  refine xCall 21 25 #[.pointer none, .slice (some ⟨w.heap.size, 0, none⟩) 32 32, u] (by kernel_rfl) ?_
  refine (mac_nil seed _ u w8 (SL.ofBlk b6 (by rw [nn_len]; exact hs) (by unfold maxLen; omega)) (by omega)).mono ?_
  rintro en w9 ⟨rfl, hb1⟩
  have e6 := belE0 hb1
  have ze6 := e6.size
  replace BL := BL.e0 e6
  replace b6 := b6.e0 e6
  replace b10 := b10.e0 e6
  replace N1 := N1.e0 e6
  replace N2 := N2.e0 e6
  replace N3 := N3.e0 e6
  replace b19 := b19.e0 e6
  clear e6
  refine ⟨.agg (cellsOf .u8 (nn (List.replicate 32 0))), rfl, ?_⟩
  refine ze 10 ⟨BL, b6, b10, by omega⟩ ?_
  simp only [List.set_cons_zero, List.set_cons_succ]
  refine zo1 11 rfl ?_
  refine xStoreA 36 (.tmp 10) (.tmp 21) rfl .u8 w1.heap.size 36 (nn (List.replicate 32 0)) 0 (nn (List.replicate 32 0)) (by kernel_rfl) (by kernel_rfl) b10 (by rw [show (nn (List.replicate 32 0)).length = 32 by ((try simp only [nn_len, List.length_cons, List.length_nil, List.length_set, List.length_replicate]); try omega)]; kernel_rfl) (by (try simp only [nn_len, List.length_cons, List.length_nil, List.length_set, List.length_replicate]); try omega) (nn (List.replicate 32 0)) (over_whole _ _ (by (try simp only [nn_len, List.length_cons, List.length_nil, List.length_set, List.length_replicate]); try omega)) ?_
  intro w10 t1
  have zt1 := t1.z
  have BL_ := BL.ev t1.e (fun i h => show w.heap.size ≤ i by have h : i = w1.heap.size := h; omega)
  have b6_ := b6.ev t1.e (show ¬ (w.heap.size = w1.heap.size) by omega)
  have N1_ := N1.ev t1.e (fun i hi => show ¬ (i = w1.heap.size) by have := lN1_1 i hi; omega)
  have N2_ := N2.ev t1.e (fun i hi => show ¬ (i = w1.heap.size) by have := lN2_1 i hi; omega)
  have N3_ := N3.ev t1.e (fun i hi => show ¬ (i = w1.heap.size) by have := lN3_1 i hi; omega)
  have b19_ := b19.ev t1.e (show ¬ (w6.heap.size = w1.heap.size) by omega)
  replace BL := BL_; clear BL_
  replace b6 := b6_; clear b6_
  replace N1 := N1_; clear N1_
  replace N2 := N2_; clear N2_
  replace N3 := N3_; clear N3_
  replace b19 := b19_; clear b19_
  replace b10 : Blk .u8 w10 w1.heap.size 36 (nn (List.replicate 32 0)) := t1.c
  clear t1
  refine zz 11 ?_
  refine zd (by kernel_rfl) ?_ _
  refine hK2 _ _ ?_
  refine wp_ret ?_
  (try simp only [Exit.then, Exit.inBlock])
  refine bodyPost_ret (rC rfl _ w1.heap.size _ _ (by kernel_rfl) b10.cel _ Try.underlying36 rfl (by rw [List.length_map, show (nn (List.replicate 32 0)).length = 32 by ((try simp only [nn_len, List.length_cons, List.length_nil, List.length_set, List.length_replicate]); try omega)]; kernel_rfl)) rfl ?_
  exact ⟨rfl, BL.b⟩

set_option maxHeartbeats 4000000 in
theorem half_nil (sec : List Nat) (hs : sec.length = 32) (w : World) :
    Calls Try.prog 36 #[.pointer none, .agg (cellsOf .u8 (nn sec))] w fun e w' => e = .returned (.agg (cellsOf .u8 (nn (List.replicate 32 0)))) ∧ Below w.heap.size w w' := by
  have BL := Bl.refl w
  have hbs := blobsB_small [sec] 32 (fun p hp => by rw [List.mem_singleton.1 hp]; omega) (by omega)
  go_enter Try.func36, Try.ntmps36
  refine wp_seq_k fun K1 hK1 => ?_
  refine cPlain ?_
  refine xBox 3 36 _ ((nn (sec)).map (Value.int .u8)) rfl (cells_toList _ _) ?_
  intro w1 n1
  have zn1 := n1.z
  have b3 := n1.c
  replace b3 : Blk .u8 w1 w.heap.size 36 (nn (sec)) := b3
  replace BL := BL.e0 n1.e
  simp only [List.set_cons_zero, List.set_cons_succ]
  refine xAlloc 4 37 ((nn (List.replicate 32 0)).map (Value.int .u8)) rfl (by kernel_rfl) ?_
  intro w2 n2
  have zn2 := n2.z
  have b4 := n2.c
  replace b4 : Blk .u8 w2 w1.heap.size 37 (nn (List.replicate 32 0)) := b4
  replace BL := BL.e0 n2.e
  replace b3 := b3.e0 n2.e
  simp only [List.set_cons_zero, List.set_cons_succ]
  refine wpList_nil ?_
  refine hK1 _ _ ?_
  refine wp_seq_k fun K2 hK2 => ?_
  refine cPlain ?_
  refine sv 5 (.pointer none) .of ?_
  simp only [List.set_cons_zero, List.set_cons_succ]
  refine sv 6 (.slice (some ⟨w.heap.size, 0, none⟩) 32 32) .of ?_
  simp only [List.set_cons_zero, List.set_cons_succ]
  refine xLit 7 124 30 1 _ #[(0, .slice (some ⟨w.heap.size, 0, none⟩) 32 32)] [.slice (some ⟨w.heap.size, 0, none⟩) 32 32] rfl (by kernel_rfl) (by kernel_rfl) ?_
  intro w3 n3
  have zn3 := n3.z
  have b7 := n3.c
  replace BL := BL.e0 n3.e
  replace b3 := b3.e0 n3.e
  replace b4 := b4.e0 n3.e
  simp only [List.set_cons_zero, List.set_cons_succ]
  refine xCall 8 27 #[.pointer none, .int .u8 2, .slice (some ⟨w2.heap.size, 0, none⟩) 1 1] (by kernel_rfl) ?_
  refine (tagged_nil 2 _ [.slice (some ⟨w.heap.size, 0, none⟩) 32 32] [sec] w3 (SV.ofCelM (n := 1) b7 rfl (by unfold maxLen; omega)) (SLs.one (SL.ofBlk b3 (by rw [nn_len]; exact hs) (by unfold maxLen; omega)) (fun g hg => by have := ownB_lit (lo := 0) (hi := w3.heap.size) (by omega) g hg; omega)) (by simp only [List.length_cons, List.length_nil] at hbs; omega)).mono ?_
  rintro en w4 ⟨rfl, hb1⟩
  have e1 := belE0 hb1
  have ze1 := e1.size
  replace BL := BL.e0 e1
  replace b3 := b3.e0 e1
  replace b4 := b4.e0 e1
  replace b7 := b7.e0 e1
  clear e1
  refine ⟨.agg (cellsOf .u8 (nn (List.replicate 32 0))), rfl, ?_⟩
  simp only [List.set_cons_zero, List.set_cons_succ]
  refine xStoreA 37 (.tmp 4) (.tmp 8) rfl .u8 w1.heap.size 37 (nn (List.replicate 32 0)) 0 (nn (List.replicate 32 0)) (by kernel_rfl) (by kernel_rfl) b4 (by rw [show (nn (List.replicate 32 0)).length = 32 by ((try simp only [nn_len, List.length_cons, List.length_nil, List.length_set, List.length_replicate]); try omega)]; kernel_rfl) (by (try simp only [nn_len, List.length_cons, List.length_nil, List.length_set, List.length_replicate]); try omega) (nn (List.replicate 32 0)) (over_whole _ _ (by (try simp only [nn_len, List.length_cons, List.length_nil, List.length_set, List.length_replicate]); try omega)) ?_
  intro w5 t1
  have zt1 := t1.z
  have BL_ := BL.ev t1.e (fun i h => show w.heap.size ≤ i by have h : i = w1.heap.size := h; omega)
  have b3_ := b3.ev t1.e (show ¬ (w.heap.size = w1.heap.size) by omega)
  have b7_ := b7.ev t1.e (show ¬ (w2.heap.size = w1.heap.size) by omega)
  replace BL := BL_; clear BL_
  replace b3 := b3_; clear b3_
  replace b7 := b7_; clear b7_
  replace b4 : Blk .u8 w5 w1.heap.size 37 (nn (List.replicate 32 0)) := t1.c
  clear t1
  refine wpList_nil ?_
  refine hK2 _ _ ?_
  refine wp_ret ?_
  (try simp only [Exit.then, Exit.inBlock])
  refine bodyPost_ret (rC rfl _ w1.heap.size _ _ (by kernel_rfl) b4.cel _ Try.underlying37 rfl (by rw [List.length_map, show (nn (List.replicate 32 0)).length = 32 by ((try simp only [nn_len, List.length_cons, List.length_nil, List.length_set, List.length_replicate]); try omega)]; kernel_rfl)) rfl ?_
  exact ⟨rfl, BL.b⟩

set_option maxHeartbeats 4000000 in
theorem sign_nil (seed : List Nat) (hs : seed.length = 32) (leaf : Int) (h1 : leaf ≤ 9223372036854775807) (dl : List Nat) (hdl : dl.length = 32) (hdb : Bytes (nn dl)) (w : World) :
    Calls Try.prog 37 #[.pointer none, .agg (cellsOf .u8 (nn seed)), .int .i64 leaf, .agg (cellsOf .u8 (nn dl))] w fun e w' => e = .returned (.agg (cellsOf .u8 (nn (List.replicate 16384 0)))) ∧ Below w.heap.size w w' := by
  have BL := Bl.refl w
  obtain ⟨Z, hZ⟩ : ∃ Z : List Nat, Z = List.replicate 16384 0 := ⟨_, rfl⟩
  have hZl : Z.length = 16384 := by rw [hZ, List.length_replicate]
  have hZn : (nn Z).length = 16384 := by rw [nn_len]; exact hZl
  have hZo : ∀ o, o + 32 ≤ 16384 → over (nn Z) o (nn (List.replicate 32 0)) = nn Z := fun o ho => by rw [hZ]; exact over_rep _ _ _ ho
  have hz32 : (nn (List.replicate 32 0)).length = 32 := by rw [nn_len]; rfl
  rw [← hZ]
  go_enter Try.func37, Try.ntmps37
  refine wp_seq_k fun K1 hK1 => ?_
  refine cPlain ?_
  refine xBox 5 36 _ ((nn (seed)).map (Value.int .u8)) rfl (cells_toList _ _) ?_
  intro w1 n1
  have zn1 := n1.z
  have b5 := n1.c
  replace b5 : Blk .u8 w1 w.heap.size 36 (nn (seed)) := b5
  replace BL := BL.e0 n1.e
  simp only [List.set_cons_zero, List.set_cons_succ]
  refine xBox 7 37 _ ((nn (dl)).map (Value.int .u8)) rfl (cells_toList _ _) ?_
  intro w2 n2
  have zn2 := n2.z
  have b7 := n2.c
  replace b7 : Blk .u8 w2 w1.heap.size 37 (nn (dl)) := b7
  replace BL := BL.e0 n2.e
  replace b5 := b5.e0 n2.e
  simp only [List.set_cons_zero, List.set_cons_succ]
  refine xAlloc 8 58 ((nn (List.replicate 16384 0)).map (Value.int .u8)) rfl (by kernel_rfl) ?_
  intro w3 n3
  have zn3 := n3.z
  have b8 := n3.c
  replace b8 : Blk .u8 w3 w2.heap.size 58 (nn (List.replicate 16384 0)) := b8
  replace BL := BL.e0 n3.e
  replace b5 := b5.e0 n3.e
  replace b7 := b7.e0 n3.e
  simp only [List.set_cons_zero, List.set_cons_succ]
  refine wpList_nil ?_
  refine hK1 _ _ ?_
  refine wp_seq_k fun K2 hK2 => ?_
  refine cPlain ?_
  refine xAlloc 9 58 ((nn (List.replicate 16384 0)).map (Value.int .u8)) rfl (by kernel_rfl) ?_
  intro w4 n4
  have zn4 := n4.z
  have b9 := n4.c
  replace b9 : Blk .u8 w4 w3.heap.size 58 (nn (List.replicate 16384 0)) := b9
  replace BL := BL.e0 n4.e
  replace b5 := b5.e0 n4.e
  replace b7 := b7.e0 n4.e
  replace b8 := b8.e0 n4.e
  simp only [List.set_cons_zero, List.set_cons_succ]
  refine wpList_nil ?_
  refine hK2 _ _ ?_
  refine wp_seq_k fun K3 hK3 => ?_
  refine wp_seq_k fun K4 hK4 => ?_
  refine cPlain ?_
  refine sv 12 (.int .i64 0) .of ?_
  simp only [List.set_cons_zero, List.set_cons_succ]
  refine wpList_nil ?_
  refine hK4 _ _ ?_
  refine wp_block ?_
  refine cLoop (fun N_ A_ w_ => ∃ (i : Nat), (N_ = 256 - i ∧ (i ≤ 256) ∧ (∃ s1 : Nat → Value, A_ = ⟨[.pointer none, .agg (cellsOf .u8 (nn (seed))), .int .i64 leaf, .agg (cellsOf .u8 (nn (dl))), undef, .pointer (some ⟨w.heap.size, 0, none⟩), undef, .pointer (some ⟨w1.heap.size, 0, none⟩), .pointer (some ⟨w2.heap.size, 0, none⟩), .pointer (some ⟨w3.heap.size, 0, none⟩), (s1 10), (s1 11), .int .i64 ((i : Nat) : Int), (s1 13), (s1 14), (s1 15), (s1 16), (s1 17), (s1 18), (s1 19), (s1 20), (s1 21), (s1 22), (s1 23), (s1 24), (s1 25), (s1 26), (s1 27), (s1 28), (s1 29), (s1 30), (s1 31), (s1 32), (s1 33), (s1 34), (s1 35), (s1 36), (s1 37), (s1 38), (s1 39), undef].toArray, []⟩) ∧ Bl w.heap.size w w_ ∧ Blk .u8 w_ w.heap.size 36 (nn (seed)) ∧ Blk .u8 w_ w1.heap.size 37 (nn (dl)) ∧ Blk .u8 w_ w2.heap.size 58 (nn (List.replicate 16384 0)) ∧ Blk .u8 w_ w3.heap.size 58 (nn Z) ∧ w4.heap.size ≤ w_.heap.size)) _ ⟨0, rfl, (Nat.zero_le _), cutE, BL, b5, b7, b8, (by rw [hZ]; exact b9), Nat.le_refl _⟩ ?_
  clear BL b5 b7 b8 b9
  rintro n_ a_ wl0 ⟨i, rfl, hc0_0, ⟨s1, rfl⟩, BL, b5, b7, b8, b9, zl0⟩
  refine wp_seq_k fun K5 hK5 => ?_
  refine cPlain ?_
  refine sv 13 (.bool (decide (((i : Nat) : Int) < 256))) (Val.cmp .lss 3 _ (.tmp 12) _ rfl .i64 ((i : Nat) : Int) 256 (by kernel_rfl) (by kernel_rfl) (by simp) _ rfl) ?_
  simp only [List.set_cons_zero, List.set_cons_succ]
  refine wpList_nil ?_
  refine hK5 _ _ ?_
  refine wp_seq_k fun K6 hK6 => ?_
  refine cDec (((i : Nat) : Int) < 256) (by kernel_rfl) (fun c13 => ?_) (fun c13 => ?_)
  · skip
    refine wp_skip ?_
    refine hK6 _ _ ?_
    refine wp_seq_k fun K7 hK7 => ?_
    refine wp_block ?_
    refine wp_seq_k fun K8 hK8 => ?_
    refine cPlain ?_
    refine sv 14 (.int .i64 ((i : Nat) : Int)) .of ?_
    simp only [List.set_cons_zero, List.set_cons_succ]
    refine sv 10 (.int .i64 ((i : Nat) : Int)) .of ?_
    simp only [List.set_cons_zero, List.set_cons_succ]
    refine wpList_nil ?_
    refine hK8 _ _ ?_
    refine wp_seq_k fun K9 hK9 => ?_
    refine cPlain ?_
    refine sv 15 (.agg (cellsOf .u8 (nn (dl)))) (Val.blk 37 _ rfl 0 32 (by kernel_rfl) b7 _ Try.underlying37 rfl (by kernel_rfl) (by (try simp only [nn_len, List.length_append, List.length_replicate]); try omega) _ (seg_all' _ (by (try simp only [nn_len, List.length_append, List.length_replicate]); try omega))) ?_
    simp only [List.set_cons_zero, List.set_cons_succ]
    refine sv 16 (.int .i64 ((i : Nat) : Int)) .of ?_
    simp only [List.set_cons_zero, List.set_cons_succ]
    refine xCall 17 32 #[.agg (cellsOf .u8 (nn (dl))), .int .i64 ((i : Nat) : Int)] (by kernel_rfl) ?_
    refine (bit_any (nn dl) (by rw [nn_len]; exact hdl) hdb (i : Int) (by omega) (by omega) wl0).mono ?_
    rintro en w5 ⟨rfl, hw⟩
    have e1 : E0 wl0 w5 := (hw ▸ alloc_e0 _ _)
    have ze1 := e1.size
    replace BL := BL.e0 e1
    replace b5 := b5.e0 e1
    replace b7 := b7.e0 e1
    replace b8 := b8.e0 e1
    replace b9 := b9.e0 e1
    clear e1
    refine ⟨.int .i64 (bitF (nn dl) (i : Int)), rfl, ?_⟩
    simp only [List.set_cons_zero, List.set_cons_succ]
    refine sv 11 (.int .i64 (bitF (nn dl) (i : Int))) .of ?_
    simp only [List.set_cons_zero, List.set_cons_succ]
    refine wpList_nil ?_
    refine hK9 _ _ ?_
    refine wp_seq_k fun K10 hK10 => ?_
    have hb01 := bitF_01 (nn dl) hdb (i : Int)
    refine cPlain ?_
    refine sv 18 (.int .i64 ((i : Nat) : Int)) .of ?_
    simp only [List.set_cons_zero, List.set_cons_succ]
    refine sv 19 (.pointer none) .of ?_
    simp only [List.set_cons_zero, List.set_cons_succ]
    refine sv 20 (.agg (cellsOf .u8 (nn (seed)))) (Val.blk 36 _ rfl 0 32 (by kernel_rfl) b5 _ Try.underlying36 rfl (by kernel_rfl) (by (try simp only [nn_len, List.length_append, List.length_replicate]); try omega) _ (seg_all' _ (by (try simp only [nn_len, List.length_append, List.length_replicate]); try omega))) ?_
    simp only [List.set_cons_zero, List.set_cons_succ]
    refine sv 21 (.int .i64 leaf) .of ?_
    simp only [List.set_cons_zero, List.set_cons_succ]
    refine sv 22 (.int .i64 ((i : Nat) : Int)) .of ?_
    simp only [List.set_cons_zero, List.set_cons_succ]
    refine sv 23 (.int .i64 (bitF (nn dl) (i : Int))) .of ?_
    simp only [List.set_cons_zero, List.set_cons_succ]
    refine xCall 24 34 #[.pointer none, .agg (cellsOf .u8 (nn (seed))), .int .i64 leaf, .int .i64 ((i : Nat) : Int), .int .i64 (bitF (nn dl) (i : Int))] (by kernel_rfl) ?_
    refine (secret_nil seed hs leaf (i : Int) (bitF (nn dl) (i : Int)) h1 (by omega) (by omega) w5).mono ?_
    rintro en w6 ⟨rfl, hb1⟩
    have e2 := belE0 hb1
    have ze2 := e2.size
    replace BL := BL.e0 e2
    replace b5 := b5.e0 e2
    replace b7 := b7.e0 e2
    replace b8 := b8.e0 e2
    replace b9 := b9.e0 e2
    clear e2
    refine ⟨.agg (cellsOf .u8 (nn (List.replicate 32 0))), rfl, ?_⟩
    simp only [List.set_cons_zero, List.set_cons_succ]
    refine sv 25 (.pointer (some ⟨w3.heap.size, 0, none⟩)) .of ?_
    simp only [List.set_cons_zero, List.set_cons_succ]
    refine sv 26 (.pointer (some ⟨w3.heap.size, 0 + i * 32, none⟩)) (Val.idxA 55 (.tmp 25) (.tmp 18) rfl w3.heap.size 0 i (by kernel_rfl) (by kernel_rfl) 32 Try.underlying55 (by kernel_rfl) (by omega)) ?_
    simp only [List.set_cons_zero, List.set_cons_succ]
    refine xStoreA 36 (.tmp 26) (.tmp 24) rfl .u8 w3.heap.size 58 (nn Z) (0 + i * 32) (nn (List.replicate 32 0)) (by kernel_rfl) (by kernel_rfl) b9 (by rw [show (nn (List.replicate 32 0)).length = 32 by omega]; kernel_rfl) (by omega) _ rfl ?_
    intro w7 t1
    have zt1 := t1.z
    have BL_ := BL.ev t1.e (fun i h => show w.heap.size ≤ i by have h : i = w3.heap.size := h; omega)
    have b5_ := b5.ev t1.e (show ¬ (w.heap.size = w3.heap.size) by omega)
    have b7_ := b7.ev t1.e (show ¬ (w1.heap.size = w3.heap.size) by omega)
    have b8_ := b8.ev t1.e (show ¬ (w2.heap.size = w3.heap.size) by omega)
    replace BL := BL_; clear BL_
    replace b5 := b5_; clear b5_
    replace b7 := b7_; clear b7_
    replace b8 := b8_; clear b8_
    replace b9 : Blk .u8 w7 w3.heap.size 58 (over (nn Z) (0 + i * 32) (nn (List.replicate 32 0))) := t1.c
    clear t1
    refine wpList_nil ?_
    refine hK10 _ _ ?_
    have hov : (over (nn Z) (0 + i * 32) (nn (List.replicate 32 0))).length = 16384 := by rw [hZo _ (by omega)]; exact hZn
    refine cPlain ?_
    refine sv 27 (.int .i64 ((i : Nat) : Int)) .of ?_
    simp only [List.set_cons_zero, List.set_cons_succ]
    refine sv 28 (.pointer none) .of ?_
    simp only [List.set_cons_zero, List.set_cons_succ]
    refine sv 29 (.pointer none) .of ?_
    simp only [List.set_cons_zero, List.set_cons_succ]
    refine sv 30 (.agg (cellsOf .u8 (nn (seed)))) (Val.blk 36 _ rfl 0 32 (by kernel_rfl) b5 _ Try.underlying36 rfl (by kernel_rfl) (by (try simp only [nn_len, List.length_append, List.length_replicate]); try omega) _ (seg_all' _ (by (try simp only [nn_len, List.length_append, List.length_replicate]); try omega))) ?_
    simp only [List.set_cons_zero, List.set_cons_succ]
    refine sv 31 (.int .i64 leaf) .of ?_
    simp only [List.set_cons_zero, List.set_cons_succ]
    refine sv 32 (.int .i64 ((i : Nat) : Int)) .of ?_
    simp only [List.set_cons_zero, List.set_cons_succ]
    refine sv 33 (.int .i64 (bitF (nn dl) (i : Int))) .of ?_
    simp only [List.set_cons_zero, List.set_cons_succ]
    refine sv 34 (.int .i64 (1 - (bitF (nn dl) (i : Int)))) (Val.sub 3 _ _ (.tmp 33) rfl 1 (bitF (nn dl) (i : Int)) (by kernel_rfl) (by kernel_rfl) (by omega)) ?_
    simp only [List.set_cons_zero, List.set_cons_succ]
    refine xCall 35 34 #[.pointer none, .agg (cellsOf .u8 (nn (seed))), .int .i64 leaf, .int .i64 ((i : Nat) : Int), .int .i64 (1 - (bitF (nn dl) (i : Int)))] (by kernel_rfl) ?_
    refine (secret_nil seed hs leaf (i : Int) (1 - bitF (nn dl) (i : Int)) h1 (by omega) (by omega) w7).mono ?_
    rintro en w8 ⟨rfl, hb1⟩
    have e3 := belE0 hb1
    have ze3 := e3.size
    replace BL := BL.e0 e3
    replace b5 := b5.e0 e3
    replace b7 := b7.e0 e3
    replace b8 := b8.e0 e3
    replace b9 := b9.e0 e3
    clear e3
    refine ⟨.agg (cellsOf .u8 (nn (List.replicate 32 0))), rfl, ?_⟩
    simp only [List.set_cons_zero, List.set_cons_succ]
    refine xCall 36 36 #[.pointer none, .agg (cellsOf .u8 (nn (List.replicate 32 0)))] (by kernel_rfl) ?_
    refine (half_nil (List.replicate 32 0) rfl w8).mono ?_
    rintro en w9 ⟨rfl, hb1⟩
    have e4 := belE0 hb1
    have ze4 := e4.size
    replace BL := BL.e0 e4
    replace b5 := b5.e0 e4
    replace b7 := b7.e0 e4
    replace b8 := b8.e0 e4
    replace b9 := b9.e0 e4
    clear e4
    refine ⟨.agg (cellsOf .u8 (nn (List.replicate 32 0))), rfl, ?_⟩
    simp only [List.set_cons_zero, List.set_cons_succ]
    refine sv 37 (.pointer (some ⟨w3.heap.size, 8192, none⟩)) .of ?_
    simp only [List.set_cons_zero, List.set_cons_succ]
    refine sv 38 (.pointer (some ⟨w3.heap.size, 8192 + i * 32, none⟩)) (Val.idxA 56 (.tmp 37) (.tmp 27) rfl w3.heap.size 8192 i (by kernel_rfl) (by kernel_rfl) 32 Try.underlying56 (by kernel_rfl) (by omega)) ?_
    simp only [List.set_cons_zero, List.set_cons_succ]
    refine xStoreA 37 (.tmp 38) (.tmp 36) rfl .u8 w3.heap.size 58 (over (nn Z) (0 + i * 32) (nn (List.replicate 32 0))) (8192 + i * 32) (nn (List.replicate 32 0)) (by kernel_rfl) (by kernel_rfl) b9 (by rw [show (nn (List.replicate 32 0)).length = 32 by omega]; kernel_rfl) (by omega) _ rfl ?_
    intro w10 t2
    have zt2 := t2.z
    have BL_ := BL.ev t2.e (fun i h => show w.heap.size ≤ i by have h : i = w3.heap.size := h; omega)
    have b5_ := b5.ev t2.e (show ¬ (w.heap.size = w3.heap.size) by omega)
    have b7_ := b7.ev t2.e (show ¬ (w1.heap.size = w3.heap.size) by omega)
    have b8_ := b8.ev t2.e (show ¬ (w2.heap.size = w3.heap.size) by omega)
    replace BL := BL_; clear BL_
    replace b5 := b5_; clear b5_
    replace b7 := b7_; clear b7_
    replace b8 := b8_; clear b8_
    replace b9 : Blk .u8 w10 w3.heap.size 58 (over (over (nn Z) (0 + i * 32) (nn (List.replicate 32 0))) (8192 + i * 32) (nn (List.replicate 32 0))) := t2.c
    clear t2
    refine wpList_nil ?_
    refine hK7 _ _ ?_
    refine cPlain ?_
    refine sv 39 (.int .i64 (((i : Nat) : Int) + 1)) (Val.add 3 _ (.tmp 12) _ rfl ((i : Nat) : Int) 1 (by kernel_rfl) (by kernel_rfl) (by omega)) ?_
    simp only [List.set_cons_zero, List.set_cons_succ]
    refine sv 12 (.int .i64 (((i : Nat) : Int) + 1)) .of ?_
    simp only [List.set_cons_zero, List.set_cons_succ]
    refine wpList_nil ?_
    refine ⟨_, ?_, i + 1, rfl, (by omega), cutE, BL, b5, b7, b8, (by rw [hZo _ (by omega), hZo _ (by omega)] at b9; exact b9), by omega⟩
    omega
  · skip
    refine wp_exit ?_
    simp only [Exit.then, Exit.inBlock, ↓reduceIte, Nat.reduceEqDiff]
    refine hK3 _ _ ?_
    refine wp_seq_k fun K11 hK11 => ?_
    refine cPlain ?_
    refine sv 40 (.agg (cellsOf .u8 (nn Z))) (Val.blk 58 _ rfl 0 16384 (by kernel_rfl) b9 _ Try.underlying58 rfl (by kernel_rfl) (by (try simp only [nn_len, List.length_append, List.length_replicate]); try omega) _ (seg_all' _ (by (try simp only [nn_len, List.length_append, List.length_replicate]); try omega))) ?_
    simp only [List.set_cons_zero, List.set_cons_succ]
    refine xStoreA 58 (.tmp 8) (.tmp 40) rfl .u8 w2.heap.size 58 (nn (List.replicate 16384 0)) 0 (nn Z) (by kernel_rfl) (by kernel_rfl) b8 (by rw [show (nn Z).length = 16384 by ((try simp only [nn_len, List.length_append, List.length_replicate]); try omega)]; kernel_rfl) (by (try simp only [nn_len, List.length_append, List.length_replicate]); try omega) (nn Z) (over_whole _ _ (by (try simp only [nn_len, List.length_append, List.length_replicate]); try omega)) ?_
    intro w11 t3
    have zt3 := t3.z
    have BL_ := BL.ev t3.e (fun i h => show w.heap.size ≤ i by have h : i = w2.heap.size := h; omega)
    have b5_ := b5.ev t3.e (show ¬ (w.heap.size = w2.heap.size) by omega)
    have b7_ := b7.ev t3.e (show ¬ (w1.heap.size = w2.heap.size) by omega)
    have b9_ := b9.ev t3.e (show ¬ (w3.heap.size = w2.heap.size) by omega)
    replace BL := BL_; clear BL_
    replace b5 := b5_; clear b5_
    replace b7 := b7_; clear b7_
    replace b9 := b9_; clear b9_
    replace b8 : Blk .u8 w11 w2.heap.size 58 (nn Z) := t3.c
    clear t3
    refine wpList_nil ?_
    refine hK11 _ _ ?_
    refine wp_ret ?_
    (try simp only [Exit.then, Exit.inBlock])
    refine bodyPost_ret (rC rfl _ w2.heap.size _ _ (by kernel_rfl) b8.cel _ Try.underlying58 rfl (by rw [List.length_map, show (nn Z).length = 16384 by ((try simp only [nn_len, List.length_append, List.length_replicate]); try omega)]; kernel_rfl)) rfl ?_
    exact ⟨rfl, BL.b⟩

set_option maxHeartbeats 4000000 in
theorem open_nil (dl S O : List Nat) (hdl : dl.length = 32) (hdb : Bytes (nn dl)) (hS : S.length = 8192) (hO : O.length = 8192) (w : World) :
    Calls Try.prog 38 #[.pointer none, .agg (cellsOf .u8 (nn dl)), .agg (cellsOf .u8 (nn (S ++ O)))] w fun e w' => e = .returned (.agg (cellsOf .u8 (nn (List.replicate 32 0)))) ∧ Below w.heap.size w w' := by
  have BL := Bl.refl w
  obtain ⟨Z, hZ⟩ : ∃ Z : List Nat, Z = List.replicate 8192 0 := ⟨_, rfl⟩
  have hZl : Z.length = 8192 := by rw [hZ, List.length_replicate]
  have hZn : (nn Z).length = 8192 := by rw [nn_len]; exact hZl
  have hZo : ∀ o, o + 32 ≤ 8192 → over (nn Z) o (nn (List.replicate 32 0)) = nn Z := fun o ho => by rw [hZ]; exact over_rep _ _ _ ho
  have hso : (nn (S ++ O)).length = 16384 := by rw [nn_len, List.length_append]; omega
  have hz32 : (nn (List.replicate 32 0)).length = 32 := by rw [nn_len]; rfl
  go_enter Try.func38, Try.ntmps38
  refine wp_seq_k fun K1 hK1 => ?_
  refine cPlain ?_
  refine xBox 4 37 _ ((nn (dl)).map (Value.int .u8)) rfl (cells_toList _ _) ?_
  intro w1 n1
  have zn1 := n1.z
  have b4 := n1.c
  replace b4 : Blk .u8 w1 w.heap.size 37 (nn (dl)) := b4
  replace BL := BL.e0 n1.e
  simp only [List.set_cons_zero, List.set_cons_succ]
  refine xBox 5 58 _ ((nn (S ++ O)).map (Value.int .u8)) rfl (cells_toList _ _) ?_
  intro w2 n2
  have zn2 := n2.z
  have b5 := n2.c
  replace b5 : Blk .u8 w2 w1.heap.size 58 (nn (S ++ O)) := b5
  replace BL := BL.e0 n2.e
  replace b4 := b4.e0 n2.e
  simp only [List.set_cons_zero, List.set_cons_succ]
  refine xAlloc 6 37 ((nn (List.replicate 32 0)).map (Value.int .u8)) rfl (by kernel_rfl) ?_
  intro w3 n3
  have zn3 := n3.z
  have b6 := n3.c
  replace b6 : Blk .u8 w3 w2.heap.size 37 (nn (List.replicate 32 0)) := b6
  replace BL := BL.e0 n3.e
  replace b4 := b4.e0 n3.e
  replace b5 := b5.e0 n3.e
  simp only [List.set_cons_zero, List.set_cons_succ]
  refine wpList_nil ?_
  refine hK1 _ _ ?_
  refine wp_seq_k fun K2 hK2 => ?_
  refine cPlain ?_
  refine xAlloc 7 56 ((nn (List.replicate 8192 0)).map (Value.int .u8)) rfl (by kernel_rfl) ?_
  intro w4 n4
  have zn4 := n4.z
  have b7 := n4.c
  replace b7 : Blk .u8 w4 w3.heap.size 56 (nn (List.replicate 8192 0)) := b7
  replace BL := BL.e0 n4.e
  replace b4 := b4.e0 n4.e
  replace b5 := b5.e0 n4.e
  replace b6 := b6.e0 n4.e
  simp only [List.set_cons_zero, List.set_cons_succ]
  refine wpList_nil ?_
  refine hK2 _ _ ?_
  refine wp_seq_k fun K3 hK3 => ?_
  refine wp_seq_k fun K4 hK4 => ?_
  refine cPlain ?_
  refine sv 10 (.pointer (some ⟨w1.heap.size, 0, none⟩)) .of ?_
  simp only [List.set_cons_zero, List.set_cons_succ]
  refine sv 11 (.agg (cellsOf .u8 (nn (S)))) (Val.blk 55 _ rfl 0 8192 (by kernel_rfl) b5 _ Try.underlying55 rfl (by kernel_rfl) (by omega) _ (seg_fst hS)) ?_
  simp only [List.set_cons_zero, List.set_cons_succ]
  refine sv 12 (.int .i64 0) .of ?_
  simp only [List.set_cons_zero, List.set_cons_succ]
  refine wpList_nil ?_
  refine hK4 _ _ ?_
  refine wp_block ?_
  refine cLoop (fun N_ A_ w_ => ∃ (i : Nat), (N_ = 256 - i ∧ (i ≤ 256) ∧ (∃ s1 : Nat → Value, A_ = ⟨[.pointer none, .agg (cellsOf .u8 (nn (dl))), .agg (cellsOf .u8 (nn (S ++ O))), undef, .pointer (some ⟨w.heap.size, 0, none⟩), .pointer (some ⟨w1.heap.size, 0, none⟩), .pointer (some ⟨w2.heap.size, 0, none⟩), .pointer (some ⟨w3.heap.size, 0, none⟩), (s1 8), (s1 9), .pointer (some ⟨w1.heap.size, 0, none⟩), .agg (cellsOf .u8 (nn (S))), .int .i64 ((i : Nat) : Int), (s1 13), (s1 14), (s1 15), (s1 16), (s1 17), (s1 18), (s1 19), (s1 20), (s1 21), undef, undef, undef, undef, undef, undef, undef].toArray, []⟩) ∧ Bl w.heap.size w w_ ∧ Blk .u8 w_ w.heap.size 37 (nn (dl)) ∧ Blk .u8 w_ w1.heap.size 58 (nn (S ++ O)) ∧ Blk .u8 w_ w2.heap.size 37 (nn (List.replicate 32 0)) ∧ Blk .u8 w_ w3.heap.size 56 (nn Z) ∧ w4.heap.size ≤ w_.heap.size)) _ ⟨0, rfl, (Nat.zero_le _), cutE, BL, b4, b5, b6, (by rw [hZ]; exact b7), Nat.le_refl _⟩ ?_
  clear BL b4 b5 b6 b7
  rintro n_ a_ wl0 ⟨i, rfl, hc0_0, ⟨s1, rfl⟩, BL, b4, b5, b6, b7, zl0⟩
  refine wp_seq_k fun K5 hK5 => ?_
  refine cPlain ?_
  refine sv 13 (.bool (decide (((i : Nat) : Int) < 256))) (Val.cmp .lss 3 _ (.tmp 12) _ rfl .i64 ((i : Nat) : Int) 256 (by kernel_rfl) (by kernel_rfl) (by simp) _ rfl) ?_
  simp only [List.set_cons_zero, List.set_cons_succ]
  refine wpList_nil ?_
  refine hK5 _ _ ?_
  refine wp_seq_k fun K6 hK6 => ?_
  refine cDec (((i : Nat) : Int) < 256) (by kernel_rfl) (fun c13 => ?_) (fun c13 => ?_)
  · skip
    refine wp_skip ?_
    refine hK6 _ _ ?_
    refine wp_seq_k fun K7 hK7 => ?_
    refine wp_block ?_
    refine wp_seq_k fun K8 hK8 => ?_
    have hrl0 := rowN_len (xs := S) (i := i) (by omega)
    have hrl : (nn (rowN S i)).length = 32 := by rw [nn_len]; exact rowN_len (by omega)
    refine cPlain ?_
    refine sv 14 (.int .i64 ((i : Nat) : Int)) .of ?_
    simp only [List.set_cons_zero, List.set_cons_succ]
    refine sv 15 (.agg (cellsOf .u8 (nn (rowN S i)))) (Val.ixA 55 (.tmp 11) (.tmp 12) rfl .u8 (nn S) i 32 (by kernel_rfl) (by kernel_rfl) Try.underlying55 Try.underlying36 (by kernel_rfl) (by omega) _ (seg_rowN _ _ _ (by omega))) ?_
    simp only [List.set_cons_zero, List.set_cons_succ]
    refine xAlloc 9 36 ((nn (List.replicate 32 0)).map (Value.int .u8)) rfl (by kernel_rfl) ?_
    intro w5 n5
    have zn5 := n5.z
    have b9 := n5.c
    replace b9 : Blk .u8 w5 wl0.heap.size 36 (nn (List.replicate 32 0)) := b9
    replace BL := BL.e0 n5.e
    replace b4 := b4.e0 n5.e
    replace b5 := b5.e0 n5.e
    replace b6 := b6.e0 n5.e
    replace b7 := b7.e0 n5.e
    simp only [List.set_cons_zero, List.set_cons_succ]
    refine sv 8 (.int .i64 ((i : Nat) : Int)) .of ?_
    simp only [List.set_cons_zero, List.set_cons_succ]
    refine xStoreA 36 (.tmp 9) (.tmp 15) rfl .u8 wl0.heap.size 36 (nn (List.replicate 32 0)) 0 (nn (rowN S i)) (by kernel_rfl) (by kernel_rfl) b9 (by rw [show (nn (rowN S i)).length = 32 by ((try simp only [nn_len, List.length_append, List.length_replicate]); try omega)]; kernel_rfl) (by (try simp only [nn_len, List.length_append, List.length_replicate]); try omega) (nn (rowN S i)) (over_whole _ _ (by (try simp only [nn_len, List.length_append, List.length_replicate]); try omega)) ?_
    intro w6 t1
    have zt1 := t1.z
    have BL_ := BL.ev t1.e (fun i h => show w.heap.size ≤ i by have h : i = wl0.heap.size := h; omega)
    have b4_ := b4.ev t1.e (show ¬ (w.heap.size = wl0.heap.size) by omega)
    have b5_ := b5.ev t1.e (show ¬ (w1.heap.size = wl0.heap.size) by omega)
    have b6_ := b6.ev t1.e (show ¬ (w2.heap.size = wl0.heap.size) by omega)
    have b7_ := b7.ev t1.e (show ¬ (w3.heap.size = wl0.heap.size) by omega)
    replace BL := BL_; clear BL_
    replace b4 := b4_; clear b4_
    replace b5 := b5_; clear b5_
    replace b6 := b6_; clear b6_
    replace b7 := b7_; clear b7_
    replace b9 : Blk .u8 w6 wl0.heap.size 36 (nn (rowN S i)) := t1.c
    clear t1
    refine wpList_nil ?_
    refine hK8 _ _ ?_
    refine cPlain ?_
    refine sv 16 (.int .i64 ((i : Nat) : Int)) .of ?_
    simp only [List.set_cons_zero, List.set_cons_succ]
    refine sv 17 (.pointer none) .of ?_
    simp only [List.set_cons_zero, List.set_cons_succ]
    refine sv 18 (.agg (cellsOf .u8 (nn (rowN S i)))) (Val.blk 36 _ rfl 0 32 (by kernel_rfl) b9 _ Try.underlying36 rfl (by kernel_rfl) (by (try simp only [nn_len, List.length_append, List.length_replicate]); try omega) _ (seg_all' _ (by (try simp only [nn_len, List.length_append, List.length_replicate]); try omega))) ?_
    simp only [List.set_cons_zero, List.set_cons_succ]
    refine xCall 19 36 #[.pointer none, .agg (cellsOf .u8 (nn (rowN S i)))] (by kernel_rfl) ?_
    refine (half_nil (rowN S i) (rowN_len (by omega)) w6).mono ?_
    rintro en w7 ⟨rfl, hb1⟩
    have e1 := belE0 hb1
    have ze1 := e1.size
    replace BL := BL.e0 e1
    replace b4 := b4.e0 e1
    replace b5 := b5.e0 e1
    replace b6 := b6.e0 e1
    replace b7 := b7.e0 e1
    replace b9 := b9.e0 e1
    clear e1
    refine ⟨.agg (cellsOf .u8 (nn (List.replicate 32 0))), rfl, ?_⟩
    simp only [List.set_cons_zero, List.set_cons_succ]
    refine sv 20 (.pointer (some ⟨w3.heap.size, 0 + i * 32, none⟩)) (Val.idxA 56 (.tmp 7) (.tmp 16) rfl w3.heap.size 0 i (by kernel_rfl) (by kernel_rfl) 32 Try.underlying56 (by kernel_rfl) (by omega)) ?_
    simp only [List.set_cons_zero, List.set_cons_succ]
    refine xStoreA 37 (.tmp 20) (.tmp 19) rfl .u8 w3.heap.size 56 (nn Z) (0 + i * 32) (nn (List.replicate 32 0)) (by kernel_rfl) (by kernel_rfl) b7 (by rw [show (nn (List.replicate 32 0)).length = 32 by omega]; kernel_rfl) (by omega) _ rfl ?_
    intro w8 t2
    have zt2 := t2.z
    have BL_ := BL.ev t2.e (fun i h => show w.heap.size ≤ i by have h : i = w3.heap.size := h; omega)
    have b4_ := b4.ev t2.e (show ¬ (w.heap.size = w3.heap.size) by omega)
    have b5_ := b5.ev t2.e (show ¬ (w1.heap.size = w3.heap.size) by omega)
    have b6_ := b6.ev t2.e (show ¬ (w2.heap.size = w3.heap.size) by omega)
    have b9_ := b9.ev t2.e (show ¬ (wl0.heap.size = w3.heap.size) by omega)
    replace BL := BL_; clear BL_
    replace b4 := b4_; clear b4_
    replace b5 := b5_; clear b5_
    replace b6 := b6_; clear b6_
    replace b9 := b9_; clear b9_
    replace b7 : Blk .u8 w8 w3.heap.size 56 (over (nn Z) (0 + i * 32) (nn (List.replicate 32 0))) := t2.c
    clear t2
    refine wpList_nil ?_
    refine hK7 _ _ ?_
    refine cPlain ?_
    refine sv 21 (.int .i64 (((i : Nat) : Int) + 1)) (Val.add 3 _ (.tmp 12) _ rfl ((i : Nat) : Int) 1 (by kernel_rfl) (by kernel_rfl) (by omega)) ?_
    simp only [List.set_cons_zero, List.set_cons_succ]
    refine sv 12 (.int .i64 (((i : Nat) : Int) + 1)) .of ?_
    simp only [List.set_cons_zero, List.set_cons_succ]
    refine wpList_nil ?_
    refine ⟨_, ?_, i + 1, rfl, (by omega), cutE, BL, b4, b5, b6, (by rw [hZo _ (by omega)] at b7; exact b7), by omega⟩
    omega
  · skip
    refine wp_exit ?_
    simp only [Exit.then, Exit.inBlock, ↓reduceIte, Nat.reduceEqDiff]
    refine hK3 _ _ ?_
    refine wp_seq_k fun K9 hK9 => ?_
    refine cPlain ?_
    refine sv 22 (.pointer none) .of ?_
    simp only [List.set_cons_zero, List.set_cons_succ]
    refine sv 23 (.agg (cellsOf .u8 (nn (dl)))) (Val.blk 37 _ rfl 0 32 (by kernel_rfl) b4 _ Try.underlying37 rfl (by kernel_rfl) (by (try simp only [nn_len, List.length_append, List.length_replicate]); try omega) _ (seg_all' _ (by (try simp only [nn_len, List.length_append, List.length_replicate]); try omega))) ?_
    simp only [List.set_cons_zero, List.set_cons_succ]
    refine sv 24 (.agg (cellsOf .u8 (nn (Z)))) (Val.blk 56 _ rfl 0 8192 (by kernel_rfl) b7 _ Try.underlying56 rfl (by kernel_rfl) (by omega) _ (seg_all' _ (by rw [nn_len]; exact hZl))) ?_
    simp only [List.set_cons_zero, List.set_cons_succ]
    refine sv 25 (.pointer (some ⟨w1.heap.size, 8192, none⟩)) .of ?_
    simp only [List.set_cons_zero, List.set_cons_succ]
    refine sv 26 (.agg (cellsOf .u8 (nn (O)))) (Val.blk 56 _ rfl 8192 8192 (by kernel_rfl) b5 _ Try.underlying56 rfl (by kernel_rfl) (by omega) _ (seg_snd hS hO)) ?_
    simp only [List.set_cons_zero, List.set_cons_succ]
    refine xCall 27 95 #[.agg (cellsOf .u8 (nn (dl))), .agg (cellsOf .u8 (nn (Z))), .agg (cellsOf .u8 (nn (O)))] (by kernel_rfl) ?_
    refine (lamtext_any (nn dl) (nn Z) (nn O) (by rw [nn_len]; exact hdl) hdb (by rw [nn_len]; exact hZl) (by rw [nn_len]; exact hO) wl0).mono ?_
    rintro en w9 ⟨u, rfl, hOw, hb1⟩
    have e2 := belE0 hb1
    have ze2 := e2.size
    replace BL := BL.e0 e2
    replace b4 := b4.e0 e2
    replace b5 := b5.e0 e2
    replace b6 := b6.e0 e2
    replace b7 := b7.e0 e2
    clear e2
    refine ⟨u, rfl, ?_⟩
    simp only [List.set_cons_zero, List.set_cons_succ]
    refine xCall 28 20 #[.pointer none, u] (by kernel_rfl) ?_
    refine (of_nil u w9).mono ?_
    rintro en w10 ⟨rfl, hb1⟩
    have e3 := belE0 hb1
    have ze3 := e3.size
    replace BL := BL.e0 e3
    replace b4 := b4.e0 e3
    replace b5 := b5.e0 e3
    replace b6 := b6.e0 e3
    replace b7 := b7.e0 e3
    clear e3
    refine ⟨.agg (cellsOf .u8 (nn (List.replicate 32 0))), rfl, ?_⟩
    simp only [List.set_cons_zero, List.set_cons_succ]
    refine xStoreA 37 (.tmp 6) (.tmp 28) rfl .u8 w2.heap.size 37 (nn (List.replicate 32 0)) 0 (nn (List.replicate 32 0)) (by kernel_rfl) (by kernel_rfl) b6 (by rw [show (nn (List.replicate 32 0)).length = 32 by ((try simp only [nn_len, List.length_append, List.length_replicate]); try omega)]; kernel_rfl) (by (try simp only [nn_len, List.length_append, List.length_replicate]); try omega) (nn (List.replicate 32 0)) (over_whole _ _ (by (try simp only [nn_len, List.length_append, List.length_replicate]); try omega)) ?_
    intro w11 t3
    have zt3 := t3.z
    have BL_ := BL.ev t3.e (fun i h => show w.heap.size ≤ i by have h : i = w2.heap.size := h; omega)
    have b4_ := b4.ev t3.e (show ¬ (w.heap.size = w2.heap.size) by omega)
    have b5_ := b5.ev t3.e (show ¬ (w1.heap.size = w2.heap.size) by omega)
    have b7_ := b7.ev t3.e (show ¬ (w3.heap.size = w2.heap.size) by omega)
    replace BL := BL_; clear BL_
    replace b4 := b4_; clear b4_
    replace b5 := b5_; clear b5_
    replace b7 := b7_; clear b7_
    replace b6 : Blk .u8 w11 w2.heap.size 37 (nn (List.replicate 32 0)) := t3.c
    clear t3
    refine wpList_nil ?_
    refine hK9 _ _ ?_
    refine wp_ret ?_
    (try simp only [Exit.then, Exit.inBlock])
    refine bodyPost_ret (rC rfl _ w2.heap.size _ _ (by kernel_rfl) b6.cel _ Try.underlying37 rfl (by rw [List.length_map, show (nn (List.replicate 32 0)).length = 32 by ((try simp only [nn_len, List.length_append, List.length_replicate]); try omega)]; kernel_rfl)) rfl ?_
    exact ⟨rfl, BL.b⟩

theorem zb_split : List.replicate 16384 0 = (List.replicate 8192 0 ++ List.replicate 8192 0 : List Nat) := by rw [List.replicate_append_replicate]
set_option maxHeartbeats 4000000 in
theorem key_nil (seed : List Nat) (hs : seed.length = 32) (leaf : Int) (h1 : leaf ≤ 9223372036854775807) (w : World) :
    Calls Try.prog 35 #[.pointer none, .agg (cellsOf .u8 (nn seed)), .int .i64 leaf] w fun e w' => e = .returned (.agg (cellsOf .u8 (nn (List.replicate 32 0)))) ∧ Below w.heap.size w w' := by
  have BL := Bl.refl w
  obtain ⟨Y, hY⟩ : ∃ Z : List Nat, Z = List.replicate 8192 0 := ⟨_, rfl⟩
  have hYl : Y.length = 8192 := by rw [hY, List.length_replicate]
  go_enter Try.func35, Try.ntmps35
  refine wp_seq_k fun K1 hK1 => ?_
  refine cPlain ?_
  refine xBox 4 36 _ ((nn (seed)).map (Value.int .u8)) rfl (cells_toList _ _) ?_
  intro w1 n1
  have zn1 := n1.z
  have b4 := n1.c
  replace b4 : Blk .u8 w1 w.heap.size 36 (nn (seed)) := b4
  replace BL := BL.e0 n1.e
  simp only [List.set_cons_zero, List.set_cons_succ]
  refine xAlloc 6 37 ((nn (List.replicate 32 0)).map (Value.int .u8)) rfl (by kernel_rfl) ?_
  intro w2 n2
  have zn2 := n2.z
  have b6 := n2.c
  replace b6 : Blk .u8 w2 w1.heap.size 37 (nn (List.replicate 32 0)) := b6
  replace BL := BL.e0 n2.e
  replace b4 := b4.e0 n2.e
  simp only [List.set_cons_zero, List.set_cons_succ]
  refine wpList_nil ?_
  refine hK1 _ _ ?_
  refine wp_seq_k fun K2 hK2 => ?_
  refine cPlain ?_
  refine xAlloc 7 37 ((nn (List.replicate 32 0)).map (Value.int .u8)) rfl (by kernel_rfl) ?_
  intro w3 n3
  have zn3 := n3.z
  have b7 := n3.c
  replace b7 : Blk .u8 w3 w2.heap.size 37 (nn (List.replicate 32 0)) := b7
  replace BL := BL.e0 n3.e
  replace b4 := b4.e0 n3.e
  replace b6 := b6.e0 n3.e
  simp only [List.set_cons_zero, List.set_cons_succ]
  refine wpList_nil ?_
  refine hK2 _ _ ?_
  refine wp_seq_k fun K3 hK3 => ?_
  have e1 := drew_e0 w3
  refine zg (fun w_ => Bl w.heap.size w w_ ∧ Blk .u8 w_ w.heap.size 36 (nn (seed)) ∧ Blk .u8 w_ w1.heap.size 37 (nn (List.replicate 32 0)) ∧ Blk .u8 w_ w2.heap.size 37 (nn (List.replicate 32 0)) ∧ w3.heap.size ≤ w_.heap.size) (fun w_ => Bl w.heap.size w w_ ∧ Blk .u8 w_ w.heap.size 36 (nn (seed)) ∧ Blk .u8 w_ w1.heap.size 37 (nn (List.replicate 32 0)) ∧ Blk .u8 w_ w2.heap.size 37 (nn (List.replicate 32 0)) ∧ w3.heap.size ≤ w_.heap.size) 8 9 ⟨BL.e0 e1, b4.e0 e1, b6.e0 e1, b7.e0 e1, Nat.le_refl _⟩ ?_
  clear BL b4 b6 b7
  clear e1
  intro w4
  rintro ⟨BL, b4, b6, b7, z1⟩
  refine zv 0 8 (.pointer none) (fun _ _ => .of) ⟨BL, b4, b6, b7, by omega⟩ ?_
  simp only [List.set_cons_zero, List.set_cons_succ]
  refine zv 1 9 (.agg (cellsOf .u8 (nn (List.replicate 32 0)))) (fun _ ⟨BL, b4, b6, b7, z1⟩ => Val.blk 37 _ rfl 0 32 (by kernel_rfl) b7 _ Try.underlying37 rfl (by kernel_rfl) (by (try simp only [nn_len, List.length_cons, List.length_nil, List.length_set, List.length_replicate]); try omega) _ (seg_all' _ (by (try simp only [nn_len, List.length_cons, List.length_nil, List.length_set, List.length_replicate]); try omega))) ⟨BL, b4, b6, b7, by omega⟩ ?_
  simp only [List.set_cons_zero, List.set_cons_succ]
  refine zv 2 10 (.pointer none) (fun _ _ => .of) ⟨BL, b4, b6, b7, by omega⟩ ?_
  simp only [List.set_cons_zero, List.set_cons_succ]
  refine zv 3 11 (.agg (cellsOf .u8 (nn (seed)))) (fun _ ⟨BL, b4, b6, b7, z1⟩ => Val.blk 36 _ rfl 0 32 (by kernel_rfl) b4 _ Try.underlying36 rfl (by kernel_rfl) (by (try simp only [nn_len, List.length_cons, List.length_nil, List.length_set, List.length_replicate]); try omega) _ (seg_all' _ (by (try simp only [nn_len, List.length_cons, List.length_nil, List.length_set, List.length_replicate]); try omega))) ⟨BL, b4, b6, b7, by omega⟩ ?_
  simp only [List.set_cons_zero, List.set_cons_succ]
  refine zv 4 12 (.int .i64 leaf) (fun _ _ => .of) ⟨BL, b4, b6, b7, by omega⟩ ?_
  simp only [List.set_cons_zero, List.set_cons_succ]
  refine zv 5 13 (.agg (cellsOf .u8 (nn (List.replicate 32 0)))) (fun _ ⟨BL, b4, b6, b7, z1⟩ => Val.blk 37 _ rfl 0 32 (by kernel_rfl) b7 _ Try.underlying37 rfl (by kernel_rfl) (by (try simp only [nn_len, List.length_cons, List.length_nil, List.length_set, List.length_replicate]); try omega) _ (seg_all' _ (by (try simp only [nn_len, List.length_cons, List.length_nil, List.length_set, List.length_replicate]); try omega))) ⟨BL, b4, b6, b7, by omega⟩ ?_
  simp only [List.set_cons_zero, List.set_cons_succ]
  refine zo1 6 rfl ?_
  refine xCall 14 37 #[.pointer none, .agg (cellsOf .u8 (nn (seed))), .int .i64 leaf, .agg (cellsOf .u8 (nn (List.replicate 32 0)))] (by kernel_rfl) ?_
  refine (sign_nil seed hs leaf h1 (List.replicate 32 0) rfl bytes_zero w4).mono ?_
  rintro en w5 ⟨he, hb1⟩
  rw [zb_split, ← hY] at he
  subst he
  have e2 := belE0 hb1
  have ze2 := e2.size
  replace BL := BL.e0 e2
  replace b4 := b4.e0 e2
  replace b6 := b6.e0 e2
  replace b7 := b7.e0 e2
  clear e2
  refine ⟨.agg (cellsOf .u8 (nn (Y ++ Y))), rfl, ?_⟩
  refine ze 6 ⟨BL, b4, b6, b7, by omega⟩ ?_
  simp only [List.set_cons_zero, List.set_cons_succ]
  refine zo1 7 rfl ?_
  refine xCall 15 38 #[.pointer none, .agg (cellsOf .u8 (nn (List.replicate 32 0))), .agg (cellsOf .u8 (nn (Y ++ Y)))] (by kernel_rfl) ?_
  refine (open_nil (List.replicate 32 0) Y Y rfl bytes_zero hYl hYl w5).mono ?_
  rintro en w6 ⟨rfl, hb1⟩
  have e3 := belE0 hb1
  have ze3 := e3.size
  replace BL := BL.e0 e3
  replace b4 := b4.e0 e3
  replace b6 := b6.e0 e3
  replace b7 := b7.e0 e3
  clear e3
  refine ⟨.agg (cellsOf .u8 (nn (List.replicate 32 0))), rfl, ?_⟩
  refine ze 7 ⟨BL, b4, b6, b7, by omega⟩ ?_
  simp only [List.set_cons_zero, List.set_cons_succ]
  refine zo1 8 rfl ?_
  refine xStoreA 37 (.tmp 6) (.tmp 15) rfl .u8 w1.heap.size 37 (nn (List.replicate 32 0)) 0 (nn (List.replicate 32 0)) (by kernel_rfl) (by kernel_rfl) b6 (by rw [show (nn (List.replicate 32 0)).length = 32 by ((try simp only [nn_len, List.length_cons, List.length_nil, List.length_set, List.length_replicate]); try omega)]; kernel_rfl) (by (try simp only [nn_len, List.length_cons, List.length_nil, List.length_set, List.length_replicate]); try omega) (nn (List.replicate 32 0)) (over_whole _ _ (by (try simp only [nn_len, List.length_cons, List.length_nil, List.length_set, List.length_replicate]); try omega)) ?_
  intro w7 t1
  have zt1 := t1.z
  have BL_ := BL.ev t1.e (fun i h => show w.heap.size ≤ i by have h : i = w1.heap.size := h; omega)
  have b4_ := b4.ev t1.e (show ¬ (w.heap.size = w1.heap.size) by omega)
  have b7_ := b7.ev t1.e (show ¬ (w2.heap.size = w1.heap.size) by omega)
  replace BL := BL_; clear BL_
  replace b4 := b4_; clear b4_
  replace b7 := b7_; clear b7_
  replace b6 : Blk .u8 w7 w1.heap.size 37 (nn (List.replicate 32 0)) := t1.c
  clear t1
  refine zz 8 ?_
  refine zd (by kernel_rfl) ?_ _
  refine hK3 _ _ ?_
  refine wp_ret ?_
  (try simp only [Exit.then, Exit.inBlock])
  refine bodyPost_ret (rC rfl _ w1.heap.size _ _ (by kernel_rfl) b6.cel _ Try.underlying37 rfl (by rw [List.length_map, show (nn (List.replicate 32 0)).length = 32 by ((try simp only [nn_len, List.length_cons, List.length_nil, List.length_set, List.length_replicate]); try omega)]; kernel_rfl)) rfl ?_
  exact ⟨rfl, BL.b⟩

end Go.Proofs.Yteaijjefbadnbaa
