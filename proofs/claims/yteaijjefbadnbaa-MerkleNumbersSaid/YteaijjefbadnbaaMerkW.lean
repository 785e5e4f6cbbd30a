/-
  merkle.Node, slices.Clone of digests, merkle.levels with both closures, merkle.Root, merkle.Path, merkle.Right, merkle.Climb.
-/
import Derived.Test.YteaijjefbadnbaaMerkV
namespace Go.Proofs.Yteaijjefbadnbaa
open Go.RowKit
set_option linter.unusedVariables false
set_option linter.unusedSimpArgs false
set_option maxRecDepth 100000
attribute [local irreducible] wpList Code.wp wpAnyZ taggedN mnode
set_option maxHeartbeats 4000000 in
theorem mnode_any (T : Nat) (tab : List Nat) (ht : tab.length = 72) (w : World) (TB : Blk .u32 w T 26 (nn tab)) (da db : List Nat) (hda : da.length = 32) (hdb : db.length = 32) :
    Calls Try.prog 40 #[.pointer (some ⟨T, 0, none⟩), .agg (cellsOf .u8 (nn da)), .agg (cellsOf .u8 (nn db))] w fun e w' => e = .returned (.agg (cellsOf .u8 (nn (mnode tab da db)))) ∧ Below w.heap.size w w' := by
  have BL := Bl.refl w
  have hT := TB.lt
  have hol := mnode_len tab da db
  have hbs := blobsB_small [da, db] 32 (fun p hp => by rcases List.mem_cons.1 hp with rfl | hp; omega; rw [List.mem_singleton.1 hp]; omega) (by omega)
  go_enter Try.func40, Try.ntmps40
  refine wp_seq_k fun K1 hK1 => ?_
  refine cPlain ?_
  refine xBox 4 37 _ ((nn (da)).map (Value.int .u8)) rfl (cells_toList _ _) ?_
  intro w1 n1
  have zn1 := n1.z
  have b4 := n1.c
  replace b4 : Blk .u8 w1 w.heap.size 37 (nn (da)) := b4
  replace BL := BL.e0 n1.e
  replace TB := TB.e0 n1.e
  simp only [List.set_cons_zero, List.set_cons_succ]
  refine xBox 5 37 _ ((nn (db)).map (Value.int .u8)) rfl (cells_toList _ _) ?_
  intro w2 n2
  have zn2 := n2.z
  have b5 := n2.c
  replace b5 : Blk .u8 w2 w1.heap.size 37 (nn (db)) := b5
  replace BL := BL.e0 n2.e
  replace TB := TB.e0 n2.e
  replace b4 := b4.e0 n2.e
  simp only [List.set_cons_zero, List.set_cons_succ]
  refine xAlloc 6 37 ((nn (List.replicate 32 0)).map (Value.int .u8)) rfl (by kernel_rfl) ?_
  intro w3 n3
  have zn3 := n3.z
  have b6 := n3.c
  replace b6 : Blk .u8 w3 w2.heap.size 37 (nn (List.replicate 32 0)) := b6
  replace BL := BL.e0 n3.e
  replace TB := TB.e0 n3.e
  replace b4 := b4.e0 n3.e
  replace b5 := b5.e0 n3.e
  simp only [List.set_cons_zero, List.set_cons_succ]
  refine wpList_nil ?_
  refine hK1 _ _ ?_
  refine wp_seq_k fun K2 hK2 => ?_
  have e1 := drew_e0 w3
  refine zg (fun w_ => Bl w.heap.size w w_ ∧ Blk .u32 w_ T 26 (nn tab) ∧ Blk .u8 w_ w.heap.size 37 (nn (da)) ∧ Blk .u8 w_ w1.heap.size 37 (nn (db)) ∧ Blk .u8 w_ w2.heap.size 37 (nn (List.replicate 32 0)) ∧ w3.heap.size ≤ w_.heap.size) (fun w_ => Bl w.heap.size w w_ ∧ Blk .u32 w_ T 26 (nn tab) ∧ Blk .u8 w_ w.heap.size 37 (nn (da)) ∧ Blk .u8 w_ w1.heap.size 37 (nn (db)) ∧ Blk .u8 w_ w2.heap.size 37 (nn (List.replicate 32 0)) ∧ w3.heap.size ≤ w_.heap.size) 5 6 ⟨BL.e0 e1, TB.e0 e1, b4.e0 e1, b5.e0 e1, b6.e0 e1, Nat.le_refl _⟩ ?_
  clear BL TB b4 b5 b6
  clear e1
  intro w4
  rintro ⟨BL, TB, b4, b5, b6, z1⟩
  refine zv 0 7 (.pointer (some ⟨T, 0, none⟩)) (fun _ _ => .of) ⟨BL, TB, b4, b5, b6, by omega⟩ ?_
  simp only [List.set_cons_zero, List.set_cons_succ]
  refine zv 1 8 (.slice (some ⟨w.heap.size, 0, none⟩) 32 32) (fun _ _ => .of) ⟨BL, TB, b4, b5, b6, by omega⟩ ?_
  simp only [List.set_cons_zero, List.set_cons_succ]
  refine zv 2 9 (.slice (some ⟨w1.heap.size, 0, none⟩) 32 32) (fun _ _ => .of) ⟨BL, TB, b4, b5, b6, by omega⟩ ?_
  simp only [List.set_cons_zero, List.set_cons_succ]
  refine zo1 3 rfl ?_
  refine xLit 10 124 30 2 _ #[(0, .slice (some ⟨w.heap.size, 0, none⟩) 32 32), (1, .slice (some ⟨w1.heap.size, 0, none⟩) 32 32)] [.slice (some ⟨w.heap.size, 0, none⟩) 32 32, .slice (some ⟨w1.heap.size, 0, none⟩) 32 32] rfl (by kernel_rfl) (by kernel_rfl) ?_
  intro w5 n4
  have zn4 := n4.z
  have b10 := n4.c
  replace BL := BL.e0 n4.e
  replace TB := TB.e0 n4.e
  replace b4 := b4.e0 n4.e
  replace b5 := b5.e0 n4.e
  replace b6 := b6.e0 n4.e
  refine ze 3 ⟨BL, TB, b4, b5, b6, by omega⟩ ?_
  simp only [List.set_cons_zero, List.set_cons_succ]
  refine zo1 4 rfl ?_
  refine xCall 11 27 #[.pointer (some ⟨T, 0, none⟩), .int .u8 4, .slice (some ⟨w4.heap.size, 0, none⟩) 2 2] (by kernel_rfl) ?_
  refine (tagged_any T tab ht w5 TB 4 _ [.slice (some ⟨w.heap.size, 0, none⟩) 32 32, .slice (some ⟨w1.heap.size, 0, none⟩) 32 32] [da, db] (SV.ofCelM (n := 2) b10 rfl (by unfold maxLen; omega)) (SLs.two (SL.ofBlk b4 (by rw [nn_len]; exact hda) (by unfold maxLen; omega)) (fun g hg => by have := ownB_lit (lo := 0) (hi := w5.heap.size) (by omega) g hg; omega) (SL.ofBlk b5 (by rw [nn_len]; exact hdb) (by unfold maxLen; omega)) (fun g hg => by have := ownB_lit (lo := 0) (hi := w5.heap.size) (by omega) g hg; omega)) (by simp only [List.length_cons, List.length_nil] at hbs; omega) (by simp)).mono ?_
  rintro en w6 ⟨he, hb1⟩
  rw [show taggedN tab 4 [da, db] = mnode tab da db by unfold mnode; rfl] at he
  subst he
  have e2 := belE0 hb1
  have ze2 := e2.size
  replace BL := BL.e0 e2
  replace TB := TB.e0 e2
  replace b4 := b4.e0 e2
  replace b5 := b5.e0 e2
  replace b6 := b6.e0 e2
  replace b10 := b10.e0 e2
  clear e2
  refine ⟨.agg (cellsOf .u8 (nn (mnode tab da db))), rfl, ?_⟩
  refine ze 4 ⟨BL, TB, b4, b5, b6, by omega⟩ ?_
  simp only [List.set_cons_zero, List.set_cons_succ]
  refine zo1 5 rfl ?_
  refine xStoreA 37 (.tmp 6) (.tmp 11) rfl .u8 w2.heap.size 37 (nn (List.replicate 32 0)) 0 (nn (mnode tab da db)) (by kernel_rfl) (by kernel_rfl) b6 (by rw [show (nn (mnode tab da db)).length = 32 by ((try simp only [nn_len, List.length_cons, List.length_nil, List.length_set, List.length_replicate]); try omega)]; kernel_rfl) (by (try simp only [nn_len, List.length_cons, List.length_nil, List.length_set, List.length_replicate]); try omega) (nn (mnode tab da db)) (over_whole _ _ (by (try simp only [nn_len, List.length_cons, List.length_nil, List.length_set, List.length_replicate]); try omega)) ?_
  intro w7 t1
  have zt1 := t1.z
  have BL_ := BL.ev t1.e (fun i h => show w.heap.size ≤ i by have h : i = w2.heap.size := h; omega)
  have TB_ := TB.ev t1.e (show ¬ (T = w2.heap.size) by omega)
  have b4_ := b4.ev t1.e (show ¬ (w.heap.size = w2.heap.size) by omega)
  have b5_ := b5.ev t1.e (show ¬ (w1.heap.size = w2.heap.size) by omega)
  have b10_ := b10.ev t1.e (show ¬ (w4.heap.size = w2.heap.size) by omega)
  replace BL := BL_; clear BL_
  replace TB := TB_; clear TB_
  replace b4 := b4_; clear b4_
  replace b5 := b5_; clear b5_
  replace b10 := b10_; clear b10_
  replace b6 : Blk .u8 w7 w2.heap.size 37 (nn (mnode tab da db)) := t1.c
  clear t1
  refine zz 5 ?_
  refine zd (by kernel_rfl) ?_ _
  refine hK2 _ _ ?_
  refine wp_ret ?_
  (try simp only [Exit.then, Exit.inBlock])
  refine bodyPost_ret (rC rfl _ w2.heap.size _ _ (by kernel_rfl) b6.cel _ Try.underlying37 rfl (by rw [List.length_map, show (nn (mnode tab da db)).length = 32 by ((try simp only [nn_len, List.length_cons, List.length_nil, List.length_set, List.length_replicate]); try omega)]; kernel_rfl)) rfl ?_
  exact ⟨rfl, BL.b⟩

theorem cloneD_some (a : Addr) (n c : Nat) (es : List (List Nat)) (w : World) (hv : SE .u8 32 w (.slice (some a) n c) (nnd es)) (hl : es.length ≤ 1000000) :
    Calls Try.prog 121 #[.slice (some a) n c] w fun e w' => ∃ r, e = .returned r ∧ OwnE 37 .u8 32 w.heap.size w' r (nnd es) ∧ Below w.heap.size w w' := by
  have BL := Bl.refl w
  go_enter Try.func121, Try.ntmps121
  refine wp_seq_k fun K1 hK1 => ?_
  refine cPlain ?_
  refine sv 2 (.slice none 0 0) .of ?_
  simp only [List.set_cons_zero, List.set_cons_succ]
  refine wpList_nil ?_
  refine hK1 _ _ ?_
  refine wp_seq_k fun K2 hK2 => ?_
  refine wp_seq_k fun K3 hK3 => ?_
  refine cPlain ?_
  refine sv 3 (.slice (some a) n c) .of ?_
  simp only [List.set_cons_zero, List.set_cons_succ]
  refine sv 4 (.bool false) .of ?_
  simp only [List.set_cons_zero, List.set_cons_succ]
  refine wpList_nil ?_
  refine hK3 _ _ ?_
  refine cF ?_
  refine wp_skip ?_
  refine hK2 _ _ ?_
  refine wp_seq_k fun K4 hK4 => ?_
  refine cPlain ?_
  refine xLit 5 63 37 0 _ #[] [] rfl (by kernel_rfl) (by kernel_rfl) ?_
  intro w1 nw
  have e1 : E0 w w1 := nw.e
  have ze1 := e1.size
  replace BL := BL.e0 e1
  clear e1
  have OA : OwnE 37 .u8 32 w.heap.size w1 (.slice (some ⟨w.heap.size, 0, none⟩) 0 0) (nnd []) := OwnE.ofCel (ds := nnd []) nw.c (fun d h => by cases h) rfl (Nat.le_refl _) (Nat.zero_le _)
  have lOA_1 := OA.ge
  simp only [List.set_cons_zero, List.set_cons_succ]
  refine sv 6 (.slice (some a) n c) .of ?_
  simp only [List.set_cons_zero, List.set_cons_succ]
  refine xAppE 7 (.tmp 5) (.tmp 6) 63 37 .u8 32 32 rfl Try.underlying63 (by kernel_rfl) (by omega) w.heap.size (.slice (some ⟨w.heap.size, 0, none⟩) 0 0) (nnd []) (by kernel_rfl) OA (.slice (some a) n c) (nnd es) (by kernel_rfl) (hv.below BL.b) ?va1_1 ?va1_2 ?va1_3 ?_
  case va1_1 => simp only [nnd_len, List.length_append, List.length_cons, List.length_nil]; omega
  case va1_2 => simp only [nnd_len, List.length_append, List.length_cons, List.length_nil]; unfold maxLen; omega
  case va1_3 => omega
  intro va1 w2 rva1 e2
  have ze2 := e2.size
  have BL_ := BL.ev e2 (fun i h => by have := lOA_1 _ h; omega)
  replace BL := BL_; clear BL_
  rw [← nnd_app] at rva1
  replace OA := rva1
  clear rva1 e2
  have lOA_2 := OA.ge
  simp only [List.set_cons_zero, List.set_cons_succ]
  refine sv 2 (va1) .of ?_
  simp only [List.set_cons_zero, List.set_cons_succ]
  refine wpList_nil ?_
  refine hK4 _ _ ?_
  refine wp_ret ?_
  (try simp only [Exit.then, Exit.inBlock])
  refine bodyPost_ret (v := va1) rT rfl ?_
  exact ⟨_, rfl, OA.cast (by rw [List.nil_append]), BL.b⟩

theorem cloneD_any (v : Value) (es : List (List Nat)) (w : World) (hv : SE .u8 32 w v (nnd es)) (hl : es.length ≤ 1000000) (h0 : 0 < es.length) :
    Calls Try.prog 121 #[v] w fun e w' => ∃ r, e = .returned r ∧ OwnE 37 .u8 32 w.heap.size w' r (nnd es) ∧ Below w.heap.size w w' := by
  have hv' := hv
  obtain ⟨_, h⟩ := hv
  rcases h with ⟨_, he⟩ | ⟨b, o, c, rfl, _⟩
  · have := congrArg List.length he
    rw [nnd_len] at this
    simp only [List.length_nil] at this
    omega
  · exact cloneD_some _ _ _ es w hv' hl
theorem rootTell_any (R : Nat) (old : List Nat) (hol : old.length = 32) (v : Value) (es : List (List Nat)) (h0 : 0 < es.length) (hl : ∀ d ∈ es, d.length = 32) (w : World) (RB : Blk .u8 w R 37 (nn old)) (D : SE .u8 32 w v (nnd es)) :
    Calls Try.prog 97 #[v, .pointer (some ⟨R, 0, none⟩)] w fun e w' => e = .returned (.tuple #[]) ∧ Blk .u8 w' R 37 (nn (es.getD 0 [])) ∧ Ev (fun i => i = R) w w' := by
  have hR := RB.lt
  have EV : Ev (fun i => i = R) w w := Ev.refl _ w
  have h32 : (es.getD 0 []).length = 32 := fe_getDN hl h0
  go_enter Try.func97, Try.ntmps97
  refine cPlain ?_
  refine sv 3 (v) .of ?_
  simp only [List.set_cons_zero, List.set_cons_succ]
  refine sv 4 (elemE 32 v 0) (Val.ixE 63 (.tmp 3) _ rfl v 0 (by kernel_rfl) (by kernel_rfl) D Try.underlying63 (by kernel_rfl) (by simp only [nnd_len]; omega)) ?_
  simp only [List.set_cons_zero, List.set_cons_succ]
  refine sv 5 (.agg (cellsOf .u8 (nn (es.getD 0 [])))) (Val.ldGN 37 _ rfl v 0 (by kernel_rfl) D _ Try.underlying37 rfl (by kernel_rfl) (by simp only [nnd_len]; omega)) ?_
  simp only [List.set_cons_zero, List.set_cons_succ]
  refine xStoreA 37 (.tmp 1) (.tmp 5) rfl .u8 R 37 (nn old) 0 (nn (es.getD 0 [])) (by kernel_rfl) (by kernel_rfl) RB (by rw [show (nn (es.getD 0 [])).length = 32 by ((try simp only [nn_len, List.length_cons, List.length_nil, List.length_set, List.length_replicate]); try omega)]; kernel_rfl) (by (try simp only [nn_len, List.length_cons, List.length_nil, List.length_set, List.length_replicate]); try omega) (nn (es.getD 0 [])) (over_whole _ _ (by (try simp only [nn_len, List.length_cons, List.length_nil, List.length_set, List.length_replicate]); try omega)) ?_
  intro w1 t1
  have zt1 := t1.z
  have EV : Ev (fun i => i = R) w w1 := EV.trans t1.e
  replace RB : Blk .u8 w1 R 37 (nn (es.getD 0 [])) := t1.c
  clear t1
  refine wpList_nil ?_
  (try simp only [Exit.then, Exit.inBlock])
  refine bodyPost_end (v := .tuple #[]) rT rfl ?_
  exact ⟨rfl, RB, EV⟩

theorem two_le_pow {n : Nat} (h : 0 < n) : 2 ≤ 2 ^ n := by
  obtain ⟨m, rfl⟩ : ∃ m, n = m + 1 := ⟨n - 1, by omega⟩
  have := Nat.two_pow_pos m
  rw [Nat.pow_succ]; omega

set_option maxHeartbeats 8000000 in
theorem levelsR_any (T : Nat) (tab : List Nat) (ht : tab.length = 72) (w : World) (TB : Blk .u32 w T 26 (nn tab)) (v : Value) (es : List (List Nat)) (D : SE .u8 32 w v (nnd es)) (hes : ∀ d ∈ es, d.length = 32) (h : Nat) (hh : h ≤ 8) (hn : es.length = 2 ^ h) (R : Nat) (old : List Nat) (hol : old.length = 32) (RB : Blk .u8 w R 37 (nn old)) (hTR : T ≠ R) (hvR : ∀ i, v.ownBlock = some i → i ≠ R) :
    Calls Try.prog 96 #[.pointer (some ⟨T, 0, none⟩), v, .func (.func 97) #[] #[.pointer (some ⟨R, 0, none⟩)]] w fun e w' => e = .returned (.bool true) ∧ Blk .u8 w' R 37 (nn (mroot tab h es)) ∧ Ev (fun i => i = R) w w' := by
  have hT := TB.lt
  have hpw : 2 ^ h ≤ 256 := Nat.pow_le_pow_right (by omega) hh
  have hp1 : 1 ≤ 2 ^ h := Nat.one_le_two_pow
  have hand := pow_and' hn hh
  have EV : Ev (fun i => i = R) w w := Ev.refl _ w
  have hvl := D.lt
  obtain ⟨vA, vC, hv, hvc⟩ := D.len
  rw [nnd_len] at hv hvc
  subst hv
  have hR := RB.lt
  replace hvl := fun i hi => And.intro (hvl i hi) (hvR i hi)
  go_enter Try.func96, Try.ntmps96
  refine wp_seq_k fun K1 hK1 => ?_
  refine cPlain ?_
  refine sv 6 (.bool false) .of ?_
  simp only [List.set_cons_zero, List.set_cons_succ]
  refine wpList_nil ?_
  refine hK1 _ _ ?_
  refine wp_seq_k fun K2 hK2 => ?_
  refine cPlain ?_
  refine sv 11 (.slice vA es.length vC) .of ?_
  simp only [List.set_cons_zero, List.set_cons_succ]
  refine sv 12 (.int .i64 (es.length : Int)) .of ?_
  simp only [List.set_cons_zero, List.set_cons_succ]
  refine sv 7 (.int .i64 (es.length : Int)) .of ?_
  simp only [List.set_cons_zero, List.set_cons_succ]
  refine wpList_nil ?_
  refine hK2 _ _ ?_
  refine wp_seq_k fun K3 hK3 => ?_
  refine wp_seq_k fun K4 hK4 => ?_
  refine cPlain ?_
  refine sv 13 (.int .i64 (es.length : Int)) .of ?_
  simp only [List.set_cons_zero, List.set_cons_succ]
  refine sv 14 (.bool false) (Val.cmp .lss 3 _ (.tmp 13) _ rfl .i64 (es.length : Int) 1 (by kernel_rfl) (by kernel_rfl) (by simp) _ (by simp [cmpB]; omega)) ?_
  simp only [List.set_cons_zero, List.set_cons_succ]
  refine sv 15 (.bool false) .of ?_
  simp only [List.set_cons_zero, List.set_cons_succ]
  refine sv 16 (.int .i64 (es.length : Int)) .of ?_
  simp only [List.set_cons_zero, List.set_cons_succ]
  refine sv 17 (.bool false) (Val.cmp .gtr 3 _ (.tmp 16) _ rfl .i64 (es.length : Int) 256 (by kernel_rfl) (by kernel_rfl) (by simp) _ (by simp [cmpB]; omega)) ?_
  simp only [List.set_cons_zero, List.set_cons_succ]
  refine sv 18 (.bool false) .of ?_
  simp only [List.set_cons_zero, List.set_cons_succ]
  refine sv 19 (.bool false) .of ?_
  simp only [List.set_cons_zero, List.set_cons_succ]
  refine sv 20 (.int .i64 (es.length : Int)) .of ?_
  simp only [List.set_cons_zero, List.set_cons_succ]
  refine sv 21 (.int .i64 (es.length : Int)) .of ?_
  simp only [List.set_cons_zero, List.set_cons_succ]
  refine sv 22 (.int .i64 ((es.length - 1 : Nat) : Int)) (Val.as (Val.sub 3 _ (.tmp 21) _ rfl (es.length : Int) 1 (by kernel_rfl) (by kernel_rfl) (by omega)) (congrArg (Value.int .i64) (by omega))) ?_
  simp only [List.set_cons_zero, List.set_cons_succ]
  refine sv 23 (.int .i64 ((0 : Nat) : Int)) (Val.asN (Val.andI 3 _ (.tmp 20) (.tmp 22) rfl es.length (es.length - 1) (by kernel_rfl) (by kernel_rfl) (by omega) (by omega)) hand) ?_
  simp only [List.set_cons_zero, List.set_cons_succ]
  refine sv 24 (.bool false) (Val.cmp .neq 3 _ (.tmp 23) _ rfl .i64 ((0 : Nat) : Int) 0 (by kernel_rfl) (by kernel_rfl) (by simp) _ (by simp [cmpB])) ?_
  simp only [List.set_cons_zero, List.set_cons_succ]
  refine sv 25 (.bool false) .of ?_
  simp only [List.set_cons_zero, List.set_cons_succ]
  refine wpList_nil ?_
  refine hK4 _ _ ?_
  refine cF ?_
  refine wp_skip ?_
  refine hK3 _ _ ?_
  refine wp_seq_k fun K5 hK5 => ?_
  refine cPlain ?_
  refine sv 26 (.slice vA es.length vC) .of ?_
  simp only [List.set_cons_zero, List.set_cons_succ]
  refine xCall 27 121 #[.slice vA es.length vC] (by kernel_rfl) ?_
  refine (cloneD_any _ es w D (by omega) (by omega)).mono ?_
  rintro en w1 ⟨r, rfl, hO, hb1⟩
  obtain ⟨LA0, LC0, hr, hr2⟩ := hO.len
  rw [nnd_len] at hr
  subst hr
  replace hO := hO.mono EV.size
  have e1 := belE0 hb1
  have ze1 := e1.size
  replace TB := TB.e0 e1
  replace D := D.e0 e1
  have EV : Ev (fun i => i = R) w w1 := EV.then e1 (fun _ x => x.elim)
  replace RB := RB.e0 e1
  clear e1
  have L : OwnE 37 .u8 32 w.heap.size w1 (.slice LA0 es.length LC0) (nnd es) := hO
  have lL_1 := L.ge
  refine ⟨.slice LA0 es.length LC0, rfl, ?_⟩
  simp only [List.set_cons_zero, List.set_cons_succ]
  refine sv 8 (.slice LA0 es.length LC0) .of ?_
  simp only [List.set_cons_zero, List.set_cons_succ]
  refine wpList_nil ?_
  refine hK5 _ _ ?_
  refine wp_seq_k fun K6 hK6 => ?_
  refine wp_seq_k fun K7 hK7 => ?_
  refine cPlain ?_
  refine sv 28 (.func (.func 97) #[] #[.pointer (some ⟨R, 0, none⟩)]) .of ?_
  simp only [List.set_cons_zero, List.set_cons_succ]
  refine sv 29 (.slice LA0 es.length LC0) .of ?_
  simp only [List.set_cons_zero, List.set_cons_succ]
  refine xCall 30 97 #[.slice LA0 es.length LC0, .pointer (some ⟨R, 0, none⟩)] (by kernel_rfl) ?_
  refine (rootTell_any R (old) hol _ (es) (by omega) hes w1 RB L.se).mono ?_
  rintro en w2 ⟨rfl, hRB, hEv⟩
  have e2 := hEv
  have ze2 := e2.size
  have TB_ := TB.ev e2 (show ¬ (T = R) by omega)
  have D_ := D.ev e2 (fun i hi => show ¬ (i = R) by have := hvl i hi; omega)
  have EV : Ev (fun i => i = R) w w2 := EV.then e2 (fun i h => by have h : i = R := h; show i = R ∨ _ ≤ i; omega)
  have L_ := L.ev e2 (fun i hi => show ¬ (i = R) by have := lL_1 i hi; omega)
  replace TB := TB_; clear TB_
  replace D := D_; clear D_
  replace L := L_; clear L_
  clear e2
  have RB : Blk .u8 w2 R 37 (nn ((es).getD 0 [])) := hRB
  refine ⟨.tuple #[], rfl, ?_⟩
  simp only [List.set_cons_zero, List.set_cons_succ]
  refine wpList_nil ?_
  refine hK7 _ _ ?_
  refine wp_block ?_
  refine cLoop (fun N_ A_ w_ => ∃ (j : Nat) (LA : Option Addr) (LC : Nat) (ln : Nat), (N_ = h - j ∧ (j ≤ h) ∧ (ln = 2 ^ (h - j)) ∧ (∃ s1 : Nat → Value, A_ = ⟨[.pointer (some ⟨T, 0, none⟩), .slice vA es.length vC, .func (.func 97) #[] #[.pointer (some ⟨R, 0, none⟩)], undef, undef, undef, .bool false, .int .i64 (es.length : Int), .slice LA ln LC, (s1 9), (s1 10), .slice vA es.length vC, .int .i64 (es.length : Int), .int .i64 (es.length : Int), .bool false, .bool false, .int .i64 (es.length : Int), .bool false, .bool false, .bool false, .int .i64 (es.length : Int), .int .i64 (es.length : Int), .int .i64 ((es.length - 1 : Nat) : Int), .int .i64 ((0 : Nat) : Int), .bool false, .bool false, .slice vA es.length vC, .slice LA0 es.length LC0, .func (.func 97) #[] #[.pointer (some ⟨R, 0, none⟩)], .slice LA0 es.length LC0, .tuple #[], (s1 31), (s1 32), (s1 33), (s1 34), (s1 35), (s1 36), (s1 37), (s1 38), (s1 39), (s1 40), (s1 41), (s1 42), (s1 43), (s1 44), (s1 45), (s1 46), (s1 47), (s1 48), (s1 49), (s1 50), (s1 51), (s1 52), (s1 53), (s1 54), (s1 55), (s1 56), (s1 57)].toArray, []⟩) ∧ Blk .u32 w_ T 26 (nn tab) ∧ Ev (fun i => i = R) w w_ ∧ OwnE 37 .u8 32 w.heap.size w_ (.slice LA ln LC) (nnd (mups tab j es)) ∧ Blk .u8 w_ R 37 (nn ((mups tab j es).getD 0 [])) ∧ w2.heap.size ≤ w_.heap.size)) _ ⟨0, LA0, LC0, es.length, rfl, (Nat.zero_le _), hn, cutE, TB, EV, L, RB, Nat.le_refl _⟩ ?_
  clear TB D EV L RB
  rintro n_ a_ wl0 ⟨j, LA, LC, ln, rfl, hc0_0, hc0_1, ⟨s1, rfl⟩, TB, EV, L, RB, zl0⟩
  have lL_2 := L.ge
  have hXn : (mups tab j es).length = ln := by rw [hc0_1]; exact mups_len tab j _ es (by rw [hn, ← Nat.pow_add]; congr 1; omega)
  have hXl := mups_lens tab j es hes
  have hpl : 2 ^ (h - j) ≤ 2 ^ h := Nat.pow_le_pow_right (by omega) (by omega)
  refine wp_seq_k fun K8 hK8 => ?_
  refine wp_seq_k fun K9 hK9 => ?_
  refine cPlain ?_
  refine sv 31 (.slice LA ln LC) .of ?_
  simp only [List.set_cons_zero, List.set_cons_succ]
  refine sv 32 (.int .i64 (ln : Int)) .of ?_
  simp only [List.set_cons_zero, List.set_cons_succ]
  refine sv 33 (.bool (decide (1 < (ln : Int)))) (Val.cmp .gtr 3 _ (.tmp 32) _ rfl .i64 (ln : Int) 1 (by kernel_rfl) (by kernel_rfl) (by simp) _ rfl) ?_
  simp only [List.set_cons_zero, List.set_cons_succ]
  refine wpList_nil ?_
  refine hK9 _ _ ?_
  refine cDec (1 < (ln : Int)) (by kernel_rfl) (fun c33 => ?_) (fun c33 => ?_)
  · skip
    refine wp_skip ?_
    refine hK8 _ _ ?_
    refine wp_seq_k fun K10 hK10 => ?_
    refine wp_block ?_
    refine wp_seq_k fun K11 hK11 => ?_
    have hjh : j < h := by
      rcases Nat.lt_or_ge j h with h1 | h1
      · exact h1
      · exfalso; rw [show h - j = 0 by omega, Nat.pow_zero] at hc0_1; omega
    obtain ⟨q, hq⟩ : ∃ q, 2 ^ (h - j - 1) = q := ⟨_, rfl⟩
    have hq2 : ln = 2 * q := by rw [hc0_1, ← hq, ← Nat.pow_succ']; congr 1; omega
    have hq3 : 1 ≤ q := by rw [← hq]; exact Nat.one_le_two_pow
    have hLb := L.ge
    refine cPlain ?_
    refine sv 9 (.slice none 0 0) .of ?_
    simp only [List.set_cons_zero, List.set_cons_succ]
    refine wpList_nil ?_
    refine hK11 _ _ ?_
    refine wp_seq_k fun K12 hK12 => ?_
    refine wp_seq_k fun K13 hK13 => ?_
    refine cPlain ?_
    refine sv 10 (.int .i64 0) .of ?_
    simp only [List.set_cons_zero, List.set_cons_succ]
    refine wpList_nil ?_
    refine hK13 _ _ ?_
    refine wp_block ?_
    refine cLoop (fun N_ A_ w_ => ∃ (m : Nat) (UA : Option Addr) (UC : Nat) (un : Nat), (N_ = q - m ∧ (m ≤ q) ∧ (un = m) ∧ (∃ s2 : Nat → Value, A_ = ⟨[.pointer (some ⟨T, 0, none⟩), .slice vA es.length vC, .func (.func 97) #[] #[.pointer (some ⟨R, 0, none⟩)], undef, undef, undef, .bool false, .int .i64 (es.length : Int), .slice LA ln LC, .slice UA un UC, .int .i64 ((2 * m : Nat) : Int), .slice vA es.length vC, .int .i64 (es.length : Int), .int .i64 (es.length : Int), .bool false, .bool false, .int .i64 (es.length : Int), .bool false, .bool false, .bool false, .int .i64 (es.length : Int), .int .i64 (es.length : Int), .int .i64 ((es.length - 1 : Nat) : Int), .int .i64 ((0 : Nat) : Int), .bool false, .bool false, .slice vA es.length vC, .slice LA0 es.length LC0, .func (.func 97) #[] #[.pointer (some ⟨R, 0, none⟩)], .slice LA0 es.length LC0, .tuple #[], .slice LA ln LC, .int .i64 (ln : Int), .bool (decide (1 < (ln : Int))), (s1 34), (s1 35), (s1 36), (s2 37), (s2 38), (s2 39), (s2 40), (s2 41), (s2 42), (s2 43), (s2 44), (s2 45), (s2 46), (s2 47), (s2 48), (s2 49), (s2 50), (s2 51), (s2 52), (s2 53), (s2 54), (s2 55), (s2 56), (s1 57)].toArray, []⟩) ∧ Blk .u32 w_ T 26 (nn tab) ∧ Ev (fun i => i = R) w w_ ∧ OwnE 37 .u8 32 w.heap.size w_ (.slice LA ln LC) (nnd (mups tab j es)) ∧ Blk .u8 w_ R 37 (nn ((mups tab j es).getD 0 [])) ∧ OwnE 37 .u8 32 wl0.heap.size w_ (.slice UA un UC) (nnd (mup tab ((mups tab j es).take (2 * m)))) ∧ wl0.heap.size ≤ w_.heap.size)) _ ⟨0, none, 0, 0, rfl, (Nat.zero_le _), rfl, cutE, TB, EV, L, RB, (OwnE.nil _ _ _ _ _), Nat.le_refl _⟩ ?_
    clear TB EV L RB
    rintro n_ a_ wl1 ⟨m, UA, UC, un, rfl, hc1_0, hc1_1, ⟨s2, rfl⟩, TB, EV, L, RB, U, zl1⟩
    have lL_3 := L.ge
    have lU_1 := U.ge
    refine wp_seq_k fun K14 hK14 => ?_
    refine wp_seq_k fun K15 hK15 => ?_
    refine cPlain ?_
    refine sv 37 (.int .i64 ((2 * m : Nat) : Int)) .of ?_
    simp only [List.set_cons_zero, List.set_cons_succ]
    refine sv 38 (.slice LA ln LC) .of ?_
    simp only [List.set_cons_zero, List.set_cons_succ]
    refine sv 39 (.int .i64 (ln : Int)) .of ?_
    simp only [List.set_cons_zero, List.set_cons_succ]
    refine sv 40 (.bool (decide (((2 * m : Nat) : Int) < (ln : Int)))) (Val.cmp .lss 3 _ (.tmp 37) (.tmp 39) rfl .i64 ((2 * m : Nat) : Int) (ln : Int) (by kernel_rfl) (by kernel_rfl) (by simp) _ rfl) ?_
    simp only [List.set_cons_zero, List.set_cons_succ]
    refine wpList_nil ?_
    refine hK15 _ _ ?_
    refine cDec (((2 * m : Nat) : Int) < (ln : Int)) (by kernel_rfl) (fun c40 => ?_) (fun c40 => ?_)
    · skip
      refine wp_skip ?_
      refine hK14 _ _ ?_
      refine wp_seq_k fun K16 hK16 => ?_
      refine wp_block ?_
      have hml2 : (mup tab ((mups tab j es).take (2 * m))).length = m := mup_len tab m _ (by rw [List.length_take]; omega)
      have hml := mnode_len tab ((mups tab j es).getD (2 * m) []) ((mups tab j es).getD (2 * m + 1) [])
      have e3 := drew_e0 wl1
      refine zg (fun w_ => Blk .u32 w_ T 26 (nn tab) ∧ Ev (fun i => i = R) w w_ ∧ OwnE 37 .u8 32 w.heap.size w_ (.slice LA ln LC) (nnd (mups tab j es)) ∧ Blk .u8 w_ R 37 (nn ((mups tab j es).getD 0 [])) ∧ wl1.heap.size ≤ w_.heap.size) (fun w_ => Blk .u32 w_ T 26 (nn tab) ∧ Ev (fun i => i = R) w w_ ∧ OwnE 37 .u8 32 w.heap.size w_ (.slice LA ln LC) (nnd (mups tab j es)) ∧ Blk .u8 w_ R 37 (nn ((mups tab j es).getD 0 [])) ∧ OwnE 37 .u8 32 wl0.heap.size w_ (.slice UA un UC) (nnd (mup tab ((mups tab j es).take (2 * m)))) ∧ wl1.heap.size ≤ w_.heap.size) 100000 15 ⟨TB.e0 e3, EV.then e3 (fun _ x => x.elim), L.e0 e3, RB.e0 e3, U.e0 e3, Nat.le_refl _⟩ ?_
      clear TB EV L RB U
      clear e3
      intro w3
      rintro ⟨TB, EV, L, RB, U, z1⟩
      refine zv 0 43 (.slice UA un UC) (fun _ _ => .of) ⟨TB, EV, L, RB, by omega⟩ ?_
      simp only [List.set_cons_zero, List.set_cons_succ]
      refine zv 1 44 (.pointer (some ⟨T, 0, none⟩)) (fun _ _ => .of) ⟨TB, EV, L, RB, by omega⟩ ?_
      simp only [List.set_cons_zero, List.set_cons_succ]
      refine zv 2 45 (.slice LA ln LC) (fun _ _ => .of) ⟨TB, EV, L, RB, by omega⟩ ?_
      simp only [List.set_cons_zero, List.set_cons_succ]
      refine zv 3 46 (.int .i64 ((2 * m : Nat) : Int)) (fun _ _ => .of) ⟨TB, EV, L, RB, by omega⟩ ?_
      simp only [List.set_cons_zero, List.set_cons_succ]
      refine zv 4 47 (elemE 32 (.slice LA ln LC) (2 * m)) (fun _ ⟨TB, EV, L, RB, z1⟩ => Val.ixE 63 (.tmp 45) (.tmp 46) rfl (.slice LA ln LC) (2 * m) (by kernel_rfl) (by kernel_rfl) L.se Try.underlying63 (by kernel_rfl) (by simp only [nnd_len]; omega)) ⟨TB, EV, L, RB, by omega⟩ ?_
      simp only [List.set_cons_zero, List.set_cons_succ]
      refine zv 5 48 (.agg (cellsOf .u8 (nn ((mups tab j es).getD (2 * m) [])))) (fun _ ⟨TB, EV, L, RB, z1⟩ => Val.ldGN 37 _ rfl (.slice LA ln LC) (2 * m) (by kernel_rfl) L.se _ Try.underlying37 rfl (by kernel_rfl) (by simp only [nnd_len]; omega)) ⟨TB, EV, L, RB, by omega⟩ ?_
      simp only [List.set_cons_zero, List.set_cons_succ]
      refine zv 6 49 (.slice LA ln LC) (fun _ _ => .of) ⟨TB, EV, L, RB, by omega⟩ ?_
      simp only [List.set_cons_zero, List.set_cons_succ]
      refine zv 7 50 (.int .i64 ((2 * m : Nat) : Int)) (fun _ _ => .of) ⟨TB, EV, L, RB, by omega⟩ ?_
      simp only [List.set_cons_zero, List.set_cons_succ]
      refine zv 8 51 (.int .i64 ((2 * m + 1 : Nat) : Int)) (fun _ ⟨TB, EV, L, RB, z1⟩ => Val.as (Val.add 3 _ (.tmp 50) _ rfl ((2 * m : Nat) : Int) 1 (by kernel_rfl) (by kernel_rfl) (by omega)) (congrArg (Value.int .i64) (by omega))) ⟨TB, EV, L, RB, by omega⟩ ?_
      simp only [List.set_cons_zero, List.set_cons_succ]
      refine zv 9 52 (elemE 32 (.slice LA ln LC) (2 * m + 1)) (fun _ ⟨TB, EV, L, RB, z1⟩ => Val.ixE 63 (.tmp 49) (.tmp 51) rfl (.slice LA ln LC) (2 * m + 1) (by kernel_rfl) (by kernel_rfl) L.se Try.underlying63 (by kernel_rfl) (by simp only [nnd_len]; omega)) ⟨TB, EV, L, RB, by omega⟩ ?_
      simp only [List.set_cons_zero, List.set_cons_succ]
      refine zv 10 53 (.agg (cellsOf .u8 (nn ((mups tab j es).getD (2 * m + 1) [])))) (fun _ ⟨TB, EV, L, RB, z1⟩ => Val.ldGN 37 _ rfl (.slice LA ln LC) (2 * m + 1) (by kernel_rfl) L.se _ Try.underlying37 rfl (by kernel_rfl) (by simp only [nnd_len]; omega)) ⟨TB, EV, L, RB, by omega⟩ ?_
      simp only [List.set_cons_zero, List.set_cons_succ]
      refine zo1 11 rfl ?_
      refine xCall 54 40 #[.pointer (some ⟨T, 0, none⟩), .agg (cellsOf .u8 (nn ((mups tab j es).getD (2 * m) []))), .agg (cellsOf .u8 (nn ((mups tab j es).getD (2 * m + 1) [])))] (by kernel_rfl) ?_
      refine (mnode_any T tab ht w3 TB ((mups tab j es).getD (2 * m) []) ((mups tab j es).getD (2 * m + 1) []) (fe_getDN hXl (by omega)) (fe_getDN hXl (by omega))).mono ?_
      rintro en w4 ⟨rfl, hb1⟩
      have e4 := belE0 hb1
      have ze4 := e4.size
      replace TB := TB.e0 e4
      have EV : Ev (fun i => i = R) w w4 := EV.then e4 (fun _ x => x.elim)
      replace L := L.e0 e4
      replace RB := RB.e0 e4
      replace U := U.e0 e4
      clear e4
      refine ⟨.agg (cellsOf .u8 (nn (mnode tab ((mups tab j es).getD (2 * m) []) ((mups tab j es).getD (2 * m + 1) [])))), rfl, ?_⟩
      refine ze 11 ⟨TB, EV, L, RB, by omega⟩ ?_
      simp only [List.set_cons_zero, List.set_cons_succ]
      refine zo1 12 rfl ?_
      refine xLitE 55 63 37 1 _ rfl .u8 32 (nnd [(mnode tab ((mups tab j es).getD (2 * m) []) ((mups tab j es).getD (2 * m + 1) []))]) (by kernel_rfl) Try.underlying63 (by kernel_rfl) (by omega) rfl (by omega) (by omega) (lenC (by (try simp only [nn_len, List.length_cons, List.length_nil, List.length_set, List.length_replicate]); try omega) lenN) ?_
      intro w5 n1 b55
      have zn1 := n1.z
      replace TB := TB.e0 n1.e
      have EV : Ev (fun i => i = R) w w5 := EV.then n1.e (fun _ x => x.elim)
      replace L := L.e0 n1.e
      replace RB := RB.e0 n1.e
      replace U := U.e0 n1.e
      have lb55_1 := b55.ge
      refine ze 12 ⟨TB, EV, L, RB, by omega⟩ ?_
      simp only [List.set_cons_zero, List.set_cons_succ]
      refine zo1 13 rfl ?_
      refine xAppE 56 (.tmp 43) (.tmp 55) 63 37 .u8 32 32 rfl Try.underlying63 (by kernel_rfl) (by omega) wl0.heap.size (.slice UA un UC) (nnd (mup tab ((mups tab j es).take (2 * m)))) (by kernel_rfl) U (.slice (some ⟨w4.heap.size, 0, none⟩) 1 1) (nnd [(mnode tab ((mups tab j es).getD (2 * m) []) ((mups tab j es).getD (2 * m + 1) []))]) (by kernel_rfl) b55.se ?va1_1 ?va1_2 ?va1_3 ?_
      case va1_1 => simp only [nnd_len, List.length_append, List.length_cons, List.length_nil]; omega
      case va1_2 => simp only [nnd_len, List.length_append, List.length_cons, List.length_nil]; unfold maxLen; omega
      case va1_3 => omega
      intro va1 w6 rva1 e5
      have ze5 := e5.size
      have TB_ := TB.ev e5 (fun h => by have := lU_1 _ h; omega)
      have EV : Ev (fun i => i = R) w w6 := EV.then e5 (fun i h => by have := lU_1 _ h; show i = R ∨ _ ≤ i; omega)
      have L_ := L.ev e5 (fun i hi h => by have := hLb i hi; have := lU_1 _ h; omega)
      have RB_ := RB.ev e5 (fun h => by have := lU_1 _ h; omega)
      have b55_ := b55.ev e5 (fun i hi h => by have := lb55_1 i hi; have := lU_1 _ h; omega)
      replace TB := TB_; clear TB_
      replace L := L_; clear L_
      replace RB := RB_; clear RB_
      replace b55 := b55_; clear b55_
      rw [← nnd_app] at rva1
      obtain ⟨Au, Cu, hAu, hlAu⟩ := rva1.len; rw [nnd_len] at hAu hlAu
      subst hAu
      replace U := rva1
      clear rva1 e5
      have lU_2 := U.ge
      refine ze 13 ⟨TB, EV, L, RB, by omega⟩ ?_
      simp only [List.set_cons_zero, List.set_cons_succ]
      refine zv 14 9 (.slice Au (((mup tab ((mups tab j es).take (2 * m))) ++ [(mnode tab ((mups tab j es).getD (2 * m) []) ((mups tab j es).getD (2 * m + 1) []))])).length Cu) (fun _ _ => .of) ⟨TB, EV, L, RB, by omega⟩ ?_
      simp only [List.set_cons_zero, List.set_cons_succ]
      refine zd (by kernel_rfl) ?_ _
      refine hK16 _ _ ?_
      refine cPlain ?_
      refine sv 41 (.int .i64 ((2 * m : Nat) : Int)) .of ?_
      simp only [List.set_cons_zero, List.set_cons_succ]
      refine sv 42 (.int .i64 ((2 * (m + 1) : Nat) : Int)) (Val.as (Val.add 3 _ (.tmp 41) _ rfl ((2 * m : Nat) : Int) 2 (by kernel_rfl) (by kernel_rfl) (by omega)) (congrArg (Value.int .i64) (by omega))) ?_
      simp only [List.set_cons_zero, List.set_cons_succ]
      refine sv 10 (.int .i64 ((2 * (m + 1) : Nat) : Int)) .of ?_
      simp only [List.set_cons_zero, List.set_cons_succ]
      refine wpList_nil ?_
      refine ⟨_, ?_, m + 1, Au, Cu, (((mup tab ((mups tab j es).take (2 * m))) ++ [(mnode tab ((mups tab j es).getD (2 * m) []) ((mups tab j es).getD (2 * m + 1) []))])).length, rfl, by omega, by (simp only [List.length_append, List.length_cons, List.length_nil]; rw [mup_len tab m _ (by rw [List.length_take]; omega)]), cutE, TB, EV, L, RB, (OwnE.cast U (congrArg nnd (mup_take tab _ m (by omega)).symm)), by omega⟩
      omega
    · skip
      refine wp_exit ?_
      simp only [Exit.then, Exit.inBlock, ↓reduceIte, Nat.reduceEqDiff]
      refine hK12 _ _ ?_
      have hmq : 2 * m = ln := by omega
      have hUe : mup tab ((mups tab j es).take (2 * m)) = mups tab (j + 1) es := by rw [List.take_of_length_le (by omega), mups_succ]
      have hUl : (mups tab (j + 1) es).length = q := by rw [mups_succ]; exact mup_len tab q _ (by omega)
      rw [hUe] at U
      have hUb := U.ge
      refine cPlain ?_
      refine sv 57 (.slice UA un UC) .of ?_
      simp only [List.set_cons_zero, List.set_cons_succ]
      refine sv 8 (.slice UA un UC) .of ?_
      simp only [List.set_cons_zero, List.set_cons_succ]
      refine wpList_nil ?_
      refine hK10 _ _ ?_
      refine cPlain ?_
      refine sv 34 (.func (.func 97) #[] #[.pointer (some ⟨R, 0, none⟩)]) .of ?_
      simp only [List.set_cons_zero, List.set_cons_succ]
      refine sv 35 (.slice UA un UC) .of ?_
      simp only [List.set_cons_zero, List.set_cons_succ]
      refine xCall 36 97 #[.slice UA un UC, .pointer (some ⟨R, 0, none⟩)] (by kernel_rfl) ?_
      refine (rootTell_any R ((mups tab j es).getD 0 []) (fe_getDN hXl (by omega)) _ (mups tab (j + 1) es) (by omega) (mups_lens tab _ _ hes) wl1 RB U.se).mono ?_
      rintro en w7 ⟨rfl, hRB, hEv⟩
      have e6 := hEv
      have ze6 := e6.size
      have TB_ := TB.ev e6 (show ¬ (T = R) by omega)
      have EV : Ev (fun i => i = R) w w7 := EV.then e6 (fun i h => by have h : i = R := h; show i = R ∨ _ ≤ i; omega)
      have L_ := L.ev e6 (fun i hi => show ¬ (i = R) by have := hLb i hi; omega)
      have U_ := U.ev e6 (fun i hi => show ¬ (i = R) by have := lU_1 i hi; omega)
      replace TB := TB_; clear TB_
      replace L := L_; clear L_
      replace U := U_; clear U_
      clear e6
      have RB : Blk .u8 w7 R 37 (nn ((mups tab (j + 1) es).getD 0 [])) := hRB
      refine ⟨.tuple #[], rfl, ?_⟩
      simp only [List.set_cons_zero, List.set_cons_succ]
      refine wpList_nil ?_
      refine ⟨_, ?_, j + 1, UA, UC, un, rfl, by omega, (by have e : 2 ^ (h - (j + 1)) = q := hq; omega), cutE, TB, EV, (U.mono (by omega)), RB, by omega⟩
      omega
  · skip
    refine wp_exit ?_
    simp only [Exit.then, Exit.inBlock, ↓reduceIte, Nat.reduceEqDiff]
    refine hK6 _ _ ?_
    refine wp_seq_k fun K17 hK17 => ?_
    refine cPlain ?_
    refine sv 6 (.bool true) .of ?_
    simp only [List.set_cons_zero, List.set_cons_succ]
    refine wpList_nil ?_
    refine hK17 _ _ ?_
    refine wp_ret ?_
    (try simp only [Exit.then, Exit.inBlock])
    refine bodyPost_ret (v := .bool true) rT rfl ?_
    have hjh : j = h := by
      rcases Nat.lt_or_ge j h with h1 | h1
      · have := two_le_pow (show 0 < h - j by omega); omega
      · omega
    subst hjh
    exact ⟨rfl, RB, EV⟩

theorem pathTell_more (PB AB : Nat) (hPA : PB ≠ AB) (v : Value) (es : List (List Nat)) (hes : ∀ d ∈ es, d.length = 32) (leaf : Int) (k : Nat) (bA : Option Addr) (bC bn base : Nat) (bs : List (List Nat)) (h1 : 1 < es.length) (hk : k ^^^ 1 < es.length) (hk2 : k < 1000) (hbl : bs.length ≤ 1000) (w : World)
    (D : SE .u8 32 w v (nnd es)) (BO : OwnE 37 .u8 32 base w (.slice bA bn bC) (nnd bs)) (P1 : Cel w PB 66 [.int .i64 leaf, .slice bA bn bC]) (A1 : Cel w AB 3 [.int .i64 ((k : Nat) : Int)]) (hB : base ≤ w.heap.size) (hPB : PB < base) (hAB : AB < base) :
    Calls Try.prog 98 #[v, .pointer (some ⟨PB, 0, none⟩), .pointer (some ⟨AB, 0, none⟩)] w fun e w' => e = .returned (.tuple #[]) ∧ ∃ (A : Option Addr) (n C : Nat), OwnE 37 .u8 32 base w' (.slice A n C) (nnd (bs ++ [es.getD (k ^^^ 1) []])) ∧ Cel w' PB 66 [.int .i64 leaf, .slice A n C] ∧ Cel w' AB 3 [.int .i64 ((k / 2 : Nat) : Int)] ∧ Ev (fun i => i = PB ∨ i = AB ∨ Value.ownBlock (.slice bA bn bC) = some i) w w' := by
  have EV : Ev (fun i => i = PB ∨ i = AB ∨ Value.ownBlock (.slice bA bn bC) = some i) w w := Ev.refl _ w
  have hvl := D.lt
  have hd32 : (es.getD (k ^^^ 1) []).length = 32 := fe_getDN hes hk
  obtain ⟨vA, vC, hv, hvc⟩ := D.len
  rw [nnd_len] at hv hvc
  subst hv
  have lBO_1 := BO.ge
  go_enter Try.func98, Try.ntmps98
  refine wp_seq_k fun K1 hK1 => ?_
  refine cPlain ?_
  refine sv 4 (.slice vA es.length vC) .of ?_
  simp only [List.set_cons_zero, List.set_cons_succ]
  refine sv 5 (.int .i64 (es.length : Int)) .of ?_
  simp only [List.set_cons_zero, List.set_cons_succ]
  refine sv 6 (.bool true) (Val.cmp .gtr 3 _ (.tmp 5) _ rfl .i64 (es.length : Int) 1 (by kernel_rfl) (by kernel_rfl) (by simp) _ (by simp [cmpB]; omega)) ?_
  simp only [List.set_cons_zero, List.set_cons_succ]
  refine wpList_nil ?_
  refine hK1 _ _ ?_
  refine cT ?_
  refine wp_seq_k fun K2 hK2 => ?_
  have e1 := drew_e0 w
  refine zg (fun w_ => Cel w_ PB 66 [.int .i64 leaf, .slice bA bn bC] ∧ Cel w_ AB 3 [.int .i64 ((k : Nat) : Int)] ∧ Ev (fun i => i = PB ∨ i = AB ∨ Value.ownBlock (.slice bA bn bC) = some i) w w_ ∧ w.heap.size ≤ w_.heap.size) (fun w_ => SE .u8 32 w_ (.slice vA es.length vC) (nnd es) ∧ OwnE 37 .u8 32 base w_ (.slice bA bn bC) (nnd bs) ∧ Cel w_ PB 66 [.int .i64 leaf, .slice bA bn bC] ∧ Cel w_ AB 3 [.int .i64 ((k : Nat) : Int)] ∧ Ev (fun i => i = PB ∨ i = AB ∨ Value.ownBlock (.slice bA bn bC) = some i) w w_ ∧ w.heap.size ≤ w_.heap.size) 10 11 ⟨D.e0 e1, BO.e0 e1, P1.e0 e1, A1.e0 e1, EV.then e1 (fun _ x => x.elim), Nat.le_refl _⟩ ?_
  clear D BO P1 A1 EV
  clear e1
  intro w1
  rintro ⟨D, BO, P1, A1, EV, z1⟩
  refine zv 0 7 (.pointer (some ⟨PB, 1, none⟩)) (fun _ _ => .of) ⟨P1, A1, EV, by omega⟩ ?_
  simp only [List.set_cons_zero, List.set_cons_succ]
  refine zv 1 8 (.slice bA bn bC) (fun _ ⟨P1, A1, EV, z1⟩ => Val.cel1 63 _ rfl PB 1 _ (by kernel_rfl) (fun _ => (by kernel_rfl)) P1 rfl) ⟨P1, A1, EV, by omega⟩ ?_
  simp only [List.set_cons_zero, List.set_cons_succ]
  refine zv 2 9 (.slice vA es.length vC) (fun _ _ => .of) ⟨P1, A1, EV, by omega⟩ ?_
  simp only [List.set_cons_zero, List.set_cons_succ]
  refine zv 3 10 (.int .i64 ((k : Nat) : Int)) (fun _ ⟨P1, A1, EV, z1⟩ => Val.cel1 3 _ rfl AB 0 _ (by kernel_rfl) (fun _ => (by kernel_rfl)) A1 rfl) ⟨P1, A1, EV, by omega⟩ ?_
  simp only [List.set_cons_zero, List.set_cons_succ]
  refine zv 4 11 (.int .i64 ((k ^^^ 1 : Nat) : Int)) (fun _ ⟨P1, A1, EV, z1⟩ => Val.xorI 3 _ (.tmp 10) _ rfl k 1 (by kernel_rfl) (by kernel_rfl) (by omega) (by omega)) ⟨P1, A1, EV, by omega⟩ ?_
  simp only [List.set_cons_zero, List.set_cons_succ]
  refine zo1 5 rfl ?_
  refine sv 12 (elemE 32 (.slice vA es.length vC) (k ^^^ 1)) (Val.ixE 63 (.tmp 9) (.tmp 11) rfl (.slice vA es.length vC) (k ^^^ 1) (by kernel_rfl) (by kernel_rfl) D Try.underlying63 (by kernel_rfl) (by simp only [nnd_len]; omega)) ?_
  refine ze 5 ⟨P1, A1, EV, by omega⟩ ?_
  simp only [List.set_cons_zero, List.set_cons_succ]
  refine zo1 6 rfl ?_
  refine sv 13 (.agg (cellsOf .u8 (nn (es.getD (k ^^^ 1) [])))) (Val.ldGN 37 _ rfl (.slice vA es.length vC) (k ^^^ 1) (by kernel_rfl) D _ Try.underlying37 rfl (by kernel_rfl) (by simp only [nnd_len]; omega)) ?_
  refine ze 6 ⟨P1, A1, EV, by omega⟩ ?_
  simp only [List.set_cons_zero, List.set_cons_succ]
  refine zo1 7 rfl ?_
  refine xLitE 14 63 37 1 _ rfl .u8 32 (nnd [(es.getD (k ^^^ 1) [])]) (by kernel_rfl) Try.underlying63 (by kernel_rfl) (by omega) rfl (by omega) (by omega) (lenC (by (try simp only [nn_len, List.length_cons, List.length_nil, List.length_set, List.length_replicate]); try omega) lenN) ?_
  intro w2 n1 b14
  have zn1 := n1.z
  replace D := D.e0 n1.e
  replace BO := BO.e0 n1.e
  replace P1 := P1.e0 n1.e
  replace A1 := A1.e0 n1.e
  have EV : Ev (fun i => i = PB ∨ i = AB ∨ Value.ownBlock (.slice bA bn bC) = some i) w w2 := EV.then n1.e (fun _ x => x.elim)
  have lb14_1 := b14.ge
  refine ze 7 ⟨P1, A1, EV, by omega⟩ ?_
  simp only [List.set_cons_zero, List.set_cons_succ]
  refine zo1 8 rfl ?_
  refine xAppE 15 (.tmp 8) (.tmp 14) 63 37 .u8 32 32 rfl Try.underlying63 (by kernel_rfl) (by omega) base (.slice bA bn bC) (nnd bs) (by kernel_rfl) BO (.slice (some ⟨w1.heap.size, 0, none⟩) 1 1) (nnd [(es.getD (k ^^^ 1) [])]) (by kernel_rfl) b14.se ?va1_1 ?va1_2 ?va1_3 ?_
  case va1_1 => simp only [nnd_len, List.length_append, List.length_cons, List.length_nil]; omega
  case va1_2 => simp only [nnd_len, List.length_append, List.length_cons, List.length_nil]; unfold maxLen; omega
  case va1_3 => omega
  intro va1 w3 rva1 e2
  have ze2 := e2.size
  have P1_ := P1.ev e2 (fun h => by have := lBO_1 _ h; omega)
  have A1_ := A1.ev e2 (fun h => by have := lBO_1 _ h; omega)
  have EV : Ev (fun i => i = PB ∨ i = AB ∨ Value.ownBlock (.slice bA bn bC) = some i) w w3 := EV.then e2 (fun i h => .inl (.inr (.inr h)))
  have b14_ := b14.ev e2 (fun i hi h => by have := lb14_1 i hi; have := lBO_1 _ h; omega)
  replace P1 := P1_; clear P1_
  replace A1 := A1_; clear A1_
  replace b14 := b14_; clear b14_
  rw [← nnd_app] at rva1
  obtain ⟨Ab, Cb, hAb, hlAb⟩ := rva1.len; rw [nnd_len] at hAb hlAb
  subst hAb
  replace BO := rva1
  clear rva1 e2
  have lBO_2 := BO.ge
  refine ze 8 ⟨P1, A1, EV, by omega⟩ ?_
  simp only [List.set_cons_zero, List.set_cons_succ]
  refine zv 9 16 (.pointer (some ⟨PB, 1, none⟩)) (fun _ _ => .of) ⟨P1, A1, EV, by omega⟩ ?_
  simp only [List.set_cons_zero, List.set_cons_succ]
  refine zo1 10 rfl ?_
  refine xStore 63 (.tmp 16) (.tmp 15) rfl PB 66 [.int .i64 leaf, .slice bA bn bC] 1 (.slice Ab ((bs ++ [(es.getD (k ^^^ 1) [])])).length Cb) (by kernel_rfl) (by kernel_rfl) P1 (by kernel_rfl) (by simp) rfl [.int .i64 leaf, .slice Ab ((bs ++ [(es.getD (k ^^^ 1) [])])).length Cb] rfl ?_
  intro w4 t1
  have zt1 := t1.z
  have BO_ := BO.ev t1.e (fun i hi => show ¬ (i = PB) by have := lBO_2 i hi; omega)
  have A1_ := A1.ev t1.e (show ¬ (AB = PB) by omega)
  have EV : Ev (fun i => i = PB ∨ i = AB ∨ Value.ownBlock (.slice bA bn bC) = some i) w w4 := EV.then t1.e (fun i h => by first | exact .inl (.inl h) | exact .inl (.inr (.inl h)))
  have b14_ := b14.ev t1.e (fun i hi => show ¬ (i = PB) by have := lb14_1 i hi; omega)
  replace BO := BO_; clear BO_
  replace A1 := A1_; clear A1_
  replace b14 := b14_; clear b14_
  replace P1 : Cel w4 PB 66 [.int .i64 leaf, .slice Ab ((bs ++ [(es.getD (k ^^^ 1) [])])).length Cb] := t1.c
  clear t1
  refine zz 10 ?_
  refine zd (by kernel_rfl) ?_ _
  refine hK2 _ _ ?_
  refine cPlain ?_
  refine sv 17 (.int .i64 ((k : Nat) : Int)) (Val.cel1 3 _ rfl AB 0 _ (by kernel_rfl) (fun _ => (by kernel_rfl)) A1 rfl) ?_
  simp only [List.set_cons_zero, List.set_cons_succ]
  refine sv 18 (.int .i64 ((k >>> 1 : Nat) : Int)) (Val.shrN 3 _ (.tmp 17) _ rfl .i64 .u64 k 1 (by kernel_rfl) (by kernel_rfl) (by simp only [IntKind.bits]; omega)) ?_
  simp only [List.set_cons_zero, List.set_cons_succ]
  refine xStore 3 (.tmp 2) (.tmp 18) rfl AB 3 [.int .i64 ((k : Nat) : Int)] 0 (.int .i64 ((k >>> 1 : Nat) : Int)) (by kernel_rfl) (by kernel_rfl) A1 (by kernel_rfl) (by simp) rfl [.int .i64 ((k >>> 1 : Nat) : Int)] rfl ?_
  intro w5 t2
  have zt2 := t2.z
  have BO_ := BO.ev t2.e (fun i hi => show ¬ (i = AB) by have := lBO_2 i hi; omega)
  have P1_ := P1.ev t2.e (show ¬ (PB = AB) by omega)
  have EV : Ev (fun i => i = PB ∨ i = AB ∨ Value.ownBlock (.slice bA bn bC) = some i) w w5 := EV.then t2.e (fun i h => by first | exact .inl (.inl h) | exact .inl (.inr (.inl h)))
  have b14_ := b14.ev t2.e (fun i hi => show ¬ (i = AB) by have := lb14_1 i hi; omega)
  replace BO := BO_; clear BO_
  replace P1 := P1_; clear P1_
  replace b14 := b14_; clear b14_
  replace A1 : Cel w5 AB 3 [.int .i64 ((k >>> 1 : Nat) : Int)] := t2.c
  clear t2
  refine wpList_nil ?_
  (try simp only [Exit.then, Exit.inBlock])
  refine bodyPost_end (v := .tuple #[]) rT rfl ?_
  exact ⟨rfl, _, _, _, BO, P1, A1, EV⟩

theorem pathTell_one (v : Value) (es : List (List Nat)) (p a : Value) (h1 : ¬ 1 < es.length) (w : World) (D : SE .u8 32 w v (nnd es)) :
    Calls Try.prog 98 #[v, p, a] w fun e w' => e = .returned (.tuple #[]) ∧ w' = w := by
  obtain ⟨vA, vC, hv, hvc⟩ := D.len
  rw [nnd_len] at hv hvc
  subst hv
  go_enter Try.func98, Try.ntmps98
  refine wp_seq_k fun K1 hK1 => ?_
  refine cPlain ?_
  refine sv 4 (.slice vA es.length vC) .of ?_
  simp only [List.set_cons_zero, List.set_cons_succ]
  refine sv 5 (.int .i64 (es.length : Int)) .of ?_
  simp only [List.set_cons_zero, List.set_cons_succ]
  refine sv 6 (.bool false) (Val.cmp .gtr 3 _ (.tmp 5) _ rfl .i64 (es.length : Int) 1 (by kernel_rfl) (by kernel_rfl) (by simp) _ (by simp [cmpB]; omega)) ?_
  simp only [List.set_cons_zero, List.set_cons_succ]
  refine wpList_nil ?_
  refine hK1 _ _ ?_
  refine cF ?_
  refine wp_skip ?_
  (try simp only [Exit.then, Exit.inBlock])
  refine bodyPost_end (v := .tuple #[]) rT rfl ?_
  exact ⟨rfl, rfl⟩


theorem half_pow (k j : Nat) : k / 2 ^ j / 2 = k / 2 ^ (j + 1) := by rw [Nat.div_div_eq_div_mul, Nat.pow_succ]
theorem pathTell_any (tab : List Nat) (PB AB : Nat) (hPA : PB ≠ AB) (v : Value) (es : List (List Nat)) (h j : Nat) (hh : h ≤ 8) (hj : j ≤ h) (hn : es.length = 2 ^ h) (hes : ∀ d ∈ es, d.length = 32) (kk : Nat) (hkk : kk < 2 ^ h) (leaf : Int) (bA : Option Addr) (bC bn base : Nat) (w : World)
    (D : SE .u8 32 w v (nnd (mups tab j es))) (BO : OwnE 37 .u8 32 base w (.slice bA bn bC) (nnd (mpath tab j es kk))) (P1 : Cel w PB 66 [.int .i64 leaf, .slice bA bn bC]) (A1 : Cel w AB 3 [.int .i64 ((kk / 2 ^ j : Nat) : Int)]) (hB : base ≤ w.heap.size) (hPB : PB < base) (hAB : AB < base) :
    Calls Try.prog 98 #[v, .pointer (some ⟨PB, 0, none⟩), .pointer (some ⟨AB, 0, none⟩)] w fun e w' => e = .returned (.tuple #[]) ∧ ∃ (A : Option Addr) (n C : Nat), OwnE 37 .u8 32 base w' (.slice A n C) (nnd (mpath tab (min (j + 1) h) es kk)) ∧ Cel w' PB 66 [.int .i64 leaf, .slice A n C] ∧ Cel w' AB 3 [.int .i64 ((kk / 2 ^ (min (j + 1) h) : Nat) : Int)] ∧ Ev (fun i => i = PB ∨ i = AB ∨ Value.ownBlock (.slice bA bn bC) = some i) w w' := by
  have hXn : (mups tab j es).length = 2 ^ (h - j) := mups_len tab j _ es (by rw [hn, ← Nat.pow_add]; congr 1; omega)
  have hXl := mups_lens tab j es hes
  have hpw : 2 ^ h ≤ 256 := Nat.pow_le_pow_right (by omega) hh
  by_cases hjh : j < h
  · have h2 := two_le_pow (show 0 < h - j by omega)
    have hkj : kk / 2 ^ j < 2 ^ (h - j) := by
      rw [Nat.div_lt_iff_lt_mul (Nat.two_pow_pos j), ← Nat.pow_add, show h - j + j = h by omega]; exact hkk
    have hx : (kk / 2 ^ j) ^^^ 1 < (mups tab j es).length := by
      rw [hXn]
      obtain ⟨q, hq⟩ : ∃ q, 2 ^ (h - j) = 2 * q := ⟨2 ^ (h - j - 1), by rw [← Nat.pow_succ']; congr 1; omega⟩
      rw [hq] at hkj ⊢
      exact xor1_lt hkj
    have hle : kk / 2 ^ j ≤ kk := Nat.div_le_self _ _
    refine (pathTell_more PB AB hPA v (mups tab j es) hXl leaf (kk / 2 ^ j) bA bC bn base (mpath tab j es kk) (by omega) hx (by omega) (by rw [mpath_len]; omega) w D BO P1 A1 hB hPB hAB).mono ?_
    rintro e w' ⟨rfl, A, n, C, hO, hP, hA, hE⟩
    refine ⟨rfl, A, n, C, ?_, hP, ?_, hE⟩
    · rw [Nat.min_eq_left (by omega), mpath_snoc]; exact hO
    · rw [Nat.min_eq_left (by omega), ← half_pow]; exact hA
  · obtain rfl : j = h := by omega
    rw [Nat.sub_self, Nat.pow_zero] at hXn
    refine (pathTell_one v (mups tab j es) _ _ (by omega) w D).mono ?_
    rintro e w' ⟨rfl, rfl⟩
    refine ⟨rfl, bA, bn, bC, ?_, P1, ?_, Ev.refl _ _⟩
    · rw [Nat.min_eq_right (by omega)]; exact BO
    · rw [Nat.min_eq_right (by omega)]; exact A1
theorem no_own : ∀ i, Value.ownBlock (.slice none 0 0) = some i → 1 ≤ 0 := fun i h => by cases h

end Go.Proofs.Yteaijjefbadnbaa
