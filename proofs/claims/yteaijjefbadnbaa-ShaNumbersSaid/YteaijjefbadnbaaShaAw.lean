/-
  law02.awake.
-/
import Derived.Test.YteaijjefbadnbaaShaEv
import Derived.Test.YteaijjefbadnbaaShaRun
import Derived.Test.YteaijjefbadnbaaPk2
namespace Go.Proofs.Yteaijjefbadnbaa
open Go.RowKit
set_option linter.unusedVariables false
set_option linter.unusedSimpArgs false
set_option maxRecDepth 100000
attribute [local irreducible] wpList Code.wp wpAnyZ
theorem awake02_any (w : World) :
    Calls Try.prog 23 #[] w fun e w' => e = .returned (.bool true) ∧ Below w.heap.size w w' := by
  have BL := Bl.refl w
  have hTL := tabL_len
  go_enter Try.func23, Try.ntmps23
  refine wp_seq_k fun K1 hK1 => ?_
  refine cPlain ?_
  refine sv 0 (.bool false) .of ?_
  simp only [List.set_cons_zero, List.set_cons_succ]
  refine wpList_nil ?_
  refine hK1 _ _ ?_
  refine wp_seq_k fun K2 hK2 => ?_
  refine cPlain ?_
  refine xCall 2 13 #[] (by kernel_rfl) ?_
  refine (table_any w).mono ?_
  rintro en w1 ⟨he, hb1⟩
  rw [tableN_eq] at he
  subst he
  have e1 := belE0 hb1
  have ze1 := e1.size
  replace BL := BL.e0 e1
  clear e1
  refine ⟨.agg (cellsOf .u32 (nn tabL)), rfl, ?_⟩
  simp only [List.set_cons_zero, List.set_cons_succ]
  refine xAlloc 1 26 ((nn (List.replicate 72 0)).map (Value.int .u32)) rfl (by kernel_rfl) ?_
  intro w2 n1
  have zn1 := n1.z
  have b1 := n1.c
  replace b1 : Blk .u32 w2 w1.heap.size 26 (nn (List.replicate 72 0)) := b1
  replace BL := BL.e0 n1.e
  simp only [List.set_cons_zero, List.set_cons_succ]
  refine xStoreA 26 (.tmp 1) (.tmp 2) rfl .u32 w1.heap.size 26 (nn (List.replicate 72 0)) 0 (nn tabL) (by kernel_rfl) (by kernel_rfl) b1 (by rw [show (nn tabL).length = 72 by ((try simp only [nn_len, List.length_cons, List.length_nil, List.length_set, List.length_replicate]); try omega)]; kernel_rfl) (by (try simp only [nn_len, List.length_cons, List.length_nil, List.length_set, List.length_replicate]); try omega) (nn tabL) (over_whole _ _ (by (try simp only [nn_len, List.length_cons, List.length_nil, List.length_set, List.length_replicate]); try omega)) ?_
  intro w3 t1
  have zt1 := t1.z
  have BL_ := BL.ev t1.e (fun i h => show w.heap.size ≤ i by have h : i = w1.heap.size := h; omega)
  replace BL := BL_; clear BL_
  replace b1 : Blk .u32 w3 w1.heap.size 26 (nn tabL) := t1.c
  clear t1
  refine wpList_nil ?_
  refine hK2 _ _ ?_
  refine wp_seq_k fun K3 hK3 => ?_
  refine cPlain ?_
  refine xCall 3 15 #[.pointer (some ⟨w1.heap.size, 0, none⟩), .string {data := #[]}] (by kernel_rfl) ?_
  have hd_empty := fun w TB => digest_any w1.heap.size tabL [] tabL_len (by decide) (by decide) w TB
  rw [hex_empty, str_empty] at hd_empty
  refine (hd_empty w3 b1).mono ?_
  rintro en w4 ⟨rfl, hb1⟩
  have e2 := belE0 hb1
  have ze2 := e2.size
  replace BL := BL.e0 e2
  replace b1 := b1.e0 e2
  clear e2
  refine ⟨.string {data := #[101, 51, 98, 48, 99, 52, 52, 50, 57, 56, 102, 99, 49, 99, 49, 52, 57, 97, 102, 98, 102, 52, 99, 56, 57, 57, 54, 102, 98, 57, 50, 52, 50, 55, 97, 101, 52, 49, 101, 52, 54, 52, 57, 98, 57, 51, 52, 99, 97, 52, 57, 53, 57, 57, 49, 98, 55, 56, 53, 50, 98, 56, 53, 53]}, rfl, ?_⟩
  simp only [List.set_cons_zero, List.set_cons_succ]
  refine sv 4 (.bool true) .of ?_
  simp only [List.set_cons_zero, List.set_cons_succ]
  refine sv 5 (.bool true) .of ?_
  simp only [List.set_cons_zero, List.set_cons_succ]
  refine xCall 6 15 #[.pointer (some ⟨w1.heap.size, 0, none⟩), .string {data := #[97, 98, 99]}] (by kernel_rfl) ?_
  have hd_abc := fun w TB => digest_any w1.heap.size tabL [97, 98, 99] tabL_len (by decide) (by decide) w TB
  rw [hex_abc, str_abc] at hd_abc
  refine (hd_abc w4 b1).mono ?_
  rintro en w5 ⟨rfl, hb1⟩
  have e3 := belE0 hb1
  have ze3 := e3.size
  replace BL := BL.e0 e3
  replace b1 := b1.e0 e3
  clear e3
  refine ⟨.string {data := #[98, 97, 55, 56, 49, 54, 98, 102, 56, 102, 48, 49, 99, 102, 101, 97, 52, 49, 52, 49, 52, 48, 100, 101, 53, 100, 97, 101, 50, 50, 50, 51, 98, 48, 48, 51, 54, 49, 97, 51, 57, 54, 49, 55, 55, 97, 57, 99, 98, 52, 49, 48, 102, 102, 54, 49, 102, 50, 48, 48, 49, 53, 97, 100]}, rfl, ?_⟩
  simp only [List.set_cons_zero, List.set_cons_succ]
  refine sv 7 (.bool true) .of ?_
  simp only [List.set_cons_zero, List.set_cons_succ]
  refine sv 8 (.bool true) .of ?_
  simp only [List.set_cons_zero, List.set_cons_succ]
  refine sv 9 (.bool true) .of ?_
  simp only [List.set_cons_zero, List.set_cons_succ]
  refine sv 10 (.pointer (some ⟨w1.heap.size, 0, none⟩)) .of ?_
  simp only [List.set_cons_zero, List.set_cons_succ]
  refine sv 11 (.pointer (some ⟨w1.heap.size, 0, none⟩)) .of ?_
  simp only [List.set_cons_zero, List.set_cons_succ]
  refine sv 12 (.int .u32 ((tabL.getD 0 0 : Nat) : Int)) (Val.nblk1 22 _ rfl w1.heap.size 0 (by kernel_rfl) (fun _ => (by kernel_rfl)) b1 (by omega)) ?_
  simp only [List.set_cons_zero, List.set_cons_succ]
  refine sv 13 (.bool true) .of ?_
  simp only [List.set_cons_zero, List.set_cons_succ]
  refine sv 14 (.bool true) .of ?_
  simp only [List.set_cons_zero, List.set_cons_succ]
  refine sv 15 (.bool true) .of ?_
  simp only [List.set_cons_zero, List.set_cons_succ]
  refine sv 16 (.pointer (some ⟨w1.heap.size, 8, none⟩)) .of ?_
  simp only [List.set_cons_zero, List.set_cons_succ]
  refine sv 17 (.pointer (some ⟨w1.heap.size, 8, none⟩)) .of ?_
  simp only [List.set_cons_zero, List.set_cons_succ]
  refine sv 18 (.int .u32 ((tabL.getD 8 0 : Nat) : Int)) (Val.nblk1 22 _ rfl w1.heap.size 8 (by kernel_rfl) (fun _ => (by kernel_rfl)) b1 (by omega)) ?_
  simp only [List.set_cons_zero, List.set_cons_succ]
  refine sv 19 (.bool true) .of ?_
  simp only [List.set_cons_zero, List.set_cons_succ]
  refine sv 20 (.bool true) .of ?_
  simp only [List.set_cons_zero, List.set_cons_succ]
  refine sv 21 (.bool true) .of ?_
  simp only [List.set_cons_zero, List.set_cons_succ]
  refine sv 22 (.pointer (some ⟨w1.heap.size, 8, none⟩)) .of ?_
  simp only [List.set_cons_zero, List.set_cons_succ]
  refine sv 23 (.pointer (some ⟨w1.heap.size, 71, none⟩)) .of ?_
  simp only [List.set_cons_zero, List.set_cons_succ]
  refine sv 24 (.int .u32 ((tabL.getD 71 0 : Nat) : Int)) (Val.nblk1 22 _ rfl w1.heap.size 71 (by kernel_rfl) (fun _ => (by kernel_rfl)) b1 (by omega)) ?_
  simp only [List.set_cons_zero, List.set_cons_succ]
  refine sv 25 (.bool true) .of ?_
  simp only [List.set_cons_zero, List.set_cons_succ]
  refine sv 26 (.bool true) .of ?_
  simp only [List.set_cons_zero, List.set_cons_succ]
  refine sv 27 (.bool true) .of ?_
  simp only [List.set_cons_zero, List.set_cons_succ]
  refine xCall 28 22 #[.int .i64 0] (by kernel_rfl) ?_
  refine (pad_nat 0 w5).mono ?_
  rintro en w6 ⟨va, hea, hOa, hb1⟩
  obtain ⟨Aa, Ca, hva⟩ := hOa.len
  rw [hva] at hea hOa
  subst hea
  have e4 := belE0 hb1
  have ze4 := e4.size
  replace BL := BL.e0 e4
  replace b1 := b1.e0 e4
  clear e4
  have Pa : Own 5 .u8 w5.heap.size w6 (.slice Aa (nn (padN 0)).length Ca) (nn (padN 0)) := hOa
  have lPa_1 := Pa.ge
  refine ⟨.slice Aa (nn (padN 0)).length Ca, rfl, ?_⟩
  simp only [List.set_cons_zero, List.set_cons_succ]
  refine sv 29 (.int .i64 ((nn (padN 0)).length : Int)) .of ?_
  simp only [List.set_cons_zero, List.set_cons_succ]
  refine sv 30 (.bool true) .of ?_
  simp only [List.set_cons_zero, List.set_cons_succ]
  refine sv 31 (.bool true) .of ?_
  simp only [List.set_cons_zero, List.set_cons_succ]
  refine sv 32 (.bool true) .of ?_
  simp only [List.set_cons_zero, List.set_cons_succ]
  refine xCall 33 22 #[.int .i64 55] (by kernel_rfl) ?_
  refine (pad_nat 55 w6).mono ?_
  rintro en w7 ⟨vb, heb, hOb, hb1⟩
  obtain ⟨Ab, Cb, hvb⟩ := hOb.len
  rw [hvb] at heb hOb
  subst heb
  have e5 := belE0 hb1
  have ze5 := e5.size
  replace BL := BL.e0 e5
  replace b1 := b1.e0 e5
  replace Pa := Pa.e0 e5
  clear e5
  have Pb : Own 5 .u8 w6.heap.size w7 (.slice Ab (nn (padN 55)).length Cb) (nn (padN 55)) := hOb
  have lPb_1 := Pb.ge
  refine ⟨.slice Ab (nn (padN 55)).length Cb, rfl, ?_⟩
  simp only [List.set_cons_zero, List.set_cons_succ]
  refine xLit 34 30 5 9 _ #[(0, .int .u8 128), (1, .int .u8 0), (2, .int .u8 0), (3, .int .u8 0), (4, .int .u8 0), (5, .int .u8 0), (6, .int .u8 0), (7, .int .u8 1), (8, .int .u8 184)] [.int .u8 128, .int .u8 0, .int .u8 0, .int .u8 0, .int .u8 0, .int .u8 0, .int .u8 0, .int .u8 1, .int .u8 184] rfl (by kernel_rfl) (by kernel_rfl) ?_
  intro w8 n2
  have zn2 := n2.z
  have b34 := n2.c
  replace b34 : Blk .u8 w8 w7.heap.size 5 [128, 0, 0, 0, 0, 0, 0, 1, 184] := b34
  replace BL := BL.e0 n2.e
  replace b1 := b1.e0 n2.e
  replace Pa := Pa.e0 n2.e
  replace Pb := Pb.e0 n2.e
  have sb34 : SL .u8 w8 (.slice (some ⟨w7.heap.size, 0, none⟩) 9 9) [128, 0, 0, 0, 0, 0, 0, 1, 184] := SL.ofBlk b34 rfl (by unfold maxLen; omega)
  have lb34 : ∀ i, Value.ownBlock (.slice (some ⟨w7.heap.size, 0, none⟩) 9 9) = some i → w7.heap.size ≤ i ∧ i < w8.heap.size := ownB_lit (by omega)
  simp only [List.set_cons_zero, List.set_cons_succ]
  refine xCall 35 28 #[.slice Ab (nn (padN 55)).length Cb, .slice (some ⟨w7.heap.size, 0, none⟩) 9 9] (by kernel_rfl) ?_
  refine (same_any _ _ (nn (padN 55)) _ w8 Pb.sl sb34 (bytes_nn (by rw [pad_55]; decide)) (by rw [← show nn [128, 0, 0, 0, 0, 0, 0, 1, 184] = [128, 0, 0, 0, 0, 0, 0, 1, 184] from rfl]; exact bytes_nn (by decide))).mono ?_
  rintro en w9 ⟨he, hw⟩
  have hdec : decide (nn (padN 55) = [128, 0, 0, 0, 0, 0, 0, 1, 184]) = true := by rw [pad_55]; decide
  rw [hdec] at he
  subst he
  obtain rfl := (hw.symm).symm
  refine ⟨.bool true, rfl, ?_⟩
  simp only [List.set_cons_zero, List.set_cons_succ]
  refine sv 36 (.bool true) .of ?_
  simp only [List.set_cons_zero, List.set_cons_succ]
  refine sv 37 (.bool true) .of ?_
  simp only [List.set_cons_zero, List.set_cons_succ]
  refine xCall 38 22 #[.int .i64 56] (by kernel_rfl) ?_
  refine (pad_nat 56 w8).mono ?_
  rintro en w10 ⟨vc, hec, hOc, hb1⟩
  obtain ⟨Ac, Cc, hvc⟩ := hOc.len
  rw [hvc] at hec hOc
  subst hec
  have e6 := belE0 hb1
  have ze6 := e6.size
  replace BL := BL.e0 e6
  replace b1 := b1.e0 e6
  replace Pa := Pa.e0 e6
  replace Pb := Pb.e0 e6
  replace b34 := b34.e0 e6
  replace sb34 := sb34.e0 e6
  clear e6
  have Pc : Own 5 .u8 w8.heap.size w10 (.slice Ac (nn (padN 56)).length Cc) (nn (padN 56)) := hOc
  have lPc_1 := Pc.ge
  refine ⟨.slice Ac (nn (padN 56)).length Cc, rfl, ?_⟩
  simp only [List.set_cons_zero, List.set_cons_succ]
  refine sv 39 (.int .i64 ((nn (padN 56)).length : Int)) .of ?_
  simp only [List.set_cons_zero, List.set_cons_succ]
  refine sv 40 (.bool true) .of ?_
  simp only [List.set_cons_zero, List.set_cons_succ]
  refine sv 41 (.bool true) .of ?_
  simp only [List.set_cons_zero, List.set_cons_succ]
  refine sv 0 (.bool true) .of ?_
  simp only [List.set_cons_zero, List.set_cons_succ]
  refine wpList_nil ?_
  refine hK3 _ _ ?_
  refine wp_ret ?_
  (try simp only [Exit.then, Exit.inBlock])
  refine bodyPost_ret (v := .bool true) rT rfl ?_
  exact ⟨rfl, BL.b⟩

end Go.Proofs.Yteaijjefbadnbaa
