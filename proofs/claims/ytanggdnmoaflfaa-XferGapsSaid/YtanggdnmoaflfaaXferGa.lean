/-
  XferGaps, the walk.
-/
import Derived.Test.YtanggdnmoaflfaaXferH
import Derived.Test.YtanggdnmoaflfaaPk1
namespace Go.Proofs.Ytanggdnmoaflfaa
open Go.RowKit
set_option linter.unusedVariables false
set_option linter.unusedSimpArgs false
set_option maxRecDepth 100000
theorem gapX_p (all : List Nat) (k : Nat) : runX all (qsA k 0) = (List.replicate all.length 0, []) := rfl
attribute [local irreducible] wpList Code.wp wpAnyZ runX putX
theorem Val.mulNat {P : Program} {w : World} {a : Act} {o : Oper} (t ty : TypeId) (x y : Operand) (ho : o.op = .binOp .mul t x y ty) (p q : Nat) (hx : a.eval x = .int .i64 (p : Int)) (hy : a.eval y = .int .i64 (q : Int)) (hb : p * q ≤ 1000000000) : Val P a o (.int .i64 ((p * q : Nat) : Int)) w := by
  have h1 : ((p * q : Nat) : Int) = (p : Int) * (q : Int) := by push_cast; rfl
  rw [h1]
  have h2 : (0 : Int) ≤ (p : Int) * (q : Int) := by rw [← h1]; omega
  have h3 : (p : Int) * (q : Int) ≤ 1000000000 := by rw [← h1]; omega
  exact Val.mul t ty x y ho (p : Int) (q : Int) hx hy ⟨by omega, by omega⟩
theorem runputB_any (all : List Nat) (hn : all.length ≤ 2000) (qs : List (Nat × Nat)) (hqs : ∀ p ∈ qs, PcOk all.length p) (p : Nat × Nat) (hp : PcOk all.length p) (dv hv bv : Value) (w : World) (D : SL .u8 w dv (nn (runX all qs).1)) (H : SE .i64 2 w hv (spS (runX all qs).2)) (hs : SL .u8 w bv (nn (segN all p))) :
    Calls Try.prog 33 #[.agg #[dv, hv], .int .i64 ((p.1 : Nat) : Int), bv] w fun e w' => (∃ X Y Z T, e = .returned (.tuple #[.agg #[.slice X all.length Y, .slice Z (runX all (qs ++ [p])).2.length T], .int .i64 0]) ∧ Own 5 .u8 w.heap.size w' (.slice X all.length Y) (nn (runX all (qs ++ [p])).1) ∧ OwnE 70 .i64 2 w.heap.size w' (.slice Z (runX all (qs ++ [p])).2.length T) (spS (runX all (qs ++ [p])).2)) ∧ Below w.heap.size w w' := by
  have hg := runX_good (by omega) qs hqs
  have hg2 := runX_good (all := all) (by omega) (qs ++ [p]) (fun q hq => by
    rcases List.mem_append.1 hq with hq | hq
    · exact hqs q hq
    · rw [List.mem_singleton.1 hq]; exact hp)
  have hpl := hp.2.1
  have hp1 := hp.1
  have hr := runX_put (by omega) hqs hp
  refine (put_any dv hv _ ((p.1 : Nat) : Int) (by omega) _ (segN all p) _ w D hs H (by rw [hg.len]; omega) hg.many).mono ?_
  rintro e w' ⟨⟨dv', hv', he, O1, O2⟩, hb⟩
  rw [hr] at he O1 O2
  refine ⟨?_, hb⟩
  obtain ⟨X, Y, hq⟩ := O1.len
  rw [nn_len] at hq
  simp only [] at hq
  rw [hg2.len] at hq
  subst hq
  obtain ⟨Z, T, hq, _⟩ := O2.len
  rw [spS_len] at hq
  subst hq
  exact ⟨X, Y, Z, T, he, O1, O2⟩

set_option maxHeartbeats 4000000 in
theorem xferGaps_walk (w : World) (s t : Nat) (bk : Bool) (hs : s < 256) (ht : t < 256) :
    Calls Try.prog 9 #[.int .u8 ((s : Nat) : Int), .int .u8 ((t : Nat) : Int), .bool bk] w fun e w' => e = .returned (.bool true) ∧ Below w.heap.size w w' := by
  have BL := Bl.refl w
  obtain ⟨n, hnn⟩ : ∃ n, 1 + s % 200 = n := ⟨_, rfl⟩
  obtain ⟨k, hkk⟩ : ∃ k, 1 + t % 5 = k := ⟨_, rfl⟩
  have hn : 1 ≤ n := by omega
  have hn2 : n ≤ 200 := by omega
  have hk : 1 ≤ k := by omega
  have hk5 : k ≤ 5 := by omega
  have hpos : 1 ≤ n * (k + 1) := Nat.mul_pos (by omega) (by omega)
  obtain ⟨M, hM⟩ : ∃ M, n * (k + 1) = M + 1 := ⟨n * (k + 1) - 1, by omega⟩
  have hM3 := hM2 hn hk hk5 hM hn2
  have hmu : ∀ i, i ≤ n → i * (k + 1) ≤ M + 1 := fun i hi => by rw [← hM]; exact Nat.mul_le_mul_right _ hi
  go_enter Try.func9, Try.ntmps9
  refine wp_seq_k fun K1 hK1 => ?_
  refine cPlain ?_
  refine sv 6 (.bool false) .of ?_
  simp only [List.set_cons_zero, List.set_cons_succ]
  refine wpList_nil ?_
  refine hK1 _ _ ?_
  refine wp_seq_k fun K2 hK2 => ?_
  refine cPlain ?_
  refine sv 18 (.int .u8 ((s : Nat) : Int)) .of ?_
  simp only [List.set_cons_zero, List.set_cons_succ]
  refine sv 19 (.int .u8 ((s % 200 : Nat) : Int)) (Val.remN 5 _ (.tmp 18) _ rfl .u8 s 200 (by kernel_rfl) (by kernel_rfl) (by omega)) ?_
  simp only [List.set_cons_zero, List.set_cons_succ]
  refine sv 20 (.int .i64 ((s % 200 : Nat) : Int)) (Val.conv64 5 3 (.tmp 19) rfl Try.underlying5 Try.underlying3 ((s % 200 : Nat) : Int) (by kernel_rfl) (by omega)) ?_
  simp only [List.set_cons_zero, List.set_cons_succ]
  refine sv 21 (.int .i64 ((n : Nat) : Int)) (Val.as (Val.add 3 _ _ (.tmp 20) rfl 1 ((s % 200 : Nat) : Int) (by kernel_rfl) (by kernel_rfl) (by omega)) (congrArg (Value.int .i64) (show ((1 + ((s % 200 : Nat) : Int)) : Int) = ((n : Nat) : Int) by omega))) ?_
  simp only [List.set_cons_zero, List.set_cons_succ]
  refine sv 22 (.int .u8 ((t : Nat) : Int)) .of ?_
  simp only [List.set_cons_zero, List.set_cons_succ]
  refine sv 23 (.int .u8 ((t % 5 : Nat) : Int)) (Val.remN 5 _ (.tmp 22) _ rfl .u8 t 5 (by kernel_rfl) (by kernel_rfl) (by omega)) ?_
  simp only [List.set_cons_zero, List.set_cons_succ]
  refine sv 24 (.int .i64 ((t % 5 : Nat) : Int)) (Val.conv64 5 3 (.tmp 23) rfl Try.underlying5 Try.underlying3 ((t % 5 : Nat) : Int) (by kernel_rfl) (by omega)) ?_
  simp only [List.set_cons_zero, List.set_cons_succ]
  refine sv 25 (.int .i64 ((k : Nat) : Int)) (Val.as (Val.add 3 _ _ (.tmp 24) rfl 1 ((t % 5 : Nat) : Int) (by kernel_rfl) (by kernel_rfl) (by omega)) (congrArg (Value.int .i64) (show ((1 + ((t % 5 : Nat) : Int)) : Int) = ((k : Nat) : Int) by omega))) ?_
  simp only [List.set_cons_zero, List.set_cons_succ]
  refine sv 7 (.int .i64 ((n : Nat) : Int)) .of ?_
  simp only [List.set_cons_zero, List.set_cons_succ]
  refine sv 8 (.int .i64 ((k : Nat) : Int)) .of ?_
  simp only [List.set_cons_zero, List.set_cons_succ]
  refine wpList_nil ?_
  refine hK2 _ _ ?_
  refine wp_seq_k fun K3 hK3 => ?_
  refine cPlain ?_
  refine sv 27 (.int .i64 ((n : Nat) : Int)) .of ?_
  simp only [List.set_cons_zero, List.set_cons_succ]
  refine sv 28 (.int .i64 ((k : Nat) : Int)) .of ?_
  simp only [List.set_cons_zero, List.set_cons_succ]
  refine sv 29 (.int .i64 ((k + 1 : Nat) : Int)) (Val.as (Val.add 3 _ (.tmp 28) _ rfl ((k : Nat) : Int) 1 (by kernel_rfl) (by kernel_rfl) (by omega)) (congrArg (Value.int .i64) (show ((((k : Nat) : Int) + 1) : Int) = ((k + 1 : Nat) : Int) by omega))) ?_
  simp only [List.set_cons_zero, List.set_cons_succ]
  refine sv 30 (.int .i64 ((n * (k + 1) : Nat) : Int)) (Val.mulNat 3 _ (.tmp 27) (.tmp 29) rfl n (k + 1) (by kernel_rfl) (by kernel_rfl) (by omega)) ?_
  simp only [List.set_cons_zero, List.set_cons_succ]
  refine sv 31 (.int .i64 ((M : Nat) : Int)) (Val.as (Val.sub 3 _ (.tmp 30) _ rfl ((n * (k + 1) : Nat) : Int) 1 (by kernel_rfl) (by kernel_rfl) (by omega)) (congrArg (Value.int .i64) (show ((((n * (k + 1) : Nat) : Int) - 1) : Int) = ((M : Nat) : Int) by omega))) ?_
  simp only [List.set_cons_zero, List.set_cons_succ]
  refine xCall 32 32 #[.int .i64 ((M : Nat) : Int)] (by kernel_rfl) ?_
  refine (begin_any M (by omega) w).mono ?_
  rintro en w1 ⟨⟨dv0, rfl, O1⟩, hb1⟩
  obtain ⟨X0, Y0, hq⟩ := O1.len
  rw [nn_len, List.length_replicate] at hq
  subst hq
  have O2 := OwnE.nil 70 .i64 2 w.heap.size w1
  have e1 := belE0 hb1
  have ze1 := e1.size
  replace BL := BL.e0 e1
  clear e1
  have lO1_1 := O1.ge
  have lO2_1 := O2.ge
  refine ⟨.tuple #[.agg #[.slice X0 M Y0, .slice none 0 0], .int .i64 0], rfl, ?_⟩
  simp only [List.set_cons_zero, List.set_cons_succ]
  refine sv 26 (.tuple #[.agg #[.slice X0 M Y0, .slice none 0 0], .int .i64 0]) .of ?_
  simp only [List.set_cons_zero, List.set_cons_succ]
  refine sv 33 (.agg #[.slice X0 M Y0, .slice none 0 0]) .of ?_
  simp only [List.set_cons_zero, List.set_cons_succ]
  refine sv 34 (.int .i64 0) .of ?_
  simp only [List.set_cons_zero, List.set_cons_succ]
  refine xAlloc 9 56 [.slice none 0 0, .slice none 0 0] rfl (by kernel_rfl) ?_
  intro w2 n1
  have zn1 := n1.z
  have b9 := n1.c
  replace BL := BL.e0 n1.e
  replace O1 := O1.e0 n1.e
  replace O2 := O2.e0 n1.e
  simp only [List.set_cons_zero, List.set_cons_succ]
  refine xStoreR 56 (.tmp 9) (.tmp 33) rfl w1.heap.size 56 [.slice none 0 0, .slice none 0 0] 0 [.slice X0 M Y0, .slice none 0 0] (by kernel_rfl) (by kernel_rfl) b9 (by kernel_rfl) (by simp) rfl [.slice X0 M Y0, .slice none 0 0] rfl ?_
  intro w3 t1
  have zt1 := t1.z
  have BL_ := BL.ev t1.e (fun i h => show w.heap.size ≤ i by have h : i = w1.heap.size := h; omega)
  have O1_ := O1.ev t1.e (fun i hi => show ¬ (i = w1.heap.size) by have := lO1_1 i hi; omega)
  have O2_ := O2.ev t1.e (fun i hi => show ¬ (i = w1.heap.size) by have := lO2_1 i hi; omega)
  replace BL := BL_; clear BL_
  replace O1 := O1_; clear O1_
  replace O2 := O2_; clear O2_
  replace b9 : Cel w3 w1.heap.size 56 [.slice X0 M Y0, .slice none 0 0] := t1.c
  clear t1
  refine sv 10 (.int .i64 0) .of ?_
  simp only [List.set_cons_zero, List.set_cons_succ]
  refine wpList_nil ?_
  refine hK3 _ _ ?_
  refine wp_seq_k fun K4 hK4 => ?_
  refine wp_seq_k fun K5 hK5 => ?_
  refine cPlain ?_
  refine sv 35 (.int .i64 0) .of ?_
  simp only [List.set_cons_zero, List.set_cons_succ]
  refine sv 36 (.bool false) (Val.cmp .neq 37 _ (.tmp 35) _ rfl .i64 0 0 (by kernel_rfl) (by kernel_rfl) (by simp) _ rfl) ?_
  simp only [List.set_cons_zero, List.set_cons_succ]
  refine wpList_nil ?_
  refine hK5 _ _ ?_
  refine cF ?_
  refine wp_skip ?_
  refine hK4 _ _ ?_
  refine wp_seq_k fun K6 hK6 => ?_
  refine wp_seq_k fun K7 hK7 => ?_
  refine cPlain ?_
  refine sv 37 (.int .i64 ((n : Nat) : Int)) .of ?_
  simp only [List.set_cons_zero, List.set_cons_succ]
  refine sv 38 (.int .i64 0) .of ?_
  simp only [List.set_cons_zero, List.set_cons_succ]
  refine wpList_nil ?_
  refine hK7 _ _ ?_
  refine wp_block ?_
  refine cLoop (fun N_ A_ w_ => ∃ (i : Nat) (AX BX : Option Addr) (CX EX : Nat), (N_ = n - i ∧ (i ≤ n) ∧ (∃ s1 : Nat → Value, A_ = ⟨[.int .u8 ((s : Nat) : Int), .int .u8 ((t : Nat) : Int), .bool bk, undef, undef, undef, (s1 6), .int .i64 ((n : Nat) : Int), .int .i64 ((k : Nat) : Int), .pointer (some ⟨w1.heap.size, 0, none⟩), .int .i64 0, (s1 11), (s1 12), (s1 13), undef, undef, undef, undef, .int .u8 ((s : Nat) : Int), .int .u8 ((s % 200 : Nat) : Int), .int .i64 ((s % 200 : Nat) : Int), .int .i64 ((n : Nat) : Int), .int .u8 ((t : Nat) : Int), .int .u8 ((t % 5 : Nat) : Int), .int .i64 ((t % 5 : Nat) : Int), .int .i64 ((k : Nat) : Int), .tuple #[.agg #[.slice X0 M Y0, .slice none 0 0], .int .i64 0], .int .i64 ((n : Nat) : Int), .int .i64 ((k : Nat) : Int), .int .i64 ((k + 1 : Nat) : Int), .int .i64 ((n * (k + 1) : Nat) : Int), .int .i64 ((M : Nat) : Int), .tuple #[.agg #[.slice X0 M Y0, .slice none 0 0], .int .i64 0], .agg #[.slice X0 M Y0, .slice none 0 0], .int .i64 0, .int .i64 0, .bool false, .int .i64 ((n : Nat) : Int), .int .i64 ((i : Nat) : Int), (s1 39), (s1 40), (s1 41), (s1 42), (s1 43), (s1 44), (s1 45), (s1 46), (s1 47), (s1 48), (s1 49), (s1 50), (s1 51), (s1 52), (s1 53), (s1 54), (s1 55), (s1 56), (s1 57), (s1 58), (s1 59), (s1 60), (s1 61), (s1 62), (s1 63), undef, undef, undef, undef, undef, undef, undef, undef, undef, undef, undef, undef, undef, undef, undef, undef, undef, undef, undef, undef, undef, undef, undef, undef, undef, undef, undef, undef, undef, undef, undef, undef, undef, undef, undef, undef, undef, undef, undef, undef, undef, undef, undef, undef, undef, undef, undef, undef, undef, undef, undef, undef].toArray, []⟩) ∧ Bl w.heap.size w w_ ∧ Own 5 .u8 w.heap.size w_ (.slice AX M CX) (nn (runX (gapAll M k) (qsA k i)).1) ∧ OwnE 70 .i64 2 w.heap.size w_ (.slice BX (runX (gapAll M k) (qsA k i)).2.length EX) (spS (runX (gapAll M k) (qsA k i)).2) ∧ Cel w_ w1.heap.size 56 [.slice AX M CX, .slice BX (runX (gapAll M k) (qsA k i)).2.length EX] ∧ w3.heap.size ≤ w_.heap.size)) _ ⟨0, X0, none, Y0, 0, rfl, (by omega), cutE, BL, (by rw [gapX_p, gapAll_len]; exact O1.mono (by omega)), (by rw [gapX_p]; exact O2.mono (by omega)), (by rw [gapX_p]; exact b9), Nat.le_refl _⟩ ?_
  clear BL O1 O2 b9
  rintro n_ a_ wl0 ⟨i, AX, BX, CX, EX, rfl, hc0_0, ⟨s1, rfl⟩, BL, O1, O2, b9, zl0⟩
  have lO1_2 := O1.ge
  have lO2_2 := O2.ge
  have kO1 := fun (i : Nat) hi => And.intro (O1.ge i hi) (Own.ne O1 b9 (by decide) i hi)
  have kO2 := fun (i : Nat) hi => And.intro (O2.ge i hi) (OwnE.ne O2 b9 (by decide) i hi)
  refine wp_seq_k fun K8 hK8 => ?_
  refine cPlain ?_
  refine sv 39 (.bool (decide (((i : Nat) : Int) < ((n : Nat) : Int)))) (Val.cmp .lss 3 _ (.tmp 38) (.tmp 37) rfl .i64 ((i : Nat) : Int) ((n : Nat) : Int) (by kernel_rfl) (by kernel_rfl) (by simp) _ rfl) ?_
  simp only [List.set_cons_zero, List.set_cons_succ]
  refine wpList_nil ?_
  refine hK8 _ _ ?_
  refine wp_seq_k fun K9 hK9 => ?_
  refine cDec (((i : Nat) : Int) < ((n : Nat) : Int)) (by kernel_rfl) (fun c39 => ?_) (fun c39 => ?_)
  · skip
    refine wp_skip ?_
    refine hK9 _ _ ?_
    refine wp_seq_k fun K10 hK10 => ?_
    refine wp_block ?_
    refine wp_seq_k fun K11 hK11 => ?_
    refine cPlain ?_
    refine sv 40 (.int .i64 ((i : Nat) : Int)) .of ?_
    simp only [List.set_cons_zero, List.set_cons_succ]
    refine sv 11 (.int .i64 ((i : Nat) : Int)) .of ?_
    simp only [List.set_cons_zero, List.set_cons_succ]
    refine wpList_nil ?_
    refine hK11 _ _ ?_
    refine wp_seq_k fun K12 hK12 => ?_
    have e2 := drew_e0 wl0
    refine zg (fun w_ => Bl w.heap.size w w_ ∧ Own 5 .u8 w.heap.size w_ (.slice AX M CX) (nn (runX (gapAll M k) (qsA k i)).1) ∧ OwnE 70 .i64 2 w.heap.size w_ (.slice BX (runX (gapAll M k) (qsA k i)).2.length EX) (spS (runX (gapAll M k) (qsA k i)).2) ∧ Cel w_ w1.heap.size 56 [.slice AX M CX, .slice BX (runX (gapAll M k) (qsA k i)).2.length EX] ∧ wl0.heap.size ≤ w_.heap.size) (fun w_ => Bl w.heap.size w w_ ∧ Own 5 .u8 w.heap.size w_ (.slice AX M CX) (nn (runX (gapAll M k) (qsA k i)).1) ∧ OwnE 70 .i64 2 w.heap.size w_ (.slice BX (runX (gapAll M k) (qsA k i)).2.length EX) (spS (runX (gapAll M k) (qsA k i)).2) ∧ Cel w_ w1.heap.size 56 [.slice AX M CX, .slice BX (runX (gapAll M k) (qsA k i)).2.length EX] ∧ wl0.heap.size ≤ w_.heap.size) 100000 14 ⟨BL.e0 e2, O1.e0 e2, O2.e0 e2, b9.e0 e2, Nat.le_refl _⟩ ?_
    clear BL O1 O2 b9
    clear e2
    intro w4
    rintro ⟨BL, O1, O2, b9, z1⟩
    refine zv 0 42 (.agg #[.slice AX M CX, .slice BX (runX (gapAll M k) (qsA k i)).2.length EX]) (fun _ ⟨BL, O1, O2, b9, z1⟩ => Val.cel 56 _ rfl 0 2 (by kernel_rfl) b9 _ Try.underlying56 rfl (by kernel_rfl) (by simp) [.slice AX M CX, .slice BX (runX (gapAll M k) (qsA k i)).2.length EX] rfl) ⟨BL, O1, O2, b9, by omega⟩ ?_
    simp only [List.set_cons_zero, List.set_cons_succ]
    refine zv 1 43 (.int .i64 ((i : Nat) : Int)) (fun _ _ => .of) ⟨BL, O1, O2, b9, by omega⟩ ?_
    simp only [List.set_cons_zero, List.set_cons_succ]
    refine zv 2 44 (.int .i64 ((k : Nat) : Int)) (fun _ _ => .of) ⟨BL, O1, O2, b9, by omega⟩ ?_
    simp only [List.set_cons_zero, List.set_cons_succ]
    refine zv 3 45 (.int .i64 ((k + 1 : Nat) : Int)) (fun _ ⟨BL, O1, O2, b9, z1⟩ => Val.as (Val.add 3 _ (.tmp 44) _ rfl ((k : Nat) : Int) 1 (by kernel_rfl) (by kernel_rfl) (by omega)) (congrArg (Value.int .i64) (show ((((k : Nat) : Int) + 1) : Int) = ((k + 1 : Nat) : Int) by omega))) ⟨BL, O1, O2, b9, by omega⟩ ?_
    simp only [List.set_cons_zero, List.set_cons_succ]
    refine zv 4 46 (.int .i64 ((i * (k + 1) : Nat) : Int)) (fun _ ⟨BL, O1, O2, b9, z1⟩ => Val.mulNat 3 _ (.tmp 43) (.tmp 45) rfl i (k + 1) (by kernel_rfl) (by kernel_rfl) (by have := hmu i (by omega); omega)) ⟨BL, O1, O2, b9, by omega⟩ ?_
    simp only [List.set_cons_zero, List.set_cons_succ]
    refine zv 5 47 (.int .i64 ((k : Nat) : Int)) (fun _ _ => .of) ⟨BL, O1, O2, b9, by omega⟩ ?_
    simp only [List.set_cons_zero, List.set_cons_succ]
    refine zo2 6 11 rfl rfl ?_ ?_
    · skip
      refine xMakeN 48 (.tmp 47) (.tmp 47) 29 5 .u8 1 rfl Try.underlying29 (by kernel_rfl) k (by kernel_rfl) (by kernel_rfl) (by unfold maxLen; omega) (by omega) ?_
      intro w5 n2
      have zn2 := n2.z
      have b48 := Own.ofNw n2 (Nat.le_refl _) (by unfold maxLen; simp only [List.length_replicate]; omega)
      rw [List.length_replicate] at b48
      replace BL := BL.e0 n2.e
      replace O1 := O1.e0 n2.e
      replace O2 := O2.e0 n2.e
      replace b9 := b9.e0 n2.e
      have lb48_1 := b48.ge
      refine ze 6 ⟨BL, O1, O2, b9, by omega⟩ ?_
      simp only [List.set_cons_zero, List.set_cons_succ]
      refine zo2 7 11 rfl rfl ?_ ?_
      · skip
        refine xCall 49 33 #[.agg #[.slice AX M CX, .slice BX (runX (gapAll M k) (qsA k i)).2.length EX], .int .i64 ((i * (k + 1) : Nat) : Int), .slice (some ⟨w4.heap.size, 0, none⟩) k k] (by kernel_rfl) ?_
        refine (runputB_any (gapAll M k) (by rw [gapAll_len]; omega) (qsA k i) (qsA_ok hn hk hk5 hM (by omega)) (pgP k i) (pgP_ok hn hk hk5 hM (by omega)) _ _ _ w5 O1.sl O2.se (b48.sl.castX (by rw [segP hn hk hk5 hM (by omega), nn_rep]))).mono ?_
        rintro en w6 ⟨⟨X1, Y1, Z1, T1, he, P1, Q1⟩, hb1⟩
        rw [← qsA_succ] at he P1 Q1
        simp only [gapAll_len] at he P1
        subst he
        have e3 := belE0 hb1
        have ze3 := e3.size
        replace BL := BL.e0 e3
        replace O1 := O1.e0 e3
        replace O2 := O2.e0 e3
        replace b9 := b9.e0 e3
        replace b48 := b48.e0 e3
        clear e3
        have lP1_1 := P1.ge
        have lQ1_1 := Q1.ge
        refine ⟨.tuple #[.agg #[.slice X1 M Y1, .slice Z1 (runX (gapAll M k) (qsA k (i + 1))).2.length T1], .int .i64 0], rfl, ?_⟩
        refine ze 7 ⟨BL, O1, O2, b9, by omega⟩ ?_
        simp only [List.set_cons_zero, List.set_cons_succ]
        refine zv 8 41 (.tuple #[.agg #[.slice X1 M Y1, .slice Z1 (runX (gapAll M k) (qsA k (i + 1))).2.length T1], .int .i64 0]) (fun _ _ => .of) ⟨BL, O1, O2, b9, by omega⟩ ?_
        simp only [List.set_cons_zero, List.set_cons_succ]
        refine zv 9 50 (.agg #[.slice X1 M Y1, .slice Z1 (runX (gapAll M k) (qsA k (i + 1))).2.length T1]) (fun _ _ => .of) ⟨BL, O1, O2, b9, by omega⟩ ?_
        simp only [List.set_cons_zero, List.set_cons_succ]
        refine zv 10 51 (.int .i64 0) (fun _ _ => .of) ⟨BL, O1, O2, b9, by omega⟩ ?_
        simp only [List.set_cons_zero, List.set_cons_succ]
        refine zo1 11 rfl ?_
        refine xAlloc 12 56 [.slice none 0 0, .slice none 0 0] rfl (by kernel_rfl) ?_
        intro w7 n3
        have zn3 := n3.z
        have b12 := n3.c
        replace BL := BL.e0 n3.e
        replace O1 := O1.e0 n3.e
        replace O2 := O2.e0 n3.e
        replace b9 := b9.e0 n3.e
        replace b48 := b48.e0 n3.e
        replace P1 := P1.e0 n3.e
        replace Q1 := Q1.e0 n3.e
        refine ze 11 ⟨BL, O1, O2, b9, by omega⟩ ?_
        simp only [List.set_cons_zero, List.set_cons_succ]
        refine zo1 12 rfl ?_
        refine xStoreR 56 (.tmp 12) (.tmp 50) rfl w6.heap.size 56 [.slice none 0 0, .slice none 0 0] 0 [.slice X1 M Y1, .slice Z1 (runX (gapAll M k) (qsA k (i + 1))).2.length T1] (by kernel_rfl) (by kernel_rfl) b12 (by kernel_rfl) (by simp) rfl [.slice X1 M Y1, .slice Z1 (runX (gapAll M k) (qsA k (i + 1))).2.length T1] rfl ?_
        intro w8 t2
        have zt2 := t2.z
        have BL_ := BL.ev t2.e (fun i h => show w.heap.size ≤ i by have h : i = w6.heap.size := h; omega)
        have O1_ := O1.ev t2.e (fun i hi => show ¬ (i = w6.heap.size) by have := kO1 i hi; omega)
        have O2_ := O2.ev t2.e (fun i hi => show ¬ (i = w6.heap.size) by have := kO2 i hi; omega)
        have b9_ := b9.ev t2.e (show ¬ (w1.heap.size = w6.heap.size) by omega)
        have b48_ := b48.ev t2.e (fun i hi => show ¬ (i = w6.heap.size) by have := lb48_1 i hi; omega)
        have P1_ := P1.ev t2.e (fun i hi => show ¬ (i = w6.heap.size) by have := lP1_1 i hi; omega)
        have Q1_ := Q1.ev t2.e (fun i hi => show ¬ (i = w6.heap.size) by have := lQ1_1 i hi; omega)
        replace BL := BL_; clear BL_
        replace O1 := O1_; clear O1_
        replace O2 := O2_; clear O2_
        replace b9 := b9_; clear b9_
        replace b48 := b48_; clear b48_
        replace P1 := P1_; clear P1_
        replace Q1 := Q1_; clear Q1_
        replace b12 : Cel w8 w6.heap.size 56 [.slice X1 M Y1, .slice Z1 (runX (gapAll M k) (qsA k (i + 1))).2.length T1] := t2.c
        clear t2
        refine ze 12 ⟨BL, O1, O2, b9, by omega⟩ ?_
        refine zv 13 13 (.int .i64 0) (fun _ _ => .of) ⟨BL, O1, O2, b9, by omega⟩ ?_
        simp only [List.set_cons_zero, List.set_cons_succ]
        refine zd (by kernel_rfl) ?_ _
        refine hK12 _ _ ?_
        refine wp_seq_k fun K13 hK13 => ?_
        refine wp_seq_k fun K14 hK14 => ?_
        clear O1
        clear O2
        refine cPlain ?_
        refine sv 52 (.int .i64 0) .of ?_
        simp only [List.set_cons_zero, List.set_cons_succ]
        refine sv 53 (.bool false) (Val.cmp .neq 37 _ (.tmp 52) _ rfl .i64 0 0 (by kernel_rfl) (by kernel_rfl) (by simp) _ rfl) ?_
        simp only [List.set_cons_zero, List.set_cons_succ]
        refine sv 54 (.bool false) .of ?_
        simp only [List.set_cons_zero, List.set_cons_succ]
        refine sv 55 (.pointer (some ⟨w6.heap.size, 1, none⟩)) .of ?_
        simp only [List.set_cons_zero, List.set_cons_succ]
        refine sv 56 (.slice Z1 (runX (gapAll M k) (qsA k (i + 1))).2.length T1) (Val.cel1 54 _ rfl w6.heap.size 1 _ (by kernel_rfl) (fun _ => (by kernel_rfl)) b12 rfl) ?_
        simp only [List.set_cons_zero, List.set_cons_succ]
        refine sv 57 (.int .i64 ((runX (gapAll M k) (qsA k (i + 1))).2.length : Int)) .of ?_
        simp only [List.set_cons_zero, List.set_cons_succ]
        refine sv 58 (.int .i64 ((i : Nat) : Int)) .of ?_
        simp only [List.set_cons_zero, List.set_cons_succ]
        refine sv 59 (.int .i64 ((i + 1 : Nat) : Int)) (Val.as (Val.add 3 _ (.tmp 58) _ rfl ((i : Nat) : Int) 1 (by kernel_rfl) (by kernel_rfl) (by omega)) (congrArg (Value.int .i64) (show ((((i : Nat) : Int) + 1) : Int) = ((i + 1 : Nat) : Int) by omega))) ?_
        simp only [List.set_cons_zero, List.set_cons_succ]
        refine sv 60 (.bool false) (Val.cmp .neq 3 _ (.tmp 57) (.tmp 59) rfl .i64 ((runX (gapAll M k) (qsA k (i + 1))).2.length : Int) ((i + 1 : Nat) : Int) (by kernel_rfl) (by kernel_rfl) (by simp) _ (by rw [lenGA hn hk hk5 hM hn2 (by omega)]; simp [cmpB])) ?_
        simp only [List.set_cons_zero, List.set_cons_succ]
        refine sv 61 (.bool false) .of ?_
        simp only [List.set_cons_zero, List.set_cons_succ]
        refine wpList_nil ?_
        refine hK14 _ _ ?_
        refine cF ?_
        refine wp_skip ?_
        refine hK13 _ _ ?_
        refine cPlain ?_
        refine sv 62 (.agg #[.slice X1 M Y1, .slice Z1 (runX (gapAll M k) (qsA k (i + 1))).2.length T1]) (Val.cel 56 _ rfl 0 2 (by kernel_rfl) b12 _ Try.underlying56 rfl (by kernel_rfl) (by simp) [.slice X1 M Y1, .slice Z1 (runX (gapAll M k) (qsA k (i + 1))).2.length T1] rfl) ?_
        simp only [List.set_cons_zero, List.set_cons_succ]
        refine xStoreR 56 (.tmp 9) (.tmp 62) rfl w1.heap.size 56 [.slice AX M CX, .slice BX (runX (gapAll M k) (qsA k i)).2.length EX] 0 [.slice X1 M Y1, .slice Z1 (runX (gapAll M k) (qsA k (i + 1))).2.length T1] (by kernel_rfl) (by kernel_rfl) b9 (by kernel_rfl) (by simp) rfl [.slice X1 M Y1, .slice Z1 (runX (gapAll M k) (qsA k (i + 1))).2.length T1] rfl ?_
        intro w9 t3
        have zt3 := t3.z
        have BL_ := BL.ev t3.e (fun i h => show w.heap.size ≤ i by have h : i = w1.heap.size := h; omega)
        have b48_ := b48.ev t3.e (fun i hi => show ¬ (i = w1.heap.size) by have := lb48_1 i hi; omega)
        have P1_ := P1.ev t3.e (fun i hi => show ¬ (i = w1.heap.size) by have := lP1_1 i hi; omega)
        have Q1_ := Q1.ev t3.e (fun i hi => show ¬ (i = w1.heap.size) by have := lQ1_1 i hi; omega)
        have b12_ := b12.ev t3.e (show ¬ (w6.heap.size = w1.heap.size) by omega)
        replace BL := BL_; clear BL_
        replace b48 := b48_; clear b48_
        replace P1 := P1_; clear P1_
        replace Q1 := Q1_; clear Q1_
        replace b12 := b12_; clear b12_
        replace b9 : Cel w9 w1.heap.size 56 [.slice X1 M Y1, .slice Z1 (runX (gapAll M k) (qsA k (i + 1))).2.length T1] := t3.c
        clear t3
        refine wpList_nil ?_
        refine hK10 _ _ ?_
        refine cPlain ?_
        refine sv 63 (.int .i64 (((i : Nat) : Int) + 1)) (Val.add 3 _ (.tmp 38) _ rfl ((i : Nat) : Int) 1 (by kernel_rfl) (by kernel_rfl) (by omega)) ?_
        simp only [List.set_cons_zero, List.set_cons_succ]
        refine sv 38 (.int .i64 (((i : Nat) : Int) + 1)) .of ?_
        simp only [List.set_cons_zero, List.set_cons_succ]
        refine wpList_nil ?_
        refine ⟨_, ?_, i + 1, X1, Z1, Y1, T1, rfl, (by omega), cutE, BL, (P1.mono (by omega)), (Q1.mono (by omega)), b9, by omega⟩
        omega
      · skip
        refine xAlloc 12 56 [.slice none 0 0, .slice none 0 0] rfl (by kernel_rfl) ?_
        intro w10 n4
        have zn4 := n4.z
        have b12 := n4.c
        replace BL := BL.e0 n4.e
        replace O1 := O1.e0 n4.e
        replace O2 := O2.e0 n4.e
        replace b9 := b9.e0 n4.e
        replace b48 := b48.e0 n4.e
        refine ze 11 ⟨BL, O1, O2, b9, by omega⟩ ?_
        simp only [List.set_cons_zero, List.set_cons_succ]
        refine zo1 7 rfl ?_
        refine xCall 49 33 #[.agg #[.slice AX M CX, .slice BX (runX (gapAll M k) (qsA k i)).2.length EX], .int .i64 ((i * (k + 1) : Nat) : Int), .slice (some ⟨w4.heap.size, 0, none⟩) k k] (by kernel_rfl) ?_
        refine (runputB_any (gapAll M k) (by rw [gapAll_len]; omega) (qsA k i) (qsA_ok hn hk hk5 hM (by omega)) (pgP k i) (pgP_ok hn hk hk5 hM (by omega)) _ _ _ w10 O1.sl O2.se (b48.sl.castX (by rw [segP hn hk hk5 hM (by omega), nn_rep]))).mono ?_
        rintro en w11 ⟨⟨X1, Y1, Z1, T1, he, P1, Q1⟩, hb1⟩
        rw [← qsA_succ] at he P1 Q1
        simp only [gapAll_len] at he P1
        subst he
        have e4 := belE0 hb1
        have ze4 := e4.size
        replace BL := BL.e0 e4
        replace O1 := O1.e0 e4
        replace O2 := O2.e0 e4
        replace b9 := b9.e0 e4
        replace b48 := b48.e0 e4
        replace b12 := b12.e0 e4
        clear e4
        have lP1_2 := P1.ge
        have lQ1_2 := Q1.ge
        refine ⟨.tuple #[.agg #[.slice X1 M Y1, .slice Z1 (runX (gapAll M k) (qsA k (i + 1))).2.length T1], .int .i64 0], rfl, ?_⟩
        refine ze 7 ⟨BL, O1, O2, b9, by omega⟩ ?_
        simp only [List.set_cons_zero, List.set_cons_succ]
        refine zv 8 41 (.tuple #[.agg #[.slice X1 M Y1, .slice Z1 (runX (gapAll M k) (qsA k (i + 1))).2.length T1], .int .i64 0]) (fun _ _ => .of) ⟨BL, O1, O2, b9, by omega⟩ ?_
        simp only [List.set_cons_zero, List.set_cons_succ]
        refine zv 9 50 (.agg #[.slice X1 M Y1, .slice Z1 (runX (gapAll M k) (qsA k (i + 1))).2.length T1]) (fun _ _ => .of) ⟨BL, O1, O2, b9, by omega⟩ ?_
        simp only [List.set_cons_zero, List.set_cons_succ]
        refine zv 10 51 (.int .i64 0) (fun _ _ => .of) ⟨BL, O1, O2, b9, by omega⟩ ?_
        simp only [List.set_cons_zero, List.set_cons_succ]
        refine zo1 12 rfl ?_
        refine xStoreR 56 (.tmp 12) (.tmp 50) rfl w5.heap.size 56 [.slice none 0 0, .slice none 0 0] 0 [.slice X1 M Y1, .slice Z1 (runX (gapAll M k) (qsA k (i + 1))).2.length T1] (by kernel_rfl) (by kernel_rfl) b12 (by kernel_rfl) (by simp) rfl [.slice X1 M Y1, .slice Z1 (runX (gapAll M k) (qsA k (i + 1))).2.length T1] rfl ?_
        intro w12 t4
        have zt4 := t4.z
        have BL_ := BL.ev t4.e (fun i h => show w.heap.size ≤ i by have h : i = w5.heap.size := h; omega)
        have O1_ := O1.ev t4.e (fun i hi => show ¬ (i = w5.heap.size) by have := kO1 i hi; omega)
        have O2_ := O2.ev t4.e (fun i hi => show ¬ (i = w5.heap.size) by have := kO2 i hi; omega)
        have b9_ := b9.ev t4.e (show ¬ (w1.heap.size = w5.heap.size) by omega)
        have b48_ := b48.ev t4.e (fun i hi => show ¬ (i = w5.heap.size) by have := lb48_1 i hi; omega)
        have P1_ := P1.ev t4.e (fun i hi => show ¬ (i = w5.heap.size) by have := lP1_2 i hi; omega)
        have Q1_ := Q1.ev t4.e (fun i hi => show ¬ (i = w5.heap.size) by have := lQ1_2 i hi; omega)
        replace BL := BL_; clear BL_
        replace O1 := O1_; clear O1_
        replace O2 := O2_; clear O2_
        replace b9 := b9_; clear b9_
        replace b48 := b48_; clear b48_
        replace P1 := P1_; clear P1_
        replace Q1 := Q1_; clear Q1_
        replace b12 : Cel w12 w5.heap.size 56 [.slice X1 M Y1, .slice Z1 (runX (gapAll M k) (qsA k (i + 1))).2.length T1] := t4.c
        clear t4
        refine ze 12 ⟨BL, O1, O2, b9, by omega⟩ ?_
        refine zv 13 13 (.int .i64 0) (fun _ _ => .of) ⟨BL, O1, O2, b9, by omega⟩ ?_
        simp only [List.set_cons_zero, List.set_cons_succ]
        refine zd (by kernel_rfl) ?_ _
        refine hK12 _ _ ?_
        refine wp_seq_k fun K15 hK15 => ?_
        refine wp_seq_k fun K16 hK16 => ?_
        clear O1
        clear O2
        refine cPlain ?_
        refine sv 52 (.int .i64 0) .of ?_
        simp only [List.set_cons_zero, List.set_cons_succ]
        refine sv 53 (.bool false) (Val.cmp .neq 37 _ (.tmp 52) _ rfl .i64 0 0 (by kernel_rfl) (by kernel_rfl) (by simp) _ rfl) ?_
        simp only [List.set_cons_zero, List.set_cons_succ]
        refine sv 54 (.bool false) .of ?_
        simp only [List.set_cons_zero, List.set_cons_succ]
        refine sv 55 (.pointer (some ⟨w5.heap.size, 1, none⟩)) .of ?_
        simp only [List.set_cons_zero, List.set_cons_succ]
        refine sv 56 (.slice Z1 (runX (gapAll M k) (qsA k (i + 1))).2.length T1) (Val.cel1 54 _ rfl w5.heap.size 1 _ (by kernel_rfl) (fun _ => (by kernel_rfl)) b12 rfl) ?_
        simp only [List.set_cons_zero, List.set_cons_succ]
        refine sv 57 (.int .i64 ((runX (gapAll M k) (qsA k (i + 1))).2.length : Int)) .of ?_
        simp only [List.set_cons_zero, List.set_cons_succ]
        refine sv 58 (.int .i64 ((i : Nat) : Int)) .of ?_
        simp only [List.set_cons_zero, List.set_cons_succ]
        refine sv 59 (.int .i64 ((i + 1 : Nat) : Int)) (Val.as (Val.add 3 _ (.tmp 58) _ rfl ((i : Nat) : Int) 1 (by kernel_rfl) (by kernel_rfl) (by omega)) (congrArg (Value.int .i64) (show ((((i : Nat) : Int) + 1) : Int) = ((i + 1 : Nat) : Int) by omega))) ?_
        simp only [List.set_cons_zero, List.set_cons_succ]
        refine sv 60 (.bool false) (Val.cmp .neq 3 _ (.tmp 57) (.tmp 59) rfl .i64 ((runX (gapAll M k) (qsA k (i + 1))).2.length : Int) ((i + 1 : Nat) : Int) (by kernel_rfl) (by kernel_rfl) (by simp) _ (by rw [lenGA hn hk hk5 hM hn2 (by omega)]; simp [cmpB])) ?_
        simp only [List.set_cons_zero, List.set_cons_succ]
        refine sv 61 (.bool false) .of ?_
        simp only [List.set_cons_zero, List.set_cons_succ]
        refine wpList_nil ?_
        refine hK16 _ _ ?_
        refine cF ?_
        refine wp_skip ?_
        refine hK15 _ _ ?_
        refine cPlain ?_
        refine sv 62 (.agg #[.slice X1 M Y1, .slice Z1 (runX (gapAll M k) (qsA k (i + 1))).2.length T1]) (Val.cel 56 _ rfl 0 2 (by kernel_rfl) b12 _ Try.underlying56 rfl (by kernel_rfl) (by simp) [.slice X1 M Y1, .slice Z1 (runX (gapAll M k) (qsA k (i + 1))).2.length T1] rfl) ?_
        simp only [List.set_cons_zero, List.set_cons_succ]
        refine xStoreR 56 (.tmp 9) (.tmp 62) rfl w1.heap.size 56 [.slice AX M CX, .slice BX (runX (gapAll M k) (qsA k i)).2.length EX] 0 [.slice X1 M Y1, .slice Z1 (runX (gapAll M k) (qsA k (i + 1))).2.length T1] (by kernel_rfl) (by kernel_rfl) b9 (by kernel_rfl) (by simp) rfl [.slice X1 M Y1, .slice Z1 (runX (gapAll M k) (qsA k (i + 1))).2.length T1] rfl ?_
        intro w13 t5
        have zt5 := t5.z
        have BL_ := BL.ev t5.e (fun i h => show w.heap.size ≤ i by have h : i = w1.heap.size := h; omega)
        have b48_ := b48.ev t5.e (fun i hi => show ¬ (i = w1.heap.size) by have := lb48_1 i hi; omega)
        have b12_ := b12.ev t5.e (show ¬ (w5.heap.size = w1.heap.size) by omega)
        have P1_ := P1.ev t5.e (fun i hi => show ¬ (i = w1.heap.size) by have := lP1_2 i hi; omega)
        have Q1_ := Q1.ev t5.e (fun i hi => show ¬ (i = w1.heap.size) by have := lQ1_2 i hi; omega)
        replace BL := BL_; clear BL_
        replace b48 := b48_; clear b48_
        replace b12 := b12_; clear b12_
        replace P1 := P1_; clear P1_
        replace Q1 := Q1_; clear Q1_
        replace b9 : Cel w13 w1.heap.size 56 [.slice X1 M Y1, .slice Z1 (runX (gapAll M k) (qsA k (i + 1))).2.length T1] := t5.c
        clear t5
        refine wpList_nil ?_
        refine hK10 _ _ ?_
        refine cPlain ?_
        refine sv 63 (.int .i64 (((i : Nat) : Int) + 1)) (Val.add 3 _ (.tmp 38) _ rfl ((i : Nat) : Int) 1 (by kernel_rfl) (by kernel_rfl) (by omega)) ?_
        simp only [List.set_cons_zero, List.set_cons_succ]
        refine sv 38 (.int .i64 (((i : Nat) : Int) + 1)) .of ?_
        simp only [List.set_cons_zero, List.set_cons_succ]
        refine wpList_nil ?_
        refine ⟨_, ?_, i + 1, X1, Z1, Y1, T1, rfl, (by omega), cutE, BL, (P1.mono (by omega)), (Q1.mono (by omega)), b9, by omega⟩
        omega
    · skip
      refine xAlloc 12 56 [.slice none 0 0, .slice none 0 0] rfl (by kernel_rfl) ?_
      intro w14 n5
      have zn5 := n5.z
      have b12 := n5.c
      replace BL := BL.e0 n5.e
      replace O1 := O1.e0 n5.e
      replace O2 := O2.e0 n5.e
      replace b9 := b9.e0 n5.e
      refine ze 11 ⟨BL, O1, O2, b9, by omega⟩ ?_
      simp only [List.set_cons_zero, List.set_cons_succ]
      refine zo1 6 rfl ?_
      refine xMakeN 48 (.tmp 47) (.tmp 47) 29 5 .u8 1 rfl Try.underlying29 (by kernel_rfl) k (by kernel_rfl) (by kernel_rfl) (by unfold maxLen; omega) (by omega) ?_
      intro w15 n6
      have zn6 := n6.z
      have b48 := Own.ofNw n6 (Nat.le_refl _) (by unfold maxLen; simp only [List.length_replicate]; omega)
      rw [List.length_replicate] at b48
      replace BL := BL.e0 n6.e
      replace O1 := O1.e0 n6.e
      replace O2 := O2.e0 n6.e
      replace b9 := b9.e0 n6.e
      replace b12 := b12.e0 n6.e
      have lb48_2 := b48.ge
      refine ze 6 ⟨BL, O1, O2, b9, by omega⟩ ?_
      simp only [List.set_cons_zero, List.set_cons_succ]
      refine zo1 7 rfl ?_
      refine xCall 49 33 #[.agg #[.slice AX M CX, .slice BX (runX (gapAll M k) (qsA k i)).2.length EX], .int .i64 ((i * (k + 1) : Nat) : Int), .slice (some ⟨w14.heap.size, 0, none⟩) k k] (by kernel_rfl) ?_
      refine (runputB_any (gapAll M k) (by rw [gapAll_len]; omega) (qsA k i) (qsA_ok hn hk hk5 hM (by omega)) (pgP k i) (pgP_ok hn hk hk5 hM (by omega)) _ _ _ w15 O1.sl O2.se (b48.sl.castX (by rw [segP hn hk hk5 hM (by omega), nn_rep]))).mono ?_
      rintro en w16 ⟨⟨X1, Y1, Z1, T1, he, P1, Q1⟩, hb1⟩
      rw [← qsA_succ] at he P1 Q1
      simp only [gapAll_len] at he P1
      subst he
      have e5 := belE0 hb1
      have ze5 := e5.size
      replace BL := BL.e0 e5
      replace O1 := O1.e0 e5
      replace O2 := O2.e0 e5
      replace b9 := b9.e0 e5
      replace b12 := b12.e0 e5
      replace b48 := b48.e0 e5
      clear e5
      have lP1_3 := P1.ge
      have lQ1_3 := Q1.ge
      refine ⟨.tuple #[.agg #[.slice X1 M Y1, .slice Z1 (runX (gapAll M k) (qsA k (i + 1))).2.length T1], .int .i64 0], rfl, ?_⟩
      refine ze 7 ⟨BL, O1, O2, b9, by omega⟩ ?_
      simp only [List.set_cons_zero, List.set_cons_succ]
      refine zv 8 41 (.tuple #[.agg #[.slice X1 M Y1, .slice Z1 (runX (gapAll M k) (qsA k (i + 1))).2.length T1], .int .i64 0]) (fun _ _ => .of) ⟨BL, O1, O2, b9, by omega⟩ ?_
      simp only [List.set_cons_zero, List.set_cons_succ]
      refine zv 9 50 (.agg #[.slice X1 M Y1, .slice Z1 (runX (gapAll M k) (qsA k (i + 1))).2.length T1]) (fun _ _ => .of) ⟨BL, O1, O2, b9, by omega⟩ ?_
      simp only [List.set_cons_zero, List.set_cons_succ]
      refine zv 10 51 (.int .i64 0) (fun _ _ => .of) ⟨BL, O1, O2, b9, by omega⟩ ?_
      simp only [List.set_cons_zero, List.set_cons_succ]
      refine zo1 12 rfl ?_
      refine xStoreR 56 (.tmp 12) (.tmp 50) rfl w4.heap.size 56 [.slice none 0 0, .slice none 0 0] 0 [.slice X1 M Y1, .slice Z1 (runX (gapAll M k) (qsA k (i + 1))).2.length T1] (by kernel_rfl) (by kernel_rfl) b12 (by kernel_rfl) (by simp) rfl [.slice X1 M Y1, .slice Z1 (runX (gapAll M k) (qsA k (i + 1))).2.length T1] rfl ?_
      intro w17 t6
      have zt6 := t6.z
      have BL_ := BL.ev t6.e (fun i h => show w.heap.size ≤ i by have h : i = w4.heap.size := h; omega)
      have O1_ := O1.ev t6.e (fun i hi => show ¬ (i = w4.heap.size) by have := kO1 i hi; omega)
      have O2_ := O2.ev t6.e (fun i hi => show ¬ (i = w4.heap.size) by have := kO2 i hi; omega)
      have b9_ := b9.ev t6.e (show ¬ (w1.heap.size = w4.heap.size) by omega)
      have b48_ := b48.ev t6.e (fun i hi => show ¬ (i = w4.heap.size) by have := lb48_2 i hi; omega)
      have P1_ := P1.ev t6.e (fun i hi => show ¬ (i = w4.heap.size) by have := lP1_3 i hi; omega)
      have Q1_ := Q1.ev t6.e (fun i hi => show ¬ (i = w4.heap.size) by have := lQ1_3 i hi; omega)
      replace BL := BL_; clear BL_
      replace O1 := O1_; clear O1_
      replace O2 := O2_; clear O2_
      replace b9 := b9_; clear b9_
      replace b48 := b48_; clear b48_
      replace P1 := P1_; clear P1_
      replace Q1 := Q1_; clear Q1_
      replace b12 : Cel w17 w4.heap.size 56 [.slice X1 M Y1, .slice Z1 (runX (gapAll M k) (qsA k (i + 1))).2.length T1] := t6.c
      clear t6
      refine ze 12 ⟨BL, O1, O2, b9, by omega⟩ ?_
      refine zv 13 13 (.int .i64 0) (fun _ _ => .of) ⟨BL, O1, O2, b9, by omega⟩ ?_
      simp only [List.set_cons_zero, List.set_cons_succ]
      refine zd (by kernel_rfl) ?_ _
      refine hK12 _ _ ?_
      refine wp_seq_k fun K17 hK17 => ?_
      refine wp_seq_k fun K18 hK18 => ?_
      clear O1
      clear O2
      refine cPlain ?_
      refine sv 52 (.int .i64 0) .of ?_
      simp only [List.set_cons_zero, List.set_cons_succ]
      refine sv 53 (.bool false) (Val.cmp .neq 37 _ (.tmp 52) _ rfl .i64 0 0 (by kernel_rfl) (by kernel_rfl) (by simp) _ rfl) ?_
      simp only [List.set_cons_zero, List.set_cons_succ]
      refine sv 54 (.bool false) .of ?_
      simp only [List.set_cons_zero, List.set_cons_succ]
      refine sv 55 (.pointer (some ⟨w4.heap.size, 1, none⟩)) .of ?_
      simp only [List.set_cons_zero, List.set_cons_succ]
      refine sv 56 (.slice Z1 (runX (gapAll M k) (qsA k (i + 1))).2.length T1) (Val.cel1 54 _ rfl w4.heap.size 1 _ (by kernel_rfl) (fun _ => (by kernel_rfl)) b12 rfl) ?_
      simp only [List.set_cons_zero, List.set_cons_succ]
      refine sv 57 (.int .i64 ((runX (gapAll M k) (qsA k (i + 1))).2.length : Int)) .of ?_
      simp only [List.set_cons_zero, List.set_cons_succ]
      refine sv 58 (.int .i64 ((i : Nat) : Int)) .of ?_
      simp only [List.set_cons_zero, List.set_cons_succ]
      refine sv 59 (.int .i64 ((i + 1 : Nat) : Int)) (Val.as (Val.add 3 _ (.tmp 58) _ rfl ((i : Nat) : Int) 1 (by kernel_rfl) (by kernel_rfl) (by omega)) (congrArg (Value.int .i64) (show ((((i : Nat) : Int) + 1) : Int) = ((i + 1 : Nat) : Int) by omega))) ?_
      simp only [List.set_cons_zero, List.set_cons_succ]
      refine sv 60 (.bool false) (Val.cmp .neq 3 _ (.tmp 57) (.tmp 59) rfl .i64 ((runX (gapAll M k) (qsA k (i + 1))).2.length : Int) ((i + 1 : Nat) : Int) (by kernel_rfl) (by kernel_rfl) (by simp) _ (by rw [lenGA hn hk hk5 hM hn2 (by omega)]; simp [cmpB])) ?_
      simp only [List.set_cons_zero, List.set_cons_succ]
      refine sv 61 (.bool false) .of ?_
      simp only [List.set_cons_zero, List.set_cons_succ]
      refine wpList_nil ?_
      refine hK18 _ _ ?_
      refine cF ?_
      refine wp_skip ?_
      refine hK17 _ _ ?_
      refine cPlain ?_
      refine sv 62 (.agg #[.slice X1 M Y1, .slice Z1 (runX (gapAll M k) (qsA k (i + 1))).2.length T1]) (Val.cel 56 _ rfl 0 2 (by kernel_rfl) b12 _ Try.underlying56 rfl (by kernel_rfl) (by simp) [.slice X1 M Y1, .slice Z1 (runX (gapAll M k) (qsA k (i + 1))).2.length T1] rfl) ?_
      simp only [List.set_cons_zero, List.set_cons_succ]
      refine xStoreR 56 (.tmp 9) (.tmp 62) rfl w1.heap.size 56 [.slice AX M CX, .slice BX (runX (gapAll M k) (qsA k i)).2.length EX] 0 [.slice X1 M Y1, .slice Z1 (runX (gapAll M k) (qsA k (i + 1))).2.length T1] (by kernel_rfl) (by kernel_rfl) b9 (by kernel_rfl) (by simp) rfl [.slice X1 M Y1, .slice Z1 (runX (gapAll M k) (qsA k (i + 1))).2.length T1] rfl ?_
      intro w18 t7
      have zt7 := t7.z
      have BL_ := BL.ev t7.e (fun i h => show w.heap.size ≤ i by have h : i = w1.heap.size := h; omega)
      have b12_ := b12.ev t7.e (show ¬ (w4.heap.size = w1.heap.size) by omega)
      have b48_ := b48.ev t7.e (fun i hi => show ¬ (i = w1.heap.size) by have := lb48_2 i hi; omega)
      have P1_ := P1.ev t7.e (fun i hi => show ¬ (i = w1.heap.size) by have := lP1_3 i hi; omega)
      have Q1_ := Q1.ev t7.e (fun i hi => show ¬ (i = w1.heap.size) by have := lQ1_3 i hi; omega)
      replace BL := BL_; clear BL_
      replace b12 := b12_; clear b12_
      replace b48 := b48_; clear b48_
      replace P1 := P1_; clear P1_
      replace Q1 := Q1_; clear Q1_
      replace b9 : Cel w18 w1.heap.size 56 [.slice X1 M Y1, .slice Z1 (runX (gapAll M k) (qsA k (i + 1))).2.length T1] := t7.c
      clear t7
      refine wpList_nil ?_
      refine hK10 _ _ ?_
      refine cPlain ?_
      refine sv 63 (.int .i64 (((i : Nat) : Int) + 1)) (Val.add 3 _ (.tmp 38) _ rfl ((i : Nat) : Int) 1 (by kernel_rfl) (by kernel_rfl) (by omega)) ?_
      simp only [List.set_cons_zero, List.set_cons_succ]
      refine sv 38 (.int .i64 (((i : Nat) : Int) + 1)) .of ?_
      simp only [List.set_cons_zero, List.set_cons_succ]
      refine wpList_nil ?_
      refine ⟨_, ?_, i + 1, X1, Z1, Y1, T1, rfl, (by omega), cutE, BL, (P1.mono (by omega)), (Q1.mono (by omega)), b9, by omega⟩
      omega
  · skip
    refine wp_exit ?_
    simp only [Exit.then, Exit.inBlock, ↓reduceIte, Nat.reduceEqDiff]
    refine hK6 _ _ ?_
    refine wp_seq_k fun K19 hK19 => ?_
    refine wp_seq_k fun K20 hK20 => ?_
    refine cPlain ?_
    refine sv 64 (.int .i64 ((n : Nat) : Int)) .of ?_
    simp only [List.set_cons_zero, List.set_cons_succ]
    refine sv 65 (.int .i64 ((n - 1 : Nat) : Int)) (Val.as (Val.sub 3 _ (.tmp 64) _ rfl ((n : Nat) : Int) 1 (by kernel_rfl) (by kernel_rfl) (by omega)) (congrArg (Value.int .i64) (show ((((n : Nat) : Int) - 1) : Int) = ((n - 1 : Nat) : Int) by omega))) ?_
    simp only [List.set_cons_zero, List.set_cons_succ]
    refine sv 66 (.int .i64 0) .of ?_
    simp only [List.set_cons_zero, List.set_cons_succ]
    refine wpList_nil ?_
    refine hK20 _ _ ?_
    refine wp_block ?_
    refine cLoop (fun N_ A_ w_ => ∃ (j : Nat) (AY BY : Option Addr) (CY EY : Nat), (N_ = n - 1 - j ∧ (j ≤ n - 1) ∧ (∃ s2 : Nat → Value, A_ = ⟨[.int .u8 ((s : Nat) : Int), .int .u8 ((t : Nat) : Int), .bool bk, undef, undef, undef, (s2 6), .int .i64 ((n : Nat) : Int), .int .i64 ((k : Nat) : Int), .pointer (some ⟨w1.heap.size, 0, none⟩), .int .i64 0, (s1 11), (s1 12), (s1 13), (s2 14), (s2 15), (s2 16), (s2 17), .int .u8 ((s : Nat) : Int), .int .u8 ((s % 200 : Nat) : Int), .int .i64 ((s % 200 : Nat) : Int), .int .i64 ((n : Nat) : Int), .int .u8 ((t : Nat) : Int), .int .u8 ((t % 5 : Nat) : Int), .int .i64 ((t % 5 : Nat) : Int), .int .i64 ((k : Nat) : Int), .tuple #[.agg #[.slice X0 M Y0, .slice none 0 0], .int .i64 0], .int .i64 ((n : Nat) : Int), .int .i64 ((k : Nat) : Int), .int .i64 ((k + 1 : Nat) : Int), .int .i64 ((n * (k + 1) : Nat) : Int), .int .i64 ((M : Nat) : Int), .tuple #[.agg #[.slice X0 M Y0, .slice none 0 0], .int .i64 0], .agg #[.slice X0 M Y0, .slice none 0 0], .int .i64 0, .int .i64 0, .bool false, .int .i64 ((n : Nat) : Int), .int .i64 ((i : Nat) : Int), .bool (decide (((i : Nat) : Int) < ((n : Nat) : Int))), (s1 40), (s1 41), (s1 42), (s1 43), (s1 44), (s1 45), (s1 46), (s1 47), (s1 48), (s1 49), (s1 50), (s1 51), (s1 52), (s1 53), (s1 54), (s1 55), (s1 56), (s1 57), (s1 58), (s1 59), (s1 60), (s1 61), (s1 62), (s1 63), .int .i64 ((n : Nat) : Int), .int .i64 ((n - 1 : Nat) : Int), .int .i64 ((j : Nat) : Int), (s2 67), (s2 68), (s2 69), (s2 70), (s2 71), (s2 72), (s2 73), (s2 74), (s2 75), (s2 76), (s2 77), (s2 78), (s2 79), (s2 80), (s2 81), (s2 82), (s2 83), (s2 84), (s2 85), (s2 86), (s2 87), (s2 88), (s2 89), (s2 90), (s2 91), (s2 92), (s2 93), (s2 94), (s2 95), (s2 96), (s2 97), (s2 98), (s2 99), (s2 100), (s2 101), (s2 102), undef, undef, undef, undef, undef, undef, undef, undef, undef, undef, undef, undef, undef].toArray, []⟩) ∧ Bl w.heap.size w w_ ∧ Own 5 .u8 w.heap.size w_ (.slice AY M CY) (nn (runX (gapAll M k) (qsB n k bk j)).1) ∧ OwnE 70 .i64 2 w.heap.size w_ (.slice BY (runX (gapAll M k) (qsB n k bk j)).2.length EY) (spS (runX (gapAll M k) (qsB n k bk j)).2) ∧ Cel w_ w1.heap.size 56 [.slice AY M CY, .slice BY (runX (gapAll M k) (qsB n k bk j)).2.length EY] ∧ wl0.heap.size ≤ w_.heap.size)) _ ⟨0, AX, BX, CX, EX, rfl, (by omega), cutE, BL, (by rw [qsB_zero, show n = i by omega]; exact O1), (by rw [qsB_zero, show n = i by omega]; exact O2), (by rw [qsB_zero, show n = i by omega]; exact b9), Nat.le_refl _⟩ ?_
    clear BL O1 O2 b9
    rintro n_ a_ wl1 ⟨j, AY, BY, CY, EY, rfl, hc1_0, ⟨s2, rfl⟩, BL, O1, O2, b9, zl1⟩
    have lO1_3 := O1.ge
    have lO2_3 := O2.ge
    have kO1 := fun (i : Nat) hi => And.intro (O1.ge i hi) (Own.ne O1 b9 (by decide) i hi)
    have kO2 := fun (i : Nat) hi => And.intro (O2.ge i hi) (OwnE.ne O2 b9 (by decide) i hi)
    refine wp_seq_k fun K21 hK21 => ?_
    refine cPlain ?_
    refine sv 67 (.bool (decide (((j : Nat) : Int) < ((n - 1 : Nat) : Int)))) (Val.cmp .lss 3 _ (.tmp 66) (.tmp 65) rfl .i64 ((j : Nat) : Int) ((n - 1 : Nat) : Int) (by kernel_rfl) (by kernel_rfl) (by simp) _ rfl) ?_
    simp only [List.set_cons_zero, List.set_cons_succ]
    refine wpList_nil ?_
    refine hK21 _ _ ?_
    refine wp_seq_k fun K22 hK22 => ?_
    refine cDec (((j : Nat) : Int) < ((n - 1 : Nat) : Int)) (by kernel_rfl) (fun c67 => ?_) (fun c67 => ?_)
    · skip
      refine wp_skip ?_
      refine hK22 _ _ ?_
      refine wp_seq_k fun K23 hK23 => ?_
      refine wp_block ?_
      refine wp_seq_k fun K24 hK24 => ?_
      refine cPlain ?_
      refine sv 68 (.int .i64 ((j : Nat) : Int)) .of ?_
      simp only [List.set_cons_zero, List.set_cons_succ]
      refine sv 14 (.int .i64 ((j : Nat) : Int)) .of ?_
      simp only [List.set_cons_zero, List.set_cons_succ]
      refine wpList_nil ?_
      refine hK24 _ _ ?_
      refine wp_seq_k fun K25 hK25 => ?_
      refine cPlain ?_
      refine sv 69 (.int .i64 ((j : Nat) : Int)) .of ?_
      simp only [List.set_cons_zero, List.set_cons_succ]
      refine sv 15 (.int .i64 ((j : Nat) : Int)) .of ?_
      simp only [List.set_cons_zero, List.set_cons_succ]
      refine wpList_nil ?_
      refine hK25 _ _ ?_
      refine cCut (fun A_ w_ => ∃ (g : Nat), ((g = gix n bk j) ∧ (∃ s3 : Nat → Value, A_ = ⟨[.int .u8 ((s : Nat) : Int), .int .u8 ((t : Nat) : Int), .bool bk, undef, undef, undef, (s2 6), .int .i64 ((n : Nat) : Int), .int .i64 ((k : Nat) : Int), .pointer (some ⟨w1.heap.size, 0, none⟩), .int .i64 0, (s1 11), (s1 12), (s1 13), .int .i64 ((j : Nat) : Int), .int .i64 ((g : Nat) : Int), (s2 16), (s2 17), .int .u8 ((s : Nat) : Int), .int .u8 ((s % 200 : Nat) : Int), .int .i64 ((s % 200 : Nat) : Int), .int .i64 ((n : Nat) : Int), .int .u8 ((t : Nat) : Int), .int .u8 ((t % 5 : Nat) : Int), .int .i64 ((t % 5 : Nat) : Int), .int .i64 ((k : Nat) : Int), .tuple #[.agg #[.slice X0 M Y0, .slice none 0 0], .int .i64 0], .int .i64 ((n : Nat) : Int), .int .i64 ((k : Nat) : Int), .int .i64 ((k + 1 : Nat) : Int), .int .i64 ((n * (k + 1) : Nat) : Int), .int .i64 ((M : Nat) : Int), .tuple #[.agg #[.slice X0 M Y0, .slice none 0 0], .int .i64 0], .agg #[.slice X0 M Y0, .slice none 0 0], .int .i64 0, .int .i64 0, .bool false, .int .i64 ((n : Nat) : Int), .int .i64 ((i : Nat) : Int), .bool (decide (((i : Nat) : Int) < ((n : Nat) : Int))), (s1 40), (s1 41), (s1 42), (s1 43), (s1 44), (s1 45), (s1 46), (s1 47), (s1 48), (s1 49), (s1 50), (s1 51), (s1 52), (s1 53), (s1 54), (s1 55), (s1 56), (s1 57), (s1 58), (s1 59), (s1 60), (s1 61), (s1 62), (s1 63), .int .i64 ((n : Nat) : Int), .int .i64 ((n - 1 : Nat) : Int), .int .i64 ((j : Nat) : Int), .bool (decide (((j : Nat) : Int) < ((n - 1 : Nat) : Int))), .int .i64 ((j : Nat) : Int), .int .i64 ((j : Nat) : Int), (s3 70), (s3 71), (s3 72), (s3 73), (s3 74), (s2 75), (s2 76), (s2 77), (s2 78), (s2 79), (s2 80), (s2 81), (s2 82), (s2 83), (s2 84), (s2 85), (s2 86), (s2 87), (s2 88), (s2 89), (s2 90), (s2 91), (s2 92), (s2 93), (s2 94), (s2 95), (s2 96), (s2 97), (s2 98), (s2 99), (s2 100), (s2 101), (s2 102), undef, undef, undef, undef, undef, undef, undef, undef, undef, undef, undef, undef, undef].toArray, []⟩) ∧ Bl w.heap.size w w_ ∧ Own 5 .u8 w.heap.size w_ (.slice AY M CY) (nn (runX (gapAll M k) (qsB n k bk j)).1) ∧ OwnE 70 .i64 2 w.heap.size w_ (.slice BY (runX (gapAll M k) (qsB n k bk j)).2.length EY) (spS (runX (gapAll M k) (qsB n k bk j)).2) ∧ Cel w_ w1.heap.size 56 [.slice AY M CY, .slice BY (runX (gapAll M k) (qsB n k bk j)).2.length EY] ∧ wl1.heap.size ≤ w_.heap.size)) ?_ ?_
      · skip
        refine wp_seq_k fun K26 hK26 => ?_
        refine cPlain ?_
        refine sv 70 (.bool bk) .of ?_
        simp only [List.set_cons_zero, List.set_cons_succ]
        refine wpList_nil ?_
        refine hK26 _ _ ?_
        refine wp_cond_split (t := bk) (by kernel_rfl) (fun c70 => ?_) (fun c70 => ?_)
        · skip
          refine cPlain ?_
          refine sv 71 (.int .i64 ((n : Nat) : Int)) .of ?_
          simp only [List.set_cons_zero, List.set_cons_succ]
          refine sv 72 (.int .i64 ((n - 2 : Nat) : Int)) (Val.as (Val.sub 3 _ (.tmp 71) _ rfl ((n : Nat) : Int) 2 (by kernel_rfl) (by kernel_rfl) (by omega)) (congrArg (Value.int .i64) (show ((((n : Nat) : Int) - 2) : Int) = ((n - 2 : Nat) : Int) by omega))) ?_
          simp only [List.set_cons_zero, List.set_cons_succ]
          refine sv 73 (.int .i64 ((j : Nat) : Int)) .of ?_
          simp only [List.set_cons_zero, List.set_cons_succ]
          refine sv 74 (.int .i64 ((n - 2 - j : Nat) : Int)) (Val.as (Val.sub 3 _ (.tmp 72) (.tmp 73) rfl ((n - 2 : Nat) : Int) ((j : Nat) : Int) (by kernel_rfl) (by kernel_rfl) (by omega)) (congrArg (Value.int .i64) (show ((((n - 2 : Nat) : Int) - ((j : Nat) : Int)) : Int) = ((n - 2 - j : Nat) : Int) by omega))) ?_
          simp only [List.set_cons_zero, List.set_cons_succ]
          refine sv 15 (.int .i64 ((n - 2 - j : Nat) : Int)) .of ?_
          simp only [List.set_cons_zero, List.set_cons_succ]
          refine wpList_nil ?_
          exact ⟨n - 2 - j, (by unfold gix; first | exact (if_pos c70).symm | exact (if_neg (by rw [c70]; decide)).symm), cutE, BL, O1, O2, b9, by omega⟩
        · skip
          refine wp_skip ?_
          exact ⟨j, (by unfold gix; first | exact (if_pos c70).symm | exact (if_neg (by rw [c70]; decide)).symm), cutE, BL, O1, O2, b9, by omega⟩
      · skip
        clear BL O1 O2 b9
        rintro a_ wJ1 ⟨g, hJ1_0, ⟨s3, rfl⟩, BL, O1, O2, b9, zJ1⟩
        have hgx : g = gix n bk j := by assumption
        have hg2 : g + 1 < n := by rw [hgx]; exact gix_lt hn hk hk5 hM bk (by omega)
        have hgm := hmu g (by omega)
        refine wp_seq_k fun K27 hK27 => ?_
        refine wp_seq_k fun K28 hK28 => ?_
        refine cPlain ?_
        refine sv 75 (.agg #[.slice AY M CY, .slice BY (runX (gapAll M k) (qsB n k bk j)).2.length EY]) (Val.cel 56 _ rfl 0 2 (by kernel_rfl) b9 _ Try.underlying56 rfl (by kernel_rfl) (by simp) [.slice AY M CY, .slice BY (runX (gapAll M k) (qsB n k bk j)).2.length EY] rfl) ?_
        simp only [List.set_cons_zero, List.set_cons_succ]
        refine xCall 76 42 #[.agg #[.slice AY M CY, .slice BY (runX (gapAll M k) (qsB n k bk j)).2.length EY]] (by kernel_rfl) ?_
        refine (xover_any _ _ (runX (gapAll M k) (qsB n k bk j)).1 (runX (gapAll M k) (qsB n k bk j)).2 wJ1 O1.sl O2.se).mono ?_
        rintro en w19 ⟨he, hb1⟩
        rw [overB_no hn hk hk5 hM hn2 bk (by omega)] at he
        subst he
        have e6 := belE0 hb1
        have ze6 := e6.size
        replace BL := BL.e0 e6
        replace O1 := O1.e0 e6
        replace O2 := O2.e0 e6
        replace b9 := b9.e0 e6
        clear e6
        refine ⟨.bool false, rfl, ?_⟩
        simp only [List.set_cons_zero, List.set_cons_succ]
        refine wpList_nil ?_
        refine hK28 _ _ ?_
        refine cF ?_
        refine wp_skip ?_
        refine hK27 _ _ ?_
        refine wp_seq_k fun K29 hK29 => ?_
        refine cPlain ?_
        refine sv 78 (.agg #[.slice AY M CY, .slice BY (runX (gapAll M k) (qsB n k bk j)).2.length EY]) (Val.cel 56 _ rfl 0 2 (by kernel_rfl) b9 _ Try.underlying56 rfl (by kernel_rfl) (by simp) [.slice AY M CY, .slice BY (runX (gapAll M k) (qsB n k bk j)).2.length EY] rfl) ?_
        simp only [List.set_cons_zero, List.set_cons_succ]
        refine sv 79 (.int .i64 ((g : Nat) : Int)) .of ?_
        simp only [List.set_cons_zero, List.set_cons_succ]
        refine sv 80 (.int .i64 ((k : Nat) : Int)) .of ?_
        simp only [List.set_cons_zero, List.set_cons_succ]
        refine sv 81 (.int .i64 ((k + 1 : Nat) : Int)) (Val.as (Val.add 3 _ (.tmp 80) _ rfl ((k : Nat) : Int) 1 (by kernel_rfl) (by kernel_rfl) (by omega)) (congrArg (Value.int .i64) (show ((((k : Nat) : Int) + 1) : Int) = ((k + 1 : Nat) : Int) by omega))) ?_
        simp only [List.set_cons_zero, List.set_cons_succ]
        refine sv 82 (.int .i64 ((g * (k + 1) : Nat) : Int)) (Val.mulNat 3 _ (.tmp 79) (.tmp 81) rfl g (k + 1) (by kernel_rfl) (by kernel_rfl) (by have := hmu g (by omega); omega)) ?_
        simp only [List.set_cons_zero, List.set_cons_succ]
        refine sv 83 (.int .i64 ((k : Nat) : Int)) .of ?_
        simp only [List.set_cons_zero, List.set_cons_succ]
        refine sv 84 (.int .i64 ((g * (k + 1) + k : Nat) : Int)) (Val.as (Val.add 3 _ (.tmp 82) (.tmp 83) rfl ((g * (k + 1) : Nat) : Int) ((k : Nat) : Int) (by kernel_rfl) (by kernel_rfl) (by omega)) (congrArg (Value.int .i64) (show ((((g * (k + 1) : Nat) : Int) + ((k : Nat) : Int)) : Int) = ((g * (k + 1) + k : Nat) : Int) by omega))) ?_
        simp only [List.set_cons_zero, List.set_cons_succ]
        refine xLit 85 29 5 1 _ #[(0, .int .u8 7)] [.int .u8 7] rfl (by kernel_rfl) (by kernel_rfl) ?_
        intro w20 n7
        have zn7 := n7.z
        have b85 := n7.c
        replace b85 : Blk .u8 w20 w19.heap.size 5 [7] := b85
        replace BL := BL.e0 n7.e
        replace O1 := O1.e0 n7.e
        replace O2 := O2.e0 n7.e
        replace b9 := b9.e0 n7.e
        have sb85 : SL .u8 w20 (.slice (some ⟨w19.heap.size, 0, none⟩) 1 1) [7] := SL.ofBlk b85 rfl (by unfold maxLen; omega)
        have lb85 : ∀ i, Value.ownBlock (.slice (some ⟨w19.heap.size, 0, none⟩) 1 1) = some i → w19.heap.size ≤ i ∧ i < w20.heap.size := ownB_lit (by omega)
        simp only [List.set_cons_zero, List.set_cons_succ]
        refine xCall 86 33 #[.agg #[.slice AY M CY, .slice BY (runX (gapAll M k) (qsB n k bk j)).2.length EY], .int .i64 ((g * (k + 1) + k : Nat) : Int), .slice (some ⟨w19.heap.size, 0, none⟩) 1 1] (by kernel_rfl) ?_
        refine (runputB_any (gapAll M k) (by rw [gapAll_len]; omega) (qsB n k bk j) (qsB_ok hn hk hk5 hM bk (by omega)) (pgG k g) (pgG_ok hn hk hk5 hM hg2) _ _ _ w20 O1.sl O2.se (sb85.castX (by rw [segG hn hk hk5 hM hg2]; rfl))).mono ?_
        rintro en w21 ⟨⟨X2, Y2, Z2, T2, he, P2, Q2⟩, hb1⟩
        rw [hgx, ← qsB_succ] at he P2 Q2
        simp only [gapAll_len] at he P2
        subst he
        have e7 := belE0 hb1
        have ze7 := e7.size
        replace BL := BL.e0 e7
        replace b9 := b9.e0 e7
        replace b85 := b85.e0 e7
        replace sb85 := sb85.e0 e7
        clear e7
        have lP2_1 := P2.ge
        have lQ2_1 := Q2.ge
        refine ⟨.tuple #[.agg #[.slice X2 M Y2, .slice Z2 (runX (gapAll M k) (qsB n k bk (j + 1))).2.length T2], .int .i64 0], rfl, ?_⟩
        simp only [List.set_cons_zero, List.set_cons_succ]
        refine sv 77 (.tuple #[.agg #[.slice X2 M Y2, .slice Z2 (runX (gapAll M k) (qsB n k bk (j + 1))).2.length T2], .int .i64 0]) .of ?_
        simp only [List.set_cons_zero, List.set_cons_succ]
        refine sv 87 (.agg #[.slice X2 M Y2, .slice Z2 (runX (gapAll M k) (qsB n k bk (j + 1))).2.length T2]) .of ?_
        simp only [List.set_cons_zero, List.set_cons_succ]
        refine sv 88 (.int .i64 0) .of ?_
        simp only [List.set_cons_zero, List.set_cons_succ]
        refine xAlloc 16 56 [.slice none 0 0, .slice none 0 0] rfl (by kernel_rfl) ?_
        intro w22 n8
        have zn8 := n8.z
        have b16 := n8.c
        replace BL := BL.e0 n8.e
        replace b9 := b9.e0 n8.e
        replace b85 := b85.e0 n8.e
        replace sb85 := sb85.e0 n8.e
        replace P2 := P2.e0 n8.e
        replace Q2 := Q2.e0 n8.e
        simp only [List.set_cons_zero, List.set_cons_succ]
        refine xStoreR 56 (.tmp 16) (.tmp 87) rfl w21.heap.size 56 [.slice none 0 0, .slice none 0 0] 0 [.slice X2 M Y2, .slice Z2 (runX (gapAll M k) (qsB n k bk (j + 1))).2.length T2] (by kernel_rfl) (by kernel_rfl) b16 (by kernel_rfl) (by simp) rfl [.slice X2 M Y2, .slice Z2 (runX (gapAll M k) (qsB n k bk (j + 1))).2.length T2] rfl ?_
        intro w23 t8
        have zt8 := t8.z
        have BL_ := BL.ev t8.e (fun i h => show w.heap.size ≤ i by have h : i = w21.heap.size := h; omega)
        have b9_ := b9.ev t8.e (show ¬ (w1.heap.size = w21.heap.size) by omega)
        have b85_ := b85.ev t8.e (show ¬ (w19.heap.size = w21.heap.size) by omega)
        have sb85_ := sb85.ev t8.e (fun i hi => show ¬ (i = w21.heap.size) by have := lb85 i hi; omega)
        have P2_ := P2.ev t8.e (fun i hi => show ¬ (i = w21.heap.size) by have := lP2_1 i hi; omega)
        have Q2_ := Q2.ev t8.e (fun i hi => show ¬ (i = w21.heap.size) by have := lQ2_1 i hi; omega)
        replace BL := BL_; clear BL_
        replace b9 := b9_; clear b9_
        replace b85 := b85_; clear b85_
        replace sb85 := sb85_; clear sb85_
        replace P2 := P2_; clear P2_
        replace Q2 := Q2_; clear Q2_
        replace b16 : Cel w23 w21.heap.size 56 [.slice X2 M Y2, .slice Z2 (runX (gapAll M k) (qsB n k bk (j + 1))).2.length T2] := t8.c
        clear t8
        refine sv 17 (.int .i64 0) .of ?_
        simp only [List.set_cons_zero, List.set_cons_succ]
        refine wpList_nil ?_
        refine hK29 _ _ ?_
        refine wp_seq_k fun K30 hK30 => ?_
        refine wp_seq_k fun K31 hK31 => ?_
        refine cPlain ?_
        refine sv 89 (.int .i64 0) .of ?_
        simp only [List.set_cons_zero, List.set_cons_succ]
        refine sv 90 (.bool false) (Val.cmp .neq 37 _ (.tmp 89) _ rfl .i64 0 0 (by kernel_rfl) (by kernel_rfl) (by simp) _ rfl) ?_
        simp only [List.set_cons_zero, List.set_cons_succ]
        refine sv 91 (.bool false) .of ?_
        simp only [List.set_cons_zero, List.set_cons_succ]
        refine sv 92 (.pointer (some ⟨w21.heap.size, 1, none⟩)) .of ?_
        simp only [List.set_cons_zero, List.set_cons_succ]
        refine sv 93 (.slice Z2 (runX (gapAll M k) (qsB n k bk (j + 1))).2.length T2) (Val.cel1 54 _ rfl w21.heap.size 1 _ (by kernel_rfl) (fun _ => (by kernel_rfl)) b16 rfl) ?_
        simp only [List.set_cons_zero, List.set_cons_succ]
        refine sv 94 (.int .i64 ((runX (gapAll M k) (qsB n k bk (j + 1))).2.length : Int)) .of ?_
        simp only [List.set_cons_zero, List.set_cons_succ]
        refine sv 95 (.int .i64 ((n : Nat) : Int)) .of ?_
        simp only [List.set_cons_zero, List.set_cons_succ]
        refine sv 96 (.int .i64 ((n - 1 : Nat) : Int)) (Val.as (Val.sub 3 _ (.tmp 95) _ rfl ((n : Nat) : Int) 1 (by kernel_rfl) (by kernel_rfl) (by omega)) (congrArg (Value.int .i64) (show ((((n : Nat) : Int) - 1) : Int) = ((n - 1 : Nat) : Int) by omega))) ?_
        simp only [List.set_cons_zero, List.set_cons_succ]
        refine sv 97 (.int .i64 ((j : Nat) : Int)) .of ?_
        simp only [List.set_cons_zero, List.set_cons_succ]
        refine sv 98 (.int .i64 ((n - 1 - j : Nat) : Int)) (Val.as (Val.sub 3 _ (.tmp 96) (.tmp 97) rfl ((n - 1 : Nat) : Int) ((j : Nat) : Int) (by kernel_rfl) (by kernel_rfl) (by omega)) (congrArg (Value.int .i64) (show ((((n - 1 : Nat) : Int) - ((j : Nat) : Int)) : Int) = ((n - 1 - j : Nat) : Int) by omega))) ?_
        simp only [List.set_cons_zero, List.set_cons_succ]
        refine sv 99 (.bool false) (Val.cmp .neq 3 _ (.tmp 94) (.tmp 98) rfl .i64 ((runX (gapAll M k) (qsB n k bk (j + 1))).2.length : Int) ((n - 1 - j : Nat) : Int) (by kernel_rfl) (by kernel_rfl) (by simp) _ (by rw [lenGB hn hk hk5 hM hn2 bk (by omega)]; simp [cmpB]; omega)) ?_
        simp only [List.set_cons_zero, List.set_cons_succ]
        refine sv 100 (.bool false) .of ?_
        simp only [List.set_cons_zero, List.set_cons_succ]
        refine wpList_nil ?_
        refine hK31 _ _ ?_
        refine cF ?_
        refine wp_skip ?_
        refine hK30 _ _ ?_
        refine cPlain ?_
        refine sv 101 (.agg #[.slice X2 M Y2, .slice Z2 (runX (gapAll M k) (qsB n k bk (j + 1))).2.length T2]) (Val.cel 56 _ rfl 0 2 (by kernel_rfl) b16 _ Try.underlying56 rfl (by kernel_rfl) (by simp) [.slice X2 M Y2, .slice Z2 (runX (gapAll M k) (qsB n k bk (j + 1))).2.length T2] rfl) ?_
        simp only [List.set_cons_zero, List.set_cons_succ]
        refine xStoreR 56 (.tmp 9) (.tmp 101) rfl w1.heap.size 56 [.slice AY M CY, .slice BY (runX (gapAll M k) (qsB n k bk j)).2.length EY] 0 [.slice X2 M Y2, .slice Z2 (runX (gapAll M k) (qsB n k bk (j + 1))).2.length T2] (by kernel_rfl) (by kernel_rfl) b9 (by kernel_rfl) (by simp) rfl [.slice X2 M Y2, .slice Z2 (runX (gapAll M k) (qsB n k bk (j + 1))).2.length T2] rfl ?_
        intro w24 t9
        have zt9 := t9.z
        have BL_ := BL.ev t9.e (fun i h => show w.heap.size ≤ i by have h : i = w1.heap.size := h; omega)
        have b85_ := b85.ev t9.e (show ¬ (w19.heap.size = w1.heap.size) by omega)
        have sb85_ := sb85.ev t9.e (fun i hi => show ¬ (i = w1.heap.size) by have := lb85 i hi; omega)
        have P2_ := P2.ev t9.e (fun i hi => show ¬ (i = w1.heap.size) by have := lP2_1 i hi; omega)
        have Q2_ := Q2.ev t9.e (fun i hi => show ¬ (i = w1.heap.size) by have := lQ2_1 i hi; omega)
        have b16_ := b16.ev t9.e (show ¬ (w21.heap.size = w1.heap.size) by omega)
        replace BL := BL_; clear BL_
        replace b85 := b85_; clear b85_
        replace sb85 := sb85_; clear sb85_
        replace P2 := P2_; clear P2_
        replace Q2 := Q2_; clear Q2_
        replace b16 := b16_; clear b16_
        replace b9 : Cel w24 w1.heap.size 56 [.slice X2 M Y2, .slice Z2 (runX (gapAll M k) (qsB n k bk (j + 1))).2.length T2] := t9.c
        clear t9
        refine wpList_nil ?_
        refine hK23 _ _ ?_
        refine cPlain ?_
        refine sv 102 (.int .i64 (((j : Nat) : Int) + 1)) (Val.add 3 _ (.tmp 66) _ rfl ((j : Nat) : Int) 1 (by kernel_rfl) (by kernel_rfl) (by omega)) ?_
        simp only [List.set_cons_zero, List.set_cons_succ]
        refine sv 66 (.int .i64 (((j : Nat) : Int) + 1)) .of ?_
        simp only [List.set_cons_zero, List.set_cons_succ]
        refine wpList_nil ?_
        refine ⟨_, ?_, j + 1, X2, Z2, Y2, T2, rfl, (by omega), cutE, BL, (P2.mono (by omega)), (Q2.mono (by omega)), b9, by omega⟩
        omega
    · skip
      refine wp_exit ?_
      simp only [Exit.then, Exit.inBlock, ↓reduceIte, Nat.reduceEqDiff]
      refine hK19 _ _ ?_
      refine wp_seq_k fun K32 hK32 => ?_
      have e8 := drew_e0 wl1
      refine zg (fun w_ => Bl w.heap.size w w_ ∧ Own 5 .u8 w.heap.size w_ (.slice AY M CY) (nn (runX (gapAll M k) (qsB n k bk j)).1) ∧ OwnE 70 .i64 2 w.heap.size w_ (.slice BY (runX (gapAll M k) (qsB n k bk j)).2.length EY) (spS (runX (gapAll M k) (qsB n k bk j)).2) ∧ Cel w_ w1.heap.size 56 [.slice AY M CY, .slice BY (runX (gapAll M k) (qsB n k bk j)).2.length EY] ∧ wl1.heap.size ≤ w_.heap.size) (fun w_ => Bl w.heap.size w w_ ∧ Own 5 .u8 w.heap.size w_ (.slice AY M CY) (nn (runX (gapAll M k) (qsB n k bk j)).1) ∧ OwnE 70 .i64 2 w.heap.size w_ (.slice BY (runX (gapAll M k) (qsB n k bk j)).2.length EY) (spS (runX (gapAll M k) (qsB n k bk j)).2) ∧ Cel w_ w1.heap.size 56 [.slice AY M CY, .slice BY (runX (gapAll M k) (qsB n k bk j)).2.length EY] ∧ wl1.heap.size ≤ w_.heap.size) 100000 14 ⟨BL.e0 e8, O1.e0 e8, O2.e0 e8, b9.e0 e8, Nat.le_refl _⟩ ?_
      clear BL O1 O2 b9
      clear e8
      intro w25
      rintro ⟨BL, O1, O2, b9, z2⟩
      refine zv 0 103 (.agg #[.slice AY M CY, .slice BY (runX (gapAll M k) (qsB n k bk j)).2.length EY]) (fun _ ⟨BL, O1, O2, b9, z2⟩ => Val.cel 56 _ rfl 0 2 (by kernel_rfl) b9 _ Try.underlying56 rfl (by kernel_rfl) (by simp) [.slice AY M CY, .slice BY (runX (gapAll M k) (qsB n k bk j)).2.length EY] rfl) ⟨BL, O1, O2, b9, by omega⟩ ?_
      simp only [List.set_cons_zero, List.set_cons_succ]
      refine zo1 1 rfl ?_
      refine xCall 104 42 #[.agg #[.slice AY M CY, .slice BY (runX (gapAll M k) (qsB n k bk j)).2.length EY]] (by kernel_rfl) ?_
      refine (xover_any _ _ (runX (gapAll M k) (qsB n k bk j)).1 (runX (gapAll M k) (qsB n k bk j)).2 w25 O1.sl O2.se).mono ?_
      rintro en w26 ⟨he, hb1⟩
      rw [show j = n - 1 by omega, overB_yes hn hk hk5 hM hn2 bk] at he
      subst he
      have e9 := belE0 hb1
      have ze9 := e9.size
      replace BL := BL.e0 e9
      replace O1 := O1.e0 e9
      replace O2 := O2.e0 e9
      replace b9 := b9.e0 e9
      clear e9
      refine ⟨.bool true, rfl, ?_⟩
      refine ze 1 ⟨BL, O1, O2, b9, by omega⟩ ?_
      simp only [List.set_cons_zero, List.set_cons_succ]
      refine zv 2 105 (.bool true) (fun _ _ => .of) ⟨BL, O1, O2, b9, by omega⟩ ?_
      simp only [List.set_cons_zero, List.set_cons_succ]
      refine zv 3 106 (.agg #[.slice AY M CY, .slice BY (runX (gapAll M k) (qsB n k bk j)).2.length EY]) (fun _ ⟨BL, O1, O2, b9, z2⟩ => Val.cel 56 _ rfl 0 2 (by kernel_rfl) b9 _ Try.underlying56 rfl (by kernel_rfl) (by simp) [.slice AY M CY, .slice BY (runX (gapAll M k) (qsB n k bk j)).2.length EY] rfl) ⟨BL, O1, O2, b9, by omega⟩ ?_
      simp only [List.set_cons_zero, List.set_cons_succ]
      refine zv 5 108 (.pointer (some ⟨w1.heap.size, 0, none⟩)) (fun _ _ => .of) ⟨BL, O1, O2, b9, by omega⟩ ?_
      simp only [List.set_cons_zero, List.set_cons_succ]
      refine zv 6 109 (.slice AY M CY) (fun _ ⟨BL, O1, O2, b9, z2⟩ => Val.cel1 29 _ rfl w1.heap.size 0 _ (by kernel_rfl) (fun _ => (by kernel_rfl)) b9 rfl) ⟨BL, O1, O2, b9, by omega⟩ ?_
      simp only [List.set_cons_zero, List.set_cons_succ]
      refine zv 7 110 (.int .i64 (M : Int)) (fun _ _ => .of) ⟨BL, O1, O2, b9, by omega⟩ ?_
      simp only [List.set_cons_zero, List.set_cons_succ]
      refine zo1 4 rfl ?_
      refine xCall 107 34 #[.agg #[.slice AY M CY, .slice BY (runX (gapAll M k) (qsB n k bk j)).2.length EY]] (by kernel_rfl) ?_
      refine (xmany_any _ _ (runX (gapAll M k) (qsB n k bk j)).1 (runX (gapAll M k) (qsB n k bk j)).2 w26 O1.sl O2.se).mono ?_
      rintro en w27 ⟨he, hb1⟩
      rw [show j = n - 1 by omega, over_many (overB_yes hn hk hk5 hM hn2 bk), (runX_good (all := (gapAll M k)) (by rw [gapAll_len]; omega) _ (qsB_ok hn hk hk5 hM bk (show n - 1 < n by omega))).len, gapAll_len] at he
      subst he
      have e10 := belE0 hb1
      have ze10 := e10.size
      replace BL := BL.e0 e10
      replace O1 := O1.e0 e10
      replace O2 := O2.e0 e10
      replace b9 := b9.e0 e10
      clear e10
      refine ⟨.int .i64 ((M : Nat) : Int), rfl, ?_⟩
      refine ze 4 ⟨BL, O1, O2, b9, by omega⟩ ?_
      simp only [List.set_cons_zero, List.set_cons_succ]
      refine zv 8 111 (.bool true) (fun _ ⟨BL, O1, O2, b9, z2⟩ => Val.cmp .eql 3 _ (.tmp 107) (.tmp 110) rfl .i64 ((M : Nat) : Int) (M : Int) (by kernel_rfl) (by kernel_rfl) (by simp) _ (by simp [cmpB])) ⟨BL, O1, O2, b9, by omega⟩ ?_
      simp only [List.set_cons_zero, List.set_cons_succ]
      refine zv 9 112 (.bool true) (fun _ _ => .of) ⟨BL, O1, O2, b9, by omega⟩ ?_
      simp only [List.set_cons_zero, List.set_cons_succ]
      refine zv 10 113 (.bool true) (fun _ _ => .of) ⟨BL, O1, O2, b9, by omega⟩ ?_
      simp only [List.set_cons_zero, List.set_cons_succ]
      refine zo1 11 rfl ?_
      refine xCall 114 31 #[] (by kernel_rfl) ?_
      refine (awake24 w27).mono ?_
      rintro en w28 ⟨rfl, hb1⟩
      have e11 := belE0 hb1
      have ze11 := e11.size
      replace BL := BL.e0 e11
      replace O1 := O1.e0 e11
      replace O2 := O2.e0 e11
      replace b9 := b9.e0 e11
      clear e11
      refine ⟨.bool true, rfl, ?_⟩
      refine ze 11 ⟨BL, O1, O2, b9, by omega⟩ ?_
      simp only [List.set_cons_zero, List.set_cons_succ]
      refine zv 12 115 (.bool true) (fun _ _ => .of) ⟨BL, O1, O2, b9, by omega⟩ ?_
      simp only [List.set_cons_zero, List.set_cons_succ]
      refine zv 13 6 (.bool true) (fun _ _ => .of) ⟨BL, O1, O2, b9, by omega⟩ ?_
      simp only [List.set_cons_zero, List.set_cons_succ]
      refine zd (by kernel_rfl) ?_ _
      refine hK32 _ _ ?_
      refine wp_ret ?_
      (try simp only [Exit.then, Exit.inBlock])
      refine bodyPost_ret (v := .bool true) rT rfl ?_
      exact ⟨rfl, BL.b⟩

theorem xferGaps_any (w : World) (s : Int) (h0 : 0 ≤ s ∧ s ≤ 255) (t : Int) (h1 : 0 ≤ t ∧ t ≤ 255) (b : Bool) :
    Calls Try.prog 9 #[.int .u8 s, .int .u8 t, .bool b] w fun e w' => e = .returned (.bool true) ∧ Below w.heap.size w w' := by
  obtain ⟨m, rfl⟩ := Int.eq_ofNat_of_zero_le h0.1
  obtain ⟨k, rfl⟩ := Int.eq_ofNat_of_zero_le h1.1
  exact xferGaps_walk w m k b (by omega) (by omega)
end Go.Proofs.Ytanggdnmoaflfaa
