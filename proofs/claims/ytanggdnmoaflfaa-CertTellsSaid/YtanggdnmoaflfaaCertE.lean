/-
  cert.ReadList, SameList.
-/
import Derived.Test.YtanggdnmoaflfaaCertD
namespace Go.Proofs.Ytanggdnmoaflfaa
open Go.RowKit
set_option linter.unusedVariables false
set_option linter.unusedSimpArgs false
set_option maxRecDepth 100000
attribute [local irreducible] wpList Code.wp wpAnyZ
/-- So many keys, one behind the other. -/
def nxs (xs : List Int) (at_ : Nat) (ok : Bool) : Nat → List Int × Nat × Bool
  | 0 => ([], at_, ok)
  | k + 1 => ((nxs xs at_ ok k).1 ++ [(nextF xs 1048576 (nxs xs at_ ok k).2.1 (nxs xs at_ ok k).2.2).1], (nextF xs 1048576 (nxs xs at_ ok k).2.1 (nxs xs at_ ok k).2.2).2.1, (nextF xs 1048576 (nxs xs at_ ok k).2.1 (nxs xs at_ ok k).2.2).2.2)
theorem nxs_len (xs : List Int) (at_ : Nat) (ok : Bool) : ∀ k, (nxs xs at_ ok k).1.length = k
  | 0 => rfl
  | k + 1 => by simp [nxs, nxs_len xs at_ ok k]
theorem nextF_range (xs : List Int) (most : Int) (at_ : Nat) (ok : Bool) (h : 0 ≤ most) : 0 ≤ (nextF xs most at_ ok).1 ∧ (nextF xs most at_ ok).1 ≤ most := by
  unfold nextF
  split
  · rename_i h; exact ⟨by simp, h.2.2⟩
  · exact ⟨by simp, by simpa using h⟩
/-- The list of bytes. -/
def readL (xs : List Int) : Option (Int × List Int) :=
  let r1 := nextF xs 1073741824 1 (okF xs 2)
  let r2 := nextF xs 50 r1.2.1 r1.2.2
  let t := nxs xs r2.2.1 r2.2.2 r2.1.toNat
  if t.2.2 = true ∧ t.2.1 = xs.length ∧ rightL r1.1 t.1 = true then some (r1.1, t.1) else none
def ReadLPost (w : World) (r : Option (Int × List Int)) (e : Ending) (w' : World) : Prop :=
  (match r with
    | some (q, ks) => ∃ v, e = .returned (.tuple #[.agg #[.int .i64 q, v], .int .i64 0]) ∧ Own 3 .i64 w.heap.size w' v ks
    | none => e = .returned (.tuple #[.agg #[.int .i64 0, .slice none 0 0], .int .i64 180])) ∧ Below w.heap.size w w'

set_option maxHeartbeats 1600000 in
theorem readlist_any (v : Value) (xs : List Int) (hb : Bytes xs) (w : World) (V : SL .u8 w v xs) :
    Calls Try.prog 24 #[v] w (ReadLPost w (readL xs)) := by
  obtain ⟨a, c, rfl, hm⟩ := V.len
  have lV := V.bd
  have BL := Bl.refl w
  unfold maxLen at hm
  go_enter Try.func24, Try.ntmps24
  refine wp_seq_k fun K1 hK1 => ?_
  refine cPlain ?_
  refine xAlloc 2 28 [.int .i64 0, .slice none 0 0] rfl (by kernel_rfl) ?_
  intro w1 n1
  have zn1 := n1.z
  have b2 := n1.c
  replace V := V.e0 n1.e
  replace BL := BL.e0 n1.e
  simp only [sZ, sS]
  refine sv 3 (.int .i64 0) .of ?_
  simp only [sZ, sS]
  refine wpList_nil ?_
  refine hK1 _ _ ?_
  refine wp_seq_k fun K2 hK2 => ?_
  refine cPlain ?_
  refine sv 10 (.slice a xs.length c) .of ?_
  simp only [sZ, sS]
  refine xCall 11 53 #[.slice a xs.length c, .int .u8 2] (by kernel_rfl) ?_
  refine (reader_any _ xs hb 2 w1 V).mono ?_
  rintro en w2 ⟨A, O, B, rfl, RD, hb1, hA, hO, hB, hA2, hO2⟩
  have e1 := belE0 hb1
  have ze1 := e1.size
  replace V := V.e0 e1
  replace BL := BL.e0 e1
  replace b2 := b2.e0 e1
  clear e1
  have hABO := RD.ltA
  refine ⟨.tuple #[.func (.func 75) #[] #[.pointer (some ⟨O, 0, none⟩), .pointer (some ⟨B, 0, none⟩), .pointer (some ⟨A, 0, none⟩)], .func (.func 77) #[] #[.pointer (some ⟨A, 0, none⟩), .pointer (some ⟨O, 0, none⟩)]], rfl, ?_⟩
  simp only [sZ, sS]
  refine sv 9 (.tuple #[.func (.func 75) #[] #[.pointer (some ⟨O, 0, none⟩), .pointer (some ⟨B, 0, none⟩), .pointer (some ⟨A, 0, none⟩)], .func (.func 77) #[] #[.pointer (some ⟨A, 0, none⟩), .pointer (some ⟨O, 0, none⟩)]]) .of ?_
  simp only [sZ, sS]
  refine sv 12 (.func (.func 75) #[] #[.pointer (some ⟨O, 0, none⟩), .pointer (some ⟨B, 0, none⟩), .pointer (some ⟨A, 0, none⟩)]) .of ?_
  simp only [sZ, sS]
  refine sv 13 (.func (.func 77) #[] #[.pointer (some ⟨A, 0, none⟩), .pointer (some ⟨O, 0, none⟩)]) .of ?_
  simp only [sZ, sS]
  refine sv 4 (.func (.func 75) #[] #[.pointer (some ⟨O, 0, none⟩), .pointer (some ⟨B, 0, none⟩), .pointer (some ⟨A, 0, none⟩)]) .of ?_
  simp only [sZ, sS]
  refine sv 5 (.func (.func 77) #[] #[.pointer (some ⟨A, 0, none⟩), .pointer (some ⟨O, 0, none⟩)]) .of ?_
  simp only [sZ, sS]
  refine wpList_nil ?_
  refine hK2 _ _ ?_
  refine wp_seq_k fun K3 hK3 => ?_
  refine cPlain ?_
  refine sv 14 (.func (.func 75) #[] #[.pointer (some ⟨O, 0, none⟩), .pointer (some ⟨B, 0, none⟩), .pointer (some ⟨A, 0, none⟩)]) .of ?_
  simp only [sZ, sS]
  refine xCall 15 75 #[.int .i64 1073741824, .pointer (some ⟨O, 0, none⟩), .pointer (some ⟨B, 0, none⟩), .pointer (some ⟨A, 0, none⟩)] (by kernel_rfl) ?_
  refine (next_any xs _ A O B 1 (okF xs 2) 1073741824 (by omega) w2 RD).mono ?_
  rintro en w3 ⟨he, hrd, htwo⟩
  subst he
  clear RD
  have hr1r := nextF_range xs 1073741824 1 (okF xs 2) (by omega)
  generalize hr1 : nextF xs 1073741824 1 (okF xs 2) = r1 at *
  have e2 := Two.ev htwo
  have ze2 := e2.size
  have V_ := V.ev e2 (fun i hi h => by have := lV i hi; rcases h with h | h <;> omega)
  have BL_ := BL.ev e2 (fun i h => by rcases h with h | h <;> omega)
  have b2_ := b2.ev e2 (fun h => by rcases h with h | h <;> omega)
  replace V := V_; clear V_
  replace BL := BL_; clear BL_
  replace b2 := b2_; clear b2_
  clear e2
  have RD : Rd xs (.slice a xs.length c) A O B r1.2.1 r1.2.2 w3 := hrd
  refine ⟨.int .i64 r1.1, rfl, ?_⟩
  simp only [sZ, sS]
  refine sv 16 (.agg #[.int .i64 r1.1, .slice none 0 0]) .of ?_
  simp only [sZ, sS]
  refine xAlloc 6 28 [.int .i64 0, .slice none 0 0] rfl (by kernel_rfl) ?_
  intro w4 n2
  have zn2 := n2.z
  have b6 := n2.c
  replace V := V.e0 n2.e
  replace BL := BL.e0 n2.e
  replace b2 := b2.e0 n2.e
  have RD : Rd xs (.slice a xs.length c) A O B r1.2.1 r1.2.2 w4 := RD.e0 n2.e
  simp only [sZ, sS]
  refine xStoreR 28 (.tmp 6) (.tmp 16) rfl w3.heap.size 28 [.int .i64 0, .slice none 0 0] 0 [.int .i64 r1.1, .slice none 0 0] (by kernel_rfl) (by kernel_rfl) b6 (by kernel_rfl) (by simp) rfl [.int .i64 r1.1, .slice none 0 0] rfl ?_
  intro w5 t1
  have zt1 := t1.z
  have V_ := V.ev t1.e (fun i hi => show ¬ (i = w3.heap.size) by have := lV i hi; omega)
  have BL_ := BL.ev t1.e (fun i h => show w.heap.size ≤ i by have h : i = w3.heap.size := h; omega)
  have b2_ := b2.ev t1.e (show ¬ (w.heap.size = w3.heap.size) by omega)
  have RD : Rd xs (.slice a xs.length c) A O B r1.2.1 r1.2.2 w5 := RD.ev t1.e (show ¬ (A = w3.heap.size) by omega) (show ¬ (O = w3.heap.size) by omega) (show ¬ (B = w3.heap.size) by omega) (fun i hi => show ¬ (i = w3.heap.size) by have := lV i hi; omega)
  replace V := V_; clear V_
  replace BL := BL_; clear BL_
  replace b2 := b2_; clear b2_
  replace b6 : Cel w5 w3.heap.size 28 [.int .i64 r1.1, .slice none 0 0] := t1.c
  clear t1
  refine wpList_nil ?_
  refine hK3 _ _ ?_
  refine wp_seq_k fun K4 hK4 => ?_
  refine wp_seq_k fun K5 hK5 => ?_
  refine cPlain ?_
  refine sv 17 (.func (.func 75) #[] #[.pointer (some ⟨O, 0, none⟩), .pointer (some ⟨B, 0, none⟩), .pointer (some ⟨A, 0, none⟩)]) .of ?_
  simp only [sZ, sS]
  refine xCall 18 75 #[.int .i64 50, .pointer (some ⟨O, 0, none⟩), .pointer (some ⟨B, 0, none⟩), .pointer (some ⟨A, 0, none⟩)] (by kernel_rfl) ?_
  refine (next_any xs _ A O B r1.2.1 r1.2.2 50 (by omega) w5 RD).mono ?_
  rintro en w6 ⟨he, hrd, htwo⟩
  subst he
  clear RD
  have hr2r := nextF_range xs 50 r1.2.1 r1.2.2 (by omega)
  generalize hr2 : nextF xs 50 r1.2.1 r1.2.2 = r2 at *
  have e3 := Two.ev htwo
  have ze3 := e3.size
  have V_ := V.ev e3 (fun i hi h => by have := lV i hi; rcases h with h | h <;> omega)
  have BL_ := BL.ev e3 (fun i h => by rcases h with h | h <;> omega)
  have b2_ := b2.ev e3 (fun h => by rcases h with h | h <;> omega)
  have b6_ := b6.ev e3 (fun h => by rcases h with h | h <;> omega)
  replace V := V_; clear V_
  replace BL := BL_; clear BL_
  replace b2 := b2_; clear b2_
  replace b6 := b6_; clear b6_
  clear e3
  have RD : Rd xs (.slice a xs.length c) A O B r2.2.1 r2.2.2 w6 := hrd
  refine ⟨.int .i64 r2.1, rfl, ?_⟩
  simp only [sZ, sS]
  refine sv 19 (.int .i64 0) .of ?_
  simp only [sZ, sS]
  refine wpList_nil ?_
  refine hK5 _ _ ?_
  refine wp_block ?_
  refine cLoop (fun N_ A_ w_ => ∃ (k : Nat) (mv : Value) (t : List Int × Nat × Bool), (N_ = r2.1.toNat - k ∧ ((k : Int) ≤ r2.1) ∧ (t = nxs xs r2.2.1 r2.2.2 k) ∧ (t.1.length = k) ∧ (∃ s1 : Nat → Value, A_ = ⟨[.slice a xs.length c, undef, .pointer (some ⟨w.heap.size, 0, none⟩), .int .i64 0, .func (.func 75) #[] #[.pointer (some ⟨O, 0, none⟩), .pointer (some ⟨B, 0, none⟩), .pointer (some ⟨A, 0, none⟩)], .func (.func 77) #[] #[.pointer (some ⟨A, 0, none⟩), .pointer (some ⟨O, 0, none⟩)], .pointer (some ⟨w3.heap.size, 0, none⟩), undef, undef, .tuple #[.func (.func 75) #[] #[.pointer (some ⟨O, 0, none⟩), .pointer (some ⟨B, 0, none⟩), .pointer (some ⟨A, 0, none⟩)], .func (.func 77) #[] #[.pointer (some ⟨A, 0, none⟩), .pointer (some ⟨O, 0, none⟩)]], .slice a xs.length c, .tuple #[.func (.func 75) #[] #[.pointer (some ⟨O, 0, none⟩), .pointer (some ⟨B, 0, none⟩), .pointer (some ⟨A, 0, none⟩)], .func (.func 77) #[] #[.pointer (some ⟨A, 0, none⟩), .pointer (some ⟨O, 0, none⟩)]], .func (.func 75) #[] #[.pointer (some ⟨O, 0, none⟩), .pointer (some ⟨B, 0, none⟩), .pointer (some ⟨A, 0, none⟩)], .func (.func 77) #[] #[.pointer (some ⟨A, 0, none⟩), .pointer (some ⟨O, 0, none⟩)], .func (.func 75) #[] #[.pointer (some ⟨O, 0, none⟩), .pointer (some ⟨B, 0, none⟩), .pointer (some ⟨A, 0, none⟩)], .int .i64 r1.1, .agg #[.int .i64 r1.1, .slice none 0 0], .func (.func 75) #[] #[.pointer (some ⟨O, 0, none⟩), .pointer (some ⟨B, 0, none⟩), .pointer (some ⟨A, 0, none⟩)], .int .i64 r2.1, .int .i64 (k : Int), (s1 20), (s1 21), (s1 22), (s1 23), (s1 24), (s1 25), (s1 26), (s1 27), (s1 28), undef, undef, undef, undef, undef, undef, undef, undef, undef, undef, undef, undef, undef, undef, undef, undef, undef, undef, undef, undef].toArray, []⟩) ∧ SL .u8 w_ (.slice a xs.length c) xs ∧ Bl w.heap.size w w_ ∧ Cel w_ w.heap.size 28 [.int .i64 0, .slice none 0 0] ∧ Cel w_ w3.heap.size 28 [.int .i64 r1.1, mv] ∧ Rd xs (.slice a xs.length c) A O B t.2.1 t.2.2 w_ ∧ Own 3 .i64 w4.heap.size w_ mv t.1 ∧ w6.heap.size ≤ w_.heap.size)) _ ⟨0, .slice none 0 0, ([], r2.2.1, r2.2.2), rfl, by omega, rfl, rfl, cutE, V, BL, b2, b6, RD, (Own.nil _ _ _ _), Nat.le_refl _⟩ ?_
  clear V BL b2 b6 RD
  rintro n_ a_ wl0 ⟨k, mv, t, rfl, hc0_0, hc0_1, hc0_2, ⟨s1, rfl⟩, V, BL, b2, b6, RD, R, zl0⟩
  have lR_1 := R.ge
  refine wp_seq_k fun K6 hK6 => ?_
  refine cPlain ?_
  refine sv 20 (.bool (decide ((k : Int) < r2.1))) (Val.cmp .lss 3 _ (.tmp 19) (.tmp 18) rfl .i64 (k : Int) r2.1 (by kernel_rfl) (by kernel_rfl) (by simp) _ rfl) ?_
  simp only [sZ, sS]
  refine wpList_nil ?_
  refine hK6 _ _ ?_
  refine wp_seq_k fun K7 hK7 => ?_
  refine cDec ((k : Int) < r2.1) (by kernel_rfl) (fun c20 => ?_) (fun c20 => ?_)
  · skip
    refine wp_skip ?_
    refine hK7 _ _ ?_
    refine wp_seq_k fun K8 hK8 => ?_
    refine wp_block ?_
    have e4 := drew_e0 wl0
    refine zg (fun w_ => SL .u8 w_ (.slice a xs.length c) xs ∧ Bl w.heap.size w w_ ∧ Cel w_ w.heap.size 28 [.int .i64 0, .slice none 0 0] ∧ Cel w_ w3.heap.size 28 [.int .i64 r1.1, mv] ∧ wl0.heap.size ≤ w_.heap.size) (fun w_ => SL .u8 w_ (.slice a xs.length c) xs ∧ Bl w.heap.size w w_ ∧ Cel w_ w.heap.size 28 [.int .i64 0, .slice none 0 0] ∧ Cel w_ w3.heap.size 28 [.int .i64 r1.1, mv] ∧ Rd xs (.slice a xs.length c) A O B t.2.1 t.2.2 w_ ∧ Own 3 .i64 w4.heap.size w_ mv t.1 ∧ wl0.heap.size ≤ w_.heap.size) 7 8 ⟨V.e0 e4, BL.e0 e4, b2.e0 e4, b6.e0 e4, RD.e0 e4, R.e0 e4, Nat.le_refl _⟩ ?_
    clear V BL b2 b6 RD R
    clear e4
    intro w7
    rintro ⟨V, BL, b2, b6, RD, R, z1⟩
    refine zv 0 21 (.pointer (some ⟨w3.heap.size, 1, none⟩)) (fun _ _ => .of) ⟨V, BL, b2, b6, by omega⟩ ?_
    simp only [sZ, sS]
    refine zv 1 22 (mv) (fun _ ⟨V, BL, b2, b6, z1⟩ => Val.cel1 26 _ rfl w3.heap.size 1 _ (by kernel_rfl) (fun _ => (by kernel_rfl)) b6 rfl) ⟨V, BL, b2, b6, by omega⟩ ?_
    simp only [sZ, sS]
    refine zv 2 23 (.func (.func 75) #[] #[.pointer (some ⟨O, 0, none⟩), .pointer (some ⟨B, 0, none⟩), .pointer (some ⟨A, 0, none⟩)]) (fun _ _ => .of) ⟨V, BL, b2, b6, by omega⟩ ?_
    simp only [sZ, sS]
    refine zo1 3 rfl ?_
    refine xCall 24 75 #[.int .i64 1048576, .pointer (some ⟨O, 0, none⟩), .pointer (some ⟨B, 0, none⟩), .pointer (some ⟨A, 0, none⟩)] (by kernel_rfl) ?_
    refine (next_any xs _ A O B t.2.1 t.2.2 1048576 (by omega) w7 RD).mono ?_
    rintro en w8 ⟨he, hrd, htwo⟩
    subst he
    clear RD
    have hr3r := nextF_range xs 1048576 t.2.1 t.2.2 (by omega)
    generalize hr3 : nextF xs 1048576 t.2.1 t.2.2 = r3 at *
    have e5 := Two.ev htwo
    have ze5 := e5.size
    have V_ := V.ev e5 (fun i hi h => by have := lV i hi; rcases h with h | h <;> omega)
    have BL_ := BL.ev e5 (fun i h => by rcases h with h | h <;> omega)
    have b2_ := b2.ev e5 (fun h => by rcases h with h | h <;> omega)
    have b6_ := b6.ev e5 (fun h => by rcases h with h | h <;> omega)
    have R_ := R.ev e5 (fun i hi h => by have := lR_1 i hi; rcases h with h | h <;> omega)
    replace V := V_; clear V_
    replace BL := BL_; clear BL_
    replace b2 := b2_; clear b2_
    replace b6 := b6_; clear b6_
    replace R := R_; clear R_
    clear e5
    have RD : Rd xs (.slice a xs.length c) A O B r3.2.1 r3.2.2 w8 := hrd
    refine ⟨.int .i64 r3.1, rfl, ?_⟩
    refine ze 3 ⟨V, BL, b2, b6, by omega⟩ ?_
    simp only [sZ, sS]
    refine zo1 4 rfl ?_
    refine xLit 25 26 3 1 _ #[(0, .int .i64 r3.1)] [.int .i64 r3.1] rfl (by kernel_rfl) (by kernel_rfl) ?_
    intro w9 n3
    have zn3 := n3.z
    have b25 := n3.c
    replace b25 : Blk .i64 w9 w8.heap.size 3 [r3.1] := b25
    replace V := V.e0 n3.e
    replace BL := BL.e0 n3.e
    replace b2 := b2.e0 n3.e
    replace b6 := b6.e0 n3.e
    replace R := R.e0 n3.e
    have RD : Rd xs (.slice a xs.length c) A O B r3.2.1 r3.2.2 w9 := RD.e0 n3.e
    have sb25 : SL .i64 w9 (.slice (some ⟨w8.heap.size, 0, none⟩) 1 1) [r3.1] := SL.ofBlk b25 rfl (by unfold maxLen; omega)
    have lb25 : ∀ i, Value.ownBlock (.slice (some ⟨w8.heap.size, 0, none⟩) 1 1) = some i → w8.heap.size ≤ i ∧ i < w9.heap.size := ownB_lit (by omega)
    refine ze 4 ⟨V, BL, b2, b6, by omega⟩ ?_
    simp only [sZ, sS]
    refine zo1 5 rfl ?_
    refine xApp 26 (.tmp 22) (.tmp 25) 26 3 .i64 8 rfl Try.underlying26 (by kernel_rfl) w4.heap.size mv t.1 (by kernel_rfl) R (.slice (some ⟨w8.heap.size, 0, none⟩) 1 1) [r3.1] (by kernel_rfl) sb25 ?va1_1 ?va1_2 ?va1_3 ?_
    case va1_1 => simp only [List.length_append, List.length_cons, List.length_nil]; omega
    case va1_2 => simp only [List.length_append, List.length_cons, List.length_nil]; unfold maxLen; omega
    case va1_3 => omega
    intro va1 w10 rva1 e6
    have ze6 := e6.size
    have V_ := V.ev e6 (fun i hi h => by have := lV i hi; have := lR_1 _ h; omega)
    have BL_ := BL.ev e6 (fun i h => by have := lR_1 _ h; omega)
    have b2_ := b2.ev e6 (fun h => by have := lR_1 _ h; omega)
    have b6_ := b6.ev e6 (fun h => by have := lR_1 _ h; omega)
    have RD : Rd xs (.slice a xs.length c) A O B r3.2.1 r3.2.2 w10 := RD.ev e6 (fun h => by have := lR_1 _ h; omega) (fun h => by have := lR_1 _ h; omega) (fun h => by have := lR_1 _ h; omega) (fun i hi h => by have := lV i hi; have := lR_1 _ h; omega)
    have b25_ := b25.ev e6 (fun h => by have := lR_1 _ h; omega)
    have sb25_ := sb25.ev e6 (fun i hi h => by have := lb25 i hi; have := lR_1 _ h; omega)
    replace V := V_; clear V_
    replace BL := BL_; clear BL_
    replace b2 := b2_; clear b2_
    replace b6 := b6_; clear b6_
    replace b25 := b25_; clear b25_
    replace sb25 := sb25_; clear sb25_
    replace R := rva1
    clear rva1 e6
    have lR_2 := R.ge
    refine ze 5 ⟨V, BL, b2, b6, by omega⟩ ?_
    simp only [sZ, sS]
    refine zv 6 27 (.pointer (some ⟨w3.heap.size, 1, none⟩)) (fun _ _ => .of) ⟨V, BL, b2, b6, by omega⟩ ?_
    simp only [sZ, sS]
    refine zo1 7 rfl ?_
    refine xStore 26 (.tmp 27) (.tmp 26) rfl w3.heap.size 28 [.int .i64 r1.1, mv] 1 va1 (by kernel_rfl) (by kernel_rfl) b6 (by kernel_rfl) (by simp) R.sl.oneCell [.int .i64 r1.1, va1] rfl ?_
    intro w11 t2
    have zt2 := t2.z
    have V_ := V.ev t2.e (fun i hi => show ¬ (i = w3.heap.size) by have := lV i hi; omega)
    have BL_ := BL.ev t2.e (fun i h => show w.heap.size ≤ i by have h : i = w3.heap.size := h; omega)
    have b2_ := b2.ev t2.e (show ¬ (w.heap.size = w3.heap.size) by omega)
    have R_ := R.ev t2.e (fun i hi => show ¬ (i = w3.heap.size) by have := lR_2 i hi; omega)
    have RD : Rd xs (.slice a xs.length c) A O B r3.2.1 r3.2.2 w11 := RD.ev t2.e (show ¬ (A = w3.heap.size) by omega) (show ¬ (O = w3.heap.size) by omega) (show ¬ (B = w3.heap.size) by omega) (fun i hi => show ¬ (i = w3.heap.size) by have := lV i hi; omega)
    have b25_ := b25.ev t2.e (show ¬ (w8.heap.size = w3.heap.size) by omega)
    have sb25_ := sb25.ev t2.e (fun i hi => show ¬ (i = w3.heap.size) by have := lb25 i hi; omega)
    replace V := V_; clear V_
    replace BL := BL_; clear BL_
    replace b2 := b2_; clear b2_
    replace R := R_; clear R_
    replace b25 := b25_; clear b25_
    replace sb25 := sb25_; clear sb25_
    replace b6 : Cel w11 w3.heap.size 28 [.int .i64 r1.1, va1] := t2.c
    clear t2
    refine zz 7 ?_
    refine zd (by kernel_rfl) ?_ _
    refine hK8 _ _ ?_
    refine cPlain ?_
    refine sv 28 (.int .i64 ((k : Int) + 1)) (Val.add 3 _ (.tmp 19) _ rfl (k : Int) 1 (by kernel_rfl) (by kernel_rfl) (by omega)) ?_
    simp only [sZ, sS]
    refine sv 19 (.int .i64 ((k : Int) + 1)) .of ?_
    simp only [sZ, sS]
    refine wpList_nil ?_
    refine ⟨_, ?_, k + 1, va1, (t.1 ++ [r3.1], r3.2.1, r3.2.2), rfl, by omega, by rw [← hr3, hc0_1]; rfl, by simp [hc0_2], cutE, V, BL, b2, b6, RD, R, by omega⟩
    omega
  · skip
    have hkn : r2.1.toNat = k := by omega
    refine wp_exit ?_
    simp only [Exit.then, Exit.inBlock, ↓reduceIte, Nat.reduceEqDiff]
    refine hK4 _ _ ?_
    refine wp_seq_k fun K9 hK9 => ?_
    refine cPlain ?_
    refine sv 30 (.func (.func 77) #[] #[.pointer (some ⟨A, 0, none⟩), .pointer (some ⟨O, 0, none⟩)]) .of ?_
    simp only [sZ, sS]
    refine xCall 31 77 #[.pointer (some ⟨A, 0, none⟩), .pointer (some ⟨O, 0, none⟩)] (by kernel_rfl) ?_
    refine (where_any xs _ A O B t.2.1 t.2.2 wl0 RD).mono ?_
    rintro en w12 ⟨he, nd, hd⟩
    subst he
    have e7 : E0 wl0 w12 := (by rw [hd]; exact drewN_e0 _ _)
    have ze7 := e7.size
    replace V := V.e0 e7
    replace BL := BL.e0 e7
    replace b2 := b2.e0 e7
    replace b6 := b6.e0 e7
    have RD : Rd xs (.slice a xs.length c) A O B t.2.1 t.2.2 w12 := RD.e0 e7
    replace R := R.e0 e7
    clear e7
    refine ⟨.tuple #[.int .i64 (t.2.1 : Int), .bool t.2.2], rfl, ?_⟩
    simp only [sZ, sS]
    refine sv 29 (.tuple #[.int .i64 (t.2.1 : Int), .bool t.2.2]) .of ?_
    simp only [sZ, sS]
    refine sv 32 (.int .i64 (t.2.1 : Int)) .of ?_
    simp only [sZ, sS]
    refine sv 33 (.bool t.2.2) .of ?_
    simp only [sZ, sS]
    refine sv 7 (.int .i64 (t.2.1 : Int)) .of ?_
    simp only [sZ, sS]
    refine sv 8 (.bool t.2.2) .of ?_
    simp only [sZ, sS]
    refine wpList_nil ?_
    refine hK9 _ _ ?_
    refine wp_seq_k fun K10 hK10 => ?_
    refine wp_seq_k fun K11 hK11 => ?_
    refine cPlain ?_
    refine sv 34 (.bool t.2.2) .of ?_
    simp only [sZ, sS]
    refine sv 35 (.bool (decide (t.2.2 = false))) (Val.not _ _ rfl t.2.2 _ (by kernel_rfl) eval_not) ?_
    simp only [sZ, sS]
    refine sv 36 (.bool (decide (t.2.2 = false))) .of ?_
    simp only [sZ, sS]
    by_cases g37 : t.2.2 = false
    · skip
      have dg37 : decide (t.2.2 = false) = true := decide_eq_true g37
      simp only [dg37]
      clear dg37
      refine xSkip 37 ?_
      simp only [sZ, sS]
      refine xSkip 38 ?_
      simp only [sZ, sS]
      refine xSkip 39 ?_
      simp only [sZ, sS]
      refine xSkip 40 ?_
      simp only [sZ, sS]
      refine sv 41 (.bool true) .of ?_
      simp only [sZ, sS]
      refine sv 42 (.bool true) .of ?_
      simp only [sZ, sS]
      refine xSkip 43 ?_
      simp only [sZ, sS]
      refine xSkip 44 ?_
      simp only [sZ, sS]
      refine xSkip 45 ?_
      simp only [sZ, sS]
      refine sv 46 (.bool true) .of ?_
      simp only [sZ, sS]
      refine wpList_nil ?_
      refine hK11 _ _ ?_
      refine cT ?_
      refine wp_seq_k fun K12 hK12 => ?_
      refine cPlain ?_
      refine sv 47 (.agg #[.int .i64 0, .slice none 0 0]) .of ?_
      simp only [sZ, sS]
      refine xStoreR 28 (.tmp 2) (.tmp 47) rfl w.heap.size 28 [.int .i64 0, .slice none 0 0] 0 [.int .i64 0, .slice none 0 0] (by kernel_rfl) (by kernel_rfl) b2 (by kernel_rfl) (by simp) rfl [.int .i64 0, .slice none 0 0] rfl ?_
      intro w13 t3
      have zt3 := t3.z
      have V_ := V.ev t3.e (fun i hi => show ¬ (i = w.heap.size) by have := lV i hi; omega)
      have BL_ := BL.ev t3.e (fun i h => show w.heap.size ≤ i by have h : i = w.heap.size := h; omega)
      have b6_ := b6.ev t3.e (show ¬ (w3.heap.size = w.heap.size) by omega)
      have RD : Rd xs (.slice a xs.length c) A O B t.2.1 t.2.2 w13 := RD.ev t3.e (show ¬ (A = w.heap.size) by omega) (show ¬ (O = w.heap.size) by omega) (show ¬ (B = w.heap.size) by omega) (fun i hi => show ¬ (i = w.heap.size) by have := lV i hi; omega)
      have R_ := R.ev t3.e (fun i hi => show ¬ (i = w.heap.size) by have := lR_1 i hi; omega)
      replace V := V_; clear V_
      replace BL := BL_; clear BL_
      replace b6 := b6_; clear b6_
      replace R := R_; clear R_
      replace b2 : Cel w13 w.heap.size 28 [.int .i64 0, .slice none 0 0] := t3.c
      clear t3
      refine sv 3 (.int .i64 180) .of ?_
      simp only [sZ, sS]
      refine wpList_nil ?_
      refine hK12 _ _ ?_
      refine wp_ret ?_
      (try simp only [Exit.then, Exit.inBlock])
      refine bodyPost_ret (rCT rfl _ w.heap.size _ _ (.int .i64 180) (by kernel_rfl) (by kernel_rfl) b2 _ Try.underlying28 rfl (by kernel_rfl)) rfl ?_
      have hQ : readL xs = none := by
        simp only [readL, hr1, hr2]
        rw [hkn, ← hc0_1, if_neg]
        first | (rintro ⟨h1, _⟩; rw [h1] at g37; cases g37; done) | (rintro ⟨_, h2, _⟩; omega) | (rintro ⟨_, _, h3⟩; rw [h3] at c46; cases c46)
      rw [hQ]
      exact ⟨rfl, BL.b⟩
    · skip
      have hok2 : t.2.2 = true := by simpa using g37
      have hle2 := RD.le hok2
      have dg37 : decide (t.2.2 = false) = false := decide_eq_false g37
      simp only [dg37]
      clear dg37
      refine sv 37 (.int .i64 (t.2.1 : Int)) .of ?_
      simp only [sZ, sS]
      refine sv 38 (.slice a xs.length c) .of ?_
      simp only [sZ, sS]
      refine sv 39 (.int .i64 (xs.length : Int)) .of ?_
      simp only [sZ, sS]
      refine sv 40 (.bool (decide (¬ ((t.2.1 : Int) = (xs.length : Int))))) (Val.cmp .neq 3 _ (.tmp 37) (.tmp 39) rfl .i64 (t.2.1 : Int) (xs.length : Int) (by kernel_rfl) (by kernel_rfl) (by simp) _ (by simp [cmpB])) ?_
      simp only [sZ, sS]
      refine sv 41 (.bool (decide (¬ ((t.2.1 : Int) = (xs.length : Int))))) .of ?_
      simp only [sZ, sS]
      refine sv 42 (.bool (decide (¬ ((t.2.1 : Int) = (xs.length : Int))))) .of ?_
      simp only [sZ, sS]
      by_cases g43 : ¬ ((t.2.1 : Int) = (xs.length : Int))
      · skip
        have dg43 : decide (¬ ((t.2.1 : Int) = (xs.length : Int))) = true := decide_eq_true g43
        simp only [dg43]
        clear dg43
        refine xSkip 43 ?_
        simp only [sZ, sS]
        refine xSkip 44 ?_
        simp only [sZ, sS]
        refine xSkip 45 ?_
        simp only [sZ, sS]
        refine sv 46 (.bool true) .of ?_
        simp only [sZ, sS]
        refine wpList_nil ?_
        refine hK11 _ _ ?_
        refine cT ?_
        refine wp_seq_k fun K13 hK13 => ?_
        refine cPlain ?_
        refine sv 47 (.agg #[.int .i64 0, .slice none 0 0]) .of ?_
        simp only [sZ, sS]
        refine xStoreR 28 (.tmp 2) (.tmp 47) rfl w.heap.size 28 [.int .i64 0, .slice none 0 0] 0 [.int .i64 0, .slice none 0 0] (by kernel_rfl) (by kernel_rfl) b2 (by kernel_rfl) (by simp) rfl [.int .i64 0, .slice none 0 0] rfl ?_
        intro w14 t4
        have zt4 := t4.z
        have V_ := V.ev t4.e (fun i hi => show ¬ (i = w.heap.size) by have := lV i hi; omega)
        have BL_ := BL.ev t4.e (fun i h => show w.heap.size ≤ i by have h : i = w.heap.size := h; omega)
        have b6_ := b6.ev t4.e (show ¬ (w3.heap.size = w.heap.size) by omega)
        have RD : Rd xs (.slice a xs.length c) A O B t.2.1 t.2.2 w14 := RD.ev t4.e (show ¬ (A = w.heap.size) by omega) (show ¬ (O = w.heap.size) by omega) (show ¬ (B = w.heap.size) by omega) (fun i hi => show ¬ (i = w.heap.size) by have := lV i hi; omega)
        have R_ := R.ev t4.e (fun i hi => show ¬ (i = w.heap.size) by have := lR_1 i hi; omega)
        replace V := V_; clear V_
        replace BL := BL_; clear BL_
        replace b6 := b6_; clear b6_
        replace R := R_; clear R_
        replace b2 : Cel w14 w.heap.size 28 [.int .i64 0, .slice none 0 0] := t4.c
        clear t4
        refine sv 3 (.int .i64 180) .of ?_
        simp only [sZ, sS]
        refine wpList_nil ?_
        refine hK13 _ _ ?_
        refine wp_ret ?_
        (try simp only [Exit.then, Exit.inBlock])
        refine bodyPost_ret (rCT rfl _ w.heap.size _ _ (.int .i64 180) (by kernel_rfl) (by kernel_rfl) b2 _ Try.underlying28 rfl (by kernel_rfl)) rfl ?_
        have hQ : readL xs = none := by
          simp only [readL, hr1, hr2]
          rw [hkn, ← hc0_1, if_neg]
          first | (rintro ⟨h1, _⟩; rw [h1] at g37; cases g37; done) | (rintro ⟨_, h2, _⟩; omega) | (rintro ⟨_, _, h3⟩; rw [h3] at c46; cases c46)
        rw [hQ]
        exact ⟨rfl, BL.b⟩
      · skip
        have dg43 : decide (¬ ((t.2.1 : Int) = (xs.length : Int))) = false := decide_eq_false g43
        simp only [dg43]
        clear dg43
        refine sv 43 (.agg #[.int .i64 r1.1, mv]) (Val.cel 28 _ rfl 0 2 (by kernel_rfl) b6 _ Try.underlying28 rfl (by kernel_rfl) (by simp) [.int .i64 r1.1, mv] rfl) ?_
        simp only [sZ, sS]
        refine xCall 44 18 #[.agg #[.int .i64 r1.1, mv]] (by kernel_rfl) ?_
        refine (rightlist_any r1.1 mv t.1 w12 R.sl).mono ?_
        rintro en w15 ⟨rfl, hb1⟩
        have e8 := belE0 hb1
        have ze8 := e8.size
        replace V := V.e0 e8
        replace BL := BL.e0 e8
        replace b2 := b2.e0 e8
        replace b6 := b6.e0 e8
        have RD : Rd xs (.slice a xs.length c) A O B t.2.1 t.2.2 w15 := RD.e0 e8
        replace R := R.e0 e8
        clear e8
        refine ⟨.bool (rightL r1.1 t.1), rfl, ?_⟩
        simp only [sZ, sS]
        refine sv 45 (.bool (decide ((rightL r1.1 t.1) = false))) (Val.not _ _ rfl (rightL r1.1 t.1) _ (by kernel_rfl) eval_not) ?_
        simp only [sZ, sS]
        refine sv 46 (.bool (decide ((rightL r1.1 t.1) = false))) .of ?_
        simp only [sZ, sS]
        refine wpList_nil ?_
        refine hK11 _ _ ?_
        refine cDec ((rightL r1.1 t.1) = false) (by kernel_rfl) (fun c46 => ?_) (fun c46 => ?_)
        · skip
          refine wp_seq_k fun K14 hK14 => ?_
          refine cPlain ?_
          refine sv 47 (.agg #[.int .i64 0, .slice none 0 0]) .of ?_
          simp only [sZ, sS]
          refine xStoreR 28 (.tmp 2) (.tmp 47) rfl w.heap.size 28 [.int .i64 0, .slice none 0 0] 0 [.int .i64 0, .slice none 0 0] (by kernel_rfl) (by kernel_rfl) b2 (by kernel_rfl) (by simp) rfl [.int .i64 0, .slice none 0 0] rfl ?_
          intro w16 t5
          have zt5 := t5.z
          have V_ := V.ev t5.e (fun i hi => show ¬ (i = w.heap.size) by have := lV i hi; omega)
          have BL_ := BL.ev t5.e (fun i h => show w.heap.size ≤ i by have h : i = w.heap.size := h; omega)
          have b6_ := b6.ev t5.e (show ¬ (w3.heap.size = w.heap.size) by omega)
          have RD : Rd xs (.slice a xs.length c) A O B t.2.1 t.2.2 w16 := RD.ev t5.e (show ¬ (A = w.heap.size) by omega) (show ¬ (O = w.heap.size) by omega) (show ¬ (B = w.heap.size) by omega) (fun i hi => show ¬ (i = w.heap.size) by have := lV i hi; omega)
          have R_ := R.ev t5.e (fun i hi => show ¬ (i = w.heap.size) by have := lR_1 i hi; omega)
          replace V := V_; clear V_
          replace BL := BL_; clear BL_
          replace b6 := b6_; clear b6_
          replace R := R_; clear R_
          replace b2 : Cel w16 w.heap.size 28 [.int .i64 0, .slice none 0 0] := t5.c
          clear t5
          refine sv 3 (.int .i64 180) .of ?_
          simp only [sZ, sS]
          refine wpList_nil ?_
          refine hK14 _ _ ?_
          refine wp_ret ?_
          (try simp only [Exit.then, Exit.inBlock])
          refine bodyPost_ret (rCT rfl _ w.heap.size _ _ (.int .i64 180) (by kernel_rfl) (by kernel_rfl) b2 _ Try.underlying28 rfl (by kernel_rfl)) rfl ?_
          have hQ : readL xs = none := by
            simp only [readL, hr1, hr2]
            rw [hkn, ← hc0_1, if_neg]
            first | (rintro ⟨h1, _⟩; rw [h1] at g37; cases g37; done) | (rintro ⟨_, h2, _⟩; omega) | (rintro ⟨_, _, h3⟩; rw [h3] at c46; cases c46)
          rw [hQ]
          exact ⟨rfl, BL.b⟩
        · skip
          refine wp_skip ?_
          refine hK10 _ _ ?_
          refine wp_seq_k fun K15 hK15 => ?_
          refine cPlain ?_
          refine sv 48 (.agg #[.int .i64 r1.1, mv]) (Val.cel 28 _ rfl 0 2 (by kernel_rfl) b6 _ Try.underlying28 rfl (by kernel_rfl) (by simp) [.int .i64 r1.1, mv] rfl) ?_
          simp only [sZ, sS]
          refine xStoreR 28 (.tmp 2) (.tmp 48) rfl w.heap.size 28 [.int .i64 0, .slice none 0 0] 0 [.int .i64 r1.1, mv] (by kernel_rfl) (by kernel_rfl) b2 (by kernel_rfl) (by simp) (allC rfl (allC R.sl.oneCell allN)) [.int .i64 r1.1, mv] rfl ?_
          intro w17 t6
          have zt6 := t6.z
          have V_ := V.ev t6.e (fun i hi => show ¬ (i = w.heap.size) by have := lV i hi; omega)
          have BL_ := BL.ev t6.e (fun i h => show w.heap.size ≤ i by have h : i = w.heap.size := h; omega)
          have b6_ := b6.ev t6.e (show ¬ (w3.heap.size = w.heap.size) by omega)
          have RD : Rd xs (.slice a xs.length c) A O B t.2.1 t.2.2 w17 := RD.ev t6.e (show ¬ (A = w.heap.size) by omega) (show ¬ (O = w.heap.size) by omega) (show ¬ (B = w.heap.size) by omega) (fun i hi => show ¬ (i = w.heap.size) by have := lV i hi; omega)
          have R_ := R.ev t6.e (fun i hi => show ¬ (i = w.heap.size) by have := lR_1 i hi; omega)
          replace V := V_; clear V_
          replace BL := BL_; clear BL_
          replace b6 := b6_; clear b6_
          replace R := R_; clear R_
          replace b2 : Cel w17 w.heap.size 28 [.int .i64 r1.1, mv] := t6.c
          clear t6
          refine sv 3 (.int .i64 0) .of ?_
          simp only [sZ, sS]
          refine wpList_nil ?_
          refine hK15 _ _ ?_
          refine wp_ret ?_
          (try simp only [Exit.then, Exit.inBlock])
          refine bodyPost_ret (rCT rfl _ w.heap.size _ _ (.int .i64 0) (by kernel_rfl) (by kernel_rfl) b2 _ Try.underlying28 rfl (by kernel_rfl)) rfl ?_
          have hQ : readL xs = some (r1.1, t.1) := by
            simp only [readL, hr1, hr2]
            rw [hkn, ← hc0_1, if_pos ⟨hok2, by omega, by simpa using c46⟩]
          rw [hQ]
          exact ⟨⟨_, rfl, R.mono (by omega)⟩, BL.b⟩

end Go.Proofs.Ytanggdnmoaflfaa
