/-
  cert.Read.
-/
import Derived.Test.YtanggdnmoaflfaaCertR2
import Derived.Test.YtanggdnmoaflfaaPk1
namespace Go.Proofs.Ytanggdnmoaflfaa
open Go.RowKit
set_option linter.unusedVariables false
set_option linter.unusedSimpArgs false
set_option maxRecDepth 100000
attribute [local irreducible] wpList Code.wp wpAnyZ
/-- A certificate's cells. -/
def certL (key : Int) (root : List Int) (height : Int) : List Value := Value.int .i64 key :: (root.map (Value.int .u8) ++ [Value.int .i64 height])
theorem certL_len (key : Int) (root : List Int) (height : Int) (h : root.length = 32) : (certL key root height).length = 34 := by simp [certL, h]
theorem certL_set (key : Int) (root : List Int) (height h' : Int) (h : root.length = 32) : (certL key root height).set 33 (.int .i64 h') = certL key root h' := by
  simp [certL, h]
theorem certL_over (key : Int) (root ys : List Int) (height : Int) (h : root.length = 32) (hy : ys.length = 32) : overV (certL key root height) 1 (ys.map (Value.int .u8)) = certL key ys height := by
  simp [overV, certL, h, hy]
theorem certL_whole (key : Int) (root ys : List Int) (height k' h' : Int) (h : root.length = 32) (hy : ys.length = 32) : overV (certL key root height) 0 (certL k' ys h') = certL k' ys h' := by
  simp [overV, certL, h, hy]
theorem certL_seg (key : Int) (root : List Int) (height : Int) (h : root.length = 32) : segV 0 34 (certL key root height) = certL key root height := by
  unfold segV
  rw [List.drop_zero, List.take_of_length_le (by rw [certL_len _ _ _ h]; omega)]
theorem certL_one (key : Int) (root : List Int) (height : Int) : (certL key root height).all (·.oneCell') = true := by
  simp only [certL, List.all_cons, List.all_append, List.all_map, Bool.and_eq_true, List.all_eq_true]
  exact ⟨rfl, fun _ _ => rfl, by simp [Value.oneCell']⟩
theorem Two.ev {A O : Nat} {w w' : World} (h : Two A O w w') : Ev (fun i => i = A ∨ i = O) w w' := ⟨h.os, h.tape, h.output, Nat.le_of_eq h.size.symm, fun i _ hn => h.block i (fun e => hn (.inl e)) (fun e => hn (.inr e))⟩
theorem Rd.ev {X : Nat → Prop} {xs : List Int} {v : Value} {A O B at_ : Nat} {ok : Bool} {w w' : World} (h : Rd xs v A O B at_ ok w) (e : Ev X w w') (hA : ¬ X A) (hO : ¬ X O) (hB : ¬ X B) (hv : ∀ i, v.ownBlock = some i → ¬ X i) : Rd xs v A O B at_ ok w' :=
  ⟨(e.block _ (Array.getElem?_eq_some_iff.1 h.ha).1 hA).trans h.ha, (e.block _ (Array.getElem?_eq_some_iff.1 h.ho).1 hO).trans h.ho, (e.block _ (Array.getElem?_eq_some_iff.1 h.hb).1 hB).trans h.hb, h.sl.ev e hv, h.le, h.bytes, h.own, h.dAO, h.dAB, h.dOB⟩
theorem Rd.e0 {xs : List Int} {v : Value} {A O B at_ : Nat} {ok : Bool} {w w' : World} (h : Rd xs v A O B at_ ok w) (e : E0 w w') : Rd xs v A O B at_ ok w' := h.ev e id id id fun _ _ => id
theorem Rd.ltA {xs : List Int} {v : Value} {A O B at_ : Nat} {ok : Bool} {w : World} (h : Rd xs v A O B at_ ok w) : A < w.heap.size ∧ O < w.heap.size ∧ B < w.heap.size := ⟨(Array.getElem?_eq_some_iff.1 h.ha).1, (Array.getElem?_eq_some_iff.1 h.ho).1, (Array.getElem?_eq_some_iff.1 h.hb).1⟩
theorem z32 : (List.replicate 32 (0 : Int)).length = 32 := by simp
/-- The certificate of bytes. -/
def readC (xs : List Int) : Option (Int × List Int × Int) :=
  let r1 := nextF xs 1048576 1 (okF xs 1)
  let r2 := nextF xs 8 r1.2.1 r1.2.2
  if r2.2.2 = true ∧ xs.length = r2.2.1 + 32 ∧ rightC r1.1 r2.1 = true then some (r1.1, xs.drop r2.2.1, r2.1) else none
def ReadPost (w : World) (r : Option (Int × List Int × Int)) (e : Ending) (w' : World) : Prop :=
  (match r with
    | some (k, root, h) => e = .returned (.tuple #[.agg (certCells k root h), .int .i64 0])
    | none => e = .returned (.tuple #[.agg (certCells 0 (List.replicate 32 0) 0), .int .i64 180])) ∧ Below w.heap.size w w'

set_option maxHeartbeats 1600000 in
theorem read_any (v : Value) (xs : List Int) (hb : Bytes xs) (w : World) (V : SL .u8 w v xs) :
    Calls Try.prog 22 #[v] w (ReadPost w (readC xs)) := by
  obtain ⟨a, c, rfl, hm⟩ := V.len
  have lV := V.bd
  have BL := Bl.refl w
  unfold maxLen at hm
  go_enter Try.func22, Try.ntmps22
  refine wp_seq_k fun K1 hK1 => ?_
  refine cPlain ?_
  refine xAlloc 2 25 (certL 0 (List.replicate 32 0) 0) rfl (by kernel_rfl) ?_
  intro w1 n1
  have zn1 := n1.z
  have b2 := n1.c
  replace V := V.e0 n1.e
  replace BL := BL.e0 n1.e
  simp only [sZ, sS]
  refine sv 3 (.int .i64 0) .of ?_
  simp only [sZ, sS]
  refine wpList_nil ?_
  refine hK1 _ _ ?_
  refine wp_seq_k fun K2 hK2 => ?_
  refine cPlain ?_
  refine sv 10 (.slice a xs.length c) .of ?_
  simp only [sZ, sS]
  refine xCall 11 53 #[.slice a xs.length c, .int .u8 1] (by kernel_rfl) ?_
  refine (reader_any _ xs hb 1 w1 V).mono ?_
  rintro en w2 ⟨A, O, B, rfl, RD, hb1, hA, hO, hB, hA2, hO2⟩
  have e1 := belE0 hb1
  have ze1 := e1.size
  replace V := V.e0 e1
  replace BL := BL.e0 e1
  replace b2 := b2.e0 e1
  clear e1
  have hABO := RD.ltA
  refine ⟨.tuple #[.func (.func 75) #[] #[.pointer (some ⟨O, 0, none⟩), .pointer (some ⟨B, 0, none⟩), .pointer (some ⟨A, 0, none⟩)], .func (.func 77) #[] #[.pointer (some ⟨A, 0, none⟩), .pointer (some ⟨O, 0, none⟩)]], rfl, ?_⟩
  simp only [sZ, sS]
  refine sv 9 (.tuple #[.func (.func 75) #[] #[.pointer (some ⟨O, 0, none⟩), .pointer (some ⟨B, 0, none⟩), .pointer (some ⟨A, 0, none⟩)], .func (.func 77) #[] #[.pointer (some ⟨A, 0, none⟩), .pointer (some ⟨O, 0, none⟩)]]) .of ?_
  simp only [sZ, sS]
  refine sv 12 (.func (.func 75) #[] #[.pointer (some ⟨O, 0, none⟩), .pointer (some ⟨B, 0, none⟩), .pointer (some ⟨A, 0, none⟩)]) .of ?_
  simp only [sZ, sS]
  refine sv 13 (.func (.func 77) #[] #[.pointer (some ⟨A, 0, none⟩), .pointer (some ⟨O, 0, none⟩)]) .of ?_
  simp only [sZ, sS]
  refine sv 4 (.func (.func 75) #[] #[.pointer (some ⟨O, 0, none⟩), .pointer (some ⟨B, 0, none⟩), .pointer (some ⟨A, 0, none⟩)]) .of ?_
  simp only [sZ, sS]
  refine sv 5 (.func (.func 77) #[] #[.pointer (some ⟨A, 0, none⟩), .pointer (some ⟨O, 0, none⟩)]) .of ?_
  simp only [sZ, sS]
  refine wpList_nil ?_
  refine hK2 _ _ ?_
  refine wp_seq_k fun K3 hK3 => ?_
  refine cPlain ?_
  refine sv 14 (.func (.func 75) #[] #[.pointer (some ⟨O, 0, none⟩), .pointer (some ⟨B, 0, none⟩), .pointer (some ⟨A, 0, none⟩)]) .of ?_
  simp only [sZ, sS]
  refine xCall 15 75 #[.int .i64 1048576, .pointer (some ⟨O, 0, none⟩), .pointer (some ⟨B, 0, none⟩), .pointer (some ⟨A, 0, none⟩)] (by kernel_rfl) ?_
  refine (next_any xs _ A O B 1 (okF xs 1) 1048576 (by omega) w2 RD).mono ?_
  rintro en w3 ⟨he, hrd, htwo⟩
  subst he
  clear RD
  generalize hr1 : nextF xs 1048576 1 (okF xs 1) = r1 at *
  have e2 := Two.ev htwo
  have ze2 := e2.size
  have V_ := V.ev e2 (fun i hi h => by have := lV i hi; rcases h with h | h <;> omega)
  have BL_ := BL.ev e2 (fun i h => by rcases h with h | h <;> omega)
  have b2_ := b2.ev e2 (fun h => by rcases h with h | h <;> omega)
  replace V := V_; clear V_
  replace BL := BL_; clear BL_
  replace b2 := b2_; clear b2_
  clear e2
  have RD : Rd xs (.slice a xs.length c) A O B r1.2.1 r1.2.2 w3 := hrd
  refine ⟨.int .i64 r1.1, rfl, ?_⟩
  simp only [sZ, sS]
  refine sv 16 (.agg (certL r1.1 (List.replicate 32 0) 0).toArray) .of ?_
  simp only [sZ, sS]
  refine xAlloc 6 25 (certL 0 (List.replicate 32 0) 0) rfl (by kernel_rfl) ?_
  intro w4 n2
  have zn2 := n2.z
  have b6 := n2.c
  replace V := V.e0 n2.e
  replace BL := BL.e0 n2.e
  replace b2 := b2.e0 n2.e
  have RD : Rd xs (.slice a xs.length c) A O B r1.2.1 r1.2.2 w4 := RD.e0 n2.e
  simp only [sZ, sS]
  refine xStoreR 25 _ _ rfl w3.heap.size 25 (certL 0 (List.replicate 32 0) 0) 0 (certL r1.1 (List.replicate 32 0) 0) (by kernel_rfl) (by kernel_rfl) b6 (by kernel_rfl) (by rw [certL_len _ _ _ z32, certL_len _ _ _ z32]; omega) (certL_one _ _ _) (certL r1.1 (List.replicate 32 0) 0) (certL_whole _ _ _ _ _ _ z32 z32) ?_
  intro w5 t1
  have zt1 := t1.z
  have V_ := V.ev t1.e (fun i hi => show ¬ (i = w3.heap.size) by have := lV i hi; omega)
  have BL_ := BL.ev t1.e (fun i h => show w.heap.size ≤ i by have h : i = w3.heap.size := h; omega)
  have b2_ := b2.ev t1.e (show ¬ (w.heap.size = w3.heap.size) by omega)
  have RD : Rd xs (.slice a xs.length c) A O B r1.2.1 r1.2.2 w5 := RD.ev t1.e (show ¬ (A = w3.heap.size) by omega) (show ¬ (O = w3.heap.size) by omega) (show ¬ (B = w3.heap.size) by omega) (fun i hi => show ¬ (i = w3.heap.size) by have := lV i hi; omega)
  replace V := V_; clear V_
  replace BL := BL_; clear BL_
  replace b2 := b2_; clear b2_
  replace b6 : Cel w5 w3.heap.size 25 (certL r1.1 (List.replicate 32 0) 0) := t1.c
  clear t1
  refine wpList_nil ?_
  refine hK3 _ _ ?_
  refine wp_seq_k fun K4 hK4 => ?_
  refine cPlain ?_
  refine sv 17 (.func (.func 75) #[] #[.pointer (some ⟨O, 0, none⟩), .pointer (some ⟨B, 0, none⟩), .pointer (some ⟨A, 0, none⟩)]) .of ?_
  simp only [sZ, sS]
  refine xCall 18 75 #[.int .i64 8, .pointer (some ⟨O, 0, none⟩), .pointer (some ⟨B, 0, none⟩), .pointer (some ⟨A, 0, none⟩)] (by kernel_rfl) ?_
  refine (next_any xs _ A O B r1.2.1 r1.2.2 8 (by omega) w5 RD).mono ?_
  rintro en w6 ⟨he, hrd, htwo⟩
  subst he
  clear RD
  generalize hr2 : nextF xs 8 r1.2.1 r1.2.2 = r2 at *
  have e3 := Two.ev htwo
  have ze3 := e3.size
  have V_ := V.ev e3 (fun i hi h => by have := lV i hi; rcases h with h | h <;> omega)
  have BL_ := BL.ev e3 (fun i h => by rcases h with h | h <;> omega)
  have b2_ := b2.ev e3 (fun h => by rcases h with h | h <;> omega)
  have b6_ := b6.ev e3 (fun h => by rcases h with h | h <;> omega)
  replace V := V_; clear V_
  replace BL := BL_; clear BL_
  replace b2 := b2_; clear b2_
  replace b6 := b6_; clear b6_
  clear e3
  have RD : Rd xs (.slice a xs.length c) A O B r2.2.1 r2.2.2 w6 := hrd
  refine ⟨.int .i64 r2.1, rfl, ?_⟩
  simp only [sZ, sS]
  refine sv 19 (.pointer (some ⟨w3.heap.size, 33, none⟩)) .of ?_
  simp only [sZ, sS]
  refine xStore 3 _ _ rfl w3.heap.size 25 (certL r1.1 (List.replicate 32 0) 0) 33 (.int .i64 r2.1) (by kernel_rfl) (by kernel_rfl) b6 (by kernel_rfl) (by rw [certL_len _ _ _ z32]; omega) rfl (certL r1.1 (List.replicate 32 0) r2.1) (certL_set _ _ _ _ z32) ?_
  intro w7 t2
  have zt2 := t2.z
  have V_ := V.ev t2.e (fun i hi => show ¬ (i = w3.heap.size) by have := lV i hi; omega)
  have BL_ := BL.ev t2.e (fun i h => show w.heap.size ≤ i by have h : i = w3.heap.size := h; omega)
  have b2_ := b2.ev t2.e (show ¬ (w.heap.size = w3.heap.size) by omega)
  have RD : Rd xs (.slice a xs.length c) A O B r2.2.1 r2.2.2 w7 := RD.ev t2.e (show ¬ (A = w3.heap.size) by omega) (show ¬ (O = w3.heap.size) by omega) (show ¬ (B = w3.heap.size) by omega) (fun i hi => show ¬ (i = w3.heap.size) by have := lV i hi; omega)
  replace V := V_; clear V_
  replace BL := BL_; clear BL_
  replace b2 := b2_; clear b2_
  replace b6 : Cel w7 w3.heap.size 25 (certL r1.1 (List.replicate 32 0) r2.1) := t2.c
  clear t2
  refine wpList_nil ?_
  refine hK4 _ _ ?_
  refine wp_seq_k fun K5 hK5 => ?_
  refine cPlain ?_
  refine sv 21 (.func (.func 77) #[] #[.pointer (some ⟨A, 0, none⟩), .pointer (some ⟨O, 0, none⟩)]) .of ?_
  simp only [sZ, sS]
  refine xCall 22 77 #[.pointer (some ⟨A, 0, none⟩), .pointer (some ⟨O, 0, none⟩)] (by kernel_rfl) ?_
  refine (where_any xs _ A O B r2.2.1 r2.2.2 w7 RD).mono ?_
  rintro en w8 ⟨he, nd, hd⟩
  subst he
  have e4 : E0 w7 w8 := (by rw [hd]; exact drewN_e0 _ _)
  have ze4 := e4.size
  replace V := V.e0 e4
  replace BL := BL.e0 e4
  replace b2 := b2.e0 e4
  replace b6 := b6.e0 e4
  have RD : Rd xs (.slice a xs.length c) A O B r2.2.1 r2.2.2 w8 := RD.e0 e4
  clear e4
  refine ⟨.tuple #[.int .i64 (r2.2.1 : Int), .bool r2.2.2], rfl, ?_⟩
  simp only [sZ, sS]
  refine sv 20 (.tuple #[.int .i64 (r2.2.1 : Int), .bool r2.2.2]) .of ?_
  simp only [sZ, sS]
  refine sv 23 (.int .i64 (r2.2.1 : Int)) .of ?_
  simp only [sZ, sS]
  refine sv 24 (.bool r2.2.2) .of ?_
  simp only [sZ, sS]
  refine sv 7 (.int .i64 (r2.2.1 : Int)) .of ?_
  simp only [sZ, sS]
  refine sv 8 (.bool r2.2.2) .of ?_
  simp only [sZ, sS]
  refine wpList_nil ?_
  refine hK5 _ _ ?_
  refine wp_seq_k fun K6 hK6 => ?_
  refine wp_seq_k fun K7 hK7 => ?_
  refine cPlain ?_
  refine sv 25 (.bool r2.2.2) .of ?_
  simp only [sZ, sS]
  refine sv 26 (.bool (decide (r2.2.2 = false))) (Val.not _ _ rfl r2.2.2 _ (by kernel_rfl) eval_not) ?_
  simp only [sZ, sS]
  refine sv 27 (.bool (decide (r2.2.2 = false))) .of ?_
  simp only [sZ, sS]
  by_cases g28 : r2.2.2 = false
  · skip
    have dg28 : decide (r2.2.2 = false) = true := decide_eq_true g28
    simp only [dg28]
    clear dg28
    refine xSkip 28 ?_
    simp only [sZ, sS]
    refine xSkip 29 ?_
    simp only [sZ, sS]
    refine xSkip 30 ?_
    simp only [sZ, sS]
    refine xSkip 31 ?_
    simp only [sZ, sS]
    refine xSkip 32 ?_
    simp only [sZ, sS]
    refine sv 33 (.bool true) .of ?_
    simp only [sZ, sS]
    refine sv 34 (.bool true) .of ?_
    simp only [sZ, sS]
    refine xSkip 35 ?_
    simp only [sZ, sS]
    refine xSkip 36 ?_
    simp only [sZ, sS]
    refine xSkip 37 ?_
    simp only [sZ, sS]
    refine sv 38 (.bool true) .of ?_
    simp only [sZ, sS]
    refine wpList_nil ?_
    refine hK7 _ _ ?_
    refine cT ?_
    refine wp_seq_k fun K8 hK8 => ?_
    refine cPlain ?_
    refine sv 39 (.agg (certL 0 (List.replicate 32 0) 0).toArray) .of ?_
    simp only [sZ, sS]
    refine xStoreR 25 _ _ rfl w.heap.size 25 (certL 0 (List.replicate 32 0) 0) 0 (certL 0 (List.replicate 32 0) 0) (by kernel_rfl) (by kernel_rfl) b2 (by kernel_rfl) (by rw [certL_len _ _ _ z32]; omega) (certL_one _ _ _) (certL 0 (List.replicate 32 0) 0) (certL_whole _ _ _ _ _ _ z32 z32) ?_
    intro w9 t3
    have zt3 := t3.z
    have V_ := V.ev t3.e (fun i hi => show ¬ (i = w.heap.size) by have := lV i hi; omega)
    have BL_ := BL.ev t3.e (fun i h => show w.heap.size ≤ i by have h : i = w.heap.size := h; omega)
    have b6_ := b6.ev t3.e (show ¬ (w3.heap.size = w.heap.size) by omega)
    have RD : Rd xs (.slice a xs.length c) A O B r2.2.1 r2.2.2 w9 := RD.ev t3.e (show ¬ (A = w.heap.size) by omega) (show ¬ (O = w.heap.size) by omega) (show ¬ (B = w.heap.size) by omega) (fun i hi => show ¬ (i = w.heap.size) by have := lV i hi; omega)
    replace V := V_; clear V_
    replace BL := BL_; clear BL_
    replace b6 := b6_; clear b6_
    replace b2 : Cel w9 w.heap.size 25 (certL 0 (List.replicate 32 0) 0) := t3.c
    clear t3
    refine sv 3 (.int .i64 180) .of ?_
    simp only [sZ, sS]
    refine wpList_nil ?_
    refine hK8 _ _ ?_
    refine wp_ret ?_
    (try simp only [Exit.then, Exit.inBlock])
    refine bodyPost_ret (rCT rfl _ w.heap.size _ _ (.int .i64 180) (by kernel_rfl) (by kernel_rfl) b2 _ Try.underlying25 rfl (by first | (rw [certL_len _ _ _ z32]; kernel_rfl) | (rw [certL_len _ _ _ hroot]; kernel_rfl))) rfl ?_
    have hQ : readC xs = none := by
      simp only [readC, hr1, hr2]
      rw [if_neg]
      first | (rintro ⟨h1, _⟩; rw [h1] at g28; cases g28; done) | (rintro ⟨_, h2, _⟩; omega) | (rintro ⟨_, _, h3⟩; rw [h3] at c38; cases c38)
    rw [hQ]
    exact ⟨rfl, BL.b⟩
  · skip
    have hok2 : r2.2.2 = true := by simpa using g28
    have hle2 := RD.le hok2
    have dg28 : decide (r2.2.2 = false) = false := decide_eq_false g28
    simp only [dg28]
    clear dg28
    refine sv 28 (.slice a xs.length c) .of ?_
    simp only [sZ, sS]
    refine sv 29 (.int .i64 (xs.length : Int)) .of ?_
    simp only [sZ, sS]
    refine sv 30 (.int .i64 (r2.2.1 : Int)) .of ?_
    simp only [sZ, sS]
    refine sv 31 (.int .i64 ((xs.length : Int) - (r2.2.1 : Int))) (Val.sub 3 _ (.tmp 29) (.tmp 30) rfl (xs.length : Int) (r2.2.1 : Int) (by kernel_rfl) (by kernel_rfl) (by omega)) ?_
    simp only [sZ, sS]
    refine sv 32 (.bool (decide (¬ (((xs.length : Int) - (r2.2.1 : Int)) = 32)))) (Val.cmp .neq 3 _ (.tmp 31) _ rfl .i64 ((xs.length : Int) - (r2.2.1 : Int)) 32 (by kernel_rfl) (by kernel_rfl) (by simp) _ (by simp [cmpB])) ?_
    simp only [sZ, sS]
    refine sv 33 (.bool (decide (¬ (((xs.length : Int) - (r2.2.1 : Int)) = 32)))) .of ?_
    simp only [sZ, sS]
    refine sv 34 (.bool (decide (¬ (((xs.length : Int) - (r2.2.1 : Int)) = 32)))) .of ?_
    simp only [sZ, sS]
    by_cases g35 : ¬ (((xs.length : Int) - (r2.2.1 : Int)) = 32)
    · skip
      have dg35 : decide (¬ (((xs.length : Int) - (r2.2.1 : Int)) = 32)) = true := decide_eq_true g35
      simp only [dg35]
      clear dg35
      refine xSkip 35 ?_
      simp only [sZ, sS]
      refine xSkip 36 ?_
      simp only [sZ, sS]
      refine xSkip 37 ?_
      simp only [sZ, sS]
      refine sv 38 (.bool true) .of ?_
      simp only [sZ, sS]
      refine wpList_nil ?_
      refine hK7 _ _ ?_
      refine cT ?_
      refine wp_seq_k fun K9 hK9 => ?_
      refine cPlain ?_
      refine sv 39 (.agg (certL 0 (List.replicate 32 0) 0).toArray) .of ?_
      simp only [sZ, sS]
      refine xStoreR 25 _ _ rfl w.heap.size 25 (certL 0 (List.replicate 32 0) 0) 0 (certL 0 (List.replicate 32 0) 0) (by kernel_rfl) (by kernel_rfl) b2 (by kernel_rfl) (by rw [certL_len _ _ _ z32]; omega) (certL_one _ _ _) (certL 0 (List.replicate 32 0) 0) (certL_whole _ _ _ _ _ _ z32 z32) ?_
      intro w10 t4
      have zt4 := t4.z
      have V_ := V.ev t4.e (fun i hi => show ¬ (i = w.heap.size) by have := lV i hi; omega)
      have BL_ := BL.ev t4.e (fun i h => show w.heap.size ≤ i by have h : i = w.heap.size := h; omega)
      have b6_ := b6.ev t4.e (show ¬ (w3.heap.size = w.heap.size) by omega)
      have RD : Rd xs (.slice a xs.length c) A O B r2.2.1 r2.2.2 w10 := RD.ev t4.e (show ¬ (A = w.heap.size) by omega) (show ¬ (O = w.heap.size) by omega) (show ¬ (B = w.heap.size) by omega) (fun i hi => show ¬ (i = w.heap.size) by have := lV i hi; omega)
      replace V := V_; clear V_
      replace BL := BL_; clear BL_
      replace b6 := b6_; clear b6_
      replace b2 : Cel w10 w.heap.size 25 (certL 0 (List.replicate 32 0) 0) := t4.c
      clear t4
      refine sv 3 (.int .i64 180) .of ?_
      simp only [sZ, sS]
      refine wpList_nil ?_
      refine hK9 _ _ ?_
      refine wp_ret ?_
      (try simp only [Exit.then, Exit.inBlock])
      refine bodyPost_ret (rCT rfl _ w.heap.size _ _ (.int .i64 180) (by kernel_rfl) (by kernel_rfl) b2 _ Try.underlying25 rfl (by first | (rw [certL_len _ _ _ z32]; kernel_rfl) | (rw [certL_len _ _ _ hroot]; kernel_rfl))) rfl ?_
      have hQ : readC xs = none := by
        simp only [readC, hr1, hr2]
        rw [if_neg]
        first | (rintro ⟨h1, _⟩; rw [h1] at g28; cases g28; done) | (rintro ⟨_, h2, _⟩; omega) | (rintro ⟨_, _, h3⟩; rw [h3] at c38; cases c38)
      rw [hQ]
      exact ⟨rfl, BL.b⟩
    · skip
      have hroot : (xs.drop r2.2.1).length = 32 := by rw [List.length_drop]; omega
      have dg35 : decide (¬ (((xs.length : Int) - (r2.2.1 : Int)) = 32)) = false := decide_eq_false g35
      simp only [dg35]
      clear dg35
      refine sv 35 (.agg (certL r1.1 (List.replicate 32 0) r2.1).toArray) (Val.cel 25 _ rfl 0 34 (by kernel_rfl) b6 _ Try.underlying25 rfl (by kernel_rfl) (by rw [certL_len _ _ _ z32]; omega) _ (certL_seg _ _ _ z32)) ?_
      simp only [sZ, sS]
      refine xCall 36 16 #[.agg (certL r1.1 (List.replicate 32 0) r2.1).toArray] (by kernel_rfl) ?_
      refine (certright_any r1.1 r2.1 (List.replicate 32 0) z32 w8).mono ?_
      rintro en w11 ⟨rfl, hb1⟩
      have e5 := belE0 hb1
      have ze5 := e5.size
      replace V := V.e0 e5
      replace BL := BL.e0 e5
      replace b2 := b2.e0 e5
      replace b6 := b6.e0 e5
      have RD : Rd xs (.slice a xs.length c) A O B r2.2.1 r2.2.2 w11 := RD.e0 e5
      clear e5
      refine ⟨.bool (rightC r1.1 r2.1), rfl, ?_⟩
      simp only [sZ, sS]
      refine sv 37 (.bool (decide ((rightC r1.1 r2.1) = false))) (Val.not _ _ rfl (rightC r1.1 r2.1) _ (by kernel_rfl) eval_not) ?_
      simp only [sZ, sS]
      refine sv 38 (.bool (decide ((rightC r1.1 r2.1) = false))) .of ?_
      simp only [sZ, sS]
      refine wpList_nil ?_
      refine hK7 _ _ ?_
      refine cDec ((rightC r1.1 r2.1) = false) (by kernel_rfl) (fun c38 => ?_) (fun c38 => ?_)
      · skip
        refine wp_seq_k fun K10 hK10 => ?_
        refine cPlain ?_
        refine sv 39 (.agg (certL 0 (List.replicate 32 0) 0).toArray) .of ?_
        simp only [sZ, sS]
        refine xStoreR 25 _ _ rfl w.heap.size 25 (certL 0 (List.replicate 32 0) 0) 0 (certL 0 (List.replicate 32 0) 0) (by kernel_rfl) (by kernel_rfl) b2 (by kernel_rfl) (by rw [certL_len _ _ _ z32]; omega) (certL_one _ _ _) (certL 0 (List.replicate 32 0) 0) (certL_whole _ _ _ _ _ _ z32 z32) ?_
        intro w12 t5
        have zt5 := t5.z
        have V_ := V.ev t5.e (fun i hi => show ¬ (i = w.heap.size) by have := lV i hi; omega)
        have BL_ := BL.ev t5.e (fun i h => show w.heap.size ≤ i by have h : i = w.heap.size := h; omega)
        have b6_ := b6.ev t5.e (show ¬ (w3.heap.size = w.heap.size) by omega)
        have RD : Rd xs (.slice a xs.length c) A O B r2.2.1 r2.2.2 w12 := RD.ev t5.e (show ¬ (A = w.heap.size) by omega) (show ¬ (O = w.heap.size) by omega) (show ¬ (B = w.heap.size) by omega) (fun i hi => show ¬ (i = w.heap.size) by have := lV i hi; omega)
        replace V := V_; clear V_
        replace BL := BL_; clear BL_
        replace b6 := b6_; clear b6_
        replace b2 : Cel w12 w.heap.size 25 (certL 0 (List.replicate 32 0) 0) := t5.c
        clear t5
        refine sv 3 (.int .i64 180) .of ?_
        simp only [sZ, sS]
        refine wpList_nil ?_
        refine hK10 _ _ ?_
        refine wp_ret ?_
        (try simp only [Exit.then, Exit.inBlock])
        refine bodyPost_ret (rCT rfl _ w.heap.size _ _ (.int .i64 180) (by kernel_rfl) (by kernel_rfl) b2 _ Try.underlying25 rfl (by first | (rw [certL_len _ _ _ z32]; kernel_rfl) | (rw [certL_len _ _ _ hroot]; kernel_rfl))) rfl ?_
        have hQ : readC xs = none := by
          simp only [readC, hr1, hr2]
          rw [if_neg]
          first | (rintro ⟨h1, _⟩; rw [h1] at g28; cases g28; done) | (rintro ⟨_, h2, _⟩; omega) | (rintro ⟨_, _, h3⟩; rw [h3] at c38; cases c38)
        rw [hQ]
        exact ⟨rfl, BL.b⟩
      · skip
        refine wp_skip ?_
        refine hK6 _ _ ?_
        refine wp_seq_k fun K11 hK11 => ?_
        have e6 := drew_e0 w11
        refine zg (fun w_ => SL .u8 w_ (.slice a xs.length c) xs ∧ Bl w.heap.size w w_ ∧ Cel w_ w.heap.size 25 (certL 0 (List.replicate 32 0) 0) ∧ Rd xs (.slice a xs.length c) A O B r2.2.1 r2.2.2 w_ ∧ w11.heap.size ≤ w_.heap.size) (fun w_ => SL .u8 w_ (.slice a xs.length c) xs ∧ Bl w.heap.size w w_ ∧ Cel w_ w.heap.size 25 (certL 0 (List.replicate 32 0) 0) ∧ Cel w_ w3.heap.size 25 (certL r1.1 (List.replicate 32 0) r2.1) ∧ Rd xs (.slice a xs.length c) A O B r2.2.1 r2.2.2 w_ ∧ w11.heap.size ≤ w_.heap.size) 100000 6 ⟨V.e0 e6, BL.e0 e6, b2.e0 e6, b6.e0 e6, RD.e0 e6, Nat.le_refl _⟩ ?_
        clear V BL b2 b6 RD
        clear e6
        intro w13
        rintro ⟨V, BL, b2, b6, RD, z1⟩
        refine zv 0 40 (.pointer (some ⟨w3.heap.size, 1, none⟩)) (fun _ _ => .of) ⟨V, BL, b2, RD, by omega⟩ ?_
        simp only [sZ, sS]
        refine zv 1 41 (.slice (some ⟨w3.heap.size, 1, none⟩) 32 32) (fun _ _ => .of) ⟨V, BL, b2, RD, by omega⟩ ?_
        simp only [sZ, sS]
        refine zv 2 42 (.slice a xs.length c) (fun _ _ => .of) ⟨V, BL, b2, RD, by omega⟩ ?_
        simp only [sZ, sS]
        refine zv 3 43 (.int .i64 (r2.2.1 : Int)) (fun _ _ => .of) ⟨V, BL, b2, RD, by omega⟩ ?_
        simp only [sZ, sS]
        refine zv 4 44 (sliceV (.slice a xs.length c) r2.2.1 xs.length) (fun _ ⟨V, BL, b2, RD, z1⟩ => Val.slc 29 (.tmp 42) (some (.tmp 43)) none rfl (.slice a xs.length c) (by kernel_rfl) V r2.2.1 xs.length (.inl (by kernel_rfl)) (.inr ⟨rfl, rfl⟩) hle2 (Nat.le_refl _) Try.underlying29 (by kernel_rfl)) ⟨V, BL, b2, RD, by omega⟩ ?_
        simp only [sZ, sS]
        refine zo1 5 rfl ?_
        refine xCopy 45 (.tmp 41) (.tmp 44) 29 29 5 rfl Try.underlying29 (by kernel_rfl) w3.heap.size 1 32 32 25 (certL r1.1 (List.replicate 32 0) r2.1) .u8 (sliceV (.slice a xs.length c) r2.2.1 xs.length) ((xs.drop r2.2.1).take (xs.length - r2.2.1)) (by kernel_rfl) (by kernel_rfl) b6 (V.slice r2.2.1 xs.length hle2 (Nat.le_refl _)) 32 (by rw [List.length_take, List.length_drop]; omega) (by rw [certL_len _ _ _ z32]; omega) (certL r1.1 (xs.drop r2.2.1) r2.1) (by rw [show ((xs.drop r2.2.1).take (xs.length - r2.2.1)).take 32 = xs.drop r2.2.1 by rw [List.take_take, List.take_of_length_le (by omega)]]; exact certL_over _ _ _ _ z32 hroot) ?_
        intro w14 t6
        have zt6 := t6.z
        have V_ := V.ev t6.e (fun i hi => show ¬ (i = w3.heap.size) by have := lV i hi; omega)
        have BL_ := BL.ev t6.e (fun i h => show w.heap.size ≤ i by have h : i = w3.heap.size := h; omega)
        have b2_ := b2.ev t6.e (show ¬ (w.heap.size = w3.heap.size) by omega)
        have RD : Rd xs (.slice a xs.length c) A O B r2.2.1 r2.2.2 w14 := RD.ev t6.e (show ¬ (A = w3.heap.size) by omega) (show ¬ (O = w3.heap.size) by omega) (show ¬ (B = w3.heap.size) by omega) (fun i hi => show ¬ (i = w3.heap.size) by have := lV i hi; omega)
        replace V := V_; clear V_
        replace BL := BL_; clear BL_
        replace b2 := b2_; clear b2_
        replace b6 : Cel w14 w3.heap.size 25 (certL r1.1 (xs.drop r2.2.1) r2.1) := t6.c
        clear t6
        refine ze 5 ⟨V, BL, b2, RD, by omega⟩ ?_
        simp only [sZ, sS]
        refine zd (by kernel_rfl) ?_ _
        refine hK11 _ _ ?_
        refine wp_seq_k fun K12 hK12 => ?_
        refine cPlain ?_
        refine sv 46 (.agg (certL r1.1 (xs.drop r2.2.1) r2.1).toArray) (Val.cel 25 _ rfl 0 34 (by kernel_rfl) b6 _ Try.underlying25 rfl (by kernel_rfl) (by rw [certL_len _ _ _ hroot]; omega) _ (certL_seg _ _ _ hroot)) ?_
        simp only [sZ, sS]
        refine xStoreR 25 _ _ rfl w.heap.size 25 (certL 0 (List.replicate 32 0) 0) 0 (certL r1.1 (xs.drop r2.2.1) r2.1) (by kernel_rfl) (by kernel_rfl) b2 (by rw [certL_len _ _ _ hroot]; kernel_rfl) (by rw [certL_len _ _ _ z32, certL_len _ _ _ hroot]; omega) (certL_one _ _ _) (certL r1.1 (xs.drop r2.2.1) r2.1) (certL_whole _ _ _ _ _ _ z32 hroot) ?_
        intro w15 t7
        have zt7 := t7.z
        have V_ := V.ev t7.e (fun i hi => show ¬ (i = w.heap.size) by have := lV i hi; omega)
        have BL_ := BL.ev t7.e (fun i h => show w.heap.size ≤ i by have h : i = w.heap.size := h; omega)
        have b6_ := b6.ev t7.e (show ¬ (w3.heap.size = w.heap.size) by omega)
        have RD : Rd xs (.slice a xs.length c) A O B r2.2.1 r2.2.2 w15 := RD.ev t7.e (show ¬ (A = w.heap.size) by omega) (show ¬ (O = w.heap.size) by omega) (show ¬ (B = w.heap.size) by omega) (fun i hi => show ¬ (i = w.heap.size) by have := lV i hi; omega)
        replace V := V_; clear V_
        replace BL := BL_; clear BL_
        replace b6 := b6_; clear b6_
        replace b2 : Cel w15 w.heap.size 25 (certL r1.1 (xs.drop r2.2.1) r2.1) := t7.c
        clear t7
        refine sv 3 (.int .i64 0) .of ?_
        simp only [sZ, sS]
        refine wpList_nil ?_
        refine hK12 _ _ ?_
        refine wp_ret ?_
        (try simp only [Exit.then, Exit.inBlock])
        refine bodyPost_ret (rCT rfl _ w.heap.size _ _ (.int .i64 0) (by kernel_rfl) (by kernel_rfl) b2 _ Try.underlying25 rfl (by first | (rw [certL_len _ _ _ z32]; kernel_rfl) | (rw [certL_len _ _ _ hroot]; kernel_rfl))) rfl ?_
        have hQ : readC xs = some (r1.1, xs.drop r2.2.1, r2.1) := by
          simp only [readC, hr1, hr2]
          rw [if_pos ⟨hok2, by omega, by simpa using c38⟩]
        rw [hQ]
        exact ⟨rfl, BL.b⟩

end Go.Proofs.Ytanggdnmoaflfaa
