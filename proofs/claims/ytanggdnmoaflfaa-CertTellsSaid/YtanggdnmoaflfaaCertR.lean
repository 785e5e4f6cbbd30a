/-
  cert.reader's closures: numbers read one behind the other.
-/
import Derived.Test.YtanggdnmoaflfaaGetU
import Derived.Test.YtanggdnmoaflfaaCertC
namespace Go.Proofs.Ytanggdnmoaflfaa
open Go.RowKit
set_option linter.unusedVariables false
set_option linter.unusedSimpArgs false
set_option maxRecDepth 100000

/-- Two blocks changed at most. -/
structure Two (a o : Nat) (w w' : World) : Prop where
  os : w'.os = w.os
  tape : w'.tape = w.tape
  output : w'.output = w.output
  size : w'.heap.size = w.heap.size
  block : ∀ i, i ≠ a → i ≠ o → w'.heap[i]? = w.heap[i]?
theorem Two.refl (a o : Nat) (w : World) : Two a o w w := ⟨rfl, rfl, rfl, rfl, fun _ _ _ => rfl⟩
theorem Two.trans {a o : Nat} {x y z : World} (h : Two a o x y) (k : Two a o y z) : Two a o x z := ⟨k.os.trans h.os, k.tape.trans h.tape, k.output.trans h.output, k.size.trans h.size, fun i h1 h2 => (k.block i h1 h2).trans (h.block i h1 h2)⟩
theorem Two.setA (a o : Nat) (w : World) (v : Value) : Two a o w (w.setCell ⟨a, 0, none⟩ v) := ⟨rfl, rfl, rfl, by simp [World.setCell], fun i h1 _ => heap_setCell_other w _ i v h1⟩
theorem Two.setO (a o : Nat) (w : World) (v : Value) : Two a o w (w.setCell ⟨o, 0, none⟩ v) := ⟨rfl, rfl, rfl, by simp [World.setCell], fun i _ h2 => heap_setCell_other w _ i v h2⟩
theorem Two.below {a o B : Nat} {w w' : World} (h : Two a o w w') (ha : B ≤ a) (ho : B ≤ o) : Below B w w' := ⟨h.os, h.tape, h.output, Nat.le_of_eq h.size.symm, fun i hi => h.block i (by omega) (by omega)⟩

/-- The reader's state: where it is, whether all was right. -/
structure Rd (xs : List Int) (v : Value) (A O B : Nat) (at_ : Nat) (ok : Bool) (w : World) : Prop where
  ha : w.heap[A]? = some (.cells #[.int .i64 (at_ : Int)] 3 (0, 0))
  ho : w.heap[O]? = some (.cells #[.bool ok] 4 (0, 0))
  hb : w.heap[B]? = some (.cells #[v] 29 (0, 0))
  sl : SL .u8 w v xs
  le : ok = true → at_ ≤ xs.length
  bytes : Bytes xs
  own : ∀ g, v.ownBlock = some g → g ≠ A ∧ g ≠ O
  dAO : A ≠ O
  dAB : A ≠ B
  dOB : O ≠ B
/-- What one number more is. -/
def nextF (xs : List Int) (most : Int) (at_ : Nat) (ok : Bool) : Int × Nat × Bool :=
  if ok = true ∧ getE (xs.drop at_) = 0 ∧ (getN (xs.drop at_) : Int) ≤ most then ((getN (xs.drop at_) : Int), at_ + getK (xs.drop at_), true) else (0, at_, false)
def NextPost (xs : List Int) (v : Value) (A O B : Nat) (w : World) (r : Int × Nat × Bool) (e : Ending) (w' : World) : Prop :=
  e = .returned (.int .i64 r.1) ∧ Rd xs v A O B r.2.1 r.2.2 w' ∧ Two A O w w'
theorem SL.two {k : IntKind} {w w' : World} {v : Value} {xs : List Int} {a o : Nat} (h : SL k w v xs) (ht : Two a o w w') (hn : ∀ g, v.ownBlock = some g → g ≠ a ∧ g ≠ o) : SL k w' v xs := by
  rcases h with h | ⟨b, o', c, hv, h1, h2, h3, h4⟩
  · exact .inl h
  · subst hv
    have hb := ht.block b (hn b rfl).1 (hn b rfl).2
    exact .inr ⟨b, o', c, rfl, h1, h2, by rw [ht.size]; exact h3, fun j hj => (World.cell?_of_block (a := ⟨b, o' + j, none⟩) hb).trans (h4 j hj)⟩
theorem Rd.setO {xs : List Int} {v : Value} {A O B at_ : Nat} {ok : Bool} {w : World} (h : Rd xs v A O B at_ ok w) (b : Bool) (hle : b = true → at_ ≤ xs.length) : Rd xs v A O B at_ b (w.setCell ⟨O, 0, none⟩ (.bool b)) := by
  have ht := Two.setO A O w (.bool b)
  refine ⟨(heap_setCell_other w _ _ _ h.dAO).trans h.ha, ?_, (heap_setCell_other w _ _ _ h.dOB.symm).trans h.hb, h.sl.two ht h.own, hle, h.bytes, h.own, h.dAO, h.dAB, h.dOB⟩
  rw [heap_setCell_same w O 0 _ _ _ h.ho]; rfl
theorem Rd.setA {xs : List Int} {v : Value} {A O B at_ : Nat} {ok : Bool} {w : World} (h : Rd xs v A O B at_ ok w) (to : Nat) (hle : ok = true → to ≤ xs.length) : Rd xs v A O B to ok (w.setCell ⟨A, 0, none⟩ (.int .i64 (to : Int))) := by
  have ht := Two.setA A O w (.int .i64 (to : Int))
  refine ⟨?_, (heap_setCell_other w _ _ _ h.dAO.symm).trans h.ho, (heap_setCell_other w _ _ _ h.dAB.symm).trans h.hb, h.sl.two ht h.own, hle, h.bytes, h.own, h.dAO, h.dAB, h.dOB⟩
  rw [heap_setCell_same w A 0 _ _ _ h.ha]; rfl

set_option maxHeartbeats 800000 in
theorem next_any (xs : List Int) (v : Value) (A O B at_ : Nat) (ok : Bool) (most : Int) (hm : 0 ≤ most ∧ most ≤ 9223372036854775807) (w : World) (h : Rd xs v A O B at_ ok w) :
    Calls Try.prog 75 #[.int .i64 most, .pointer (some ⟨O, 0, none⟩), .pointer (some ⟨B, 0, none⟩), .pointer (some ⟨A, 0, none⟩)] w (NextPost xs v A O B w (nextF xs most at_ ok)) := by
  have cO : w.cell? ⟨O, 0, none⟩ = some (.bool ok) := by rw [Joins.cell_of_block h.ho]; rfl
  have cA : w.cell? ⟨A, 0, none⟩ = some (.int .i64 (at_ : Int)) := by rw [Joins.cell_of_block h.ha]; rfl
  have cB : w.cell? ⟨B, 0, none⟩ = some v := by rw [Joins.cell_of_block h.hb]; rfl
  have fO : w.frozen? ⟨O, 0, none⟩ = false := Joins.unfrozen_of_block h.ho 0
  have fA : w.frozen? ⟨A, 0, none⟩ = false := Joins.unfrozen_of_block h.ha 0
  cases ok
  · have hq : nextF xs most at_ false = (0, at_, false) := by simp [nextF]
    rw [hq]
    go_enter Try.func75, Try.ntmps75
    go_wp2
    go_ret
    exact ⟨rfl, h, Two.refl _ _ _⟩
  · have hle := h.le rfl
    go_enter Try.func75, Try.ntmps75
    go_wp2_with (go_at_call 76; refine Stop.at_ ?_)
    refine Stop.go ((getuint_any v xs at_ w h.sl hle h.bytes).mono ?_)
    rintro e w2 ⟨rfl, hp⟩
    have fO2 : ∀ v : Value, (w.setCell ⟨O, 0, none⟩ v).cell? ⟨O, 0, none⟩ = some v := fun v => by
      rw [Joins.cell_of_block (heap_setCell_same w O 0 _ _ v h.ho)]; rfl
    have fA2 : ∀ v : Value, (w.setCell ⟨O, 0, none⟩ v).frozen? ⟨A, 0, none⟩ = false := fun v => Joins.unfrozen_of_block ((heap_setCell_other w _ _ _ h.dAO).trans h.ha) 0
    rcases hp with ⟨hE, rfl⟩ | ⟨hE, rfl⟩
    · have hq : nextF xs most at_ true = (0, at_, false) := by rw [nextF, if_neg (fun x => hE x.2.1)]
      have hE' : (getE (xs.drop at_) == 0) = false := beq_eq_false_iff_ne.2 hE
      have s1 := h.setO false (fun x => by cases x)
      have t1 := Two.setO A O w (.bool false)
      have c1 := fO2 (.bool false)
      have HQ := Lib.hid hq
      clear hq hE hle fO2 fA2 cA cB fA
      generalize getE (xs.drop at_) = E at *
      go_wp2_with (with_reducible refine Stop.slot (d := 26) ?_)
      generalize w.setCell ⟨O, 0, none⟩ (.bool false) = w2 at *
      refine Stop.go ?_
      go_wp2
      go_ret
      rw [HQ.out]
      exact ⟨rfl, s1, t1⟩
    · have hK := put_get (xs.drop at_) (fun x hx => h.bytes x (List.mem_of_mem_drop hx)) hE
      have hto : at_ + getK (xs.drop at_) ≤ xs.length := by have := hK.2.2.1; rw [List.length_drop] at this; omega
      have hwm : IntKind.u64.wrap most = most := by simp [IntKind.wrap, IntKind.bits, IntKind.signed]; omega
      have hN := hK.2.1
      have hq : nextF xs most at_ true = if (getN (xs.drop at_) : Int) ≤ most then ((getN (xs.drop at_) : Int), at_ + getK (xs.drop at_), true) else (0, at_, false) := by
        rw [nextF]
        by_cases hm : (getN (xs.drop at_) : Int) ≤ most
        · rw [if_pos ⟨rfl, hE, hm⟩, if_pos hm]
        · rw [if_neg (fun x => hm x.2.2), if_neg hm]
      clear hK hE
      generalize hnn : getN (xs.drop at_) = n at *
      generalize hkk : at_ + getK (xs.drop at_) = to at *
      clear hnn hkk
      by_cases hm2 : (n : Int) ≤ most
      · rw [if_pos hm2] at hq
        have HQ := Lib.hid hq
        have s1 := h.setO true (fun _ => hle)
        have s2 := s1.setA to (fun _ => hto)
        have t1 := Two.setO A O w (.bool true)
        have t2 := t1.trans (Two.setA A O (w.setCell ⟨O, 0, none⟩ (.bool true)) (.int .i64 (to : Int)))
        have c1 := fO2 (.bool true)
        have f1 := fA2 (.bool true)
        have c2 : (w.setCell ⟨O, 0, none⟩ (.bool true)).cell? ⟨A, 0, none⟩ = some (.int .i64 (at_ : Int)) := by rw [Joins.cell_of_block s1.ha]; rfl
        have HM : Hid ((0:Int) = 0 ∧ IntKind.u64.wrap most = most) := Lib.hid ⟨rfl, hwm⟩
        clear hq hle fO2 fA2 cA cB fA s1 t1 hto hwm h
        go_wp2_with (with_reducible refine Stop.slot (d := 26) ?_)
        refine Stop.go ?_
        go_wp2
        go_ret
        rw [HQ.out]
        refine ⟨?_, s2, t2⟩
        refine congrArg Ending.returned (congrArg (Value.int IntKind.i64) ?_)
        rfl
      · rw [if_neg hm2] at hq
        have HQ := Lib.hid hq
        have s1 := h.setO false (fun x => by cases x)
        have t1 := Two.setO A O w (.bool false)
        have c1 := fO2 (.bool false)
        have HM : Hid ((0:Int) = 0 ∧ IntKind.u64.wrap most = most) := Lib.hid ⟨rfl, hwm⟩
        have hdec : decide ((n : Int) ≤ most) = false := decide_eq_false hm2
        clear hq hle fO2 fA2 cA cB fA hto hwm h
        go_wp2_with (with_reducible refine Stop.slot (d := 26) ?_)
        generalize w.setCell ⟨O, 0, none⟩ (.bool false) = w2 at *
        refine Stop.go ?_
        go_wp2
        go_ret
        rw [HQ.out]
        exact ⟨rfl, s1, t1⟩
end Go.Proofs.Ytanggdnmoaflfaa
