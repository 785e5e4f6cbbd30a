/-
  make([]T, n) of numbers.
  No conditions: lemmas over any program.
-/
import Derived.Test.YteaijjefbadnbaaGrowL
import Derived.Laws.OwnMore
namespace Go.Proofs.Yteaijjefbadnbaa
open Go.RowKit
set_option linter.unusedVariables false
set_option linter.unusedSimpArgs false
set_option maxRecDepth 100000

section
variable {P : Program} {ops : Array Oper} {Q : Exit → Act → World → Prop} {l : List Value} {ds : List Deferred} {w : World} {oi : Oper} {rest : List Oper}
theorem xMake0 (d : Nat) (x y : Operand) (t e : TypeId) (k : IntKind) (bytes : Nat) (ho : oi.op = .makeSlice t x y)
    (ht : P.underlying t = some (.slice e)) (hinfo : (P.info? e).map (fun i => (i.zero, i.size, i.bytes)) = some (some (.int k 0), 1, bytes))
    (c : Nat) (hx : (⟨l.toArray, ds⟩ : Act).eval x = .int .i64 0) (hy : (⟨l.toArray, ds⟩ : Act).eval y = .int .i64 (c : Int)) (hmx : c ≤ maxLen) (h48 : bytes * c ≤ 281474976710656)
    (h : ∀ w', Own e k w.heap.size w' (.slice (some ⟨w.heap.size, 0, none⟩) 0 c) [] → E0 w w' → wpList P ops Q rest ⟨(l.set d (.slice (some ⟨w.heap.size, 0, none⟩) 0 c)).toArray, ds⟩ w')
    (hw : Region.wanted oi (yielded ops l.toArray) = true := by kernel_rfl) (hd : oi.dst = some d := by rfl) : wpList P ops Q (oi :: rest) ⟨l.toArray, ds⟩ w := by
  obtain ⟨i, hi, hz0, hz1, hz2⟩ := info_parts hinfo
  have h63 : (c : Int) ≤ 9223372036854775807 := by unfold maxLen at hmx; omega
  have hb2 : (i.bytes : Int) * (c : Int) ≤ 281474976710656 := by
    have : ((bytes * c : Nat) : Int) ≤ 281474976710656 := by omega
    rw [hz2]; rwa [Int.natCast_mul] at this
  have hr := run_make (P := P) w t e i (.int k 0) ht hi hz0 .i64 .i64 0 c (Int.le_refl _) (by omega) hb2 h63
  simp only [Int.toNat_zero, Int.toNat_natCast, hz1, Nat.mul_one] at hr
  refine wpList_wanted hw fun K hK => ?_
  unfold Oper.wp
  simp only [execOp, ho, hx, hy, Sem.run_bind, hr, Result.andThen_ok, Sem.run_pure]
  rw [Oper.upon_value, put_list' d _ hd]
  refine hK _ _ (h _ ?_ (alloc_e0 _ _))
  exact ⟨rfl, .inr ⟨w.heap.size, c, _, rfl, Nat.le_refl _, heap_alloc_new w _, Nat.zero_le _, hmx, by rw [size_madeCells, Nat.mul_one], by simp [nums]⟩⟩
theorem xMakeN (d : Nat) (x y : Operand) (t e : TypeId) (k : IntKind) (bytes : Nat) (ho : oi.op = .makeSlice t x y)
    (ht : P.underlying t = some (.slice e)) (hinfo : (P.info? e).map (fun i => (i.zero, i.size, i.bytes)) = some (some (.int k 0), 1, bytes))
    (c : Nat) (hx : (⟨l.toArray, ds⟩ : Act).eval x = .int .i64 (c : Int)) (hy : (⟨l.toArray, ds⟩ : Act).eval y = .int .i64 (c : Int)) (hmx : c ≤ maxLen) (h48 : bytes * c ≤ 281474976710656)
    (h : ∀ w', Nw w w' e ((List.replicate c (0 : Int)).map (Value.int k)) → wpList P ops Q rest ⟨(l.set d (.slice (some ⟨w.heap.size, 0, none⟩) c c)).toArray, ds⟩ w')
    (hw : Region.wanted oi (yielded ops l.toArray) = true := by kernel_rfl) (hd : oi.dst = some d := by rfl) : wpList P ops Q (oi :: rest) ⟨l.toArray, ds⟩ w := by
  obtain ⟨i, hi, hz0, hz1, hz2⟩ := info_parts hinfo
  have h63 : (c : Int) ≤ 9223372036854775807 := by unfold maxLen at hmx; omega
  have hb2 : (i.bytes : Int) * (c : Int) ≤ 281474976710656 := by
    have : ((bytes * c : Nat) : Int) ≤ 281474976710656 := by omega
    rw [hz2]; rwa [Int.natCast_mul] at this
  have hr := run_make (P := P) w t e i (.int k 0) ht hi hz0 .i64 .i64 c c (by omega) (Int.le_refl _) hb2 h63
  simp only [Int.toNat_natCast, hz1, Nat.mul_one] at hr
  have hm : madeCells (Value.int k 0).cells c = ((List.replicate c (0 : Int)).map (Value.int k)).toArray := by
    have := toList_madeCells_one (.int k 0) c
    rw [show (Value.int k 0).cells = #[.int k 0] from rfl]
    apply Array.toList_inj.1
    rw [this]; simp
  rw [hm] at hr
  refine wpList_wanted hw fun K hK => ?_
  unfold Oper.wp
  simp only [execOp, ho, hx, hy, Sem.run_bind, hr, Result.andThen_ok, Sem.run_pure]
  rw [Oper.upon_value, put_list' d _ hd]
  exact hK _ _ (h _ (Nw.of w e _))
end
end Go.Proofs.Yteaijjefbadnbaa
