/-
  Arrays of whole numbers, compared whole.
  No conditions: lemmas over any program.
-/
import Derived.Test.YteaijjefbadnbaaArr
import Derived.Test.YteaijjefbadnbaaNatV
namespace Go.Proofs.Yteaijjefbadnbaa
open Go.RowKit
set_option linter.unusedVariables false
set_option linter.unusedSimpArgs false
section
variable {P : Program}
theorem Val.eqA {a : Act} {o : Oper} {w : World} (b : BinOp) (t ty : TypeId) (x y : Operand) (ho : o.op = .binOp b t x y ty) {e : TypeId} {n : Nat} {k : IntKind} (hu : P.underlying t = some (.array n e)) (he : P.underlying e = some (.int k)) (hc : P.cellsOf e = 1) (hgt : P.eqGuardType P.depth t = false)
    (xs ys : List Int) (hx : a.eval x = .agg (cellsOf k xs)) (hy : a.eval y = .agg (cellsOf k ys)) (hn : xs.length = n) (hm : ys.length = n) (hb : b = .eql ∨ b = .neq) (r : Bool) (hr : (if b = .eql then decide (xs = ys) else !decide (xs = ys)) = r) : Val P a o (.bool r) w := by
  have hq : (Op.equal t (.agg (cellsOf k xs)) (.agg (cellsOf k ys))).run P w = .ok (decide (xs = ys)) w := by
    unfold Op.equal
    exact eq_array 9998 hu he hc xs ys hn hm w
  subst hr
  refine Val.bin b t ty x y ho _ _ hx hy ?_ ?_
  · rcases hb with rfl | rfl <;> simp [eqGuard, hgt]
  · rcases hb with rfl | rfl <;> simp [binOp, hq]
end
end Go.Proofs.Yteaijjefbadnbaa
