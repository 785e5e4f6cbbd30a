/-
  law24.Same, law24.cut.
-/
import Derived.Test.YtanggdnmoaflfaaXferE
import Derived.Test.YtanggdnmoaflfaaXferP
import Derived.Test.YtanggdnmoaflfaaPk1
namespace Go.Proofs.Ytanggdnmoaflfaa
open Go.RowKit
set_option linter.unusedVariables false
set_option linter.unusedSimpArgs false
set_option maxRecDepth 100000
attribute [local irreducible] wpList Code.wp wpAnyZ
theorem kt_span' : KT Try.prog 70 ([.i64] ++ ([.i64] ++ [])) 2 :=
  KT.struct Try.underlying70 (by kernel_rfl) (by kernel_rfl) (KFields.cons rfl (by kernel_rfl) rfl (KT.int Try.underlying3) (KFields.cons rfl (by kernel_rfl) rfl (KT.int Try.underlying3) (KFields.nil _)))
theorem kt_span : KT Try.prog 70 [.i64, .i64] 2 := kt_span'
def wfS (s : Int × Int) : Prop := (Lit.int .i64 s.1).wf = true ∧ (Lit.int .i64 s.2).wf = true
theorem wfS_of {s : Int × Int} (h1 : -9223372036854775808 ≤ s.1 ∧ s.1 ≤ 9223372036854775807) (h2 : -9223372036854775808 ≤ s.2 ∧ s.2 ≤ 9223372036854775807) : wfS s := by
  constructor
  · simp [Lit.wf, IntKind.min, IntKind.max, IntKind.bits, IntKind.signed]; omega
  · simp [Lit.wf, IntKind.min, IntKind.max, IntKind.bits, IntKind.signed]; omega
theorem wfS_K {s : Int × Int} (h : wfS s) : wfK [.i64, .i64] [s.1, s.2] := wfK_cons h.1 (wfK_cons h.2 wfK_nil)
theorem wfS_can {n : Int} (hn : n ≤ 1000000) : ∀ {h : List (Int × Int)} {lo : Int}, -1 ≤ lo → canonS n lo h → ∀ s ∈ h, wfS s := fun hl hc s hs => by
  have := canonS_all hc s hs
  exact wfS_of (by omega) (by omega)
/-- two spans compared -/
theorem Val.eqS {a : Act} {o : Oper} {w : World} (b : BinOp) (ty : TypeId) (x y : Operand) (ho : o.op = .binOp b 70 x y ty) (p q : Int × Int) (hx : a.eval x = .agg #[.int .i64 p.1, .int .i64 p.2]) (hy : a.eval y = .agg #[.int .i64 q.1, .int .i64 q.2]) (hp : wfS p) (hq : wfS q)
    (hb : b = .eql ∨ b = .neq) (r : Bool) (hr : (if b = .eql then decide (p = q) else !decide (p = q)) = r) : Val Try.prog a o (.bool r) w := by
  refine Val.eqK b 70 ty x y ho kt_span 5 (by kernel_rfl) (by decide) Try.underlying70 rfl (by kernel_rfl) (by kernel_rfl) [p.1, p.2] [q.1, q.2] hx hy rfl rfl (wfS_K hp) (wfS_K hq) hb r ?_
  have e : decide ([p.1, p.2] = [q.1, q.2]) = decide (p = q) := by
    refine decide_eq_decide.2 ⟨fun h => ?_, fun h => by rw [h]⟩
    simp only [List.cons.injEq, and_true] at h
    exact Prod.ext h.1 h.2
  rw [e]; exact hr
end Go.Proofs.Ytanggdnmoaflfaa
