/-
  Unsigned words as handed in, told by naturals.
  No conditions: lemmas over any program.
-/
import Derived.Test.YteaijjefbadnbaaOpenG
import Derived.Test.YteaijjefbadnbaaNatV
namespace Go.Proofs.Yteaijjefbadnbaa
open Go.RowKit
set_option linter.unusedVariables false
set_option linter.unusedSimpArgs false
theorem wf_nonneg {k : IntKind} (hk : k.signed = false) {x : Int} (h : (Lit.int k x).wf = true) : 0 ≤ x := by
  cases k <;> first | (cases hk; done) | (simp [Lit.wf, IntKind.min, IntKind.signed] at h; omega)
theorem nn_of {xs : List Int} (h : ∀ x ∈ xs, 0 ≤ x) : ∃ ns, xs = nn ns ∧ ns.length = xs.length := ⟨xs.map Int.toNat, (nn_toNat h).symm, by simp⟩
theorem RInts.nn {k : IntKind} {n : Nat} {w : World} {cs : List Value} (hk : k.signed = false) (h : RInts k n w cs) : ∃ ns : List Nat, ns.length = n ∧ Value.agg cs.toArray = .agg (cellsOf k (nn ns)) := by
  obtain ⟨xs, rfl, hl, hw⟩ := h
  obtain ⟨ns, rfl, hn⟩ := nn_of fun x hx => wf_nonneg hk (hw x hx)
  exact ⟨ns, by omega, rfl⟩
end Go.Proofs.Yteaijjefbadnbaa
