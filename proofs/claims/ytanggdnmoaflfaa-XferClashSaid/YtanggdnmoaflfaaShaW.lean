/-
  sha.Write, sha.Sum, sha.Of.
-/
import Derived.Test.YtanggdnmoaflfaaShaG
namespace Go.Proofs.Ytanggdnmoaflfaa
open Go.RowKit
set_option linter.unusedVariables false
set_option linter.unusedSimpArgs false
set_option maxRecDepth 100000
attribute [local irreducible] wpList Code.wp wpAnyZ
theorem SV.ofCel {w : World} {g : Nat} {t : TypeId} {us : List Value} (h : Cel w g t us) {n : Nat} (hn : us.length = n) (hm : n ≤ maxLen) : SV w (.slice (some ⟨g, 0, none⟩) n n) us := by
  subst hn
  refine .inr ⟨g, 0, _, rfl, Nat.le_refl _, hm, h.lt, fun j hj => ?_⟩
  rw [Nat.zero_add]
  exact h.cell j _ (by rw [List.getD_eq_getElem?_getD, List.getElem?_eq_getElem hj]; rfl)
end Go.Proofs.Ytanggdnmoaflfaa
