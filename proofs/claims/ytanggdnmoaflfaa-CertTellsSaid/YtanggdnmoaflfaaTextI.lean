/-
  Texts under a tag: unlike tags, or unlike parts, have unlike texts; none is the begin of another one. The plain law.
-/
import Derived.Test.YtanggdnmoaflfaaGetL
import Derived.Test.YtanggdnmoaflfaaMacW
namespace Go.Proofs.Ytanggdnmoaflfaa
set_option linter.unusedVariables false
set_option linter.unusedSimpArgs false
theorem uintB_inj {n m : Nat} (hn : n < 2 ^ 64) (hm : m < 2 ^ 64) {r s : List Int} (h : uintB n ++ r = uintB m ++ s) : n = m ∧ r = s := by
  have h1 := (get_uint n hn r).2.2
  have h2 := (get_uint m hm s).2.2
  rw [h] at h1
  have e : n = m := h1.symm.trans h2
  subst e
  exact ⟨rfl, List.append_cancel_left h⟩
end Go.Proofs.Ytanggdnmoaflfaa
