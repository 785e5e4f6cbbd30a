/-
  A hasher that has had bytes: its calls.
-/
import Derived.Test.YtanggdnmoaflfaaShaLaw
import Derived.Test.YtanggdnmoaflfaaPk1
namespace Go.Proofs.Ytanggdnmoaflfaa
open Go.RowKit
set_option linter.unusedVariables false
set_option linter.unusedSimpArgs false
set_option maxRecDepth 100000

theorem bytes_nn {ns : List Nat} (h : ∀ n ∈ ns, n < 256) : Bytes (nn ns) := by
  intro x hx
  obtain ⟨n, hn, rfl⟩ := List.mem_map.1 hx
  have := h n hn
  show 0 ≤ (n : Int) ∧ (n : Int) < 256
  omega
theorem SL.cast {k : IntKind} {w : World} {v : Value} {xs ys : List Int} (h : SL k w v xs) (he : xs = ys) : SL k w v ys := he ▸ h
end Go.Proofs.Ytanggdnmoaflfaa
