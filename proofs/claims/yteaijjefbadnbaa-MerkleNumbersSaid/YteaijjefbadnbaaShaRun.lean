/-
  A hasher that has had bytes: its calls.
-/
import Derived.Test.YteaijjefbadnbaaShaLaw
import Derived.Test.YteaijjefbadnbaaPk2
namespace Go.Proofs.Yteaijjefbadnbaa
open Go.RowKit
set_option linter.unusedVariables false
set_option linter.unusedSimpArgs false
set_option maxRecDepth 100000

theorem SL.cast {k : IntKind} {w : World} {v : Value} {xs ys : List Int} (h : SL k w v xs) (he : xs = ys) : SL k w v ys := he ▸ h
theorem ofN_32 (tab bs : List Nat) : (ofN tab bs).length = 32 := sumN_len _ _
end Go.Proofs.Yteaijjefbadnbaa
