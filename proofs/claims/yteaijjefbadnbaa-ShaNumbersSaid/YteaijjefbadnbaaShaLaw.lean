/-
  A hasher goes on as its bytes do: the plain law.
  No conditions, no program.
-/
import Derived.Test.YteaijjefbadnbaaShaW
namespace Go.Proofs.Yteaijjefbadnbaa
set_option linter.unusedVariables false
set_option linter.unusedSimpArgs false

attribute [local irreducible] blockN
end Go.Proofs.Yteaijjefbadnbaa
