/-
  sha: hashers.
-/
import Derived.Test.YtanggdnmoaflfaaShaGrow
import Derived.Test.YtanggdnmoaflfaaShaBlk
namespace Go.Proofs.Ytanggdnmoaflfaa
open Go.RowKit
set_option linter.unusedVariables false
set_option linter.unusedSimpArgs false
set_option maxRecDepth 100000
attribute [local irreducible] wpList Code.wp wpAnyZ
end Go.Proofs.Ytanggdnmoaflfaa
