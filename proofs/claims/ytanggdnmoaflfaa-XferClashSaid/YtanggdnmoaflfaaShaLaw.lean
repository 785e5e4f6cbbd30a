/-
  A hasher goes on as its bytes do: the plain law.
  No conditions, no program.
-/
import Derived.Test.YtanggdnmoaflfaaShaW
namespace Go.Proofs.Ytanggdnmoaflfaa
set_option linter.unusedVariables false
set_option linter.unusedSimpArgs false

end Go.Proofs.Ytanggdnmoaflfaa
