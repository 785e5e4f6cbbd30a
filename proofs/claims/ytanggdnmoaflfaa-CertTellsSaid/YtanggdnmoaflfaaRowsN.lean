/-
  Rows of 32 bytes, one behind the other: how they are laid and read.
-/
import Derived.Test.YtanggdnmoaflfaaMacW
import Derived.Test.YtanggdnmoaflfaaPk1
namespace Go.Proofs.Ytanggdnmoaflfaa
open Go.RowKit
set_option linter.unusedVariables false
set_option linter.unusedSimpArgs false
set_option maxRecDepth 100000

section
variable {P : Program} {w : World}
end
end Go.Proofs.Ytanggdnmoaflfaa
