/-
  sha: turns, a block.
-/
import Derived.Test.YtanggdnmoaflfaaPk1
import Derived.Test.YtanggdnmoaflfaaProg
namespace Go.Proofs.Ytanggdnmoaflfaa
open Go.RowKit
set_option linter.unusedVariables false
set_option linter.unusedSimpArgs false
set_option maxRecDepth 100000
attribute [local irreducible] wpList Code.wp wpAnyZ
/-- turned right -/
def rotR (x a : Nat) : Nat := (((x <<< (32 - a)) % 4294967296) ||| (x >>> a)) % 4294967296
def ror3 (x a b c : Nat) : Nat := (((rotR x a ^^^ rotR x b) % 4294967296) ^^^ rotR x c) % 4294967296
end Go.Proofs.Ytanggdnmoaflfaa
