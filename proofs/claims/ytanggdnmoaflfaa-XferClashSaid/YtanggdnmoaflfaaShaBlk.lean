/-
  sha.Block.
-/
import Derived.Test.YtanggdnmoaflfaaShaB
namespace Go.Proofs.Ytanggdnmoaflfaa
open Go.RowKit
set_option linter.unusedVariables false
set_option linter.unusedSimpArgs false
set_option maxRecDepth 100000
attribute [local irreducible] wpList Code.wp wpAnyZ
/-- a round -/
def stepX (V : List Nat) (kw w : Nat) : Nat := ((((((((V.getD 7 0) + ror3 (V.getD 4 0) 6 11 25) % 4294967296) + (((((V.getD 4 0) &&& (V.getD 5 0)) % 4294967296) ^^^ (((((4294967296 - 1) ^^^ (V.getD 4 0)) % 4294967296) &&& (V.getD 6 0)) % 4294967296)) % 4294967296)) % 4294967296) + kw) % 4294967296) + w) % 4294967296
def stepY (V : List Nat) : Nat := (ror3 (V.getD 0 0) 2 13 22 + (((((((V.getD 0 0) &&& (V.getD 1 0)) % 4294967296) ^^^ (((V.getD 0 0) &&& (V.getD 2 0)) % 4294967296)) % 4294967296) ^^^ (((V.getD 1 0) &&& (V.getD 2 0)) % 4294967296)) % 4294967296)) % 4294967296
def stepC (kw w : Nat) (V : List Nat) : List Nat := [(stepX V kw w + stepY V) % 4294967296, V.getD 0 0, V.getD 1 0, V.getD 2 0, (V.getD 3 0 + stepX V kw w) % 4294967296, V.getD 4 0, V.getD 5 0, V.getD 6 0]
def rounds (tab W s : List Nat) : Nat → List Nat
  | 0 => s
  | k + 1 => stepC (tab.getD (8 + k) 0) (W.getD k 0) (rounds tab W s k)
end Go.Proofs.Ytanggdnmoaflfaa
