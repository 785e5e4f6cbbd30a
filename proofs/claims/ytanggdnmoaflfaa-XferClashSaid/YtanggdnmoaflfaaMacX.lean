/-
  bytes.Blob, mac.Text, mac.Tagged, law03.few, low.CopyLists of parts that come in.
-/
import Derived.Test.YtanggdnmoaflfaaSlxL
import Derived.Test.YtanggdnmoaflfaaMacW
import Derived.Test.YtanggdnmoaflfaaCopyB
namespace Go.Proofs.Ytanggdnmoaflfaa
open Go.RowKit
set_option linter.unusedVariables false
set_option linter.unusedSimpArgs false
set_option maxRecDepth 100000
attribute [local irreducible] wpList Code.wp wpAnyZ
abbrev LowX (base : Nat) (w : World) (u : Value) (y : List Int) : Prop := (SL .u8 w u y ∧ ∀ g, u.ownBlock = some g → g < base) ∨ ((∃ a, u = .slice (some a) 0 0) ∧ y = [])
theorem SLxs.low {B base : Nat} {w : World} {us : List Value} {ys : List (List Int)} (h : SLxs B w us ys) (hB : B ≤ base) (j : Nat) (hj : j < ys.length) : LowX base w (us.getD j undef) (ys.getD j []) :=
  (h.2 j (by rw [h.1]; exact hj)).imp (fun k => ⟨k.1, fun g hg => Nat.lt_of_lt_of_le (k.2 g hg) hB⟩) id

end Go.Proofs.Ytanggdnmoaflfaa
