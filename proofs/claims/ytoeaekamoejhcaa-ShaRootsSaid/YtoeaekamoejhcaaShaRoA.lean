/-
  ShaRoots, as the frame asks it.
-/
import Derived.Test.YtoeaekamoejhcaaShaRo
import Derived.Test.YtoeaekamoejhcaaNnOf
namespace Go.Proofs.Ytoeaekamoejhcaa
open Go.RowKit
theorem shaRoots_any (w : World) (x : Int) (h : 0 ≤ x ∧ x ≤ 255) :
    Calls Try.prog 12 #[.int .u8 x] w fun e w' => e = .returned (.bool true) ∧ Below w.heap.size w w' := by
  obtain ⟨n, rfl⟩ : ∃ n : Nat, x = (n : Int) := ⟨x.toNat, by omega⟩
  exact shaRoots_walk n (by omega) w
end Go.Proofs.Ytoeaekamoejhcaa
