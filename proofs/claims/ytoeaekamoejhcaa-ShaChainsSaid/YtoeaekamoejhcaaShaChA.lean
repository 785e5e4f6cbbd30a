/-
  ShaChains, as the frame asks it.
-/
import Derived.Test.YtoeaekamoejhcaaShaCh
import Derived.Test.YtoeaekamoejhcaaNnOf
namespace Go.Proofs.Ytoeaekamoejhcaa
open Go.RowKit
theorem shaChains_any (w : World) (x0 : List Value) (R0 : RInts .u32 72 w x0) (x1 : List Value) (R1 : RInts .u8 64 w x1) (x2 : List Value) (R2 : RInts .u8 64 w x2) (v : Value) (xs : List Int) (sl : SL .u8 w v xs) (hb : ∀ x ∈ xs, 0 ≤ x ∧ x < 256) :
    Calls Try.prog 13 #[.agg x0.toArray, .agg x1.toArray, .agg x2.toArray, v] w fun e w' => e = .returned (.bool true) ∧ Below w.heap.size w w' := by
  obtain ⟨tab, ht, e0⟩ := R0.nn rfl
  obtain ⟨xa, ha, e1⟩ := R1.nn rfl
  obtain ⟨xb, hxb, e2⟩ := R2.nn rfl
  obtain ⟨ns, rfl, _⟩ := nn_of fun x hx => (hb x hx).1
  rw [e0, e1, e2]
  exact shaChains_walk tab xa xb ns v w ht ha hxb sl
end Go.Proofs.Ytoeaekamoejhcaa
