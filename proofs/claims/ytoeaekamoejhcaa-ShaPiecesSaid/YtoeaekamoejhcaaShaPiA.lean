/-
  ShaPieces, as the frame asks it.
-/
import Derived.Test.YtoeaekamoejhcaaShaPi
import Derived.Test.YtoeaekamoejhcaaShaTwA
namespace Go.Proofs.Ytoeaekamoejhcaa
open Go.RowKit
theorem shaPieces_any (w : World) (x0 : List Value) (R0 : RInts .u32 72 w x0) (v1 : Value) (x1 : List Int) (s1 : SL .u8 w v1 x1) (b1 : ∀ x ∈ x1, 0 ≤ x ∧ x < 256) (v2 : Value) (x2 : List Int) (s2 : SL .u16 w v2 x2) (b2 : ∀ x ∈ x2, 0 ≤ x ∧ x < 65536) :
    Calls Try.prog 9 #[.agg x0.toArray, v1, v2] w fun e w' => e = .returned (.bool true) ∧ Below w.heap.size w w' := by
  obtain ⟨tab, ht, e0⟩ := R0.nn rfl
  obtain ⟨n1, rfl, h1⟩ := nn_row8 b1
  obtain ⟨n2, rfl, h2⟩ := nn_row b2
  rw [e0]
  exact shaPieces_walk tab n1 n2 v1 v2 w ht h1 s1 (fun n hn => by have := h2 n hn; omega) s2
end Go.Proofs.Ytoeaekamoejhcaa
