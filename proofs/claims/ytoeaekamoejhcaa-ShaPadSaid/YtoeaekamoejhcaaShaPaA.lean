/-
  ShaPad, as the frame asks it.
-/
import Derived.Test.YtoeaekamoejhcaaShaPa
import Derived.Test.YtoeaekamoejhcaaNnOf
namespace Go.Proofs.Ytoeaekamoejhcaa
open Go.RowKit
theorem nn_row8' {xs : List Int} (h : ∀ x ∈ xs, 0 ≤ x ∧ x < 256) : ∃ ns, xs = nn ns ∧ ∀ n ∈ ns, n < 256 := by
  obtain ⟨ns, rfl, _⟩ := nn_of fun x hx => (h x hx).1
  exact ⟨ns, rfl, fun n hn => by have := (h _ (List.mem_map.2 ⟨n, hn, rfl⟩)).2; omega⟩
theorem shaPad_any (w : World) (v1 : Value) (x1 : List Int) (s1 : SL .u8 w v1 x1) (b1 : ∀ x ∈ x1, 0 ≤ x ∧ x < 256) (v2 : Value) (x2 : List Int) (s2 : SL .u8 w v2 x2) (b2 : ∀ x ∈ x2, 0 ≤ x ∧ x < 256) :
    Calls Try.prog 11 #[v1, v2] w fun e w' => e = .returned (.bool true) ∧ Below w.heap.size w w' := by
  obtain ⟨n1, rfl, h1⟩ := nn_row8' b1
  obtain ⟨n2, rfl, h2⟩ := nn_row8' b2
  exact shaPad_walk n1 n2 v1 v2 w h1 s1 h2 s2
end Go.Proofs.Ytoeaekamoejhcaa
