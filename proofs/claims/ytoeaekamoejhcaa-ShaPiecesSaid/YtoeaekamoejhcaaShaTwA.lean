/-
  ShaTwice, as the frame asks it.
-/
import Derived.Test.YtoeaekamoejhcaaShaTw
import Derived.Test.YtoeaekamoejhcaaNnOf
namespace Go.Proofs.Ytoeaekamoejhcaa
open Go.RowKit
theorem nn_row {xs : List Int} {m : Int} (h : ∀ x ∈ xs, 0 ≤ x ∧ x < m) : ∃ ns, xs = nn ns ∧ ∀ n ∈ ns, ((n : Nat) : Int) < m := by
  obtain ⟨ns, rfl, _⟩ := nn_of fun x hx => (h x hx).1
  exact ⟨ns, rfl, fun n hn => (h _ (List.mem_map.2 ⟨n, hn, rfl⟩)).2⟩
theorem nn_row8 {xs : List Int} (h : ∀ x ∈ xs, 0 ≤ x ∧ x < 256) : ∃ ns, xs = nn ns ∧ ∀ n ∈ ns, n < 256 := by
  obtain ⟨ns, e, h'⟩ := nn_row h
  exact ⟨ns, e, fun n hn => by have := h' n hn; omega⟩
theorem shaTwice_any (w : World) (x0 : List Value) (R0 : RInts .u32 72 w x0) (v1 : Value) (x1 : List Int) (s1 : SL .u8 w v1 x1) (b1 : ∀ x ∈ x1, 0 ≤ x ∧ x < 256) (v2 : Value) (x2 : List Int) (s2 : SL .u8 w v2 x2) (b2 : ∀ x ∈ x2, 0 ≤ x ∧ x < 256) (v3 : Value) (x3 : List Int) (s3 : SL .u8 w v3 x3) (b3 : ∀ x ∈ x3, 0 ≤ x ∧ x < 256) :
    Calls Try.prog 10 #[.agg x0.toArray, v1, v2, v3] w fun e w' => e = .returned (.bool true) ∧ Below w.heap.size w w' := by
  obtain ⟨tab, ht, e0⟩ := R0.nn rfl
  obtain ⟨n1, rfl, h1⟩ := nn_row8 b1
  obtain ⟨n2, rfl, _⟩ := nn_row8 b2
  obtain ⟨n3, rfl, _⟩ := nn_row8 b3
  rw [e0]
  exact shaTwice_walk tab n1 n2 n3 v1 v2 v3 w ht h1 s1 s2 s3
end Go.Proofs.Ytoeaekamoejhcaa
