/-
  Numbers as handed in, with their bounds.
  No conditions: lemmas over any program.
-/
import Derived.Test.YteaijjefbadnbaaNnOf
namespace Go.Proofs.Yteaijjefbadnbaa
open Go.RowKit
set_option maxRecDepth 100000
set_option linter.unusedVariables false
theorem rints32 {n : Nat} {w : World} {cs : List Value} (h : RInts .u32 n w cs) : ∃ ns : List Nat, ns.length = n ∧ cs = (nn ns).map (Value.int .u32) ∧ ∀ x ∈ ns, x < 4294967296 := by
  obtain ⟨xs, rfl, hl, hw⟩ := h
  obtain ⟨ns, rfl, hn⟩ := nn_of fun x hx => wf_nonneg rfl (hw x hx)
  exact ⟨ns, by omega, rfl, fun x hx => by have := wf_bounds_u32 hw _ (List.mem_map.2 ⟨x, hx, rfl⟩); omega⟩
theorem rints8 {n : Nat} {w : World} {cs : List Value} (h : RInts .u8 n w cs) : ∃ ns : List Nat, ns.length = n ∧ cs = (nn ns).map (Value.int .u8) ∧ ∀ x ∈ ns, x < 256 := by
  obtain ⟨xs, rfl, hl, hw⟩ := h
  obtain ⟨ns, rfl, hn⟩ := nn_of fun x hx => wf_nonneg rfl (hw x hx)
  exact ⟨ns, by omega, rfl, fun x hx => by have := wf_bounds_u8 hw _ (List.mem_map.2 ⟨x, hx, rfl⟩); omega⟩
theorem row8 {xs : List Int} (h : ∀ x ∈ xs, 0 ≤ x ∧ x < 256) : ∃ ns, xs = nn ns ∧ ∀ n ∈ ns, n < 256 := by
  obtain ⟨ns, rfl, _⟩ := nn_of fun x hx => (h x hx).1
  exact ⟨ns, rfl, fun n hn => by have := (h _ (List.mem_map.2 ⟨n, hn, rfl⟩)).2; omega⟩
end Go.Proofs.Yteaijjefbadnbaa
