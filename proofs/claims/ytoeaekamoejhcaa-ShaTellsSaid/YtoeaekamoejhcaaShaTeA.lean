/-
  ShaTells, as the frame asks it.
-/
import Derived.Test.YtoeaekamoejhcaaShaTe
import Derived.Test.YtoeaekamoejhcaaNnOf
namespace Go.Proofs.Ytoeaekamoejhcaa
open Go.RowKit
set_option maxRecDepth 100000
set_option linter.unusedVariables false
theorem rints32 {n : Nat} {w : World} {cs : List Value} (h : RInts .u32 n w cs) : ∃ ns : List Nat, ns.length = n ∧ cs = (nn ns).map (Value.int .u32) ∧ ∀ x ∈ ns, x < 4294967296 := by
  obtain ⟨xs, rfl, hl, hw⟩ := h
  obtain ⟨ns, rfl, hn⟩ := nn_of fun x hx => wf_nonneg rfl (hw x hx)
  exact ⟨ns, by omega, rfl, fun x hx => by have := wf_bounds_u32 hw _ (List.mem_map.2 ⟨x, hx, rfl⟩); omega⟩
theorem rints8 {n : Nat} {w : World} {cs : List Value} (h : RInts .u8 n w cs) : ∃ ns : List Nat, ns.length = n ∧ cs = (nn ns).map (Value.int .u8) ∧ ∀ x ∈ ns, x < 256 := by
  obtain ⟨xs, rfl, hl, hw⟩ := h
  obtain ⟨ns, rfl, hn⟩ := nn_of fun x hx => wf_nonneg rfl (hw x hx)
  exact ⟨ns, by omega, rfl, fun x hx => by have := wf_bounds_u8 hw _ (List.mem_map.2 ⟨x, hx, rfl⟩); omega⟩
theorem row8 {xs : List Int} (h : ∀ x ∈ xs, 0 ≤ x ∧ x < 256) : ∃ ns, xs = nn ns ∧ ∀ n ∈ ns, n < 256 := by
  obtain ⟨ns, rfl, _⟩ := nn_of fun x hx => (h x hx).1
  exact ⟨ns, rfl, fun n hn => by have := (h _ (List.mem_map.2 ⟨n, hn, rfl⟩)).2; omega⟩
theorem shaTells_any (w : World) (x0 : List Value) (R0 : RInts .u32 72 w x0) (x1 : List Value) (R1 : RFields [(8, RInts .u32 8), (1, RRow .u8), (1, RInt .i64)] w x1) (v : Value) (xs : List Int) (s : SL .u8 w v xs) (b : ∀ x ∈ xs, 0 ≤ x ∧ x < 256) (x3 : List Value) (R3 : RInts .u8 64 w x3) (n : Int) (hn : -9223372036854775808 ≤ n ∧ n ≤ 9223372036854775807) :
    Calls Try.prog 8 #[.agg x0.toArray, .agg x1.toArray, v, .agg x3.toArray, .int .i64 n] w fun e w' => e = .returned (.bool true) ∧ Below w.heap.size w w' := by
  obtain ⟨tab, ht, rfl, h32⟩ := rints32 R0
  obtain ⟨a, b1, rfl, ha, Ra, a2, b2, rfl, ha2, Rb, a3, b3, rfl, ha3, Rc, rfl⟩ := R1
  obtain ⟨st, hst, rfl, hs32⟩ := rints32 Ra
  obtain ⟨vr, rr, rfl, hsl, hwf⟩ := Rb
  obtain ⟨L, rfl, hL⟩ := Rc
  obtain ⟨r, rfl, hr⟩ := row8 (wf_bounds_u8 hwf)
  obtain ⟨ns, rfl, hns⟩ := row8 b
  obtain ⟨bl, hbl, rfl, hb8⟩ := rints8 R3
  obtain ⟨y0, y1, y2, y3, y4, y5, y6, y7, rfl⟩ := list8 st hst
  obtain ⟨A, C, rfl, _⟩ := hsl.len
  simp only [nn_len] at hsl ⊢
  exact shaTells_walk tab r ns bl y0 y1 y2 y3 y4 y5 y6 y7 A C L n v w ht h32 hs32 hr hsl hns s hbl hb8
end Go.Proofs.Ytoeaekamoejhcaa
