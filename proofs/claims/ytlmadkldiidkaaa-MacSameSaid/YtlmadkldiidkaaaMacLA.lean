/-
  MacSame, MacKeys, as the frame asks them.
-/
import Derived.Test.YtlmadkldiidkaaaMacL
import Derived.Test.YtlmadkldiidkaaaNnOf
namespace Go.Proofs.Ytlmadkldiidkaaa
open Go.RowKit
set_option maxRecDepth 100000
theorem nnrow8 {xs : List Int} (h : ∀ x ∈ xs, 0 ≤ x ∧ x < 256) : ∃ ns, xs = nn ns ∧ ∀ n ∈ ns, n < 256 := by
  obtain ⟨ns, rfl, _⟩ := nn_of fun x hx => (h x hx).1
  exact ⟨ns, rfl, fun n hn => by have := (h _ (List.mem_map.2 ⟨n, hn, rfl⟩)).2; omega⟩
theorem macSame_any (w : World) (v : Value) (xs : List Int) (s : SL .u8 w v xs) (b : ∀ x ∈ xs, 0 ≤ x ∧ x < 256) (at_ : Int) (ha : -9223372036854775808 ≤ at_ ∧ at_ ≤ 9223372036854775807) (t : Int) (ht : 0 ≤ t ∧ t ≤ 255) (m : Int) (hm : 0 ≤ m ∧ m ≤ 255) :
    Calls Try.prog 6 #[v, .int .i64 at_, .int .u8 t, .int .u8 m] w fun e w' => e = .returned (.bool true) ∧ Below w.heap.size w w' := by
  obtain ⟨ns, rfl, h⟩ := nnrow8 b
  obtain ⟨t', rfl⟩ : ∃ n : Nat, t = (n : Int) := ⟨t.toNat, by omega⟩
  obtain ⟨m', rfl⟩ : ∃ n : Nat, m = (n : Int) := ⟨m.toNat, by omega⟩
  exact macSame_walk ns v w h s at_ ha t' m' (by omega) (by omega)
theorem macKeys_any (w : World) (x0 : List Value) (R0 : RInts .u32 72 w x0) (v : Value) (xs : List Int) (s : SL .u8 w v xs) (b : ∀ x ∈ xs, 0 ≤ x ∧ x < 256) (v2 : Value) (xs2 : List Int) (s2 : SL .u8 w v2 xs2) (b2 : ∀ x ∈ xs2, 0 ≤ x ∧ x < 256) (m : Int) (hm : 0 ≤ m ∧ m ≤ 255) :
    Calls Try.prog 5 #[.agg x0.toArray, v, v2, .int .u8 m] w fun e w' => e = .returned (.bool true) ∧ Below w.heap.size w w' := by
  obtain ⟨tab, ht, e0⟩ := R0.nn rfl
  obtain ⟨ns, rfl, _⟩ := nnrow8 b
  obtain ⟨ms, rfl, _⟩ := nnrow8 b2
  obtain ⟨m', rfl⟩ : ∃ n : Nat, m = (n : Int) := ⟨m.toNat, by omega⟩
  rw [e0]
  exact macKeys_walk tab ht ns ms v v2 w s s2 m' (by omega)
end Go.Proofs.Ytlmadkldiidkaaa
