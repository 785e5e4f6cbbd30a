/-
  A hasher that has had bytes: its calls.
-/
import Derived.Test.YteaijjefbadnbaaShaLaw
import Derived.Test.YteaijjefbadnbaaPk2
namespace Go.Proofs.Yteaijjefbadnbaa
open Go.RowKit
set_option linter.unusedVariables false
set_option linter.unusedSimpArgs false
set_option maxRecDepth 100000

theorem bytes_nn {ns : List Nat} (h : ∀ n ∈ ns, n < 256) : Bytes (nn ns) := by
  intro x hx
  obtain ⟨n, hn, rfl⟩ := List.mem_map.1 hx
  have := h n hn
  show 0 ≤ (n : Int) ∧ (n : Int) < 256
  omega
theorem SL.cast {k : IntKind} {w : World} {v : Value} {xs ys : List Int} (h : SL k w v xs) (he : xs = ys) : SL k w v ys := he ▸ h
theorem getD_set_lt {xs : List Nat} {i n B : Nat} (h : ∀ k, xs.getD k 0 < B) (hn : n < B) : ∀ k, (xs.set i n).getD k 0 < B := by
  intro k
  have := h k
  simp only [List.getD_eq_getElem?_getD, List.getElem?_set] at this ⊢
  split
  · split
    · simpa using hn
    · simp; omega
  · exact this
theorem digN_lt (S : List Nat) : ∀ i k, (digN S i).getD k 0 < 256
  | 0, k => by
    simp only [digN, List.getD_eq_getElem?_getD, List.getElem?_replicate]
    split <;> simp
  | i + 1, k => getD_set_lt (digN_lt S i) (Nat.mod_lt _ (by decide)) k
theorem sumN_lt (tab : List Nat) (h : Hash) (k : Nat) : (sumN tab h).getD k 0 < 256 := by
  unfold sumN; split
  · exact digN_lt _ _ _
  · exact digN_lt [] 0 k
theorem ofN_len (tab bs : List Nat) : (ofN tab bs).length = 32 := sumN_len _ _
theorem ofN_lt (tab bs : List Nat) (k : Nat) : (ofN tab bs).getD k 0 < 256 := sumN_lt _ _ _
end Go.Proofs.Yteaijjefbadnbaa
