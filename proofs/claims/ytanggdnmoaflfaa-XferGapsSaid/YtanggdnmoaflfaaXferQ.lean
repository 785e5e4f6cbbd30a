/-
  Transfers: pieces of the same bytes, a call of Put each.
-/
import Derived.Test.YtanggdnmoaflfaaXferG
namespace Go.Proofs.Ytanggdnmoaflfaa
open Go.RowKit
set_option linter.unusedVariables false
set_option linter.unusedSimpArgs false
set_option maxRecDepth 100000

theorem Own.ne {e t : TypeId} {k : IntKind} {base g : Nat} {w : World} {v : Value} {xs : List Int} {cs : List Value} (O : Own e k base w v xs) (C : Cel w g t cs) (hne : e ≠ t) : ∀ i, v.ownBlock = some i → i ≠ g := fun i hi hg => by
  subst hg
  rcases O.2 with ⟨rfl, _⟩ | ⟨g', cap, cur, rfl, _, hh, _⟩
  · cases hi
  · have : g' = i := by simpa [Value.ownBlock] using hi
    subst this
    unfold Cel at C
    rw [hh] at C
    simp only [Option.some.injEq, Obj.cells.injEq] at C
    exact hne C.2.1
theorem getD_lt {xs : List Nat} (h : ∀ k, xs.getD k 0 < 256) : ∀ x ∈ xs, x < 256 := fun x hx => by
  obtain ⟨k, hk, rfl⟩ := List.getElem_of_mem hx
  have := h k
  rwa [List.getD_eq_getElem?_getD, List.getElem?_eq_getElem hk] at this
theorem getD_lt' {xs : List Nat} (h : ∀ x ∈ xs, x < 256) (k : Nat) : xs.getD k 0 < 256 := by
  rw [List.getD_eq_getElem?_getD]
  cases hk : xs[k]? with
  | none => decide
  | some x => exact h x (List.mem_of_getElem? hk)
theorem GoodX.lt {all : List Nat} {ps : List (Nat × Nat)} {s : List Nat × List (Int × Int)} (h : GoodX all ps s) (hb : ∀ x ∈ all, x < 256) : ∀ x ∈ s.1, x < 256 := getD_lt fun k => by
  cases hm : memS s.2 k with
  | true => rw [h.same k hm]; exact getD_lt' hb k
  | false => rw [rightX_zero h.right hm]; decide
theorem GoodX.wf {all : List Nat} {ps : List (Nat × Nat)} {s : List Nat × List (Int × Int)} (h : GoodX all ps s) : ∀ t ∈ s.2, wfS t := wfS_can (by have := rightX_len h.right; omega) (by omega) (rightX_can h.right)
theorem GoodX.many {all : List Nat} {ps : List (Nat × Nat)} {s : List Nat × List (Int × Int)} (h : GoodX all ps s) : s.2.length ≤ 90000 := by
  have h1 := canonS_len (rightX_can h.right) (by omega)
  have h2 := rightX_len h.right
  omega
attribute [local irreducible] runX putX
end Go.Proofs.Ytanggdnmoaflfaa
