/-
  Slices of slices of bytes, as they come in: an inner one without length and capacity may lie anywhere.
  No conditions: lemmas over any program.
-/
import Derived.Test.YtanggdnmoaflfaaPartsL
import Derived.Test.YtanggdnmoaflfaaPk1
import Derived.Deep.AppendSrc
import Derived.Deep.Upon
namespace Go.Proofs.Ytanggdnmoaflfaa
open Go.RowKit Go.ChangeShapes Go.WideShapes Go.ChangeAt
set_option linter.unusedVariables false
set_option linter.unusedSimpArgs false
set_option maxRecDepth 100000

/-- Reads as y; or is the empty one, lying anywhere. -/
def SLx (w : World) (u : Value) (y : List Int) : Prop := SL .u8 w u y ∨ ((∃ a, u = .slice (some a) 0 0) ∧ y = [])
theorem SLx.form {w : World} {u : Value} {y : List Int} (h : SLx w u y) : ∃ a c, u = .slice a y.length c := by
  rcases h with h | ⟨⟨a, rfl⟩, rfl⟩
  · obtain ⟨a, c, rfl, _⟩ := h.len
    exact ⟨a, c, rfl⟩
  · exact ⟨some a, 0, rfl⟩
/-- Rows of such; what they hold lies below B. -/
def SLxs (B : Nat) (w : World) (us : List Value) (ys : List (List Int)) : Prop := us.length = ys.length ∧ ∀ j, j < us.length → (SL .u8 w (us.getD j undef) (ys.getD j []) ∧ ∀ g, (us.getD j undef).ownBlock = some g → g < B) ∨ ((∃ a, us.getD j undef = .slice (some a) 0 0) ∧ ys.getD j [] = [])
theorem SLxs.nil (B : Nat) (w : World) : SLxs B w [] [] := ⟨rfl, fun j hj => by simp at hj⟩
theorem SLxs.ev {B : Nat} {w w' : World} {us : List Value} {ys : List (List Int)} {X : Nat → Prop} (h : SLxs B w us ys) (e : Ev X w w') (hX : ∀ i, X i → B ≤ i) : SLxs B w' us ys :=
  ⟨h.1, fun j hj => (h.2 j hj).imp (fun k => ⟨k.1.ev e fun g hg x => by have := k.2 g hg; have := hX g x; omega, k.2⟩) id⟩
theorem SLxs.e0 {B : Nat} {w w' : World} {us : List Value} {ys : List (List Int)} (h : SLxs B w us ys) (e : E0 w w') : SLxs B w' us ys := h.ev e fun _ x => x.elim
theorem SLxs.get {B : Nat} {w : World} {us : List Value} {ys : List (List Int)} (h : SLxs B w us ys) (j : Nat) (hj : j < ys.length) : SLx w (us.getD j undef) (ys.getD j []) := (h.2 j (by rw [h.1]; exact hj)).imp (fun k => k.1) id
theorem getD_snoc {α : Type} (l : List α) (x d : α) (j : Nat) : (l ++ [x]).getD j d = if j < l.length then l.getD j d else if j = l.length then x else d := by
  simp only [List.getD_eq_getElem?_getD]
  split
  · rename_i h; rw [List.getElem?_append_left h]
  · rename_i h
    rw [List.getElem?_append_right (by omega)]
    split
    · rename_i h2; rw [h2, Nat.sub_self]; rfl
    · rw [List.getElem?_eq_none (by simp; omega)]; rfl
theorem SLxs.snoc {B : Nat} {w : World} {us : List Value} {ys : List (List Int)} {u : Value} {y : List Int} (h : SLxs B w us ys) (hu : (SL .u8 w u y ∧ ∀ g, u.ownBlock = some g → g < B) ∨ ((∃ a, u = .slice (some a) 0 0) ∧ y = [])) : SLxs B w (us ++ [u]) (ys ++ [y]) := by
  refine ⟨by simp [h.1], fun j hj => ?_⟩
  rw [getD_snoc, getD_snoc, h.1]
  by_cases hjl : j < ys.length
  · rw [if_pos hjl, if_pos hjl]
    exact h.2 j (by rw [h.1]; exact hjl)
  · have : j = ys.length := by simp [h.1] at hj; omega
    rw [if_neg hjl, if_neg hjl, if_pos this, if_pos this]
    exact hu
theorem SLs.x {B : Nat} {w : World} {us : List Value} {ys : List (List Int)} (h : SLs .u8 B w us ys) : SLxs B w us ys := ⟨h.length, fun j hj => .inl (h.get j hj)⟩
theorem SVx.lt {w : World} {v : Value} {us : List Value} (h : SV w v us) : ∀ i, v.ownBlock = some i → i < w.heap.size := by
  rcases h with ⟨rfl, _⟩ | ⟨b, o, c, rfl, h1, h2, h3, h4⟩
  · intro i hi; cases hi
  · intro i hi; simp [Value.ownBlock] at hi; omega
section
variable {P : Program} {ops : Array Oper} {Q : Exit → Act → World → Prop} {l : List Value} {ds : List Deferred} {w : World} {oi : Oper} {rest : List Oper}
end
section
variable {P : Program}
end
end Go.Proofs.Ytanggdnmoaflfaa
