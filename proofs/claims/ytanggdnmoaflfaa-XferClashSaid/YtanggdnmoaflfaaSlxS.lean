/-
  Parts of slices of slices; the smaller one of two numbers; bytes that come in, as a string.
  No conditions: lemmas over any program.
-/
import Derived.Test.YtanggdnmoaflfaaMacX
import Derived.Test.YtanggdnmoaflfaaPk1
namespace Go.Proofs.Ytanggdnmoaflfaa
open Go.RowKit
set_option linter.unusedVariables false
set_option linter.unusedSimpArgs false
set_option maxRecDepth 100000

section
variable {P : Program}
end
theorem LowX.form {base : Nat} {w : World} {u : Value} {y : List Int} (h : LowX base w u y) : ∃ a c, u = .slice a y.length c ∧ y.length ≤ c := by
  rcases h with ⟨h, _⟩ | ⟨⟨a, rfl⟩, rfl⟩
  · rcases h with ⟨rfl, rfl⟩ | ⟨b, o, c, rfl, h1, _⟩
    · exact ⟨none, 0, rfl, by simp⟩
    · exact ⟨_, c, rfl, h1⟩
  · exact ⟨some a, 0, rfl, by simp⟩
theorem LowX.slice {base : Nat} {w : World} {u : Value} {y : List Int} (h : LowX base w u y) (lo hi : Nat) (h1 : lo ≤ hi) (h2 : hi ≤ y.length) : LowX base w (sliceV u lo hi) ((y.drop lo).take (hi - lo)) := by
  rcases h with ⟨h, hb⟩ | ⟨⟨a, rfl⟩, rfl⟩
  · exact .inl ⟨h.slice lo hi h1 h2, fun g hg => hb g (sliceV_own hg)⟩
  · obtain rfl : hi = 0 := by simpa using h2
    obtain rfl : lo = 0 := by omega
    exact .inr ⟨⟨a, by simp [sliceV]⟩, by simp⟩
theorem SVx.slice {w : World} {v : Value} {us : List Value} (h : SV w v us) (lo hi : Nat) (h1 : lo ≤ hi) (h2 : hi ≤ us.length) : SV w (sliceV v lo hi) ((us.drop lo).take (hi - lo)) := by
  have hlen : ((us.drop lo).take (hi - lo)).length = hi - lo := by simp; omega
  rcases h with ⟨rfl, rfl⟩ | ⟨b, o, c, rfl, h3, h4, h5, h6⟩
  · have : lo = 0 := by simp at h2; omega
    have h0 : hi = 0 := by simpa using h2
    subst this h0
    left; simp [sliceV]
  · by_cases hc : c = lo
    · refine .inr ⟨b, o, 0, ?_, by omega, by omega, h5, fun j hj => ?_⟩
      · simp [sliceV, hc, hlen]
      · omega
    · refine .inr ⟨b, o + lo, c - lo, ?_, by omega, by omega, h5, fun j hj => ?_⟩
      · simp [sliceV, hc, hlen, Addr.add_mid]
      · rw [Nat.add_assoc, h6 (lo + j) (by omega)]
        have : j < hi - lo := by omega
        simp [List.getElem?_take, List.getElem?_drop, this]
theorem SVx.cap {w : World} {A : Option Addr} {n C : Nat} {us : List Value} (h : SV w (.slice A n C) us) : n ≤ C := by
  rcases h with ⟨h, _⟩ | ⟨b, o, c, h, h1, _⟩
  · cases h; exact Nat.le_refl _
  · cases h; exact h1
theorem getD_append {α : Type} (l m : List α) (d : α) (j : Nat) : (l ++ m).getD j d = if j < l.length then l.getD j d else m.getD (j - l.length) d := by
  simp only [List.getD_eq_getElem?_getD]
  split
  · rename_i h; rw [List.getElem?_append_left h]
  · rename_i h; rw [List.getElem?_append_right (by omega)]
theorem SLxs.append {B : Nat} {w : World} {us us2 : List Value} {ys ys2 : List (List Int)} (h : SLxs B w us ys) (h2 : SLxs B w us2 ys2) : SLxs B w (us ++ us2) (ys ++ ys2) := by
  refine ⟨by simp [h.1, h2.1], fun j hj => ?_⟩
  rw [getD_append, getD_append, h.1]
  by_cases hjl : j < ys.length
  · rw [if_pos hjl, if_pos hjl]; exact h.2 j (by rw [h.1]; exact hjl)
  · rw [if_neg hjl, if_neg hjl]; exact h2.2 _ (by rw [List.length_append, h.1] at hj; omega)
theorem getD_drop {α : Type} (l : List α) (k j : Nat) (d : α) : (l.drop k).getD j d = l.getD (k + j) d := by
  simp only [List.getD_eq_getElem?_getD, List.getElem?_drop]
theorem SLxs.drop {B : Nat} {w : World} {us : List Value} {ys : List (List Int)} (h : SLxs B w us ys) (k : Nat) : SLxs B w (us.drop k) (ys.drop k) := by
  refine ⟨by simp [h.1], fun j hj => ?_⟩
  rw [getD_drop, getD_drop]
  exact h.2 (k + j) (by rw [List.length_drop] at hj; omega)
theorem SLxs.one {B : Nat} {w : World} {us : List Value} {ys : List (List Int)} (h : SLxs B w us ys) : ∀ u ∈ us, u.oneCell' = true := by
  intro u hu
  obtain ⟨j, hj, rfl⟩ := List.getElem_of_mem hu
  have := h.2 j hj
  rw [List.getD_eq_getElem?_getD, List.getElem?_eq_getElem hj] at this
  obtain ⟨a, c, e, _⟩ := LowX.form this
  simp only [Option.getD_some] at e
  rw [e]; rfl
theorem SLxs.two {B : Nat} {w : World} {u v : Value} {y z : List Int} (hu : LowX B w u y) (hv : LowX B w v z) : SLxs B w [u, v] [y, z] := by
  have h1 := SLxs.snoc (SLxs.nil B w) hu
  exact SLxs.snoc h1 hv
theorem SLxs.mono {B B' : Nat} {w : World} {us : List Value} {ys : List (List Int)} (h : SLxs B w us ys) (hB : B ≤ B') : SLxs B' w us ys := ⟨h.1, fun j hj => (h.2 j hj).imp (fun k => ⟨k.1, fun g hg => Nat.lt_of_lt_of_le (k.2 g hg) hB⟩) id⟩
end Go.Proofs.Ytanggdnmoaflfaa
