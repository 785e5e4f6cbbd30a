/-
  Texts under a tag: unlike tags, or unlike parts, have unlike texts; none is the begin of another one. The plain law.
-/
import Derived.Test.YteaijjefbadnbaaGetL
import Derived.Test.YteaijjefbadnbaaMacW
namespace Go.Proofs.Yteaijjefbadnbaa
set_option linter.unusedVariables false
set_option linter.unusedSimpArgs false
theorem uintB_inj {n m : Nat} (hn : n < 2 ^ 64) (hm : m < 2 ^ 64) {r s : List Int} (h : uintB n ++ r = uintB m ++ s) : n = m ∧ r = s := by
  have h1 := (get_uint n hn r).2.2
  have h2 := (get_uint m hm s).2.2
  rw [h] at h1
  have e : n = m := h1.symm.trans h2
  subst e
  exact ⟨rfl, List.append_cancel_left h⟩
theorem blobB_inj {a b : List Int} (ha : a.length < 2 ^ 64) (hb : b.length < 2 ^ 64) {r s : List Int} (h : blobB a ++ r = blobB b ++ s) : a = b ∧ r = s := by
  unfold blobB at h
  rw [List.append_assoc, List.append_assoc] at h
  obtain ⟨h1, h2⟩ := uintB_inj ha hb h
  exact List.append_inj h2 h1
theorem blobsB_injI : ∀ {a b : List (List Int)} {r s : List Int}, (∀ y ∈ a, y.length < 2 ^ 64) → (∀ y ∈ b, y.length < 2 ^ 64) → a.length = b.length → blobsB a ++ r = blobsB b ++ s → a = b ∧ r = s
  | [], [], r, s, _, _, _, h => ⟨rfl, h⟩
  | [], _ :: _, _, _, _, _, hl, _ => by simp at hl
  | _ :: _, [], _, _, _, _, hl, _ => by simp at hl
  | x :: a, y :: b, r, s, ha, hb, hl, h => by
    simp only [blobsB, List.append_assoc] at h
    obtain ⟨h1, h2⟩ := blobB_inj (ha x (List.mem_cons_self ..)) (hb y (List.mem_cons_self ..)) h
    obtain ⟨h3, h4⟩ := blobsB_injI (fun z hz => ha z (List.mem_cons_of_mem _ hz)) (fun z hz => hb z (List.mem_cons_of_mem _ hz)) (by simpa using hl) h2
    exact ⟨by rw [h1, h3], h4⟩
theorem textB_injI {t t' : Int} {a b : List (List Int)} {r s : List Int} (ha : ∀ y ∈ a, y.length < 2 ^ 64) (hb : ∀ y ∈ b, y.length < 2 ^ 64) (hla : a.length < 2 ^ 64) (hlb : b.length < 2 ^ 64) (h : textB t a ++ r = textB t' b ++ s) : t = t' ∧ a = b := by
  unfold textB at h
  simp only [List.cons_append, List.nil_append, List.append_assoc, List.cons.injEq, true_and] at h
  obtain ⟨h1, h2⟩ := h
  obtain ⟨h3, h4⟩ := uintB_inj hla hlb h2
  exact ⟨h1, (blobsB_injI ha hb h3 h4).1⟩
theorem map_nn_inj : ∀ {X Y : List (List Nat)}, X.map nn = Y.map nn → X = Y
  | [], [], _ => rfl
  | [], _ :: _, h => by simp at h
  | _ :: _, [], h => by simp at h
  | x :: X, y :: Y, h => by
    simp only [List.map_cons, List.cons.injEq] at h
    rw [nn_inj h.1, map_nn_inj h.2]
theorem textN_inj {t t' : Nat} {X Y : List (List Nat)} {r s : List Nat} (hX : ∀ p ∈ X, p.length < 2 ^ 64) (hY : ∀ p ∈ Y, p.length < 2 ^ 64) (hlX : X.length < 2 ^ 64) (hlY : Y.length < 2 ^ 64) (h : textN t X ++ r = textN t' Y ++ s) : t = t' ∧ X = Y := by
  have h1 := congrArg nn h
  rw [nn_app, nn_app, textN_nn, textN_nn] at h1
  have hm : ∀ {Z : List (List Nat)}, (∀ p ∈ Z, p.length < 2 ^ 64) → ∀ y ∈ Z.map nn, y.length < 2 ^ 64 := by
    intro Z hZ y hy
    obtain ⟨p, hp, rfl⟩ := List.mem_map.1 hy
    rw [nn_len]; exact hZ p hp
  obtain ⟨h2, h3⟩ := textB_injI (hm hX) (hm hY) (by rw [List.length_map]; exact hlX) (by rw [List.length_map]; exact hlY) h1
  exact ⟨by omega, map_nn_inj h3⟩
theorem textN_iff {t t' : Nat} {X Y : List (List Nat)} (hX : ∀ p ∈ X, p.length < 2 ^ 64) (hY : ∀ p ∈ Y, p.length < 2 ^ 64) (hlX : X.length < 2 ^ 64) (hlY : Y.length < 2 ^ 64) : textN t X = textN t' Y ↔ t = t' ∧ X = Y :=
  ⟨fun h => textN_inj (r := []) (s := []) hX hY hlX hlY (by rw [h]), fun h => by rw [h.1, h.2]⟩
theorem take_min {p q : List Nat} (h : p.take (min p.length q.length) = q.take (min p.length q.length)) : (∃ r, p = q ++ r) ∨ ∃ r, q = p ++ r := by
  rcases Nat.le_total p.length q.length with k | k
  · rw [Nat.min_eq_left k, List.take_length] at h
    exact .inr ⟨q.drop p.length, by rw [h, List.length_take, Nat.min_eq_left k]; exact (List.take_append_drop _ _).symm⟩
  · rw [Nat.min_eq_right k, List.take_length] at h
    exact .inl ⟨p.drop q.length, by rw [← h, List.length_take, Nat.min_eq_left k]; exact (List.take_append_drop _ _).symm⟩
theorem textN_pre {t t' : Nat} {X Y : List (List Nat)} (hX : ∀ p ∈ X, p.length < 2 ^ 64) (hY : ∀ p ∈ Y, p.length < 2 ^ 64) (hlX : X.length < 2 ^ 64) (hlY : Y.length < 2 ^ 64) : (textN t X).take (min (textN t X).length (textN t' Y).length) = (textN t' Y).take (min (textN t X).length (textN t' Y).length) ↔ t = t' ∧ X = Y := by
  constructor
  · intro h
    rcases take_min h with ⟨r, e⟩ | ⟨r, e⟩
    · exact textN_inj (r := []) (s := r) hX hY hlX hlY (by rw [List.append_nil]; exact e)
    · have := textN_inj (r := []) (s := r) hY hX hlY hlX (by rw [List.append_nil]; exact e)
      exact ⟨this.1.symm, this.2.symm⟩
  · rintro ⟨rfl, rfl⟩; rfl
end Go.Proofs.Yteaijjefbadnbaa
