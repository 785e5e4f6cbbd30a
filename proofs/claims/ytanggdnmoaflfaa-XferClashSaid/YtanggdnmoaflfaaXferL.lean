/-
  Transfers, the plain law: which spans are right, which bytes are there, what a piece makes of them.
-/
import Derived.Test.YtanggdnmoaflfaaPk1
namespace Go.Proofs.Ytanggdnmoaflfaa
set_option linter.unusedVariables false
set_option linter.unusedSimpArgs false

/-- Is a byte there? -/
def memS : List (Int × Int) → Int → Bool
  | [], _ => false
  | s :: h, k => decide (s.1 ≤ k ∧ k < s.2) || memS h k
/-- Spans in order, behind lo, up to n, with gaps. -/
def canonS (n : Int) : Int → List (Int × Int) → Prop
  | _, [] => True
  | lo, s :: h => lo < s.1 ∧ s.1 < s.2 ∧ s.2 ≤ n ∧ canonS n s.2 h
theorem canonS_gt {n : Int} : ∀ {h : List (Int × Int)} {lo : Int}, canonS n lo h → ∀ {k : Int}, memS h k = true → lo < k ∧ k < n
  | [], lo, _, k, hm => by cases hm
  | s :: h, lo, hc, k, hm => by
    obtain ⟨h1, h2, h3, h4⟩ := hc
    simp only [memS, Bool.or_eq_true, decide_eq_true_eq] at hm
    rcases hm with hm | hm
    · omega
    · have := canonS_gt h4 hm; omega
theorem canonS_out {n lo k : Int} {h : List (Int × Int)} (hc : canonS n lo h) (hk : k ≤ lo ∨ n ≤ k) : memS h k = false := by
  cases hm : memS h k with
  | false => rfl
  | true => have := canonS_gt hc hm; omega
theorem canonS_ext {n : Int} : ∀ {h h' : List (Int × Int)} {lo : Int}, canonS n lo h → canonS n lo h' → (∀ k, memS h k = memS h' k) → h = h'
  | [], [], _, _, _, _ => rfl
  | [], s :: h, lo, _, hc, hk => by
    have := hk s.1
    obtain ⟨h1, h2, h3, h4⟩ := hc
    simp [memS, h2] at this
  | s :: h, [], lo, hc, _, hk => by
    have := hk s.1
    obtain ⟨h1, h2, h3, h4⟩ := hc
    simp [memS, h2] at this
  | s :: h, t :: u, lo, hc, hd, hk => by
    have hc0 := hc
    have hd0 := hd
    obtain ⟨a1, a2, a3, a4⟩ := hc
    obtain ⟨b1, b2, b3, b4⟩ := hd
    have e1 : s.1 = t.1 := by
      have m1 : memS (s :: h) s.1 = true := by simp [memS, a2]
      have m2 : memS (t :: u) t.1 = true := by simp [memS, b2]
      have m3 : memS (t :: u) s.1 = true := by rw [← hk]; exact m1
      have m4 : memS (s :: h) t.1 = true := by rw [hk]; exact m2
      simp only [memS, Bool.or_eq_true, decide_eq_true_eq] at m3 m4
      have q3 : t.1 ≤ s.1 := by
        rcases m3 with m3 | m3
        · exact m3.1
        · have := (canonS_gt b4 m3).1; omega
      have q4 : s.1 ≤ t.1 := by
        rcases m4 with m4 | m4
        · exact m4.1
        · have := (canonS_gt a4 m4).1; omega
      omega
    have e2 : s.2 = t.2 := by
      have m1 : memS (s :: h) s.2 = false := by
        have := canonS_out a4 (.inl (Int.le_refl _))
        simp [memS, this]
      have m2 : memS (t :: u) t.2 = false := by
        have := canonS_out b4 (.inl (Int.le_refl _))
        simp [memS, this]
      rw [hk] at m1
      rw [← hk] at m2
      simp only [memS, Bool.or_eq_false_iff, decide_eq_false_iff_not] at m1 m2
      omega
    have e3 : h = u := canonS_ext a4 (e2 ▸ b4) fun k => by
      have := hk k
      simp only [memS, e1, e2] at this
      by_cases hq : t.1 ≤ k ∧ k < t.2
      · rw [canonS_out a4 (k := k) (.inl (by omega)), canonS_out b4 (k := k) (.inl (by omega))]
      · simpa [hq] using this
    rw [e3, Prod.ext e1 e2]
theorem canonS_len {n : Int} : ∀ {h : List (Int × Int)} {lo : Int}, canonS n lo h → lo ≤ n → (h.length : Int) * 2 ≤ n - lo
  | [], lo, _, hl => by simp; omega
  | s :: h, lo, hc, _ => by
    have := canonS_len hc.2.2.2 hc.2.2.1
    have := hc.1
    have := hc.2.1
    rw [List.length_cons]; push_cast; omega

/-! ### a span is put -/
def mrgS : Int × Int → List (Int × Int) → List (Int × Int)
  | s, [] => [s]
  | s, t :: h => if t.1 ≤ s.2 then mrgS (min s.1 t.1, max s.2 t.2) h else s :: t :: h
def putS (s : Int × Int) : List (Int × Int) → List (Int × Int)
  | [] => [s]
  | t :: h => if t.2 < s.1 then t :: putS s h else mrgS s (t :: h)
theorem mrgS_mem : ∀ (h : List (Int × Int)) (s : Int × Int) {n lo : Int}, canonS n lo h → s.1 < s.2 → (∀ t ∈ h, s.1 ≤ t.2) → ∀ k, memS (mrgS s h) k = (decide (s.1 ≤ k ∧ k < s.2) || memS h k)
  | [], s, n, lo, _, _, _, k => by simp [mrgS, memS]
  | t :: h, s, n, lo, hc, hs, ha, k => by
    obtain ⟨h1, h2, h3, h4⟩ := hc
    have h5 := ha t (List.mem_cons_self ..)
    unfold mrgS
    split
    · rename_i hq
      rw [mrgS_mem h (min s.1 t.1, max s.2 t.2) h4 (by simp only []; omega) (fun u hu => by have := ha u (List.mem_cons_of_mem _ hu); simp only []; omega) k]
      simp only [memS]
      rw [← Bool.or_assoc]
      congr 1
      rw [Bool.eq_iff_iff]
      simp only [Bool.or_eq_true, decide_eq_true_eq]
      omega
    · simp only [memS]
theorem canonS_all {n : Int} : ∀ {h : List (Int × Int)} {lo : Int}, canonS n lo h → ∀ t ∈ h, lo < t.1 ∧ t.1 < t.2 ∧ t.2 ≤ n
  | [], _, _, t, ht => by cases ht
  | s :: h, lo, hc, t, ht => by
    obtain ⟨h1, h2, h3, h4⟩ := hc
    rcases List.mem_cons.1 ht with rfl | ht
    · exact ⟨h1, h2, h3⟩
    · have := canonS_all h4 t ht; omega
theorem mrgS_canon : ∀ (h : List (Int × Int)) (s : Int × Int) {n lo lo' : Int}, canonS n lo' h → lo < s.1 → s.1 < s.2 → s.2 ≤ n → lo ≤ lo' → canonS n lo (mrgS s h)
  | [], s, n, lo, lo', _, h1, h2, h3, _ => ⟨h1, h2, h3, trivial⟩
  | t :: h, s, n, lo, lo', hc, h1, h2, h3, hl => by
    obtain ⟨c1, c2, c3, c4⟩ := hc
    unfold mrgS
    split
    · exact mrgS_canon h _ c4 (by simp only []; omega) (by simp only []; omega) (by simp only []; omega) (by omega)
    · exact ⟨h1, h2, h3, by omega, c2, c3, c4⟩
theorem putS_mem : ∀ (h : List (Int × Int)) (s : Int × Int) {n lo : Int}, canonS n lo h → s.1 < s.2 → ∀ k, memS (putS s h) k = (decide (s.1 ≤ k ∧ k < s.2) || memS h k)
  | [], s, n, lo, _, _, k => by simp [putS, memS]
  | t :: h, s, n, lo, hc, hs, k => by
    have hc0 := hc
    obtain ⟨h1, h2, h3, h4⟩ := hc
    unfold putS
    split
    · simp only [memS]
      rw [putS_mem h s h4 hs k, ← Bool.or_assoc, ← Bool.or_assoc, Bool.or_comm (decide (t.1 ≤ k ∧ k < t.2))]
    · exact mrgS_mem (t :: h) s hc0 hs (fun u hu => by
        rcases List.mem_cons.1 hu with rfl | hu
        · omega
        · have := canonS_all h4 u hu; omega) k
theorem putS_canon : ∀ (h : List (Int × Int)) (s : Int × Int) {n lo : Int}, canonS n lo h → lo < s.1 → s.1 < s.2 → s.2 ≤ n → canonS n lo (putS s h)
  | [], s, n, lo, _, h1, h2, h3 => ⟨h1, h2, h3, trivial⟩
  | t :: h, s, n, lo, hc, h1, h2, h3 => by
    have hc0 := hc
    obtain ⟨c1, c2, c3, c4⟩ := hc
    unfold putS
    split
    · exact ⟨c1, c2, c3, putS_canon h s c4 (by omega) h2 h3⟩
    · exact mrgS_canon (t :: h) s hc0 h1 h2 h3 (Int.le_refl _)

/-! ### what is right -/
def blankL (xs : List Nat) : Bool := xs.all fun x => decide (x = 0)
theorem blankL_iff (xs : List Nat) : blankL xs = true ↔ ∀ j, j < xs.length → xs.getD j 0 = 0 := by
  simp only [blankL, List.all_eq_true, decide_eq_true_eq]
  constructor
  · intro h j hj
    rw [List.getD_eq_getElem?_getD, List.getElem?_eq_getElem hj]
    exact h _ (List.getElem_mem hj)
  · intro h x hx
    obtain ⟨j, hj, rfl⟩ := List.getElem_of_mem hx
    have := h j hj
    rwa [List.getD_eq_getElem?_getD, List.getElem?_eq_getElem hj] at this
/-- Is a span wrong, behind 'from'? -/
def badS (d : List Nat) (fr : Int) (p : Bool) (s : Int × Int) : Bool := decide (s.1 < fr) || (p && decide (s.1 = fr)) || decide (s.2 ≤ s.1) || decide ((d.length : Int) < s.2) || !blankL ((d.drop fr.toNat).take (s.1.toNat - fr.toNat))
def rightF (d : List Nat) : Int → Bool → List (Int × Int) → Bool
  | fr, _, [] => blankL (d.drop fr.toNat)
  | fr, p, s :: h => !badS d fr p s && rightF d s.2 true h
def rightX (d : List Nat) (h : List (Int × Int)) : Bool := decide (d.length ≤ 65536) && rightF d 0 false h
def zeroS (d : List Nat) (h : List (Int × Int)) (fr : Int) : Prop := ∀ k : Nat, fr ≤ k → k < d.length → memS h k = false → d.getD k 0 = 0
theorem drop_getD (d : List Nat) (a j : Nat) : (d.drop a).getD j 0 = d.getD (a + j) 0 := by simp [List.getD_eq_getElem?_getD]
theorem take_getD (d : List Nat) (a j : Nat) (h : j < a) : (d.take a).getD j 0 = d.getD j 0 := by simp [List.getD_eq_getElem?_getD, List.getElem?_take, h]
theorem rightF_iff (d : List Nat) : ∀ (h : List (Int × Int)) (fr : Int) (p : Bool), 0 ≤ fr → fr ≤ d.length → (rightF d fr p h = true ↔ canonS d.length (if p then fr else fr - 1) h ∧ zeroS d h fr)
  | [], fr, p, h0, h1 => by
    simp only [rightF, blankL_iff, canonS, true_and, zeroS, memS]
    constructor
    · intro h k hk hl _
      have := h (k - fr.toNat) (by rw [List.length_drop]; omega)
      rwa [drop_getD, show fr.toNat + (k - fr.toNat) = k by omega] at this
    · intro h j hj
      rw [List.length_drop] at hj
      rw [drop_getD]
      exact h _ (by omega) (by omega) trivial
  | s :: h, fr, p, h0, h1 => by
    simp only [rightF, Bool.and_eq_true, Bool.not_eq_true']
    constructor
    · rintro ⟨hb, hr⟩
      simp only [badS, Bool.or_eq_false_iff, decide_eq_false_iff_not, Bool.and_eq_false_imp, Bool.not_eq_false'] at hb
      obtain ⟨⟨⟨⟨b1, b2⟩, b3⟩, b4⟩, b5⟩ := hb
      obtain ⟨c1, c2⟩ := (rightF_iff d h s.2 true (by omega) (by omega)).1 hr
      simp only [if_true] at c1
      refine ⟨⟨?_, by omega, by omega, c1⟩, ?_⟩
      · cases p with
        | true => have := b2 rfl; simp only [if_true]; omega
        | false => simp; omega
      · intro k hk hl hm
        simp only [memS, Bool.or_eq_false_iff, decide_eq_false_iff_not] at hm
        by_cases hq : (k : Int) < s.1
        · have := (blankL_iff _).1 b5 (k - fr.toNat) (by rw [List.length_take, List.length_drop]; omega)
          rwa [take_getD _ _ _ (by omega), drop_getD, show fr.toNat + (k - fr.toNat) = k by omega] at this
        · exact c2 k (by omega) hl hm.2
    · rintro ⟨⟨a1, a2, a3, a4⟩, hz⟩
      have a1' : fr ≤ s.1 ∧ (p = true → s.1 ≠ fr) := by
        cases p with
        | true => simp only [if_true] at a1; exact ⟨by omega, fun _ => by omega⟩
        | false => simp at a1; exact ⟨by omega, fun h => by cases h⟩
      refine ⟨?_, (rightF_iff d h s.2 true (by omega) (by omega)).2 ⟨by simpa using a4, fun k hk hl hm => hz k (by omega) hl (by simp only [memS, Bool.or_eq_false_iff, decide_eq_false_iff_not]; exact ⟨by omega, hm⟩)⟩⟩
      simp only [badS, Bool.or_eq_false_iff, decide_eq_false_iff_not, Bool.and_eq_false_imp, Bool.not_eq_false']
      refine ⟨⟨⟨⟨by omega, a1'.2⟩, by omega⟩, by omega⟩, (blankL_iff _).2 fun j hj => ?_⟩
      rw [List.length_take, List.length_drop] at hj
      rw [take_getD _ _ _ (by omega), drop_getD]
      refine hz _ (by omega) (by omega) ?_
      simp only [memS, Bool.or_eq_false_iff, decide_eq_false_iff_not]
      exact ⟨by omega, canonS_out a4 (.inl (by omega))⟩
theorem rightX_iff (d : List Nat) (h : List (Int × Int)) : rightX d h = true ↔ d.length ≤ 65536 ∧ canonS d.length (-1) h ∧ zeroS d h 0 := by
  unfold rightX
  rw [Bool.and_eq_true, decide_eq_true_eq, rightF_iff d h 0 false (by omega) (by omega)]
  simp

/-! ### a piece is put -/
/-- the bytes of a piece laid at a place -/
def layB (d : List Nat) (at_ : Nat) (b : List Nat) : List Nat := d.take at_ ++ b ++ d.drop (at_ + b.length)
theorem layB_len {d : List Nat} {a : Nat} {b : List Nat} (h : a + b.length ≤ d.length) : (layB d a b).length = d.length := by
  unfold layB
  simp only [List.length_append, List.length_take, List.length_drop]; omega
theorem layB_get {d : List Nat} {a : Nat} {b : List Nat} (h : a + b.length ≤ d.length) (k : Nat) : (layB d a b).getD k 0 = if a ≤ k ∧ k < a + b.length then b.getD (k - a) 0 else d.getD k 0 := by
  unfold layB
  simp only [List.getD_eq_getElem?_getD]
  split
  · rename_i hk
    rw [List.append_assoc, List.getElem?_append_right (by rw [List.length_take]; omega), List.length_take, Nat.min_eq_left (by omega), List.getElem?_append_left (by omega)]
  · rename_i hk
    by_cases hq : k < a
    · rw [List.append_assoc, List.getElem?_append_left (by rw [List.length_take]; omega), List.getElem?_take, if_pos hq]
    · rw [List.getElem?_append_right (by rw [List.length_append, List.length_take]; omega), List.length_append, List.length_take, Nat.min_eq_left (by omega), List.getElem?_drop, show a + b.length + (k - (a + b.length)) = k by omega]
/-- does a span that is there clash with a piece? -/
def clash1 (d : List Nat) (a : Int) (b : List Nat) (s : Int × Int) : Bool :=
  decide (max s.1 a < min s.2 (a + b.length)) && !decide ((d.drop (max s.1 a).toNat).take ((min s.2 (a + b.length)).toNat - (max s.1 a).toNat) = (b.drop (max s.1 a - a).toNat).take ((min s.2 (a + b.length) - a).toNat - (max s.1 a - a).toNat))
def clashX (d : List Nat) (h : List (Int × Int)) (a : Int) (b : List Nat) : Bool := h.any (clash1 d a b)
theorem list_ext0 {xs ys : List Nat} (hl : xs.length = ys.length) (h : ∀ j, j < xs.length → xs.getD j 0 = ys.getD j 0) : xs = ys := by
  apply List.ext_getElem hl
  intro j h1 h2
  have := h j h1
  simpa [List.getD_eq_getElem?_getD, h1, h2] using this
theorem sgn_getD (d : List Nat) (a n j : Nat) (h : j < n) : ((d.drop a).take n).getD j 0 = d.getD (a + j) 0 := by rw [take_getD _ _ _ h, drop_getD]
theorem sgn_len (d : List Nat) (a n : Nat) (h : a + n ≤ d.length) : ((d.drop a).take n).length = n := by rw [List.length_take, List.length_drop]; omega
theorem clash1_iff (d : List Nat) (a : Nat) (b : List Nat) (s : Int × Int) (h1 : 0 ≤ s.1) (h2 : s.2 ≤ d.length) (ha : a + b.length ≤ d.length) :
    clash1 d a b s = true ↔ ∃ k : Nat, a ≤ k ∧ k < a + b.length ∧ s.1 ≤ k ∧ (k : Int) < s.2 ∧ d.getD k 0 ≠ b.getD (k - a) 0 := by
  unfold clash1
  simp only [Bool.and_eq_true, decide_eq_true_eq, Bool.not_eq_true', decide_eq_false_iff_not]
  generalize hf : max s.1 (a : Int) = f
  generalize ht : min s.2 ((a : Int) + (b.length : Nat)) = t
  have hf0 : (a : Int) ≤ f ∧ s.1 ≤ f ∧ (f = a ∨ f = s.1) := by omega
  have ht0 : t ≤ s.2 ∧ t ≤ (a : Int) + (b.length : Nat) ∧ (t = s.2 ∨ t = (a : Int) + (b.length : Nat)) := by omega
  have e0 : (f - a).toNat = f.toNat - a := by omega
  have e1 : (t - a).toNat - (f - a).toNat = t.toNat - f.toNat := by omega
  rw [e1, e0]
  constructor
  · rintro ⟨hlt, hne⟩
    have hl1 := sgn_len d f.toNat (t.toNat - f.toNat) (by omega)
    have hl2 := sgn_len b (f.toNat - a) (t.toNat - f.toNat) (by omega)
    have : ∃ j, j < t.toNat - f.toNat ∧ d.getD (f.toNat + j) 0 ≠ b.getD (f.toNat - a + j) 0 := by
      apply Classical.byContradiction
      intro hno
      apply hne
      refine list_ext0 (by rw [hl1, hl2]) fun j hj => ?_
      rw [hl1] at hj
      rw [sgn_getD _ _ _ _ hj, sgn_getD _ _ _ _ hj]
      apply Classical.byContradiction
      intro hq
      exact hno ⟨j, hj, hq⟩
    obtain ⟨j, hj, hq⟩ := this
    refine ⟨f.toNat + j, by omega, by omega, by omega, by omega, ?_⟩
    rwa [show f.toNat + j - a = f.toNat - a + j by omega]
  · rintro ⟨k, k1, k2, k3, k4, k5⟩
    refine ⟨by omega, fun he => k5 ?_⟩
    have := congrArg (fun l => l.getD (k - f.toNat) 0) he
    rw [sgn_getD _ _ _ _ (by omega), sgn_getD _ _ _ _ (by omega)] at this
    rwa [show f.toNat + (k - f.toNat) = k by omega, show f.toNat - a + (k - f.toNat) = k - a by omega] at this
theorem memS_iff : ∀ (h : List (Int × Int)) (k : Int), memS h k = true ↔ ∃ s ∈ h, s.1 ≤ k ∧ k < s.2
  | [], k => by simp [memS]
  | s :: h, k => by simp [memS, memS_iff h k]
theorem clashX_iff {d : List Nat} {h : List (Int × Int)} (hc : canonS d.length (-1) h) (a : Nat) (b : List Nat) (ha : a + b.length ≤ d.length) :
    clashX d h a b = true ↔ ∃ k : Nat, a ≤ k ∧ k < a + b.length ∧ memS h k = true ∧ d.getD k 0 ≠ b.getD (k - a) 0 := by
  unfold clashX
  rw [List.any_eq_true]
  constructor
  · rintro ⟨s, hs, h1⟩
    have := canonS_all hc s hs
    obtain ⟨k, k1, k2, k3, k4, k5⟩ := (clash1_iff d a b s (by omega) this.2.2 ha).1 h1
    exact ⟨k, k1, k2, (memS_iff h k).2 ⟨s, hs, k3, k4⟩, k5⟩
  · rintro ⟨k, k1, k2, k3, k5⟩
    obtain ⟨s, hs, k3, k4⟩ := (memS_iff h k).1 k3
    have := canonS_all hc s hs
    exact ⟨s, hs, (clash1_iff d a b s (by omega) this.2.2 ha).2 ⟨k, k1, k2, k3, k4, k5⟩⟩
/-- Put: the bytes, the spans, the error. -/
def putX (d : List Nat) (h : List (Int × Int)) (a : Int) (b : List Nat) : List Nat × List (Int × Int) × Int :=
  if rightX d h = false then (d, h, 242)
  else if b.length < 1 ∨ 512 < b.length ∨ a < 0 ∨ (d.length : Int) - b.length < a then (d, h, 240)
  else if clashX d h a b = true then (d, h, 241)
  else (layB d a.toNat b, putS (a, a + b.length) h, 0)
theorem rightX_len {d : List Nat} {h : List (Int × Int)} (hr : rightX d h = true) : d.length ≤ 65536 := ((rightX_iff d h).1 hr).1
theorem rightX_can {d : List Nat} {h : List (Int × Int)} (hr : rightX d h = true) : canonS d.length (-1) h := ((rightX_iff d h).1 hr).2.1
theorem rightX_zero {d : List Nat} {h : List (Int × Int)} (hr : rightX d h = true) {k : Nat} (hk : memS h k = false) : d.getD k 0 = 0 := by
  by_cases hl : k < d.length
  · exact ((rightX_iff d h).1 hr).2.2 k (by omega) hl hk
  · simp [List.getD_eq_getElem?_getD, show d.length ≤ k by omega]
theorem rightX_begin (n : Nat) (hn : n ≤ 65536) : rightX (List.replicate n 0) [] = true := (rightX_iff _ _).2 ⟨by simpa using hn, trivial, fun k _ hl _ => by
  rw [List.length_replicate] at hl
  simp [List.getD_eq_getElem?_getD, hl]⟩
/-- a piece that fits and does not clash -/
theorem putX_ok {d : List Nat} {h : List (Int × Int)} {a : Nat} {b : List Nat} (hr : rightX d h = true) (h1 : 1 ≤ b.length) (h2 : b.length ≤ 512) (h3 : a + b.length ≤ d.length)
    (hno : ∀ k : Nat, a ≤ k → k < a + b.length → memS h k = true → d.getD k 0 = b.getD (k - a) 0) : putX d h a b = (layB d a b, putS ((a : Int), (a : Int) + b.length) h, 0) := by
  unfold putX
  rw [if_neg (by simp [hr]), if_neg (by omega), if_neg]
  · rfl
  · rw [clashX_iff (rightX_can hr) a b h3]
    rintro ⟨k, k1, k2, k3, k4⟩
    exact k4 (hno k k1 k2 k3)
theorem putX_clash {d : List Nat} {h : List (Int × Int)} {a : Nat} {b : List Nat} (hr : rightX d h = true) (h1 : 1 ≤ b.length) (h2 : b.length ≤ 512) (h3 : a + b.length ≤ d.length)
    (k : Nat) (k1 : a ≤ k) (k2 : k < a + b.length) (k3 : memS h k = true) (k4 : d.getD k 0 ≠ b.getD (k - a) 0) : putX d h a b = (d, h, 241) := by
  unfold putX
  rw [if_neg (by simp [hr]), if_neg (by omega), if_pos ((clashX_iff (rightX_can hr) a b h3).2 ⟨k, k1, k2, k3, k4⟩)]
theorem putS_memX {d : List Nat} {h : List (Int × Int)} (hr : rightX d h = true) (a n : Nat) (hn : 1 ≤ n) (k : Int) : memS (putS ((a : Int), (a : Int) + n) h) k = (decide ((a : Int) ≤ k ∧ k < (a : Int) + n) || memS h k) :=
  putS_mem h _ (rightX_can hr) (by simp only []; omega) k
theorem putX_right {d : List Nat} {h : List (Int × Int)} {a : Nat} {b : List Nat} (hr : rightX d h = true) (h1 : 1 ≤ b.length) (h3 : a + b.length ≤ d.length) : rightX (layB d a b) (putS ((a : Int), (a : Int) + b.length) h) = true := by
  rw [rightX_iff, layB_len h3]
  refine ⟨rightX_len hr, putS_canon h _ (rightX_can hr) (by simp only []; omega) (by simp only []; omega) (by simp only []; omega), fun k _ hl hm => ?_⟩
  rw [layB_len h3] at hl
  rw [putS_memX hr a _ h1, Bool.or_eq_false_iff, decide_eq_false_iff_not] at hm
  rw [layB_get h3, if_neg (by omega)]
  exact rightX_zero hr hm.2

/-! ### how many -/
def manyS : List (Int × Int) → Int
  | [] => 0
  | s :: h => (s.2 - s.1) + manyS h
/-! ### what is missing -/
def gapX (n : Int) : List (Int × Int) → Int × Int
  | [] => (0, n)
  | s :: h => if 0 < s.1 then (0, s.1) else (s.2, match h with | [] => n | t :: _ => t.1)
def nextX (d : List Nat) (h : List (Int × Int)) (most : Int) : (Int × Int) × Bool :=
  if rightX d h = false ∨ most < 1 then ((0, 0), false)
  else if (gapX d.length h).1 = min (gapX d.length h).2 ((gapX d.length h).1 + min most 65536) then ((0, 0), false)
  else (((gapX d.length h).1, min (gapX d.length h).2 ((gapX d.length h).1 + min most 65536)), true)
end Go.Proofs.Ytanggdnmoaflfaa
