/-
  XferGaps, the plain law: pieces with gaps of one byte, then the gaps.
-/
import Derived.Test.YtanggdnmoaflfaaXferQ
namespace Go.Proofs.Ytanggdnmoaflfaa
open Go.RowKit
set_option linter.unusedVariables false
set_option linter.unusedSimpArgs false
set_option maxRecDepth 100000

theorem putS_iso {a b : Int} (hab : a < b) : ∀ (h : List (Int × Int)) {n lo : Int}, canonS n lo h → (∀ k, a - 1 ≤ k → k ≤ b → memS h k = false) → (putS (a, b) h).length = h.length + 1
  | [], _, _, _, _ => rfl
  | t :: h, n, lo, hc, hk => by
    obtain ⟨h1, h2, h3, h4⟩ := hc
    unfold putS
    by_cases hq : t.2 < a
    · rw [if_pos hq, List.length_cons, putS_iso hab h h4 (fun k k1 k2 => by
        have := hk k k1 k2
        simp only [memS, Bool.or_eq_false_iff] at this
        exact this.2), List.length_cons]
    · rw [if_neg hq]
      have hb : ¬ t.1 ≤ b := fun hb => by
        have := hk (max t.1 (a - 1)) (by omega) (by omega)
        simp only [memS, Bool.or_eq_false_iff, decide_eq_false_iff_not] at this
        omega
      unfold mrgS
      rw [if_neg hb]; rfl
theorem putS_join {a b : Int} (hab : a < b) : ∀ (h : List (Int × Int)) {n lo : Int}, canonS n lo h → memS h (a - 1) = true → memS h b = true → (∀ k, a ≤ k → k < b → memS h k = false) → (putS (a, b) h).length + 1 = h.length
  | [], _, _, _, hm, _, _ => by cases hm
  | t :: h, n, lo, hc, hm, hm2, hk => by
    obtain ⟨h1, h2, h3, h4⟩ := hc
    have ht : ∀ k, a ≤ k → k < b → ¬ (t.1 ≤ k ∧ k < t.2) := fun k k1 k2 hh => by
      have := hk k k1 k2
      simp only [memS, Bool.or_eq_false_iff, decide_eq_false_iff_not] at this
      exact this.1 hh
    have hk' : ∀ k, a ≤ k → k < b → memS h k = false := fun k k1 k2 => by
      have := hk k k1 k2
      simp only [memS, Bool.or_eq_false_iff] at this
      exact this.2
    simp only [memS, Bool.or_eq_true, decide_eq_true_eq] at hm hm2
    unfold putS
    by_cases hq : t.2 < a
    · rw [if_pos hq, List.length_cons, List.length_cons, ← putS_join hab h h4 (hm.resolve_left (by omega)) (hm2.resolve_left (by omega)) hk']
    · rw [if_neg hq]
      have hta : t.1 ≤ a - 1 ∧ a - 1 < t.2 := by
        rcases hm with hm | hm
        · exact hm
        · have := canonS_gt h4 hm; omega
      have hte : t.2 = a := by
        have := ht a (Int.le_refl _) hab
        omega
      have hmb : memS h b = true := hm2.resolve_left (by omega)
      cases h with
      | nil => cases hmb
      | cons v u =>
        obtain ⟨g1, g2, g3, g4⟩ := h4
        have hv : v.1 = b := by
          simp only [memS, Bool.or_eq_true, decide_eq_true_eq] at hmb
          have h6 : ¬ (v.1 < b) := fun hlt => by
            have := hk' (max v.1 a) (by omega) (by omega)
            simp only [memS, Bool.or_eq_false_iff, decide_eq_false_iff_not] at this
            omega
          rcases hmb with hmb | hmb
          · omega
          · have := canonS_gt g4 hmb; omega
        unfold mrgS
        rw [if_pos (show t.1 ≤ b by omega)]
        unfold mrgS
        rw [if_pos (show v.1 ≤ max b t.2 by omega)]
        have hu : ∀ (w : List (Int × Int)) (s : Int × Int), canonS n v.2 w → s.2 = v.2 → (mrgS s w).length = w.length + 1 := by
          intro w s hw hs
          cases w with
          | nil => rfl
          | cons x w =>
            have := hw.1
            unfold mrgS
            rw [if_neg (by omega)]; rfl
        rw [hu u _ g4 (by simp only []; omega)]
        simp only [List.length_cons]

/-! ### the pieces -/
def gapAll (M k : Nat) : List Nat := (List.range M).map fun j => if j % (k + 1) = k then 7 else 0
theorem gapAll_len (M k : Nat) : (gapAll M k).length = M := by simp [gapAll]
theorem gapAll_get {M k j : Nat} (hj : j < M) : (gapAll M k).getD j 0 = if j % (k + 1) = k then 7 else 0 := by
  unfold gapAll
  rw [List.getD_eq_getElem?_getD, List.getElem?_map, List.getElem?_range hj]; rfl
def pgP (k i : Nat) : Nat × Nat := (i * (k + 1), i * (k + 1) + k)
def pgG (k g : Nat) : Nat × Nat := (g * (k + 1) + k, g * (k + 1) + k + 1)
def qsA (k i : Nat) : List (Nat × Nat) := (List.range i).map (pgP k)
def gix (n : Nat) (back : Bool) (j : Nat) : Nat := if back then n - 2 - j else j
def qsB (n k : Nat) (back : Bool) (j : Nat) : List (Nat × Nat) := qsA k n ++ (List.range j).map fun q => pgG k (gix n back q)
theorem qsA_succ (k i : Nat) : qsA k (i + 1) = qsA k i ++ [pgP k i] := by simp [qsA, List.range_succ]
theorem qsB_succ (n k : Nat) (back : Bool) (j : Nat) : qsB n k back (j + 1) = qsB n k back j ++ [pgG k (gix n back j)] := by simp [qsB, List.range_succ]
theorem qsB_zero (n k : Nat) (back : Bool) : qsB n k back 0 = qsA k n := by simp [qsB]
theorem mulle {i j d : Nat} (h : i < j) : i * d + d ≤ j * d := by
  have := Nat.mul_le_mul_right d (show i + 1 ≤ j from h)
  rwa [Nat.succ_mul] at this
theorem pgP_ok {n k M : Nat} (hn : 1 ≤ n) (hk : 1 ≤ k) (hk5 : k ≤ 5) (hM : n * (k + 1) = M + 1) {i : Nat} (hi : i < n) : PcOk (gapAll M k).length (pgP k i) := by
  have := mulle (d := k + 1) hi
  rw [gapAll_len]
  unfold PcOk pgP
  simp only []
  omega
theorem pgG_ok {n k M : Nat} (hn : 1 ≤ n) (hk : 1 ≤ k) (hk5 : k ≤ 5) (hM : n * (k + 1) = M + 1) {g : Nat} (hg : g + 1 < n) : PcOk (gapAll M k).length (pgG k g) := by
  have := mulle (d := k + 1) hg
  rw [Nat.succ_mul] at this
  rw [gapAll_len]
  unfold PcOk pgG
  simp only []
  omega
theorem segP {n k M : Nat} (hn : 1 ≤ n) (hk : 1 ≤ k) (hk5 : k ≤ 5) (hM : n * (k + 1) = M + 1) {i : Nat} (hi : i < n) : segN (gapAll M k) (pgP k i) = List.replicate k 0 := by
  have hok := pgP_ok hn hk hk5 hM hi
  have hl := segN_len (Nat.le_of_lt hok.1) hok.2.1
  have hl2 : (pgP k i).2 - (pgP k i).1 = k := by unfold pgP; simp only []; omega
  refine list_ext0 (by rw [hl, hl2, List.length_replicate]) fun j hj => ?_
  rw [hl, hl2] at hj
  have hm := mulle (d := k + 1) hi
  rw [segN_get (by rw [hl2]; exact hj), show (pgP k i).1 + j = i * (k + 1) + j from rfl, gapAll_get (by omega), if_neg]
  · rw [List.getD_eq_getElem?_getD, List.getElem?_replicate, if_pos hj]; rfl
  · rw [Nat.mul_comm, Nat.mul_add_mod, Nat.mod_eq_of_lt (by omega)]; omega
theorem segG {n k M : Nat} (hn : 1 ≤ n) (hk : 1 ≤ k) (hk5 : k ≤ 5) (hM : n * (k + 1) = M + 1) {g : Nat} (hg : g + 1 < n) : segN (gapAll M k) (pgG k g) = [7] := by
  have hok := pgG_ok hn hk hk5 hM hg
  have hl := segN_len (Nat.le_of_lt hok.1) hok.2.1
  have hl2 : (pgG k g).2 - (pgG k g).1 = 1 := by unfold pgG; simp only []; omega
  refine list_ext0 (by rw [hl, hl2]; rfl) fun j hj => ?_
  rw [hl, hl2] at hj
  have hm := mulle (d := k + 1) hg
  rw [Nat.succ_mul] at hm
  obtain rfl : j = 0 := by omega
  rw [segN_get (by rw [hl2]; exact hj), show (pgG k g).1 + 0 = g * (k + 1) + k from rfl, gapAll_get (by omega), if_pos]
  · rfl
  · rw [Nat.mul_comm, Nat.mul_add_mod, Nat.mod_eq_of_lt (by omega)]
theorem qsA_ok {n k M : Nat} (hn : 1 ≤ n) (hk : 1 ≤ k) (hk5 : k ≤ 5) (hM : n * (k + 1) = M + 1) {i : Nat} (hi : i ≤ n) : ∀ p ∈ qsA k i, PcOk (gapAll M k).length p := fun p hp => by
  obtain ⟨j, hj, rfl⟩ := List.mem_map.1 hp
  exact pgP_ok hn hk hk5 hM (by have := List.mem_range.1 hj; omega)
theorem gix_lt {n k M : Nat} (hn : 1 ≤ n) (hk : 1 ≤ k) (hk5 : k ≤ 5) (hM : n * (k + 1) = M + 1) (back : Bool) {j : Nat} (hj : j + 1 < n) : gix n back j + 1 < n := by unfold gix; split <;> omega
theorem qsB_ok {n k M : Nat} (hn : 1 ≤ n) (hk : 1 ≤ k) (hk5 : k ≤ 5) (hM : n * (k + 1) = M + 1) (back : Bool) {j : Nat} (hj : j < n) : ∀ p ∈ qsB n k back j, PcOk (gapAll M k).length p := fun p hp => by
  rcases List.mem_append.1 hp with hp | hp
  · exact qsA_ok hn hk hk5 hM (Nat.le_refl _) p hp
  · obtain ⟨q, hq, rfl⟩ := List.mem_map.1 hp
    exact pgG_ok hn hk hk5 hM (gix_lt hn hk hk5 hM back (by have := List.mem_range.1 hq; omega))
theorem coverA {k i : Nat} {c : Int} : coverS (qsA k i) c = true ↔ ∃ j, j < i ∧ ((j * (k + 1) : Nat) : Int) ≤ c ∧ c < ((j * (k + 1) + k : Nat) : Int) := by
  unfold coverS qsA
  rw [List.any_eq_true]
  constructor
  · rintro ⟨p, hp, h⟩
    obtain ⟨j, hj, rfl⟩ := List.mem_map.1 hp
    exact ⟨j, List.mem_range.1 hj, of_decide_eq_true h⟩
  · rintro ⟨j, hj, h⟩
    exact ⟨pgP k j, List.mem_map.2 ⟨j, List.mem_range.2 hj, rfl⟩, decide_eq_true h⟩
theorem coverB {n k : Nat} {back : Bool} {i : Nat} {c : Int} : coverS (qsB n k back i) c = true ↔ coverS (qsA k n) c = true ∨ ∃ j, j < i ∧ c = ((gix n back j * (k + 1) + k : Nat) : Int) := by
  unfold qsB
  rw [coverS_app, Bool.or_eq_true]
  refine or_congr Iff.rfl ?_
  unfold coverS
  rw [List.any_eq_true]
  constructor
  · rintro ⟨p, hp, h⟩
    obtain ⟨j, hj, rfl⟩ := List.mem_map.1 hp
    refine ⟨j, List.mem_range.1 hj, ?_⟩
    have := of_decide_eq_true h
    unfold pgG at this
    simp only [] at this
    omega
  · rintro ⟨j, hj, h⟩
    refine ⟨pgG k (gix n back j), List.mem_map.2 ⟨j, List.mem_range.2 hj, rfl⟩, decide_eq_true ?_⟩
    unfold pgG
    simp only []
    omega
theorem hM2 {n k M : Nat} (hn : 1 ≤ n) (hk : 1 ≤ k) (hk5 : k ≤ 5) (hM : n * (k + 1) = M + 1) (hn2 : n ≤ 200) : M ≤ 1199 := by
  have : n * (k + 1) ≤ 200 * 6 := Nat.mul_le_mul hn2 (by omega)
  omega
theorem lenGA {n k M : Nat} (hn : 1 ≤ n) (hk : 1 ≤ k) (hk5 : k ≤ 5) (hM : n * (k + 1) = M + 1) (hn2 : n ≤ 200) : ∀ {i : Nat}, i ≤ n → (runX (gapAll M k) (qsA k i)).2.length = i
  | 0, _ => rfl
  | i + 1, hi => by
    have hM3 := hM2 hn hk hk5 hM hn2
    have hg := runX_good (all := gapAll M k) (by rw [gapAll_len]; omega) _ (qsA_ok hn hk hk5 hM (show i ≤ n by omega))
    have hs := segP hn hk hk5 hM (show i < n by omega)
    rw [qsA_succ, runX_app]
    show (putS (((pgP k i).1 : Int), ((pgP k i).1 : Int) + ((segN (gapAll M k) (pgP k i)).length : Nat)) _).length = _
    rw [hs, List.length_replicate, putS_iso (by omega) _ (rightX_can hg.right), lenGA hn hk hk5 hM hn2 (by omega)]
    intro c c1 c2
    rw [hg.mem]
    cases hc : coverS (qsA k i) c with
    | false => rfl
    | true =>
      obtain ⟨j, hj, j1, j2⟩ := coverA.1 hc
      have := mulle (d := k + 1) hj
      unfold pgP at c1
      simp only [] at c1
      omega
theorem gap_not {n k M : Nat} (hn : 1 ≤ n) (hk : 1 ≤ k) (hk5 : k ≤ 5) (hM : n * (k + 1) = M + 1) (back : Bool) {j : Nat} (hj : j + 1 < n) : coverS (qsB n k back j) ((gix n back j * (k + 1) + k : Nat) : Int) = false := by
  cases hc : coverS (qsB n k back j) ((gix n back j * (k + 1) + k : Nat) : Int) with
  | false => rfl
  | true =>
    rcases coverB.1 hc with h | ⟨q, hq, h⟩
    · obtain ⟨q, hq, q1, q2⟩ := coverA.1 h
      rcases Nat.lt_or_ge (gix n back j) q with hlt | hge
      · have := mulle (d := k + 1) hlt; omega
      · have := Nat.mul_le_mul_right (k + 1) hge; omega
    · have hne : gix n back q ≠ gix n back j := by unfold gix; split <;> omega
      rcases Nat.lt_or_gt_of_ne hne with hlt | hlt
      · have := mulle (d := k + 1) hlt; omega
      · have := mulle (d := k + 1) hlt; omega
theorem lenGB {n k M : Nat} (hn : 1 ≤ n) (hk : 1 ≤ k) (hk5 : k ≤ 5) (hM : n * (k + 1) = M + 1) (hn2 : n ≤ 200) (back : Bool) : ∀ {j : Nat}, j < n → (runX (gapAll M k) (qsB n k back j)).2.length = n - j
  | 0, _ => by rw [qsB_zero]; exact lenGA hn hk hk5 hM hn2 (Nat.le_refl _)
  | j + 1, hj => by
    have hM3 := hM2 hn hk hk5 hM hn2
    have hg := runX_good (all := gapAll M k) (by rw [gapAll_len]; omega) _ (qsB_ok hn hk hk5 hM back (show j < n by omega))
    have hgl := gix_lt hn hk hk5 hM back hj
    have hs := segG hn hk hk5 hM hgl
    have ih := lenGB hn hk hk5 hM hn2 back (show j < n by omega)
    have hj2 := putS_join (a := ((pgG k (gix n back j)).1 : Int)) (b := ((pgG k (gix n back j)).1 : Int) + (1 : Nat)) (by omega) _ (rightX_can hg.right) (by
        rw [hg.mem, coverB]
        refine .inl (coverA.2 ⟨gix n back j, by omega, ?_, ?_⟩) <;> (unfold pgG; simp only []; omega)) (by
        rw [hg.mem, coverB]
        refine .inl (coverA.2 ⟨gix n back j + 1, by omega, ?_, ?_⟩) <;> (unfold pgG; simp only [Nat.succ_mul]; omega)) (fun c c1 c2 => by
        have : c = ((gix n back j * (k + 1) + k : Nat) : Int) := by unfold pgG at c1 c2; simp only [] at c1 c2; omega
        rw [hg.mem, this]; exact gap_not hn hk hk5 hM back (by omega))
    rw [qsB_succ, runX_app]
    show (putS (((pgG k (gix n back j)).1 : Int), ((pgG k (gix n back j)).1 : Int) + ((segN (gapAll M k) (pgG k (gix n back j))).length : Nat)) _).length = _
    rw [hs]
    show (putS (((pgG k (gix n back j)).1 : Int), ((pgG k (gix n back j)).1 : Int) + (1 : Nat)) _).length = _
    omega
theorem overB_no {n k M : Nat} (hn : 1 ≤ n) (hk : 1 ≤ k) (hk5 : k ≤ 5) (hM : n * (k + 1) = M + 1) (hn2 : n ≤ 200) (back : Bool) {j : Nat} (hj : j + 1 < n) : overX (runX (gapAll M k) (qsB n k back j)).1 (runX (gapAll M k) (qsB n k back j)).2 = false := by
  have hM3 := hM2 hn hk hk5 hM hn2
  have hg := runX_good (all := gapAll M k) (by rw [gapAll_len]; omega) _ (qsB_ok hn hk hk5 hM back (show j < n by omega))
  have hgl := gix_lt hn hk hk5 hM back hj
  have hm := mulle (d := k + 1) hgl
  rw [Nat.succ_mul] at hm
  cases ho : overX (runX (gapAll M k) (qsB n k back j)).1 (runX (gapAll M k) (qsB n k back j)).2 with
  | false => rfl
  | true =>
    have := (overX_iff hg.right).1 ho (gix n back j * (k + 1) + k) (by rw [hg.len, gapAll_len]; omega)
    rw [hg.mem, gap_not hn hk hk5 hM back hj] at this
    cases this
theorem overB_yes {n k M : Nat} (hn : 1 ≤ n) (hk : 1 ≤ k) (hk5 : k ≤ 5) (hM : n * (k + 1) = M + 1) (hn2 : n ≤ 200) (back : Bool) : overX (runX (gapAll M k) (qsB n k back (n - 1))).1 (runX (gapAll M k) (qsB n k back (n - 1))).2 = true := by
  have hM3 := hM2 hn hk hk5 hM hn2
  have hg := runX_good (all := gapAll M k) (by rw [gapAll_len]; omega) _ (qsB_ok hn hk hk5 hM back (show n - 1 < n by omega))
  refine (overX_iff hg.right).2 fun p hp => ?_
  rw [hg.len, gapAll_len] at hp
  rw [hg.mem, coverB]
  have hdm := Nat.div_add_mod p (k + 1)
  have hml := Nat.mod_lt p (show 0 < k + 1 by omega)
  rw [Nat.mul_comm] at hdm
  generalize p / (k + 1) = q at *
  generalize p % (k + 1) = r at *
  have hqn : q < n := by
    rcases Nat.lt_or_ge q n with h | h
    · exact h
    · have := Nat.mul_le_mul_right (k + 1) h; omega
  by_cases hr : r < k
  · exact .inl (coverA.2 ⟨q, hqn, by omega, by omega⟩)
  · have hq2 : q + 1 < n := by
      rcases Nat.lt_or_ge (q + 1) n with h | h
      · exact h
      · have : q + 1 = n := by omega
        rw [← this, Nat.succ_mul] at hM; omega
    refine .inr ⟨if back then n - 2 - q else q, by split <;> omega, ?_⟩
    have : gix n back (if back then n - 2 - q else q) = q := by unfold gix; split <;> omega
    rw [this]; omega
theorem over_many {d : List Nat} {h : List (Int × Int)} (ho : overX d h = true) : manyX d h = d.length := by
  unfold overX at ho
  simp only [Bool.and_eq_true, decide_eq_true_eq] at ho
  exact ho.2
end Go.Proofs.Ytanggdnmoaflfaa
