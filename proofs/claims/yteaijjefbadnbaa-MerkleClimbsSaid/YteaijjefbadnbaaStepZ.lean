/-
  A region whose order is open, whose last operation (number z) may turn what the others read.
  No conditions: lemmas over any program.
-/
import Derived.Test.YteaijjefbadnbaaStep
namespace Go.Proofs.Yteaijjefbadnbaa
open Go.RowKit
set_option linter.unusedVariables false
set_option linter.unusedSimpArgs false
set_option maxRecDepth 100000

section
variable {P : Program} {ops : Array Oper} {Q : Exit → Act → World → Prop} {md : Region.Mode} {S : World → Prop} {fuel z : Nat} {listed : Array Bool} {l : List Value} {ds : List Deferred} {w : World} {oi : Oper}
/-- Whatever order is picked from here on; S holds behind every operation but z. -/
def wpAnyZ (P : Program) (md : Region.Mode) (ops : Array Oper) (Q : Exit → Act → World → Prop) (S : World → Prop) (z : Nat) : Nat → Array Bool → Act → World → Prop
  | 0, listed, a, w => Region.ready md ops listed = [] ∧ Q .normal a w
  | fuel + 1, listed, a, w =>
    (Region.ready md ops listed = [] → Q .normal a w) ∧
    ∀ i ∈ Region.ready md ops listed, wpOp P ops Q i (fun a' w' => (i = z ∨ S w') ∧ wpAnyZ P md ops Q S z fuel (listed.setIfInBounds i true) a' w') a w
theorem wpAny_of_Z : ∀ (fuel : Nat) (listed : Array Bool) (a : Act) (w : World), wpAnyZ P md ops Q S z fuel listed a w → wpAny P md ops Q fuel listed a w
  | 0, _, _, _, h => h
  | fuel + 1, _, _, _, h => ⟨h.1, fun i hi => wpOp_mono (fun a' w' h' => wpAny_of_Z fuel _ a' w' h'.2) (h.2 i hi)⟩
theorem wpAnyZ_first {i : Nat} {oi oz : Oper} {v : Value} (hi : ops[i]? = some oi) (hsel : ∀ (j : Nat) (o : Oper) cs b, ops[j]? = some o → o.op ≠ .select cs b) (hz : ops[z]? = some oz → ∃ e ∈ oz.after, Region.binds md e = true ∧ e.on = i) (hoz : ops[z]? = some oz ∨ ops[z]? = none) (hiz : i ≠ z)
    (hQ : ∀ c a w, Q (.panic c) (a.put oi.dst v) w → Q (.panic c) a w) :
    ∀ (fuel : Nat) (listed : Array Bool) (a : Act) (w : World),
      (∀ j oj, ops[j]? = some oj → j ≠ i → listed.getD j true = false → (∀ e ∈ oj.after, Region.binds md e = true → e.on ≠ i) → oi.apart ops oj = true) →
      i ∈ Region.ready md ops listed → YieldsIf P ops S oi v a → S w →
      wpAnyZ P md ops Q S z fuel (listed.setIfInBounds i true) (a.put oi.dst v) w → wpAnyZ P md ops Q S z (fuel + 1) listed a w := by
  intro fuel
  induction fuel with
  | zero =>
    intro listed a w _ hr hy hS H
    refine ⟨fun h => (by rw [h] at hr; cases hr), fun j hj => ?_⟩
    by_cases hji : j = i
    · subst hji; exact hy.wpOp hi hS ⟨.inr hS, H⟩
    · have := ready_mono hj hji
      rw [H.1] at this
      cases this
  | succ fuel ih =>
    intro listed a w hfree hr hy hS H
    refine ⟨fun h => (by rw [h] at hr; cases hr), fun j hj => ?_⟩
    by_cases hji : j = i
    · subst hji; exact hy.wpOp hi hS ⟨.inr hS, H⟩
    · have h1 := H.2 j (ready_mono hj hji)
      obtain ⟨hjun, oj, hoj, hall⟩ := mem_ready.1 hj
      have hnot : ∀ e ∈ oj.after, Region.binds md e = true → e.on ≠ i := fun e he hb heq => by
        have h1 := hall e he hb
        have h0 := (mem_ready.1 hr).1
        rw [heq] at h1
        rcases Nat.lt_or_ge i listed.size with h' | h'
        · simp [h'] at h0 h1; rw [h0] at h1; cases h1
        · simp [Array.getElem?_eq_none h'] at h1
      have hjz : j ≠ z := by
        rintro rfl
        rcases hoz with ho | ho
        · rw [ho] at hoj
          obtain rfl := Option.some.inj hoj
          obtain ⟨e, he, hb, hon⟩ := hz ho
          exact hnot e he hb hon
        · rw [ho] at hoj; cases hoj
      have h2 := wpOp_putIf hoj (hfree j oj hoj hji hjun hnot) (fun cs b => hsel i oi cs b hi) (fun cs b => hsel j oj cs b hoj) hQ hy h1
      have hfree' : ∀ k ok, ops[k]? = some ok → k ≠ i → (listed.setIfInBounds j true).getD k true = false →
          (∀ e ∈ ok.after, Region.binds md e = true → e.on ≠ i) → oi.apart ops ok = true := fun k ok hk hki hun hno => by
        refine hfree k ok hk hki ?_ hno
        by_cases hjk : j = k
        · subst hjk; exact hjun
        · rw [getD_set_ne true hjk] at hun; exact hun
      refine wpOp_mono (fun a' w' h3 => ⟨h3.2.1, ih (listed.setIfInBounds j true) a' w' hfree' (ready_mono hr (Ne.symm hji)) h3.1 (h3.2.1.resolve_left hjz) ?_⟩) h2
      rw [Array.setIfInBounds_comm _ _ hji]
      exact h3.2.2
/-- Does z wait for i? (Or is there no z?) -/
def waitsZ (md : Region.Mode) (ops : Array Oper) (z i : Nat) : Bool :=
  match ops[z]? with
  | some o => o.after.any fun e => Region.binds md e && (e.on == i)
  | none => true
def CZ (md : Region.Mode) (ops : Array Oper) (z : Nat) (listed : Array Bool) (l : List Value) (i d : Nat) (b : Bool) : Bool := CK md ops listed l i d b && waitsZ md ops z i && !(i == z)
theorem zfirst {a : Act} (i : Nat) {v : Value} (hi : i < ops.size) (hs : Region.noSelect ops = true) (hf : Region.free md ops listed i = true) (hr : (Region.ready md ops listed).contains i = true) (hw : waitsZ md ops z i = true) (hiz : i ≠ z)
    (hQ : ∀ c a w, Q (.panic c) (a.put (opAt ops i).dst v) w → Q (.panic c) a w) (hy : YieldsIf P ops S (opAt ops i) v a) (hS : S w)
    (h : wpAnyZ P md ops Q S z fuel (listed.setIfInBounds i true) (a.put (opAt ops i).dst v) w) : wpAnyZ P md ops Q S z (fuel + 1) listed a w := by
  cases hz : ops[z]? with
  | none => exact wpAnyZ_first (oz := opAt ops i) (opAt_get hi) (Region.noSelect_spec hs) (fun h => by rw [hz] at h; cases h) (.inr hz) hiz hQ fuel listed a w (Region.free_spec (opAt_get hi) hf) (by simpa using hr) hy hS h
  | some oz =>
    refine wpAnyZ_first (oz := oz) (opAt_get hi) (Region.noSelect_spec hs) (fun _ => ?_) (.inl hz) hiz hQ fuel listed a w (Region.free_spec (opAt_get hi) hf) (by simpa using hr) hy hS h
    simp only [waitsZ, hz, Array.any_eq_true', Bool.and_eq_true, beq_iff_eq] at hw
    obtain ⟨e, he, hb, ho⟩ := hw
    exact ⟨e, he, hb, ho⟩
theorem zv (i d : Nat) (v : Value) (hrun : ∀ w, S w → Val P ⟨l.toArray, ds⟩ (opAt ops i) v w) (hS : S w)
    (h : wpAnyZ P md ops Q S z fuel (listed.setIfInBounds i true) ⟨(l.set d v).toArray, ds⟩ w) (hk : CZ md ops z listed l i d true = true := by kernel_rfl)
    (hQ' : ∀ c a w, Q (.panic c) (a.put (opAt ops i).dst v) w → Q (.panic c) a w := by exact fun _ _ _ h => h) : wpAnyZ P md ops Q S z (fuel + 1) listed ⟨l.toArray, ds⟩ w := by
  simp only [CZ, CK, Bool.and_eq_true, decide_eq_true_eq, beq_iff_eq, Bool.not_eq_true', beq_eq_false_iff_ne] at hk
  obtain ⟨⟨⟨⟨⟨⟨⟨h1, h2⟩, h3⟩, h4⟩, h5⟩, h6⟩, h7⟩, h8⟩ := hk
  exact zfirst i h1 h3 h4 h5 h7 h8 hQ' (.inl ⟨h6, hrun⟩) hS (by rw [h2, put_list]; exact h)
theorem zs (i d : Nat) (hS : S w)
    (h : wpAnyZ P md ops Q S z fuel (listed.setIfInBounds i true) ⟨(l.set d undef).toArray, ds⟩ w) (hk : CZ md ops z listed l i d false = true := by kernel_rfl)
    (hQ' : ∀ c a w, Q (.panic c) (a.put (opAt ops i).dst undef) w → Q (.panic c) a w := by exact fun _ _ _ h => h) : wpAnyZ P md ops Q S z (fuel + 1) listed ⟨l.toArray, ds⟩ w := by
  simp only [CZ, CK, Bool.and_eq_true, decide_eq_true_eq, beq_iff_eq, Bool.not_eq_true', beq_eq_false_iff_ne] at hk
  obtain ⟨⟨⟨⟨⟨⟨⟨h1, h2⟩, h3⟩, h4⟩, h5⟩, h6⟩, h7⟩, h8⟩ := hk
  exact zfirst i h1 h3 h4 h5 h7 h8 hQ' (.inr ⟨h6, rfl⟩) hS (by rw [h2, put_list]; exact h)
theorem wpAnyZ_all {rs : List Nat} {a : Act} (hr : Region.ready md ops listed = rs) (hne : rs ≠ [])
    (h : ∀ i ∈ rs, wpOp P ops Q i (fun a' w' => (i = z ∨ S w') ∧ wpAnyZ P md ops Q S z fuel (listed.setIfInBounds i true) a' w') a w) : wpAnyZ P md ops Q S z (fuel + 1) listed a w :=
  ⟨fun h0 => absurd (hr ▸ h0) hne, hr ▸ h⟩
theorem zo1 {a : Act} (i : Nat) (hi : ops[i]? = some oi) (h : wpList P ops (endK (fun a' w' => (i = z ∨ S w') ∧ wpAnyZ P md ops Q S z fuel (listed.setIfInBounds i true) a' w') Q) [oi] a w) (hr : Region.ready md ops listed = [i] := by kernel_rfl) : wpAnyZ P md ops Q S z (fuel + 1) listed a w := by
  refine wpAnyZ_all hr (by simp) fun j hj => ?_
  obtain rfl : j = i := by simpa using hj
  exact wpOp_of_list j hi h
theorem zo2 {a : Act} {oj : Oper} (i j : Nat) (hi : ops[i]? = some oi) (hj : ops[j]? = some oj)
    (h : wpList P ops (endK (fun a' w' => (i = z ∨ S w') ∧ wpAnyZ P md ops Q S z fuel (listed.setIfInBounds i true) a' w') Q) [oi] a w)
    (h' : wpList P ops (endK (fun a' w' => (j = z ∨ S w') ∧ wpAnyZ P md ops Q S z fuel (listed.setIfInBounds j true) a' w') Q) [oj] a w) (hr : Region.ready md ops listed = [i, j] := by kernel_rfl) : wpAnyZ P md ops Q S z (fuel + 1) listed a w := by
  refine wpAnyZ_all hr (by simp) fun k hk => ?_
  rcases List.mem_cons.1 hk with rfl | hk
  · exact wpOp_of_list k hi h
  · obtain rfl : k = j := by simpa using hk
    exact wpOp_of_list k hj h'
theorem zo3 {a : Act} {oj ok : Oper} (i j k : Nat) (hi : ops[i]? = some oi) (hj : ops[j]? = some oj) (hk : ops[k]? = some ok)
    (h : wpList P ops (endK (fun a' w' => (i = z ∨ S w') ∧ wpAnyZ P md ops Q S z fuel (listed.setIfInBounds i true) a' w') Q) [oi] a w)
    (h' : wpList P ops (endK (fun a' w' => (j = z ∨ S w') ∧ wpAnyZ P md ops Q S z fuel (listed.setIfInBounds j true) a' w') Q) [oj] a w)
    (h'' : wpList P ops (endK (fun a' w' => (k = z ∨ S w') ∧ wpAnyZ P md ops Q S z fuel (listed.setIfInBounds k true) a' w') Q) [ok] a w) (hr : Region.ready md ops listed = [i, j, k] := by kernel_rfl) : wpAnyZ P md ops Q S z (fuel + 1) listed a w := by
  refine wpAnyZ_all hr (by simp) fun m hm => ?_
  rcases List.mem_cons.1 hm with rfl | hm
  · exact wpOp_of_list m hi h
  · rcases List.mem_cons.1 hm with rfl | hm
    · exact wpOp_of_list m hj h'
    · obtain rfl : m = k := by simpa using hm
      exact wpOp_of_list m hk h''
theorem ze {a' : Act} {w' : World} (i : Nat) (hS : S w') (h : wpAnyZ P md ops Q S z fuel (listed.setIfInBounds i true) a' w') :
    wpList P ops (endK (fun a' w' => (i = z ∨ S w') ∧ wpAnyZ P md ops Q S z fuel (listed.setIfInBounds i true) a' w') Q) [] a' w' := ⟨.inr hS, h⟩
theorem zz {a' : Act} {w' : World} (i : Nat) (h : wpAnyZ P md ops Q S z fuel (listed.setIfInBounds i true) a' w') (hi : i = z := by rfl) :
    wpList P ops (endK (fun a' w' => (i = z ∨ S w') ∧ wpAnyZ P md ops Q S z fuel (listed.setIfInBounds i true) a' w') Q) [] a' w' := ⟨.inl hi, h⟩
theorem zd {listed : Array Bool} {a : Act} {w : World} (hr : Region.ready md ops listed = []) (h : Q .normal a w) : ∀ fuel, wpAnyZ P md ops Q S z fuel listed a w
  | 0 => ⟨hr, h⟩
  | _ + 1 => ⟨fun _ => h, by rw [hr]; simp⟩
theorem zg {id : Nat} {a : Act} {w : World} (S T : World → Prop) (z n : Nat) (hT : T w.drew) (h : ∀ u, T u → wpAnyZ P .any ops Q S z n (Array.replicate n false) a u) (hm : P.follows .mixedOrders = true := by kernel_rfl) (hn : ops.size = n := by rfl) : (Code.region id ops true).wp P Q a w := by
  subst hn
  exact wp_region_any hm (wpAny_of_Z _ _ _ _ (h _ hT))
end
end Go.Proofs.Yteaijjefbadnbaa
