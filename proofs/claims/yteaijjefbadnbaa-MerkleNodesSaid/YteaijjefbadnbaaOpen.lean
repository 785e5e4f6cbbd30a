/-
  How arguments are opened: arrays (and arrays of arrays, structs of such) of whole numbers of one kind; slices of whole numbers.
  No conditions: lemmas over any program.
-/
import Derived.Test.YteaijjefbadnbaaArr
import Derived.ChangeOld
import Derived.ShutString
namespace Go.Proofs.Yteaijjefbadnbaa
open Go.ChangeShapes Go.WideShapes Go.ChangeAt Go.RowKit
set_option linter.unusedVariables false
set_option linter.unusedSimpArgs false
set_option maxRecDepth 100000

section
variable {P : Program}
/-- Whatever reads as t is N cells, whole numbers of the kind k that fit it. -/
def AllInts (P : Program) (k : IntKind) (t : TypeId) (N : Nat) : Prop :=
  ∀ (H : Type) (enc : TypeId × Value → H) (w : World) (base : Nat) (spare : Nat → Bool) (held : Bool) (fuel : Nat) (cs : List Value) (x : DataW H × List MemPlace),
    DataW.trod enc P w base spare held fuel t cs = some x → cs.length = N ∧ ∀ c ∈ cs, ∃ n, c = .int k n ∧ (Lit.int k n).wf = true

theorem AllInts.int {k : IntKind} {t : TypeId} (ht : P.underlying t = some (.int k)) : AllInts P k t 1 := by
  intro H enc w base spare held fuel cs x h
  obtain ⟨n, rfl, _, wf⟩ := DataW.trod_int ht h
  exact ⟨rfl, fun c hc => ⟨n, by simpa using hc, wf⟩⟩

theorem AllInts.array {k : IntKind} {t e : TypeId} {n m N : Nat} (ht : P.underlying t = some (.array n e)) (he : AllInts P k e m) (hc : P.cellsOf e = m) (hN : P.cellsOf t = N) (hNm : N = n * m) : AllInts P k t N := by
  intro H enc w base spare held fuel cs x h
  obtain ⟨xs, f, _, _, hl, hxs, hel⟩ := DataW.trod_array ht h
  rw [hN] at hl
  refine ⟨hl, fun c hcm => ?_⟩
  obtain ⟨q, hq, rfl⟩ := List.mem_iff_getElem.1 hcm
  have hm : 0 < m := by
    rcases Nat.eq_zero_or_pos m with h0 | h0
    · subst h0; omega
    · exact h0
  have hi : q / m < n := by
    rw [Nat.div_lt_iff_lt_mul hm, ← hNm, ← hl]; exact hq
  have h2 := hel (q / m) hi
  rw [hc] at h2
  rw [List.getElem?_eq_getElem (by omega)] at h2
  obtain ⟨_, h4⟩ := he H enc w base spare held f _ _ h2
  refine h4 _ ?_
  rw [List.mem_iff_getElem?]
  refine ⟨q % m, ?_⟩
  rw [List.getElem?_take, if_pos (Nat.mod_lt _ hm), List.getElem?_drop, Nat.mul_comm, Nat.div_add_mod, List.getElem?_eq_getElem hq]

theorem AllInts.struct2 {k : IntKind} {t : TypeId} {f0 f1 : Field} {n0 n1 N : Nat} (ht : P.underlying t = some (.struct #[f0, f1])) (h0 : AllInts P k f0.type n0) (h1 : AllInts P k f1.type n1)
    (o0 : f0.offset = 0) (o1 : f1.offset = n0) (c0 : P.cellsOf f0.type = n0) (c1 : P.cellsOf f1.type = n1) (hN : P.cellsOf t = N) (hn : N = n0 + n1) : AllInts P k t N := by
  intro H enc w base spare held fuel cs x h
  obtain ⟨y0, y1, m, _, hl, e0, e1⟩ := trod_struct2 ht h
  rw [hN] at hl
  rw [o0, c0] at e0
  rw [o1, c1] at e1
  obtain ⟨_, a0⟩ := h0 H enc w base spare held _ _ _ e0
  obtain ⟨_, a1⟩ := h1 H enc w base spare held _ _ _ e1
  refine ⟨hl, fun c hc => ?_⟩
  obtain ⟨q, hq, rfl⟩ := List.mem_iff_getElem.1 hc
  by_cases hlt : q < n0
  · refine a0 _ ?_
    rw [List.mem_iff_getElem?]
    exact ⟨q, by rw [List.getElem?_take, if_pos hlt, List.drop_zero, List.getElem?_eq_getElem hq]⟩
  · refine a1 _ ?_
    rw [List.mem_iff_getElem?]
    refine ⟨q - n0, ?_⟩
    rw [List.getElem?_take, if_pos (by omega), List.getElem?_drop, show n0 + (q - n0) = q by omega, List.getElem?_eq_getElem hq]

theorem ints_of {k : IntKind} : ∀ (cs : List Value), (∀ c ∈ cs, ∃ n, c = .int k n ∧ (Lit.int k n).wf = true) → ∃ xs : List Int, cs = xs.map (Value.int k) ∧ ∀ n ∈ xs, (Lit.int k n).wf = true
  | [], _ => ⟨[], rfl, fun n h => by cases h⟩
  | c :: cs, h => by
    obtain ⟨n, rfl, wf⟩ := h c (List.mem_cons_self ..)
    obtain ⟨xs, rfl, hw⟩ := ints_of cs fun d hd => h d (List.mem_cons_of_mem _ hd)
    exact ⟨n :: xs, rfl, fun m hm => by
      rcases List.mem_cons.1 hm with rfl | hm
      · exact wf
      · exact hw m hm⟩

/-- An argument that is an array (or a struct) of whole numbers. -/
theorem open_flat {k : IntKind} {t : TypeId} {N : Nat} (ha : AllInts P k t N) {d0 : TypeDesc} (hu : P.underlying t = some d0) (hr : d0.isRow = true) {H : Type} {enc : TypeId × Value → H} {W w : World} {r : Reach} {base b0 : Nat} {spare : Nat → Bool} {held : Bool} {v : Value} {d : DataW H} {p : List MemPlace}
    (hval : Value.okWide P W r b0 t v) (h : DataW.Trod enc P w base spare held t v d p) : ∃ xs : List Int, v = .agg (cellsOf k xs) ∧ xs.length = N ∧ ∀ n ∈ xs, (Lit.int k n).wf = true := by
  obtain ⟨fuel, hf⟩ := h
  obtain ⟨hl, hall⟩ := ha H enc w base spare held fuel _ _ hf
  obtain ⟨xs, hxs, hw⟩ := ints_of _ hall
  have hv : ∃ cs, v = .agg cs := by
    cases d0 <;> simp only [TypeDesc.isRow, Bool.false_eq_true] at hr <;> simp only [Value.okWide, hu] at hval <;> exact ⟨_, hval.choose_spec.1⟩
  obtain ⟨cs, rfl⟩ := hv
  refine ⟨xs, ?_, by rw [← hl, hxs]; simp, hw⟩
  congr 1
  have : cs.toList = xs.map (Value.int k) := hxs
  unfold cellsOf
  rw [← this]

theorem wf_bounds_u8 {xs : List Int} (h : ∀ n ∈ xs, (Lit.int .u8 n).wf = true) : ∀ x ∈ xs, 0 ≤ x ∧ x < 256 := fun x hx => by
  have := bounds_u8 (h x hx); omega
theorem wf_bounds_u16 {xs : List Int} (h : ∀ n ∈ xs, (Lit.int .u16 n).wf = true) : ∀ x ∈ xs, 0 ≤ x ∧ x < 65536 := fun x hx => by
  have := bounds_u16 (h x hx); omega
theorem wf_bounds_u32 {xs : List Int} (h : ∀ n ∈ xs, (Lit.int .u32 n).wf = true) : ∀ x ∈ xs, 0 ≤ x ∧ x < 4294967296 := fun x hx => by
  have := bounds_u32 (h x hx); omega
theorem wf_bounds_i64 {xs : List Int} (h : ∀ n ∈ xs, (Lit.int .i64 n).wf = true) : ∀ x ∈ xs, -9223372036854775808 ≤ x ∧ x ≤ 9223372036854775807 := fun x hx => bounds_i64 (h x hx)
theorem wf_bytes {xs : List Int} (h : ∀ n ∈ xs, (Lit.int .u8 n).wf = true) : ∀ x ∈ xs, 0 ≤ x ∧ x < 256 := fun x hx => by
  have := bounds_u8 (h x hx); omega

/-- An argument that is a slice of whole numbers. -/
theorem open_row {k : IntKind} {t e : TypeId} (ht : P.underlying t = some (.slice e)) (he : P.underlying e = some (.int k)) (hc : P.cellsOf e = 1) {H : Type} {enc : TypeId × Value → H} {W : World} {r : Reach} {b0 : Nat} {v : Value} {d : DataW H} {p : List MemPlace}
    (hval : Value.okWide P W r b0 t v) (h : DataW.Trod enc P W 0 (fun _ => true) true t v d p) (hlt : ∀ x ∈ p, x.block < W.heap.size) : ∃ xs : List Int, SL k W v xs ∧ ∀ n ∈ xs, (Lit.int k n).wf = true := by
  have hval' := hval
  obtain ⟨a0, len0, cap0, rfl⟩ := okWide_slice ht hval
  obtain ⟨fuel, hf⟩ := h
  rcases open_ints ht he hc hf with ⟨hcs, _⟩ | ⟨x, l, c, zs, hcs, _, hl, hm, hz, hx, hcell, hwz⟩
  · simp [Value.cells] at hcs
    obtain ⟨rfl, rfl, rfl⟩ := hcs
    exact ⟨[], .inl ⟨rfl, rfl⟩, fun n h => by cases h⟩
  · simp [Value.cells] at hcs
    obtain ⟨rfl, rfl, rfl⟩ := hcs
    refine ⟨zs.take len0, ?_, fun n hn => hwz n (List.mem_of_mem_take hn)⟩
    simp at hz
    have hlen : (zs.take len0).length = len0 := by rw [List.length_take]; omega
    simp only [Value.okWide, ht, Cell.okWide, Cell.ok, World.has] at hval'
    obtain ⟨_, _, _, hsp, row, cells, hsh, _⟩ := hval'
    obtain ⟨b, o, sp⟩ := x
    simp only at hsp hsh
    subst hsp
    have hb : b < W.heap.size := by
      rcases Nat.lt_or_ge b W.heap.size with h | h
      · exact h
      · simp [World.shape?, Array.getElem?_eq_none h] at hsh
    refine .inr ⟨b, o, cap0, by rw [hlen], by omega, hm, hb, fun j hj => ?_⟩
    rw [hlen] at hj
    have := hcell j (by omega)
    rw [Addr.add_mid] at this
    rw [this]
    simp [List.getElem?_take, hj]
end
end Go.Proofs.Yteaijjefbadnbaa
