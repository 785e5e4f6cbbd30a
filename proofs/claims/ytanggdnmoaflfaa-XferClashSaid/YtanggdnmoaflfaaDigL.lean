/-
  Slices whose elements are rows of whole numbers (digests, ..): read, taken in parts, appended to, laid, opened.
  No conditions: lemmas over any program.
-/
import Derived.Test.YtanggdnmoaflfaaSlxS
import Derived.Test.YtanggdnmoaflfaaPk1
import Derived.Great.BuildSlice
namespace Go.Proofs.Ytanggdnmoaflfaa
open Go.ChangeShapes Go.WideShapes Go.ChangeAt Go.RowKit
set_option linter.unusedVariables false
set_option linter.unusedSimpArgs false
set_option maxRecDepth 100000

/-! ### rows of one length, laid side by side -/
theorem fe_length {z : Nat} : ∀ {ds : List (List Int)}, (∀ d ∈ ds, d.length = z) → ds.flatten.length = ds.length * z
  | [], _ => by simp
  | d :: ds, h => by
    rw [List.flatten_cons, List.length_append, h d (List.mem_cons_self ..), fe_length fun x hx => h x (List.mem_cons_of_mem _ hx), List.length_cons, Nat.succ_mul]; omega
theorem fe_drop {z : Nat} : ∀ {ds : List (List Int)} (n : Nat), (∀ d ∈ ds, d.length = z) → ds.flatten.drop (n * z) = (ds.drop n).flatten
  | ds, 0, _ => by simp
  | [], n + 1, _ => by simp
  | d :: ds, n + 1, h => by
    rw [List.flatten_cons, List.drop_succ_cons, ← fe_drop n fun x hx => h x (List.mem_cons_of_mem _ hx), Nat.succ_mul, Nat.add_comm, ← List.drop_drop, List.drop_left' (h d (List.mem_cons_self ..))]
theorem fe_take {z : Nat} : ∀ {ds : List (List Int)} (n : Nat), (∀ d ∈ ds, d.length = z) → ds.flatten.take (n * z) = (ds.take n).flatten
  | ds, 0, _ => by simp
  | [], n + 1, _ => by simp
  | d :: ds, n + 1, h => by
    rw [List.flatten_cons, List.take_succ_cons, List.flatten_cons, ← fe_take n fun x hx => h x (List.mem_cons_of_mem _ hx), Nat.succ_mul, List.take_append, h d (List.mem_cons_self ..), List.take_of_length_le (by rw [h d (List.mem_cons_self ..)]; omega), Nat.add_sub_cancel]
theorem fe_seg {z : Nat} {ds : List (List Int)} (h : ∀ d ∈ ds, d.length = z) (j : Nat) (hj : j < ds.length) : (ds.flatten.drop (j * z)).take z = ds.getD j [] := by
  rw [fe_drop j h, List.drop_eq_getElem_cons hj, List.flatten_cons, List.take_left' (h _ (List.getElem_mem hj))]
  simp [hj]
theorem fe_get {z : Nat} (hz : 0 < z) : ∀ {ds : List (List Int)}, (∀ d ∈ ds, d.length = z) → ∀ k : Nat, ds.flatten[k]? = (ds[k / z]?).bind (fun d => d[k % z]?)
  | [], _, k => by simp
  | d :: ds, h, k => by
    have hd := h d (List.mem_cons_self ..)
    rw [List.flatten_cons]
    by_cases hk : k < z
    · rw [List.getElem?_append_left (by omega), Nat.div_eq_of_lt hk, Nat.mod_eq_of_lt hk]; simp
    · rw [List.getElem?_append_right (by omega), hd, fe_get hz (fun x hx => h x (List.mem_cons_of_mem _ hx)) (k - z)]
      have e1 : k / z = (k - z) / z + 1 := by exact Nat.div_eq_sub_div hz (by omega)
      have e2 : k % z = (k - z) % z := by rw [Nat.mod_eq_sub_mod (by omega)]
      rw [e1, e2, List.getElem?_cons_succ]
theorem fe_getD {ds : List (List Int)} {z : Nat} (h : ∀ d ∈ ds, d.length = z) {j : Nat} (hj : j < ds.length) : (ds.getD j []).length = z := by
  rw [List.getD_eq_getElem?_getD, List.getElem?_eq_getElem hj]; exact h _ (List.getElem_mem hj)

theorem nums_get (k : IntKind) (xs : List Int) (j : Nat) (h : j < xs.length) : (nums k xs)[j]? = some (.int k (xs.getD j 0)) := by simp [nums, h]
/-- 'v' is a slice of rows of z whole numbers each that reads as ds. -/
def SE (k : IntKind) (z : Nat) (w : World) (v : Value) (ds : List (List Int)) : Prop :=
  (∀ d ∈ ds, d.length = z) ∧
  ((v = .slice none 0 0 ∧ ds = []) ∨
  ∃ b o c, v = .slice (some ⟨b, o, none⟩) ds.length c ∧ ds.length ≤ c ∧ c ≤ maxLen ∧ b < w.heap.size ∧
    ∀ j, j < ds.length * z → w.cell? ⟨b, o + j, none⟩ = some (.int k (ds.flatten.getD j 0)))
theorem SE.lens {k : IntKind} {z : Nat} {w : World} {v : Value} {ds : List (List Int)} (h : SE k z w v ds) : ∀ d ∈ ds, d.length = z := h.1
theorem SE.nil (k : IntKind) (z : Nat) (w : World) : SE k z w (.slice none 0 0) [] := ⟨(fun d h => by cases h), .inl ⟨rfl, rfl⟩⟩
theorem SE.ev {X : Nat → Prop} {k : IntKind} {z : Nat} {w w' : World} {v : Value} {ds : List (List Int)} (h : SE k z w v ds) (e : Ev X w w') (hn : ∀ g, v.ownBlock = some g → ¬ X g) : SE k z w' v ds := by
  obtain ⟨h0, h⟩ := h
  refine ⟨h0, ?_⟩
  rcases h with h | ⟨b, o, c, hv, h1, h2, h3, h4⟩
  · exact .inl h
  · subst hv
    exact .inr ⟨b, o, c, rfl, h1, h2, Nat.lt_of_lt_of_le h3 e.size, fun j hj => by rw [World.cell?_of_block (a := ⟨b, o + j, none⟩) (e.block b h3 (hn b rfl))]; exact h4 j hj⟩
theorem SE.e0 {k : IntKind} {z : Nat} {w w' : World} {v : Value} {ds : List (List Int)} (h : SE k z w v ds) (e : E0 w w') : SE k z w' v ds := h.ev e fun _ _ x => x
theorem SE.below {k : IntKind} {z : Nat} {w w' : World} {v : Value} {ds : List (List Int)} (h : SE k z w v ds) (hb : Below w.heap.size w w') : SE k z w' v ds := h.e0 (belE0 hb)
theorem SE.lt {k : IntKind} {z : Nat} {w : World} {v : Value} {ds : List (List Int)} (h : SE k z w v ds) : ∀ i, v.ownBlock = some i → i < w.heap.size := by
  rcases h.2 with ⟨rfl, _⟩ | ⟨b, o, c, rfl, h1, h2, h3, h4⟩
  · intro i hi; cases hi
  · intro i hi; simp [Value.ownBlock] at hi; omega
theorem SE.len {k : IntKind} {z : Nat} {w : World} {v : Value} {ds : List (List Int)} (h : SE k z w v ds) : ∃ a c, v = .slice a ds.length c ∧ ds.length ≤ c := by
  rcases h.2 with ⟨rfl, rfl⟩ | ⟨b, o, c, rfl, h1, _⟩
  · exact ⟨none, 0, rfl, by simp⟩
  · exact ⟨_, _, rfl, h1⟩
theorem SE.cap {k : IntKind} {z : Nat} {w : World} {A : Option Addr} {n C : Nat} {ds : List (List Int)} (h : SE k z w (.slice A n C) ds) : n = ds.length ∧ n ≤ C ∧ n ≤ maxLen := by
  rcases h.2 with ⟨he, rfl⟩ | ⟨b, o, c, he, h1, h2, _⟩
  · simp only [Value.slice.injEq] at he
    obtain ⟨_, rfl, rfl⟩ := he
    exact ⟨rfl, Nat.le_refl _, Nat.zero_le _⟩
  · simp only [Value.slice.injEq] at he
    obtain ⟨_, rfl, rfl⟩ := he
    exact ⟨rfl, h1, Nat.le_trans h1 h2⟩
theorem SE.cast {k : IntKind} {z : Nat} {w : World} {v : Value} {ds es : List (List Int)} (h : SE k z w v ds) (e : ds = es) : SE k z w v es := e ▸ h

/-- part of a slice of rows of z cells, as it lies -/
def sliceE (z : Nat) : Value → Nat → Nat → Value
  | .slice a n c, lo, hi => .slice (if c = lo then a else a.map (·.add (lo * z))) (hi - lo) (c - lo)
  | v, _, _ => v
theorem SE.slice {k : IntKind} {z : Nat} {w : World} {v : Value} {ds : List (List Int)} (h : SE k z w v ds) (lo hi : Nat) (h1 : lo ≤ hi) (h2 : hi ≤ ds.length) : SE k z w (sliceE z v lo hi) ((ds.drop lo).take (hi - lo)) := by
  have hlen : ((ds.drop lo).take (hi - lo)).length = hi - lo := by simp; omega
  obtain ⟨h0, h⟩ := h
  refine ⟨fun d hd => h0 d (List.mem_of_mem_drop (List.mem_of_mem_take hd)), ?_⟩
  rcases h with ⟨rfl, rfl⟩ | ⟨b, o, c, rfl, h3, h4, h5, h6⟩
  · have : lo = 0 := by simp at h2; omega
    have h0 : hi = 0 := by simpa using h2
    subst this h0
    left; simp [sliceE]
  · by_cases hc : c = lo
    · refine .inr ⟨b, o, 0, ?_, by omega, by omega, h5, fun j hj => ?_⟩
      · simp [sliceE, hc, hlen]
      · rw [hlen, show hi - lo = 0 by omega, Nat.zero_mul] at hj; omega
    · refine .inr ⟨b, o + lo * z, c - lo, ?_, by omega, by omega, h5, fun j hj => ?_⟩
      · simp [sliceE, hc, hlen, Addr.add_mid]
      · rw [hlen] at hj
        have e1 : lo * z + (hi - lo) * z ≤ ds.length * z := by rw [← Nat.add_mul]; exact Nat.mul_le_mul_right _ (by omega)
        rw [Nat.add_assoc, h6 (lo * z + j) (by omega)]
        rw [← fe_take (hi - lo) (fun d hd => h0 d (List.mem_of_mem_drop hd)), ← fe_drop lo h0]
        simp [List.getElem?_take, List.getElem?_drop, hj]
/-- the address of an element, as it lies -/
def elemE (z : Nat) : Value → Nat → Value
  | .slice (some ad) _ _, k => .pointer (some (ad.add (k * z)))
  | _, _ => undef

/-- A row of rows of z numbers (elements of type e) that the call owns, from block 'base' on. -/
def OwnE (e : TypeId) (k : IntKind) (z base : Nat) (w : World) (v : Value) (ds : List (List Int)) : Prop := (∀ d ∈ ds, d.length = z) ∧ w.ownsRow base e z v ds.length (nums k ds.flatten)
theorem OwnE.lens {e : TypeId} {k : IntKind} {z base : Nat} {w : World} {v : Value} {ds : List (List Int)} (h : OwnE e k z base w v ds) : ∀ d ∈ ds, d.length = z := h.1
theorem OwnE.nil (e : TypeId) (k : IntKind) (z base : Nat) (w : World) : OwnE e k z base w (.slice none 0 0) [] := ⟨(fun d h => by cases h), by simp [nums], .inl ⟨rfl, rfl⟩⟩
theorem OwnE.se {e : TypeId} {k : IntKind} {z base : Nat} {w : World} {v : Value} {ds : List (List Int)} (h : OwnE e k z base w v ds) : SE k z w v ds := by
  obtain ⟨h0, hl, h⟩ := h
  refine ⟨h0, ?_⟩
  rcases h with ⟨hv, hn⟩ | ⟨g, cap, cur, hv, hg, hh, h1, h2, h3, h4⟩
  · exact .inl ⟨hv, List.eq_nil_of_length_eq_zero hn⟩
  · refine .inr ⟨g, 0, cap, hv, h1, h2, (Array.getElem?_eq_some_iff.1 hh).1, fun j hj => ?_⟩
    rw [Nat.zero_add, Joins.cell_of_block hh]
    have : (cur.toList.take (ds.length * z))[j]? = (nums k ds.flatten)[j]? := by rw [h4]
    rw [List.getElem?_take, if_pos hj] at this
    rw [← Array.getElem?_toList, this]
    have hj2 : j < ds.flatten.length := by rw [fe_length h0]; exact hj
    simp only [nums, List.getElem?_map, List.getElem?_eq_getElem hj2, Option.map_some, List.getD_eq_getElem?_getD, Option.getD_some]
theorem OwnE.ge {e : TypeId} {k : IntKind} {z base : Nat} {w : World} {v : Value} {ds : List (List Int)} (h : OwnE e k z base w v ds) : ∀ g, v.ownBlock = some g → base ≤ g ∧ g < w.heap.size := World.ownsRow.lt h.2
theorem OwnE.mono {e : TypeId} {k : IntKind} {z base base' : Nat} {w : World} {v : Value} {ds : List (List Int)} (h : OwnE e k z base w v ds) (hb : base' ≤ base) : OwnE e k z base' w v ds := ⟨h.1, Joins.ownsRow_le h.2 hb⟩
theorem OwnE.ev {X : Nat → Prop} {e : TypeId} {k : IntKind} {z base : Nat} {w w' : World} {v : Value} {ds : List (List Int)} (h : OwnE e k z base w v ds) (ev : Ev X w w') (hn : ∀ g, v.ownBlock = some g → ¬ X g) : OwnE e k z base w' v ds := by
  refine ⟨h.1, h.2.1, ?_⟩
  rcases h.2.2 with hn' | ⟨g, cap, cur, rfl, hb, hgg, rest⟩
  · exact .inl hn'
  · exact .inr ⟨g, cap, cur, rfl, hb, (ev.block g (Array.getElem?_eq_some_iff.1 hgg).1 (hn g rfl)).trans hgg, rest⟩
theorem OwnE.e0 {e : TypeId} {k : IntKind} {z base : Nat} {w w' : World} {v : Value} {ds : List (List Int)} (h : OwnE e k z base w v ds) (ev : E0 w w') : OwnE e k z base w' v ds := h.ev ev fun _ _ x => x
theorem OwnE.len {e : TypeId} {k : IntKind} {z base : Nat} {w : World} {v : Value} {ds : List (List Int)} (h : OwnE e k z base w v ds) : ∃ a c, v = .slice a ds.length c ∧ ds.length ≤ c := h.se.len
theorem OwnE.cast {e : TypeId} {k : IntKind} {z base : Nat} {w : World} {v : Value} {ds es : List (List Int)} (h : OwnE e k z base w v ds) (he : ds = es) : OwnE e k z base w v es := he ▸ h
/-- what was just laid -/
theorem OwnE.ofCel {e : TypeId} {k : IntKind} {z base : Nat} {w : World} {g n : Nat} {ds : List (List Int)} (hc : Cel w g e (nums k ds.flatten)) (h0 : ∀ d ∈ ds, d.length = z) (hn : n = ds.length) (hb : base ≤ g) (hm : n ≤ maxLen) : OwnE e k z base w (.slice (some ⟨g, 0, none⟩) n n) ds := by
  subst hn
  have hl := fe_length h0
  exact ⟨h0, by rw [nums_length, hl], .inr ⟨g, ds.length, (nums k ds.flatten).toArray, rfl, hb, hc, Nat.le_refl _, hm, by rw [List.size_toArray, nums_length, hl], by rw [show ((nums k ds.flatten).toArray).toList = nums k ds.flatten from rfl, List.take_of_length_le (by rw [nums_length, hl]; exact Nat.le_refl _)]⟩⟩

section
variable {P : Program}
theorem Val.slcE {a : Act} {op : Oper} {w : World} (t : TypeId) (x : Operand) (lo hi : Option Operand) (ho : op.op = .slice t x lo hi none) (v : Value) (hx : a.eval x = v) {k : IntKind} {z : Nat} {ds : List (List Int)} (hs : SE k z w v ds) (l' h' : Nat)
    (hlo : lo.map a.eval = some (.int .i64 (l' : Int)) ∨ (lo = none ∧ l' = 0)) (hhi : hi.map a.eval = some (.int .i64 (h' : Int)) ∨ (hi = none ∧ h' = ds.length)) (h1 : l' ≤ h') (h2 : h' ≤ ds.length)
    {e : TypeId} (ht : P.underlying t = some (.slice e)) (hi0 : (P.info? e).map (·.size) = some z) : Val P a op (sliceE z v l' h') w := by
  obtain ⟨i, hi1, hm⟩ := Option.map_eq_some_iff.1 hi0
  have hsz : (sizeOf e).run P w = .ok z w := by simp [sizeOf, typeInfo, hi1, hm]
  obtain ⟨b, c, rfl, hle⟩ := hs.len
  have hb : (Instr.sliceBounds true ds.length c (lo.map a.eval) (hi.map a.eval) none).run P w = .ok (l', h', c) w := by
    unfold Instr.sliceBounds
    rcases hlo with hlo | ⟨rfl, rfl⟩ <;> rcases hhi with hhi | ⟨rfl, rfl⟩
    · simp [hlo, hhi, run_bound (P := P) (w := w) (show h' ≤ c by omega), run_bound (P := P) (w := w) h1]
    · simp [hlo, run_bound (P := P) (w := w) h1]
    · simp [hhi, run_bound (P := P) (w := w) (show h' ≤ c by omega)]
    · simp
  unfold Val execOp
  simp only [ho, hx, Instr.sliceAt, run_underlying ht, Sem.run_bind, Result.andThen_ok, Instr.slice, Option.map_none, hb, hsz, Sem.run_pure]
  rfl
theorem Val.ixE {a : Act} {op : Oper} {w : World} (t : TypeId) (x ix : Operand) (ho : op.op = .indexAddr t x ix) (v : Value) (j : Nat) (hx : a.eval x = v) (hix : a.eval ix = .int .i64 (j : Int)) {k : IntKind} {z : Nat} {ds : List (List Int)} (hs : SE k z w v ds)
    {e : TypeId} (ht : P.underlying t = some (.slice e)) (hi0 : (P.info? e).map (·.size) = some z) (hj : j < ds.length) : Val P a op (elemE z v j) w := by
  rcases hs.2 with ⟨rfl, rfl⟩ | ⟨b, o, c, rfl, h1, h2, h3, h4⟩
  · simp at hj
  · have := Val.idxS (P := P) (w := w) t x ix ho b o ds.length c j hx hix z ht hi0 hj
    simpa [elemE, Addr.add_mid] using this
theorem SE.range {k : IntKind} {z : Nat} {w : World} {b o n c : Nat} {ds : List (List Int)} (hs : SE k z w (.slice (some ⟨b, o, none⟩) n c) ds) (j : Nat) (hj : j < ds.length) : w.rangeAt b (o + j * z) (cellsOf k (ds.getD j [])).toList := by
  rcases hs.2 with ⟨h, _⟩ | ⟨b', o', c', hv, h1, h2, h3, h4⟩
  · cases h
  · simp only [Value.slice.injEq, Option.some.injEq, Addr.mk.injEq] at hv
    obtain ⟨⟨rfl, rfl, _⟩, rfl, rfl⟩ := hv
    intro i u hi
    rw [cells_toList, ← fe_seg hs.1 j hj] at hi
    have hi' : i < ((ds.flatten.drop (j * z)).take z).length := by have := (List.getElem?_eq_some_iff.1 hi).1; rwa [List.length_map] at this
    have hz : i < z := by rw [List.length_take] at hi'; omega
    have hb : j * z + z ≤ ds.length * z := by rw [← Nat.succ_mul]; exact Nat.mul_le_mul_right _ hj
    have hf : j * z + i < ds.flatten.length := by rw [fe_length hs.1]; omega
    rw [Nat.add_assoc, h4 (j * z + i) (by omega), ← hi]
    simp only [List.getElem?_map, List.getElem?_take, List.getElem?_drop, if_pos hz, List.getElem?_eq_getElem hf, Option.map_some, List.getD_eq_getElem?_getD, Option.getD_some]
theorem Val.ldG {a : Act} {op : Oper} {w : World} (ty : TypeId) (x : Operand) (ho : op.op = .load ty x) (v : Value) (j : Nat) {z : Nat} (hx : a.eval x = elemE z v j) {k : IntKind} {ds : List (List Int)} (hs : SE k z w v ds) (d : TypeDesc) (hu : P.underlying ty = some d) (hd : d.isRow = true)
    (hi : (P.info? ty).map (·.size) = some z) (hj : j < ds.length) : Val P a op (.agg (cellsOf k (ds.getD j []))) w := by
  rcases hs.2 with ⟨rfl, rfl⟩ | ⟨b, o, c, rfl, h1, h2, h3, h4⟩
  · simp at hj
  · simp only [elemE, Addr.add_mid] at hx
    have hl : (ds.getD j []).length = z := fe_getD hs.1 hj
    have := run_loadAt_mid (P := P) w b (o + j * z) ty (cellsOf k (ds.getD j [])).toList d (hs.range j hj) hu hd (by rw [hi, cells_toList, List.length_map, hl])
    unfold Val execOp
    simp only [ho, hx, Sem.run_bind, this, Result.andThen_ok, Sem.run_pure]
end
section
variable {P : Program} {ops : Array Oper} {Q : Exit → Act → World → Prop} {l : List Value} {ds : List Deferred} {w : World} {oi : Oper} {rest : List Oper}
theorem nums_flat (k : IntKind) (xs ys : List (List Int)) : nums k (xs ++ ys).flatten = nums k xs.flatten ++ nums k ys.flatten := by simp [nums]
theorem nums_one (k : IntKind) (xs : List Int) : ∀ u ∈ nums k xs, u.oneCell' = true := ints_oneCell k xs
/-- append of rows -/
theorem xAppE (d : Nat) (s x : Operand) (t e : TypeId) (k : IntKind) (z bytes : Nat) (ho : oi.op = .call { callee := .builtin .append, args := #[s, x], argTypes := #[t, t] })
    (ht : P.underlying t = some (.slice e)) (hinfo : (P.info? e).map (fun i => (i.zero.map (·.cells.size), i.size, i.bytes)) = some (some z, z, bytes)) (hz : 0 < z)
    (base : Nat) (v : Value) (xs : List (List Int)) (hs : (⟨l.toArray, ds⟩ : Act).eval s = v) (hown : OwnE e k z base w v xs)
    (u : Value) (ys : List (List Int)) (hx : (⟨l.toArray, ds⟩ : Act).eval x = u) (hu : SE k z w u ys)
    (h47 : (xs.length + ys.length) * bytes ≤ 140737488355328) (h63 : xs.length + ys.length ≤ maxLen) (hbase : base ≤ w.heap.size)
    (h : ∀ v' w', OwnE e k z base w' v' (xs ++ ys) → Ev (fun i => v.ownBlock = some i) w w' → wpList P ops Q rest ⟨(l.set d v').toArray, ds⟩ w')
    (hgd : oi.guard = none := by rfl) (hd : oi.dst = some d := by rfl) : wpList P ops Q (oi :: rest) ⟨l.toArray, ds⟩ w := by
  obtain ⟨i, hi, hi2⟩ := Option.map_eq_some_iff.1 hinfo
  simp only [Prod.mk.injEq] at hi2
  obtain ⟨hz0, hz1, hz2⟩ := hi2
  obtain ⟨zv, hzv, hzs⟩ := Option.map_eq_some_iff.1 hz0
  have hboth : ∀ y ∈ xs ++ ys, y.length = z := fun y hy => (List.mem_append.1 hy).elim (hown.1 y) (hu.1 y)
  rcases hu.2 with ⟨hv, hy⟩ | ⟨b, of, c, hv, h1, h2, h3, h4⟩
  · subst hy
    refine wpList_append_own_none hgd s x t ho base e i z ht hi v xs.length (nums k xs.flatten) hs hown.2 (hx.trans hv) ?_
    rw [put_list' d _ hd]
    exact h v w (by simpa using hown) ⟨rfl, rfl, rfl, Nat.le_refl _, fun _ _ _ => rfl⟩
  · have hfl := fe_length hu.1
    have hcells : ∀ j u, (nums k ys.flatten)[j]? = some u → w.cell? ((⟨b, of, none⟩ : Addr).add j) = some u := by
      intro j u hj
      have hlt : j < ys.flatten.length := by
        have := (List.getElem?_eq_some_iff.1 hj).1
        rwa [nums_length] at this
      rw [Addr.add_lit, h4 j (by omega), ← hj, nums_get k _ j hlt]
    have hxl := fe_length hown.1
    have fin : ∀ v' w' b', w'.ownsRow b' e z v' (xs.length + ys.length) (nums k xs.flatten ++ nums k ys.flatten) → OwnE e k z b' w' v' (xs ++ ys) := fun v' w' b' hh => ⟨hboth, by rw [List.length_append, nums_flat]; exact hh⟩
    rcases hown.2.2 with ⟨hvn, h0⟩ | ⟨g, cap, cur, hvs, hg, hh, q1, q2, q3, q4⟩
    · have hx0 : xs = [] := List.eq_nil_of_length_eq_zero h0
      subst hx0
      by_cases hy0 : ys.length = 0
      · refine wpList_append_own w hgd s x t ho base e i zv z bytes ht hi hzv hz1 hz2 hzs hz v 0 (nums k []) hs (by simpa using hown.2)
          ⟨b, of, none⟩ ys.length c (nums k ys.flatten) (hx.trans hv) (by rw [nums_length, hfl]) hcells (nums_one k _) (by simpa using h63) (by simpa using h47) hbase ?_
        intro v' w' hown' hg hiff
        rw [put_list' d _ hd]
        refine h v' w' (fin v' w' base (by simpa using hown')) ?_
        exact (⟨hg, .inl (by rw [hiff.2 ⟨hvn, hy0⟩, hvn])⟩ : Mut w w' v v').ev
      · refine wpList_append_grows w hgd s x t ho e i zv z bytes ht hi hzv hz1 hz2 hzs hz none 0 0 [] (hs.trans hvn) (fun _ => ⟨rfl, rfl⟩) (by simp) (fun b hb => by cases hb)
          ⟨b, of, none⟩ ys.length c (nums k ys.flatten) (hx.trans hv) (by rw [nums_length, hfl]) hcells (nums_one k _) (by omega) (by simpa using h63) (by simpa using h47) ?_
        intro v' w' hown' hg'
        rw [put_list' d _ hd]
        have hown2 : OwnE e k z w.heap.size w' v' ([] ++ ys) := fin v' w' _ (by simpa [nums] using hown')
        exact h v' w' (hown2.mono hbase) (⟨⟨hg'.os, hg'.tape, hg'.output, hg'.size, fun i hi _ => hg'.block i hi (by simp)⟩, .inr fun g hg => (hown2.ge g hg).1⟩ : Mut w w' v v').ev
    · by_cases hfit : xs.length + ys.length ≤ cap
      · refine wpList_append_fits w hgd s x t ho base e i z ht hi hz1 g xs.length cap (nums k xs.flatten) (hs.trans hvs) (hvs ▸ hown.2) ⟨b, of, none⟩ ys.length c (nums k ys.flatten) (hx.trans hv) (by rw [nums_length, hfl]) hcells (nums_one k _) hfit ?_
        intro w' hown' hg'
        subst hvs
        rw [put_list' d _ hd]
        refine h (.slice (some ⟨g, 0, none⟩) (xs.length + ys.length) cap) w' (fin _ w' base hown') ⟨hg'.os, hg'.tape, hg'.output, hg'.size, fun i hi hn => hg'.block i hi fun e => hn ?_⟩
        rw [e]; rfl
      · refine wpList_append_grows w hgd s x t ho e i zv z bytes ht hi hzv hz1 hz2 hzs hz (some ⟨g, 0, none⟩) xs.length cap (nums k xs.flatten) (hs.trans hvs) (fun hn => by cases hn) (by rw [nums_length, hxl]) ?_
          ⟨b, of, none⟩ ys.length c (nums k ys.flatten) (hx.trans hv) (by rw [nums_length, hfl]) hcells (nums_one k _) (by omega) h63 h47 ?_
        · intro b' hb' j u hj
          obtain rfl := Option.some.inj hb'
          exact World.ownsRow.cells hown.2 (by rw [hvs]; rfl) j u hj
        · intro v' w' hown' hg'
          rw [put_list' d _ hd]
          have hown2 := fin v' w' w.heap.size hown'
          exact h v' w' (hown2.mono hbase) (⟨⟨hg'.os, hg'.tape, hg'.output, hg'.size, fun i hi _ => hg'.block i hi (by simp)⟩, .inr fun g hg => (hown2.ge g hg).1⟩ : Mut w w' v v').ev

end

/-! ### opened -/
section
variable {P : Program}
theorem open_elems {k : IntKind} {z : Nat} {t e : TypeId} (ht : P.underlying t = some (.slice e)) (ha : AllInts P k e z) (hc : P.cellsOf e = z) {H : Type} {enc : TypeId × Value → H} {W : World} {r : Reach} {b0 : Nat} {v : Value} {d : DataW H} {p : List MemPlace}
    (hval : Value.okWide P W r b0 t v) (h : DataW.Trod enc P W 0 (fun _ => true) true t v d p) : ∃ es : List (List Int), SE k z W v es ∧ ∀ y ∈ es, ∀ n ∈ y, (Lit.int k n).wf = true := by
  have hval' := hval
  obtain ⟨a0, len0, cap0, rfl⟩ := okWide_slice ht hval
  obtain ⟨fuel, hf⟩ := h
  rcases DataW.trod_slice ht hf with ⟨hc', _⟩ | ⟨a, len, cap, elems, rest, n, _, hc', _, _, hl, hm, hlen, hel, _, _⟩
  · simp [Value.cells] at hc'
    obtain ⟨rfl, rfl, rfl⟩ := hc'
    exact ⟨[], SE.nil k z W, fun y hy => by cases hy⟩
  · simp [Value.cells] at hc'
    obtain ⟨rfl, rfl, rfl⟩ := hc'
    simp only [Value.okWide, ht, Cell.okWide, Cell.ok, World.has] at hval'
    obtain ⟨_, _, _, hsp, row, cells, hsh, _⟩ := hval'
    obtain ⟨b, o, sp⟩ := a
    simp only at hsp hsh
    subst hsp
    have hb : b < W.heap.size := by
      rcases Nat.lt_or_ge b W.heap.size with h | h
      · exact h
      · simp [World.shape?, Array.getElem?_eq_none h] at hsh
    have each : ∀ i, i < len0 → ∃ y : List Int, y.length = z ∧ (∀ j, j < z → W.cell? ⟨b, o + i * z + j, none⟩ = some (.int k (y.getD j 0))) ∧ ∀ n ∈ y, (Lit.int k n).wf = true := by
      intro i hi
      have h1 := hel i hi
      rw [hc, List.getElem?_eq_getElem (show i < elems.length by omega), Option.bind_eq_some_iff] at h1
      obtain ⟨cs', h2, h3⟩ := h1
      obtain ⟨_, hl1, hcell⟩ := World.cells?_some h2
      obtain ⟨_, hall⟩ := ha H enc W 0 _ _ _ _ _ h3
      obtain ⟨ys, rfl, hw⟩ := ints_of _ hall
      have hyl : ys.length = z := by simpa using hl1
      refine ⟨ys, hyl, fun j hj => ?_, hw⟩
      have := hcell j hj
      rw [Addr.add_mid, Addr.add_mid] at this
      rw [this]
      simp [show j < ys.length by omega]
    let yf : Nat → List Int := fun i => if hi : i < len0 then (each i hi).choose else []
    have hyf : ∀ i (hi : i < len0), (yf i).length = z ∧ (∀ j, j < z → W.cell? ⟨b, o + i * z + j, none⟩ = some (.int k ((yf i).getD j 0))) ∧ ∀ n ∈ yf i, (Lit.int k n).wf = true := by
      intro i hi
      simp only [yf, dif_pos hi]
      exact (each i hi).choose_spec
    have h0 : ∀ d ∈ (List.range len0).map yf, d.length = z := fun d hd => by
      obtain ⟨i, hi, rfl⟩ := List.mem_map.1 hd
      exact (hyf i (List.mem_range.1 hi)).1
    refine ⟨(List.range len0).map yf, ⟨h0, .inr ⟨b, o, cap0, by simp, by simpa using hl, hm, hb, fun j hj => ?_⟩⟩, fun y hy => ?_⟩
    · have hj' : j < len0 * z := by simpa using hj
      have hz : 0 < z := Nat.pos_of_ne_zero fun hz0 => by subst hz0; omega
      have hq : j / z < len0 := (Nat.div_lt_iff_lt_mul hz).2 hj'
      have hr : j % z < z := Nat.mod_lt _ hz
      have hdm : j / z * z + j % z = j := by rw [Nat.mul_comm]; exact Nat.div_add_mod j z
      have h5 := (hyf (j / z) hq).2.1 (j % z) hr
      rw [Nat.add_assoc, hdm] at h5
      rw [h5]
      congr 2
      simp only [List.getD_eq_getElem?_getD, fe_get hz h0 j, List.getElem?_map, List.getElem?_range hq, Option.map_some, Option.bind_some]
    · obtain ⟨i, hi, rfl⟩ := List.mem_map.1 hy
      exact (hyf i (List.mem_range.1 hi)).2.2
/-- a slice of rows of numbers, as part of an argument -/
def RElems (k : IntKind) (z : Nat) (w : World) (cs : List Value) : Prop := ∃ v es, cs = [v] ∧ SE k z w v es ∧ ∀ y ∈ es, ∀ n ∈ y, (Lit.int k n).wf = true
theorem Opens.elems {k : IntKind} {z : Nat} {t e : TypeId} (ht : P.underlying t = some (.slice e)) (ha : AllInts P k e z) (hc : P.cellsOf e = z) : Opens P t [t] (RElems k z) := by
  intro H enc W r b0 fuel cs x h h2 h3 hl
  match cs, hl with
  | [c], _ =>
    have hc1 := h2 0 c t rfl rfl
    have hval : Value.okWide P W r b0 t c := by simp only [Value.okWide, ht]; exact hc1
    have hb : c.cells.toList = [c] := by obtain ⟨_, _, _, rfl⟩ := okWide_slice ht hval; simp [Value.cells]
    obtain ⟨es, hsl, hw⟩ := open_elems ht ha hc hval (d := x.1) (p := x.2) ⟨fuel, by rw [hb]; exact h⟩
    exact ⟨c, es, rfl, hsl, hw⟩
end
end Go.Proofs.Ytanggdnmoaflfaa
