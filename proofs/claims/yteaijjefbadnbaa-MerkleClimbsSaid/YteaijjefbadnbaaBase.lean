/-
  What all walks of this seat share: an array's cells, a readable row of whole numbers, appends to a row of the call's own whatever is appended (nil too).
  No conditions: lemmas over any program.
-/
import Derived.WalkKit
import Derived.WalkLawsBesides
import Derived.WalkSpells
import Derived.ProofKit
import Derived.OpenShut
import Derived.Below
import Derived.Lib.Hide
import Derived.Laws.AppendOwnNone
import Derived.BigQuiet
import Derived.Deep.QuietTactic
import Derived.Lib.SmallJoins
namespace Go.Proofs.Yteaijjefbadnbaa
open Go.RowKit
set_option linter.unusedVariables false
set_option linter.unusedSimpArgs false
set_option maxRecDepth 100000

/-- Where the walk is to stand still. -/
def Stop (p : Prop) : Prop := p
theorem Stop.at_ {p : Prop} (h : Stop p) : p := h
theorem Stop.go {p : Prop} (h : p) : Stop p := h

/-- .. ahead of the operation that writes slot d. -/
theorem Stop.slot {P : Program} {ops : Array Oper} {Q : Exit → Act → World → Prop} {rest : List Oper} {a : Act} {w : World} {d : Nat} {op : Op} {ty : TypeId} {pos : String} {af : Array Edge} {g : Option (Nat × Bool)}
    (h : Stop (wpList P ops Q (⟨some d, op, ty, pos, af, g⟩ :: rest) a w)) : wpList P ops Q (⟨some d, op, ty, pos, af, g⟩ :: rest) a w := h

/-- .. ahead of a store of y. -/
theorem Stop.store {P : Program} {ops : Array Oper} {Q : Exit → Act → World → Prop} {rest : List Oper} {a : Act} {w : World} {t : TypeId} {x y : Operand} {ty : TypeId} {pos : String} {af : Array Edge} {g : Option (Nat × Bool)}
    (h : Stop (wpList P ops Q (⟨none, .store t x y, ty, pos, af, g⟩ :: rest) a w)) : wpList P ops Q (⟨none, .store t x y, ty, pos, af, g⟩ :: rest) a w := h

/-- What stands in a slot. -/
theorem eval_tmp {l : List Value} {ds : List Deferred} {t : Nat} {v : Value} (h : l[t]? = some v) : Act.eval ⟨l.toArray, ds⟩ (.tmp t) = v := by
  simp [Act.eval, List.getD_eq_getElem?_getD, h]

/-- The cells of an array of whole numbers. -/
def cellsOf (k : IntKind) (xs : List Int) : Array Value := (xs.map (Value.int k)).toArray

theorem cells_at (k : IntKind) (xs : List Int) (i : Nat) (h : i < xs.length) : (cellsOf k xs)[i]? = some (.int k (xs.getD i 0)) := by
  simp [cellsOf, h]

/-- 'v' is a slice of whole numbers of the kind k that reads as xs. -/
def SL (k : IntKind) (w : World) (v : Value) (xs : List Int) : Prop :=
  (v = .slice none 0 0 ∧ xs = []) ∨
  ∃ b o c, v = .slice (some ⟨b, o, none⟩) xs.length c ∧ xs.length ≤ c ∧ c ≤ maxLen ∧ b < w.heap.size ∧
    ∀ j, j < xs.length → w.cell? ⟨b, o + j, none⟩ = some (.int k (xs.getD j 0))

theorem SL.below {k : IntKind} {w w' : World} {v : Value} {xs : List Int} (h : SL k w v xs) (hb : Below w.heap.size w w') : SL k w' v xs := by
  rcases h with h | ⟨b, o, c, hv, h1, h2, h3, h4⟩
  · exact .inl h
  · exact .inr ⟨b, o, c, hv, h1, h2, Nat.lt_of_lt_of_le h3 hb.size, fun j hj => by rw [hb.cell (p := ⟨b, o + j, none⟩) h3]; exact h4 j hj⟩

theorem SL.nil (k : IntKind) (w : World) : SL k w (.slice none 0 0) [] := .inl ⟨rfl, rfl⟩

theorem SL.of_own {k : IntKind} {w : World} {base n : Nat} {e : TypeId} {v : Value} {xs : List Int} (h : w.ownsRow base e 1 v n (xs.map (Value.int k))) : SL k w v xs := by
  obtain ⟨hl, h⟩ := h
  have hn : xs.length = n := by simpa using hl
  rcases h with ⟨hv, h0⟩ | ⟨g, cap, cur, hv, hg, hh, h1, h2, h3, h4⟩
  · left; exact ⟨hv, by cases xs with | nil => rfl | cons a l => simp at hn; omega⟩
  · right
    refine ⟨g, 0, cap, by rw [hv, hn], by omega, h2, (Array.getElem?_eq_some_iff.1 hh).1, fun j hj => ?_⟩
    have hc := cell_of_row w g j cur e (0, 0) hh
    rw [Nat.zero_add, hc]
    have : (cur.toList.take (n * 1))[j]? = (xs.map (Value.int k))[j]? := by rw [h4]
    rw [List.getElem?_take, if_pos (by omega)] at this
    rw [← Array.getElem?_toList, this]
    simp [hj]

def nums (k : IntKind) (xs : List Int) : List Value := xs.map (Value.int k)
theorem nums_length (k : IntKind) (xs : List Int) : (nums k xs).length = xs.length := by simp [nums]
theorem nums_append (k : IntKind) (xs ys : List Int) : nums k (xs ++ ys) = nums k xs ++ nums k ys := by simp [nums]

/-- A row of whole numbers (elements of type e) that the call owns, from block 'base' on. -/
def Own (e : TypeId) (k : IntKind) (base : Nat) (w : World) (v : Value) (xs : List Int) : Prop := w.ownsRow base e 1 v xs.length (nums k xs)

theorem Own.sl {e : TypeId} {k : IntKind} {base : Nat} {w : World} {v : Value} {xs : List Int} (h : Own e k base w v xs) : SL k w v xs := SL.of_own h
theorem Own.nil (e : TypeId) (k : IntKind) (base : Nat) (w : World) : Own e k base w (.slice none 0 0) [] := ⟨by simp [nums], .inl ⟨rfl, rfl⟩⟩
theorem Own.mono {e : TypeId} {k : IntKind} {base base' : Nat} {w : World} {v : Value} {xs : List Int} (h : Own e k base w v xs) (hb : base' ≤ base) : Own e k base' w v xs := Joins.ownsRow_le h hb
theorem Own.below {e : TypeId} {k : IntKind} {base : Nat} {w w' : World} {v : Value} {xs : List Int} (h : Own e k base w v xs) (hb : Below w.heap.size w w') : Own e k base w' v xs :=
  World.ownsRow.kept (row := none) h ⟨hb.os, hb.tape, hb.output, hb.size, fun i hi _ => hb.block i hi⟩ (by cases v.ownBlock <;> simp)
theorem Own.len {e : TypeId} {k : IntKind} {base : Nat} {w : World} {v : Value} {xs : List Int} (h : Own e k base w v xs) : ∃ a c, v = .slice a xs.length c := by
  obtain ⟨_, h⟩ := h
  rcases h with ⟨hv, h0⟩ | ⟨g, cap, cur, hv, _⟩
  · exact ⟨none, 0, by rw [hv, h0]⟩
  · exact ⟨_, _, hv⟩
theorem Own.alloc {e : TypeId} {k : IntKind} {base : Nat} {w : World} {v : Value} {xs : List Int} (h : Own e k base w v xs) (o : Obj) : Own e k base (w.alloc o) v xs := World.ownsRow.alloc h o
theorem Own.cast {e : TypeId} {k : IntKind} {base : Nat} {w : World} {v : Value} {xs ys : List Int} (h : Own e k base w v xs) (he : xs = ys) : Own e k base w v ys := he ▸ h

/-- A literal '[]T{..}' that was just laid. -/
theorem Own.lit {e : TypeId} {k : IntKind} (base : Nat) (w : World) (xs : List Int) (hb : base ≤ w.heap.size) (hm : xs.length ≤ maxLen) (cs : Array Value) (hc : cs = (nums k xs).toArray) :
    Own e k base (w.alloc (.cells cs e)) (.slice (some ⟨w.heap.size, 0, none⟩) xs.length xs.length) xs := by
  subst hc
  refine ⟨by simp [nums], .inr ⟨w.heap.size, xs.length, (nums k xs).toArray, rfl, hb, ?_, Nat.le_refl _, hm, by simp [nums], by simp [nums, List.take_of_length_le]⟩⟩
  show (w.heap.push _)[w.heap.size]? = _
  simp

/-- What was just laid, element by element. -/
theorem SL.lit {k : IntKind} {e : TypeId} {w : World} {cs : Array Value} {n : Nat} (ys : List Int) (hn : n = ys.length) (hm : n ≤ maxLen) (h : cs = (nums k ys).toArray) : SL k (w.alloc (.cells cs e)) (.slice (some ⟨w.heap.size, 0, none⟩) n n) ys := by
  subst hn
  exact (Own.lit 0 w ys (Nat.zero_le _) hm cs h).sl
theorem SL.lit1 {k : IntKind} {e : TypeId} {w : World} {x : Int} {y : Int} (h : x = y) : SL k (w.alloc (.cells #[.int k x] e)) (.slice (some ⟨w.heap.size, 0, none⟩) 1 1) [y] := by
  subst h
  exact SL.lit [x] rfl (by unfold maxLen; omega) rfl
theorem SL.lit2 {k : IntKind} {e : TypeId} {w : World} {x x' : Int} {y y' : Int} (h : x = y) (h' : x' = y') : SL k (w.alloc (.cells #[.int k x, .int k x'] e)) (.slice (some ⟨w.heap.size, 0, none⟩) 2 2) [y, y'] := by
  subst h h'
  exact SL.lit [x, x'] rfl (by unfold maxLen; omega) rfl

section
variable {P : Program} {w : World} {ops : Array Oper} {rest : List Oper} {o : Oper} {a : Act} {Q : Exit → Act → World → Prop}

/-- 'append(s, x...)': s the call's own, x whatever reads as ys. -/
theorem app_own (hgd : o.guard = none) (s x : Operand) (t e : TypeId) (k : IntKind) (bytes : Nat)
    (ho : o.op = .call { callee := .builtin .append, args := #[s, x], argTypes := #[t, t] })
    (ht : P.underlying t = some (.slice e)) (hinfo : (P.info? e).map (fun i => (i.zero, i.size, i.bytes)) = some (some (.int k 0), 1, bytes))
    (base : Nat) (v : Value) (xs : List Int) (hs : a.eval s = v) (hown : Own e k base w v xs)
    (u : Value) (ys : List Int) (hx : a.eval x = u) (hu : SL k w u ys)
    (h47 : (xs.length + ys.length) * bytes ≤ 140737488355328) (h63 : xs.length + ys.length ≤ maxLen) (hbase : base ≤ w.heap.size)
    (h : ∀ v' w', Own e k base w' v' (xs ++ ys) → Below base w w' → (v' = .slice none 0 0 ↔ v = .slice none 0 0 ∧ ys = []) → wpList P ops Q rest (a.put o.dst v') w') :
    wpList P ops Q (o :: rest) a w := by
  obtain ⟨i, hi, hz0, hz1, hz2⟩ := info_parts hinfo
  have hge : ∀ j, v.ownBlock = some j → base ≤ j := fun j hj => (World.ownsRow.lt hown j hj).1
  rcases hu with ⟨hv, hy⟩ | ⟨b, of, c, hv, h1, h2, h3, h4⟩
  · subst hy
    refine wpList_append_own_none hgd s x t ho base e i 1 ht hi v xs.length (nums k xs) hs hown (hx.trans hv) ?_
    exact h v w (by simpa using hown) (Below.refl _ _) (by simp)
  · refine wpList_append_own w hgd s x t ho base e i (.int k 0) 1 bytes ht hi hz0 hz1 hz2 rfl (by decide) v xs.length (nums k xs) hs hown
      ⟨b, of, none⟩ ys.length c (nums k ys) (hx.trans hv) (by simp [nums]) ?_ (ints_oneCell k ys) h63 h47 hbase ?_
    · intro j u hj
      have hlt : j < ys.length := by
        have := (List.getElem?_eq_some_iff.1 hj).1
        simpa [nums] using this
      have h5 := h4 j hlt
      rw [Addr.add_lit]
      rw [h5, ← hj]
      simp [nums, hlt]
    · intro v' w' hown' hg hiff
      refine h v' w' ?_ ((Below.refl base w).grown hg hbase hge) ?_
      · unfold Own
        rw [nums_append, List.length_append]
        exact hown'
      · rw [hiff]
        constructor
        · rintro ⟨h7, h8⟩; exact ⟨h7, List.eq_nil_of_length_eq_zero h8⟩
        · rintro ⟨h7, h8⟩; exact ⟨h7, by simp [h8]⟩
end

/-- What an append does: old blocks but v's own are as they were; what comes back lies in v's block, or in a new one. -/
structure Mut (w w' : World) (v v' : Value) : Prop where
  g : w.grownBy w' v.ownBlock
  o : v'.ownBlock = v.ownBlock ∨ ∀ g, v'.ownBlock = some g → w.heap.size ≤ g
theorem Mut.refl (w : World) (v : Value) : Mut w w v v := ⟨World.grownBy.refl _ _, .inl rfl⟩
theorem Mut.trans {a b c : World} {u v x : Value} (h : Mut a b u v) (k : Mut b c v x) : Mut a c u x := by
  refine ⟨⟨k.g.os.trans h.g.os, k.g.tape.trans h.g.tape, k.g.output.trans h.g.output, Nat.le_trans h.g.size k.g.size, fun i hi hne => ?_⟩, ?_⟩
  · rw [k.g.block i (Nat.lt_of_lt_of_le hi h.g.size) ?_, h.g.block i hi hne]
    rcases h.o with ho | ho
    · rw [ho]; exact hne
    · intro he; have := ho i he.symm; omega
  · rcases k.o with ko | ko
    · rw [ko]; exact h.o
    · exact .inr fun g hg => Nat.le_trans h.g.size (ko g hg)
theorem Mut.below {base : Nat} {w w' : World} {v v' : Value} (h : Mut w w' v v') (hb : base ≤ w.heap.size) (hv : ∀ g, v.ownBlock = some g → base ≤ g) : Below base w w' := (Below.refl base w).grown h.g hb hv
theorem Mut.alloc {w : World} {v : Value} (o : Obj) : Mut w (w.alloc o) v v := ⟨World.grownBy_alloc w o _, .inl rfl⟩
theorem SL.mut {k : IntKind} {w w' : World} {u v v' : Value} {xs : List Int} (h : SL k w u xs) (hm : Mut w w' v v') (hne : ∀ g, u.ownBlock = some g → v.ownBlock ≠ some g) : SL k w' u xs := by
  rcases h with h | ⟨b, o, c, hv, h1, h2, h3, h4⟩
  · exact .inl h
  · subst hv
    have hb := hm.g.block b h3 (fun e => hne b rfl e.symm)
    exact .inr ⟨b, o, c, rfl, h1, h2, Nat.lt_of_lt_of_le h3 hm.g.size, fun j hj => (World.cell?_of_block (a := ⟨b, o + j, none⟩) hb).trans (h4 j hj)⟩
theorem Own.ge {e : TypeId} {k : IntKind} {base : Nat} {w : World} {v : Value} {xs : List Int} (h : Own e k base w v xs) : ∀ g, v.ownBlock = some g → base ≤ g ∧ g < w.heap.size := World.ownsRow.lt h

section
variable {P : Program} {w : World} {ops : Array Oper} {rest : List Oper} {o : Oper} {a : Act} {Q : Exit → Act → World → Prop}
/-- 'append(s, x...)': s the call's own, x whatever reads as ys; told exactly. -/
theorem app_mut (hgd : o.guard = none) (s x : Operand) (t e : TypeId) (k : IntKind) (bytes : Nat)
    (ho : o.op = .call { callee := .builtin .append, args := #[s, x], argTypes := #[t, t] })
    (ht : P.underlying t = some (.slice e)) (hinfo : (P.info? e).map (fun i => (i.zero, i.size, i.bytes)) = some (some (.int k 0), 1, bytes))
    (base : Nat) (v : Value) (xs : List Int) (hs : a.eval s = v) (hown : Own e k base w v xs)
    (u : Value) (ys : List Int) (hx : a.eval x = u) (hu : SL k w u ys)
    (h47 : (xs.length + ys.length) * bytes ≤ 140737488355328) (h63 : xs.length + ys.length ≤ maxLen) (hbase : base ≤ w.heap.size)
    (h : ∀ v' w', Own e k base w' v' (xs ++ ys) → Mut w w' v v' → wpList P ops Q rest (a.put o.dst v') w') :
    wpList P ops Q (o :: rest) a w := by
  obtain ⟨i, hi, hz0, hz1, hz2⟩ := info_parts hinfo
  rcases hu with ⟨hv, hy⟩ | ⟨b, of, c, hv, h1, h2, h3, h4⟩
  · subst hy
    exact wpList_append_own_none hgd s x t ho base e i 1 ht hi v xs.length (nums k xs) hs hown (hx.trans hv) (h v w (by simpa using hown) (Mut.refl _ _))
  · have hcells : ∀ j u, (nums k ys)[j]? = some u → w.cell? ((⟨b, of, none⟩ : Addr).add j) = some u := by
      intro j u hj
      have hlt : j < ys.length := by
        have := (List.getElem?_eq_some_iff.1 hj).1
        simpa [nums] using this
      rw [Addr.add_lit, h4 j hlt, ← hj]
      simp [nums, hlt]
    have hm := hown
    obtain ⟨hl, hcase⟩ := hm
    rcases hcase with ⟨hvn, h0⟩ | ⟨g, cap, cur, hvs, hg, hh, q1, q2, q3, q4⟩
    · by_cases hy0 : ys.length = 0
      · refine wpList_append_own w hgd s x t ho base e i (.int k 0) 1 bytes ht hi hz0 hz1 hz2 rfl (by decide) v xs.length (nums k xs) hs hown
          ⟨b, of, none⟩ ys.length c (nums k ys) (hx.trans hv) (by simp [nums]) hcells (ints_oneCell k ys) h63 h47 hbase ?_
        intro v' w' hown' hg hiff
        have hown2 : Own e k base w' v' (xs ++ ys) := by unfold Own; rw [nums_append, List.length_append]; exact hown'
        exact h v' w' hown2 ⟨hg, .inl (by rw [hiff.2 ⟨hvn, hy0⟩, hvn])⟩
      · refine wpList_append_grows w hgd s x t ho e i (.int k 0) 1 bytes ht hi hz0 hz1 hz2 rfl (by decide) none 0 0 [] (hs.trans hvn) (fun _ => ⟨rfl, rfl⟩) (by simp) (fun b hb => by cases hb)
          ⟨b, of, none⟩ ys.length c (nums k ys) (hx.trans hv) (by simp [nums]) hcells (ints_oneCell k ys) (by omega) (by omega) (by rw [h0] at h47; exact h47) ?_
        intro v' w' hown' hg'
        have hx0 : xs = [] := List.eq_nil_of_length_eq_zero h0
        subst hx0
        rw [Nat.zero_add, List.nil_append] at hown'
        have hown2 : Own e k w.heap.size w' v' ys := hown'
        refine h v' w' (by rw [List.nil_append]; exact hown2.mono hbase) ⟨⟨hg'.os, hg'.tape, hg'.output, hg'.size, fun i hi _ => hg'.block i hi (by simp)⟩, .inr fun g hg => (hown2.ge g hg).1⟩
    · by_cases hfit : xs.length + ys.length ≤ cap
      · refine wpList_append_fits w hgd s x t ho base e i 1 ht hi hz1 g xs.length cap (nums k xs) (hs.trans hvs) (hvs ▸ hown) ⟨b, of, none⟩ ys.length c (nums k ys) (hx.trans hv) (by simp [nums]) hcells (ints_oneCell k ys) hfit ?_
        intro w' hown' hg'
        subst hvs
        refine h _ w' ?_ ⟨hg', .inl rfl⟩
        unfold Own; rw [nums_append, List.length_append]; exact hown'
      · refine wpList_append_grows w hgd s x t ho e i (.int k 0) 1 bytes ht hi hz0 hz1 hz2 rfl (by decide) (some ⟨g, 0, none⟩) xs.length cap (nums k xs) (hs.trans hvs) (fun hn => by cases hn) (by simp [nums]) ?_
          ⟨b, of, none⟩ ys.length c (nums k ys) (hx.trans hv) (by simp [nums]) hcells (ints_oneCell k ys) (by omega) h63 h47 ?_
        · intro b' hb' j u hj
          obtain rfl := Option.some.inj hb'
          exact World.ownsRow.cells hown (by rw [hvs]; rfl) j u hj
        · intro v' w' hown' hg'
          have hown2 : Own e k w.heap.size w' v' (xs ++ ys) := by unfold Own; rw [nums_append, List.length_append]; exact hown'
          exact h v' w' (hown2.mono hbase) ⟨⟨hg'.os, hg'.tape, hg'.output, hg'.size, fun i hi _ => hg'.block i hi (by simp)⟩, .inr fun g hg => (hown2.ge g hg).1⟩
end

/-! ### Rows whose elements are any values of one cell (slices, pointers) -/
def SV (w : World) (v : Value) (us : List Value) : Prop :=
  (v = .slice none 0 0 ∧ us = []) ∨
  ∃ b o c, v = .slice (some ⟨b, o, none⟩) us.length c ∧ us.length ≤ c ∧ c ≤ maxLen ∧ b < w.heap.size ∧
    ∀ j, j < us.length → w.cell? ⟨b, o + j, none⟩ = some (us.getD j undef)
theorem SV.below {w w' : World} {v : Value} {us : List Value} (h : SV w v us) (hb : Below w.heap.size w w') : SV w' v us := by
  rcases h with h | ⟨b, o, c, hv, h1, h2, h3, h4⟩
  · exact .inl h
  · exact .inr ⟨b, o, c, hv, h1, h2, Nat.lt_of_lt_of_le h3 hb.size, fun j hj => by rw [hb.cell (p := ⟨b, o + j, none⟩) h3]; exact h4 j hj⟩
theorem SV.len {w : World} {v : Value} {us : List Value} (h : SV w v us) : ∃ a c, v = .slice a us.length c ∧ us.length ≤ maxLen := by
  rcases h with ⟨rfl, rfl⟩ | ⟨b, o, c, rfl, h1, h2, _⟩
  · exact ⟨none, 0, rfl, by simp⟩
  · exact ⟨_, _, rfl, by omega⟩
def OwnV (e : TypeId) (base : Nat) (w : World) (v : Value) (us : List Value) : Prop := w.ownsRow base e 1 v us.length us
theorem OwnV.sv {e : TypeId} {base : Nat} {w : World} {v : Value} {us : List Value} (h : OwnV e base w v us) : SV w v us := by
  obtain ⟨hl, h⟩ := h
  rcases h with ⟨hv, h0⟩ | ⟨g, cap, cur, hv, hg, hh, h1, h2, h3, h4⟩
  · left; exact ⟨hv, List.eq_nil_of_length_eq_zero h0⟩
  · right
    refine ⟨g, 0, cap, hv, h1, h2, (Array.getElem?_eq_some_iff.1 hh).1, fun j hj => ?_⟩
    have hc := cell_of_row w g j cur e (0, 0) hh
    rw [Nat.zero_add, hc]
    have : (cur.toList.take (us.length * 1))[j]? = us[j]? := by rw [h4]
    rw [List.getElem?_take, if_pos (by omega)] at this
    rw [← Array.getElem?_toList, this]
    simp [hj]
theorem OwnV.nil (e : TypeId) (base : Nat) (w : World) : OwnV e base w (.slice none 0 0) [] := ⟨by simp, .inl ⟨rfl, rfl⟩⟩
theorem OwnV.mono {e : TypeId} {base base' : Nat} {w : World} {v : Value} {us : List Value} (h : OwnV e base w v us) (hb : base' ≤ base) : OwnV e base' w v us := Joins.ownsRow_le h hb
theorem OwnV.below {e : TypeId} {base : Nat} {w w' : World} {v : Value} {us : List Value} (h : OwnV e base w v us) (hb : Below w.heap.size w w') : OwnV e base w' v us :=
  World.ownsRow.kept (row := none) h ⟨hb.os, hb.tape, hb.output, hb.size, fun i hi _ => hb.block i hi⟩ (by cases v.ownBlock <;> simp)
theorem OwnV.alloc {e : TypeId} {base : Nat} {w : World} {v : Value} {us : List Value} (h : OwnV e base w v us) (o : Obj) : OwnV e base (w.alloc o) v us := World.ownsRow.alloc h o
theorem OwnV.cast {e : TypeId} {base : Nat} {w : World} {v : Value} {us vs : List Value} (h : OwnV e base w v us) (he : us = vs) : OwnV e base w v vs := he ▸ h
theorem SV.lit {e : TypeId} {w : World} {cs : Array Value} {n : Nat} (us : List Value) (hn : n = us.length) (hm : n ≤ maxLen) (h : cs = us.toArray) : SV (w.alloc (.cells cs e)) (.slice (some ⟨w.heap.size, 0, none⟩) n n) us := by
  subst hn h
  refine .inr ⟨_, 0, _, rfl, Nat.le_refl _, hm, by simp, fun j hj => ?_⟩
  rw [Nat.zero_add, Joins.cell_of_block (cs := us.toArray) (t := e) (fr := (0, 0)) (by show (w.heap.push _)[w.heap.size]? = _; simp)]
  simp [hj]

section
variable {P : Program} {w : World} {ops : Array Oper} {rest : List Oper} {o : Oper} {a : Act} {Q : Exit → Act → World → Prop}
theorem app_ownV (hgd : o.guard = none) (s x : Operand) (t e : TypeId) (z : Value) (bytes : Nat)
    (ho : o.op = .call { callee := .builtin .append, args := #[s, x], argTypes := #[t, t] })
    (ht : P.underlying t = some (.slice e)) (hinfo : (P.info? e).map (fun i => (i.zero, i.size, i.bytes)) = some (some z, 1, bytes)) (hzc : z.cells.size = 1)
    (base : Nat) (v : Value) (us : List Value) (hs : a.eval s = v) (hown : OwnV e base w v us)
    (u : Value) (ys : List Value) (hx : a.eval x = u) (hu : SV w u ys) (hone : ∀ y ∈ ys, y.oneCell' = true)
    (h47 : (us.length + ys.length) * bytes ≤ 140737488355328) (h63 : us.length + ys.length ≤ maxLen) (hbase : base ≤ w.heap.size)
    (h : ∀ v' w', OwnV e base w' v' (us ++ ys) → Below base w w' → (v' = .slice none 0 0 ↔ v = .slice none 0 0 ∧ ys = []) → wpList P ops Q rest (a.put o.dst v') w') :
    wpList P ops Q (o :: rest) a w := by
  obtain ⟨i, hi, hz0, hz1, hz2⟩ := info_parts hinfo
  have hge : ∀ j, v.ownBlock = some j → base ≤ j := fun j hj => (World.ownsRow.lt hown j hj).1
  rcases hu with ⟨hv, hy⟩ | ⟨b, of, c, hv, h1, h2, h3, h4⟩
  · subst hy
    refine wpList_append_own_none hgd s x t ho base e i 1 ht hi v us.length us hs hown (hx.trans hv) ?_
    exact h v w (by simpa using hown) (Below.refl _ _) (by simp)
  · refine wpList_append_own w hgd s x t ho base e i z 1 bytes ht hi hz0 hz1 hz2 hzc (by decide) v us.length us hs hown
      ⟨b, of, none⟩ ys.length c ys (hx.trans hv) (by simp) ?_ hone h63 h47 hbase ?_
    · intro j u hj
      have hlt : j < ys.length := (List.getElem?_eq_some_iff.1 hj).1
      have h5 := h4 j hlt
      rw [Addr.add_lit]
      rw [h5, ← hj]
      simp [hlt]
    · intro v' w' hown' hg hiff
      refine h v' w' ?_ ((Below.refl base w).grown hg hbase hge) ?_
      · unfold OwnV
        rw [List.length_append]
        exact hown'
      · rw [hiff]
        constructor
        · rintro ⟨h7, h8⟩; exact ⟨h7, List.eq_nil_of_length_eq_zero h8⟩
        · rintro ⟨h7, h8⟩; exact ⟨h7, by simp [h8]⟩
end

theorem SL.len {k : IntKind} {w : World} {v : Value} {xs : List Int} (h : SL k w v xs) : ∃ a c, v = .slice a xs.length c ∧ xs.length ≤ maxLen := by
  rcases h with ⟨rfl, rfl⟩ | ⟨b, o, c, rfl, h1, h2, _⟩
  · exact ⟨none, 0, rfl, by simp⟩
  · exact ⟨_, _, rfl, by omega⟩
theorem SL.lt {k : IntKind} {w : World} {v : Value} {xs : List Int} (h : SL k w v xs) : ∀ g, v.ownBlock = some g → g < w.heap.size := by
  rcases h with ⟨rfl, rfl⟩ | ⟨b, o, c, rfl, h1, h2, h3, _⟩
  · intro g hg; cases hg
  · intro g hg
    have : b = g := by simpa [Value.ownBlock] using hg
    omega
theorem SL.keep {k : IntKind} {base : Nat} {w w' : World} {v : Value} {xs : List Int} (h : SL k w v xs) (hb : Below base w w') (hl : ∀ g, v.ownBlock = some g → g < base) : SL k w' v xs := by
  rcases h with h | ⟨b, o, c, hv, h1, h2, h3, h4⟩
  · exact .inl h
  · subst hv
    have hlt : b < base := hl b rfl
    exact .inr ⟨b, o, c, rfl, h1, h2, Nat.lt_of_lt_of_le h3 hb.size, fun j hj => by rw [hb.cell (p := ⟨b, o + j, none⟩) hlt]; exact h4 j hj⟩
theorem SL.keep' {k : IntKind} {base : Nat} {w0 w w' : World} {v : Value} {xs : List Int} (h : SL k w0 v xs) (hs : w0.heap.size ≤ base) (hb : Below base w0 w') : SL k w' v xs :=
  h.below (hb.mono hs)
theorem SL.oneCell {k : IntKind} {w : World} {v : Value} {xs : List Int} (h : SL k w v xs) : v.oneCell' = true := by
  rcases h with ⟨rfl, _⟩ | ⟨b, o, c, rfl, _⟩ <;> rfl
/-- element by element, a list of slices of whole numbers, all in blocks below B -/
def SLs (k : IntKind) (B : Nat) (w : World) : List Value → List (List Int) → Prop
  | [], [] => True
  | u :: us, y :: ys => (SL k w u y ∧ ∀ g, u.ownBlock = some g → g < B) ∧ SLs k B w us ys
  | _, _ => False
theorem SLs.below {k : IntKind} {B : Nat} {w w' : World} (hb : Below B w w') : ∀ {us : List Value} {ys : List (List Int)}, SLs k B w us ys → SLs k B w' us ys
  | [], [], _ => trivial
  | [], _ :: _, h => h.elim
  | _ :: _, [], h => h.elim
  | _ :: _, _ :: _, h => ⟨⟨h.1.1.keep hb h.1.2, h.1.2⟩, SLs.below hb h.2⟩
theorem SLs.mono {k : IntKind} {B B' : Nat} {w : World} (hb : B ≤ B') : ∀ {us : List Value} {ys : List (List Int)}, SLs k B w us ys → SLs k B' w us ys
  | [], [], _ => trivial
  | [], _ :: _, h => h.elim
  | _ :: _, [], h => h.elim
  | _ :: _, _ :: _, h => ⟨⟨h.1.1, fun g hg => Nat.lt_of_lt_of_le (h.1.2 g hg) hb⟩, SLs.mono hb h.2⟩
theorem SLs.length {k : IntKind} {B : Nat} {w : World} : ∀ {us : List Value} {ys : List (List Int)}, SLs k B w us ys → us.length = ys.length
  | [], [], _ => rfl
  | [], _ :: _, h => h.elim
  | _ :: _, [], h => h.elim
  | _ :: _, _ :: _, h => by simp [SLs.length h.2]
theorem SLs.get {k : IntKind} {B : Nat} {w : World} : ∀ {us : List Value} {ys : List (List Int)}, SLs k B w us ys → ∀ j, j < us.length → SL k w (us.getD j undef) (ys.getD j []) ∧ ∀ g, (us.getD j undef).ownBlock = some g → g < B
  | [], [], _, j, hj => by simp at hj
  | [], _ :: _, h, _, _ => h.elim
  | _ :: _, [], h, _, _ => h.elim
  | _ :: _, _ :: _, h, 0, _ => by simpa using h.1
  | _ :: _, _ :: _, h, j + 1, hj => by simpa using SLs.get h.2 j (by simpa using hj)
theorem SLs.append {k : IntKind} {B : Nat} {w : World} : ∀ {us : List Value} {ys : List (List Int)} {us' : List Value} {ys' : List (List Int)}, SLs k B w us ys → SLs k B w us' ys' → SLs k B w (us ++ us') (ys ++ ys')
  | [], [], _, _, _, h => h
  | [], _ :: _, _, _, h, _ => h.elim
  | _ :: _, [], _, _, h, _ => h.elim
  | _ :: _, _ :: _, _, _, h, h' => ⟨h.1, SLs.append h.2 h'⟩
theorem SLs.oneCell {k : IntKind} {B : Nat} {w : World} : ∀ {us : List Value} {ys : List (List Int)}, SLs k B w us ys → ∀ u ∈ us, u.oneCell' = true
  | [], [], _, _, h => by cases h
  | [], _ :: _, h, _, _ => h.elim
  | _ :: _, [], h, _, _ => h.elim
  | _ :: _, _ :: _, h, u, hu => by
    rcases List.mem_cons.1 hu with rfl | hu
    · exact h.1.1.oneCell
    · exact SLs.oneCell h.2 u hu
theorem SLs.one {k : IntKind} {B : Nat} {w : World} {u : Value} {y : List Int} (h : SL k w u y) (hl : ∀ g, u.ownBlock = some g → g < B) : SLs k B w [u] [y] := ⟨⟨h, hl⟩, trivial⟩

end Go.Proofs.Yteaijjefbadnbaa
