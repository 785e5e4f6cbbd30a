/-
  Texts of one seat, put together: Base, Len, Uint, Text, Same, Arr, Held, HeldApp, Bits, Open, Wit, OpenS, Step, StepZ, Ev, Ctl, OpenG, Eqk, NatV, GrowL, EqA, NnOf, NnB, MakeL, AppN, MarkL, StrL.
  No conditions: lemmas over any program.
-/
import Derived.WalkKit
import Derived.WalkLawsBesides
import Derived.WalkSpells
import Derived.ProofKit
import Derived.OpenShut
import Derived.Below
import Derived.Lib.Hide
import Derived.Laws.AppendOwnNone
import Derived.BigQuiet
import Derived.Deep.QuietTactic
import Derived.Lib.SmallJoins
import Derived.Test.YtanggdnmoaflfaaRows
import Derived.Lib.Strings
import Derived.Lib.Slices
import Derived.Lib.Small
import Derived.Lib.Walk
import Derived.Lib.BitFns
import Derived.Deep.MidRow
import Derived.ChangeKeysEq
import Derived.OrdersHeld
import Derived.Deep.RegionHeld3
import Derived.ChangeOld
import Derived.ShutString
import Derived.Handed
import Derived.ChangeSame
import Derived.Laws.CopyOwn
import Derived.DeepKeys
import Derived.Laws.OwnMore
import Derived.Lib.AppendStr
import Derived.Lib.ConvBytes
namespace Go.Proofs.Ytanggdnmoaflfaa
open Go.RowKit
set_option linter.unusedVariables false
set_option linter.unusedSimpArgs false
set_option maxRecDepth 100000

/-- Where the walk is to stand still. -/
def Stop (p : Prop) : Prop := p
theorem Stop.at_ {p : Prop} (h : Stop p) : p := h
theorem Stop.go {p : Prop} (h : p) : Stop p := h

/-- .. ahead of the operation that writes slot d. -/
theorem Stop.slot {P : Program} {ops : Array Oper} {Q : Exit → Act → World → Prop} {rest : List Oper} {a : Act} {w : World} {d : Nat} {op : Op} {ty : TypeId} {pos : String} {af : Array Edge} {g : Option (Nat × Bool)}
    (h : Stop (wpList P ops Q (⟨some d, op, ty, pos, af, g⟩ :: rest) a w)) : wpList P ops Q (⟨some d, op, ty, pos, af, g⟩ :: rest) a w := h

/-- .. ahead of a store of y. -/
theorem Stop.store {P : Program} {ops : Array Oper} {Q : Exit → Act → World → Prop} {rest : List Oper} {a : Act} {w : World} {t : TypeId} {x y : Operand} {ty : TypeId} {pos : String} {af : Array Edge} {g : Option (Nat × Bool)}
    (h : Stop (wpList P ops Q (⟨none, .store t x y, ty, pos, af, g⟩ :: rest) a w)) : wpList P ops Q (⟨none, .store t x y, ty, pos, af, g⟩ :: rest) a w := h

/-- The cells of an array of whole numbers. -/
def cellsOf (k : IntKind) (xs : List Int) : Array Value := (xs.map (Value.int k)).toArray

theorem cells_at (k : IntKind) (xs : List Int) (i : Nat) (h : i < xs.length) : (cellsOf k xs)[i]? = some (.int k (xs.getD i 0)) := by
  simp [cellsOf, h]

/-- 'v' is a slice of whole numbers of the kind k that reads as xs. -/
def SL (k : IntKind) (w : World) (v : Value) (xs : List Int) : Prop :=
  (v = .slice none 0 0 ∧ xs = []) ∨
  ∃ b o c, v = .slice (some ⟨b, o, none⟩) xs.length c ∧ xs.length ≤ c ∧ c ≤ maxLen ∧ b < w.heap.size ∧
    ∀ j, j < xs.length → w.cell? ⟨b, o + j, none⟩ = some (.int k (xs.getD j 0))

theorem SL.below {k : IntKind} {w w' : World} {v : Value} {xs : List Int} (h : SL k w v xs) (hb : Below w.heap.size w w') : SL k w' v xs := by
  rcases h with h | ⟨b, o, c, hv, h1, h2, h3, h4⟩
  · exact .inl h
  · exact .inr ⟨b, o, c, hv, h1, h2, Nat.lt_of_lt_of_le h3 hb.size, fun j hj => by rw [hb.cell (p := ⟨b, o + j, none⟩) h3]; exact h4 j hj⟩

theorem SL.nil (k : IntKind) (w : World) : SL k w (.slice none 0 0) [] := .inl ⟨rfl, rfl⟩

theorem SL.of_own {k : IntKind} {w : World} {base n : Nat} {e : TypeId} {v : Value} {xs : List Int} (h : w.ownsRow base e 1 v n (xs.map (Value.int k))) : SL k w v xs := by
  obtain ⟨hl, h⟩ := h
  have hn : xs.length = n := by simpa using hl
  rcases h with ⟨hv, h0⟩ | ⟨g, cap, cur, hv, hg, hh, h1, h2, h3, h4⟩
  · left; exact ⟨hv, by cases xs with | nil => rfl | cons a l => simp at hn; omega⟩
  · right
    refine ⟨g, 0, cap, by rw [hv, hn], by omega, h2, (Array.getElem?_eq_some_iff.1 hh).1, fun j hj => ?_⟩
    have hc := cell_of_row w g j cur e (0, 0) hh
    rw [Nat.zero_add, hc]
    have : (cur.toList.take (n * 1))[j]? = (xs.map (Value.int k))[j]? := by rw [h4]
    rw [List.getElem?_take, if_pos (by omega)] at this
    rw [← Array.getElem?_toList, this]
    simp [hj]

def nums (k : IntKind) (xs : List Int) : List Value := xs.map (Value.int k)
theorem nums_length (k : IntKind) (xs : List Int) : (nums k xs).length = xs.length := by simp [nums]
theorem nums_append (k : IntKind) (xs ys : List Int) : nums k (xs ++ ys) = nums k xs ++ nums k ys := by simp [nums]

/-- A row of whole numbers (elements of type e) that the call owns, from block 'base' on. -/
def Own (e : TypeId) (k : IntKind) (base : Nat) (w : World) (v : Value) (xs : List Int) : Prop := w.ownsRow base e 1 v xs.length (nums k xs)

theorem Own.sl {e : TypeId} {k : IntKind} {base : Nat} {w : World} {v : Value} {xs : List Int} (h : Own e k base w v xs) : SL k w v xs := SL.of_own h
theorem Own.nil (e : TypeId) (k : IntKind) (base : Nat) (w : World) : Own e k base w (.slice none 0 0) [] := ⟨by simp [nums], .inl ⟨rfl, rfl⟩⟩
theorem Own.mono {e : TypeId} {k : IntKind} {base base' : Nat} {w : World} {v : Value} {xs : List Int} (h : Own e k base w v xs) (hb : base' ≤ base) : Own e k base' w v xs := Joins.ownsRow_le h hb
theorem Own.below {e : TypeId} {k : IntKind} {base : Nat} {w w' : World} {v : Value} {xs : List Int} (h : Own e k base w v xs) (hb : Below w.heap.size w w') : Own e k base w' v xs :=
  World.ownsRow.kept (row := none) h ⟨hb.os, hb.tape, hb.output, hb.size, fun i hi _ => hb.block i hi⟩ (by cases v.ownBlock <;> simp)
theorem Own.len {e : TypeId} {k : IntKind} {base : Nat} {w : World} {v : Value} {xs : List Int} (h : Own e k base w v xs) : ∃ a c, v = .slice a xs.length c := by
  obtain ⟨_, h⟩ := h
  rcases h with ⟨hv, h0⟩ | ⟨g, cap, cur, hv, _⟩
  · exact ⟨none, 0, by rw [hv, h0]⟩
  · exact ⟨_, _, hv⟩
theorem Own.alloc {e : TypeId} {k : IntKind} {base : Nat} {w : World} {v : Value} {xs : List Int} (h : Own e k base w v xs) (o : Obj) : Own e k base (w.alloc o) v xs := World.ownsRow.alloc h o
theorem Own.cast {e : TypeId} {k : IntKind} {base : Nat} {w : World} {v : Value} {xs ys : List Int} (h : Own e k base w v xs) (he : xs = ys) : Own e k base w v ys := he ▸ h

/-- A literal '[]T{..}' that was just laid. -/
theorem Own.lit {e : TypeId} {k : IntKind} (base : Nat) (w : World) (xs : List Int) (hb : base ≤ w.heap.size) (hm : xs.length ≤ maxLen) (cs : Array Value) (hc : cs = (nums k xs).toArray) :
    Own e k base (w.alloc (.cells cs e)) (.slice (some ⟨w.heap.size, 0, none⟩) xs.length xs.length) xs := by
  subst hc
  refine ⟨by simp [nums], .inr ⟨w.heap.size, xs.length, (nums k xs).toArray, rfl, hb, ?_, Nat.le_refl _, hm, by simp [nums], by simp [nums, List.take_of_length_le]⟩⟩
  show (w.heap.push _)[w.heap.size]? = _
  simp

/-- What was just laid, element by element. -/
theorem SL.lit {k : IntKind} {e : TypeId} {w : World} {cs : Array Value} {n : Nat} (ys : List Int) (hn : n = ys.length) (hm : n ≤ maxLen) (h : cs = (nums k ys).toArray) : SL k (w.alloc (.cells cs e)) (.slice (some ⟨w.heap.size, 0, none⟩) n n) ys := by
  subst hn
  exact (Own.lit 0 w ys (Nat.zero_le _) hm cs h).sl
section
variable {P : Program} {w : World} {ops : Array Oper} {rest : List Oper} {o : Oper} {a : Act} {Q : Exit → Act → World → Prop}

end

/-- What an append does: old blocks but v's own are as they were; what comes back lies in v's block, or in a new one. -/
structure Mut (w w' : World) (v v' : Value) : Prop where
  g : w.grownBy w' v.ownBlock
  o : v'.ownBlock = v.ownBlock ∨ ∀ g, v'.ownBlock = some g → w.heap.size ≤ g
theorem Mut.refl (w : World) (v : Value) : Mut w w v v := ⟨World.grownBy.refl _ _, .inl rfl⟩
theorem Mut.trans {a b c : World} {u v x : Value} (h : Mut a b u v) (k : Mut b c v x) : Mut a c u x := by
  refine ⟨⟨k.g.os.trans h.g.os, k.g.tape.trans h.g.tape, k.g.output.trans h.g.output, Nat.le_trans h.g.size k.g.size, fun i hi hne => ?_⟩, ?_⟩
  · rw [k.g.block i (Nat.lt_of_lt_of_le hi h.g.size) ?_, h.g.block i hi hne]
    rcases h.o with ho | ho
    · rw [ho]; exact hne
    · intro he; have := ho i he.symm; omega
  · rcases k.o with ko | ko
    · rw [ko]; exact h.o
    · exact .inr fun g hg => Nat.le_trans h.g.size (ko g hg)
theorem Mut.below {base : Nat} {w w' : World} {v v' : Value} (h : Mut w w' v v') (hb : base ≤ w.heap.size) (hv : ∀ g, v.ownBlock = some g → base ≤ g) : Below base w w' := (Below.refl base w).grown h.g hb hv
theorem Mut.alloc {w : World} {v : Value} (o : Obj) : Mut w (w.alloc o) v v := ⟨World.grownBy_alloc w o _, .inl rfl⟩
theorem Own.ge {e : TypeId} {k : IntKind} {base : Nat} {w : World} {v : Value} {xs : List Int} (h : Own e k base w v xs) : ∀ g, v.ownBlock = some g → base ≤ g ∧ g < w.heap.size := World.ownsRow.lt h

section
variable {P : Program} {w : World} {ops : Array Oper} {rest : List Oper} {o : Oper} {a : Act} {Q : Exit → Act → World → Prop}
/-- 'append(s, x...)': s the call's own, x whatever reads as ys; told exactly. -/
theorem app_mut (hgd : o.guard = none) (s x : Operand) (t e : TypeId) (k : IntKind) (bytes : Nat)
    (ho : o.op = .call { callee := .builtin .append, args := #[s, x], argTypes := #[t, t] })
    (ht : P.underlying t = some (.slice e)) (hinfo : (P.info? e).map (fun i => (i.zero, i.size, i.bytes)) = some (some (.int k 0), 1, bytes))
    (base : Nat) (v : Value) (xs : List Int) (hs : a.eval s = v) (hown : Own e k base w v xs)
    (u : Value) (ys : List Int) (hx : a.eval x = u) (hu : SL k w u ys)
    (h47 : (xs.length + ys.length) * bytes ≤ 140737488355328) (h63 : xs.length + ys.length ≤ maxLen) (hbase : base ≤ w.heap.size)
    (h : ∀ v' w', Own e k base w' v' (xs ++ ys) → Mut w w' v v' → wpList P ops Q rest (a.put o.dst v') w') :
    wpList P ops Q (o :: rest) a w := by
  obtain ⟨i, hi, hz0, hz1, hz2⟩ := info_parts hinfo
  rcases hu with ⟨hv, hy⟩ | ⟨b, of, c, hv, h1, h2, h3, h4⟩
  · subst hy
    exact wpList_append_own_none hgd s x t ho base e i 1 ht hi v xs.length (nums k xs) hs hown (hx.trans hv) (h v w (by simpa using hown) (Mut.refl _ _))
  · have hcells : ∀ j u, (nums k ys)[j]? = some u → w.cell? ((⟨b, of, none⟩ : Addr).add j) = some u := by
      intro j u hj
      have hlt : j < ys.length := by
        have := (List.getElem?_eq_some_iff.1 hj).1
        simpa [nums] using this
      rw [Addr.add_lit, h4 j hlt, ← hj]
      simp [nums, hlt]
    have hm := hown
    obtain ⟨hl, hcase⟩ := hm
    rcases hcase with ⟨hvn, h0⟩ | ⟨g, cap, cur, hvs, hg, hh, q1, q2, q3, q4⟩
    · by_cases hy0 : ys.length = 0
      · refine wpList_append_own w hgd s x t ho base e i (.int k 0) 1 bytes ht hi hz0 hz1 hz2 rfl (by decide) v xs.length (nums k xs) hs hown
          ⟨b, of, none⟩ ys.length c (nums k ys) (hx.trans hv) (by simp [nums]) hcells (ints_oneCell k ys) h63 h47 hbase ?_
        intro v' w' hown' hg hiff
        have hown2 : Own e k base w' v' (xs ++ ys) := by unfold Own; rw [nums_append, List.length_append]; exact hown'
        exact h v' w' hown2 ⟨hg, .inl (by rw [hiff.2 ⟨hvn, hy0⟩, hvn])⟩
      · refine wpList_append_grows w hgd s x t ho e i (.int k 0) 1 bytes ht hi hz0 hz1 hz2 rfl (by decide) none 0 0 [] (hs.trans hvn) (fun _ => ⟨rfl, rfl⟩) (by simp) (fun b hb => by cases hb)
          ⟨b, of, none⟩ ys.length c (nums k ys) (hx.trans hv) (by simp [nums]) hcells (ints_oneCell k ys) (by omega) (by omega) (by rw [h0] at h47; exact h47) ?_
        intro v' w' hown' hg'
        have hx0 : xs = [] := List.eq_nil_of_length_eq_zero h0
        subst hx0
        rw [Nat.zero_add, List.nil_append] at hown'
        have hown2 : Own e k w.heap.size w' v' ys := hown'
        refine h v' w' (by rw [List.nil_append]; exact hown2.mono hbase) ⟨⟨hg'.os, hg'.tape, hg'.output, hg'.size, fun i hi _ => hg'.block i hi (by simp)⟩, .inr fun g hg => (hown2.ge g hg).1⟩
    · by_cases hfit : xs.length + ys.length ≤ cap
      · refine wpList_append_fits w hgd s x t ho base e i 1 ht hi hz1 g xs.length cap (nums k xs) (hs.trans hvs) (hvs ▸ hown) ⟨b, of, none⟩ ys.length c (nums k ys) (hx.trans hv) (by simp [nums]) hcells (ints_oneCell k ys) hfit ?_
        intro w' hown' hg'
        subst hvs
        refine h _ w' ?_ ⟨hg', .inl rfl⟩
        unfold Own; rw [nums_append, List.length_append]; exact hown'
      · refine wpList_append_grows w hgd s x t ho e i (.int k 0) 1 bytes ht hi hz0 hz1 hz2 rfl (by decide) (some ⟨g, 0, none⟩) xs.length cap (nums k xs) (hs.trans hvs) (fun hn => by cases hn) (by simp [nums]) ?_
          ⟨b, of, none⟩ ys.length c (nums k ys) (hx.trans hv) (by simp [nums]) hcells (ints_oneCell k ys) (by omega) h63 h47 ?_
        · intro b' hb' j u hj
          obtain rfl := Option.some.inj hb'
          exact World.ownsRow.cells hown (by rw [hvs]; rfl) j u hj
        · intro v' w' hown' hg'
          have hown2 : Own e k w.heap.size w' v' (xs ++ ys) := by unfold Own; rw [nums_append, List.length_append]; exact hown'
          exact h v' w' (hown2.mono hbase) ⟨⟨hg'.os, hg'.tape, hg'.output, hg'.size, fun i hi _ => hg'.block i hi (by simp)⟩, .inr fun g hg => (hown2.ge g hg).1⟩
end

/-! ### Rows whose elements are any values of one cell (slices, pointers) -/
def SV (w : World) (v : Value) (us : List Value) : Prop :=
  (v = .slice none 0 0 ∧ us = []) ∨
  ∃ b o c, v = .slice (some ⟨b, o, none⟩) us.length c ∧ us.length ≤ c ∧ c ≤ maxLen ∧ b < w.heap.size ∧
    ∀ j, j < us.length → w.cell? ⟨b, o + j, none⟩ = some (us.getD j undef)
theorem SV.below {w w' : World} {v : Value} {us : List Value} (h : SV w v us) (hb : Below w.heap.size w w') : SV w' v us := by
  rcases h with h | ⟨b, o, c, hv, h1, h2, h3, h4⟩
  · exact .inl h
  · exact .inr ⟨b, o, c, hv, h1, h2, Nat.lt_of_lt_of_le h3 hb.size, fun j hj => by rw [hb.cell (p := ⟨b, o + j, none⟩) h3]; exact h4 j hj⟩
theorem SV.len {w : World} {v : Value} {us : List Value} (h : SV w v us) : ∃ a c, v = .slice a us.length c ∧ us.length ≤ maxLen := by
  rcases h with ⟨rfl, rfl⟩ | ⟨b, o, c, rfl, h1, h2, _⟩
  · exact ⟨none, 0, rfl, by simp⟩
  · exact ⟨_, _, rfl, by omega⟩
def OwnV (e : TypeId) (base : Nat) (w : World) (v : Value) (us : List Value) : Prop := w.ownsRow base e 1 v us.length us
theorem OwnV.sv {e : TypeId} {base : Nat} {w : World} {v : Value} {us : List Value} (h : OwnV e base w v us) : SV w v us := by
  obtain ⟨hl, h⟩ := h
  rcases h with ⟨hv, h0⟩ | ⟨g, cap, cur, hv, hg, hh, h1, h2, h3, h4⟩
  · left; exact ⟨hv, List.eq_nil_of_length_eq_zero h0⟩
  · right
    refine ⟨g, 0, cap, hv, h1, h2, (Array.getElem?_eq_some_iff.1 hh).1, fun j hj => ?_⟩
    have hc := cell_of_row w g j cur e (0, 0) hh
    rw [Nat.zero_add, hc]
    have : (cur.toList.take (us.length * 1))[j]? = us[j]? := by rw [h4]
    rw [List.getElem?_take, if_pos (by omega)] at this
    rw [← Array.getElem?_toList, this]
    simp [hj]
theorem OwnV.nil (e : TypeId) (base : Nat) (w : World) : OwnV e base w (.slice none 0 0) [] := ⟨by simp, .inl ⟨rfl, rfl⟩⟩
theorem OwnV.mono {e : TypeId} {base base' : Nat} {w : World} {v : Value} {us : List Value} (h : OwnV e base w v us) (hb : base' ≤ base) : OwnV e base' w v us := Joins.ownsRow_le h hb
theorem OwnV.below {e : TypeId} {base : Nat} {w w' : World} {v : Value} {us : List Value} (h : OwnV e base w v us) (hb : Below w.heap.size w w') : OwnV e base w' v us :=
  World.ownsRow.kept (row := none) h ⟨hb.os, hb.tape, hb.output, hb.size, fun i hi _ => hb.block i hi⟩ (by cases v.ownBlock <;> simp)
theorem OwnV.alloc {e : TypeId} {base : Nat} {w : World} {v : Value} {us : List Value} (h : OwnV e base w v us) (o : Obj) : OwnV e base (w.alloc o) v us := World.ownsRow.alloc h o
theorem OwnV.cast {e : TypeId} {base : Nat} {w : World} {v : Value} {us vs : List Value} (h : OwnV e base w v us) (he : us = vs) : OwnV e base w v vs := he ▸ h
theorem SV.lit {e : TypeId} {w : World} {cs : Array Value} {n : Nat} (us : List Value) (hn : n = us.length) (hm : n ≤ maxLen) (h : cs = us.toArray) : SV (w.alloc (.cells cs e)) (.slice (some ⟨w.heap.size, 0, none⟩) n n) us := by
  subst hn h
  refine .inr ⟨_, 0, _, rfl, Nat.le_refl _, hm, by simp, fun j hj => ?_⟩
  rw [Nat.zero_add, Joins.cell_of_block (cs := us.toArray) (t := e) (fr := (0, 0)) (by show (w.heap.push _)[w.heap.size]? = _; simp)]
  simp [hj]

section
variable {P : Program} {w : World} {ops : Array Oper} {rest : List Oper} {o : Oper} {a : Act} {Q : Exit → Act → World → Prop}
end

theorem SL.len {k : IntKind} {w : World} {v : Value} {xs : List Int} (h : SL k w v xs) : ∃ a c, v = .slice a xs.length c ∧ xs.length ≤ maxLen := by
  rcases h with ⟨rfl, rfl⟩ | ⟨b, o, c, rfl, h1, h2, _⟩
  · exact ⟨none, 0, rfl, by simp⟩
  · exact ⟨_, _, rfl, by omega⟩
theorem SL.lt {k : IntKind} {w : World} {v : Value} {xs : List Int} (h : SL k w v xs) : ∀ g, v.ownBlock = some g → g < w.heap.size := by
  rcases h with ⟨rfl, rfl⟩ | ⟨b, o, c, rfl, h1, h2, h3, _⟩
  · intro g hg; cases hg
  · intro g hg
    have : b = g := by simpa [Value.ownBlock] using hg
    omega
theorem SL.keep {k : IntKind} {base : Nat} {w w' : World} {v : Value} {xs : List Int} (h : SL k w v xs) (hb : Below base w w') (hl : ∀ g, v.ownBlock = some g → g < base) : SL k w' v xs := by
  rcases h with h | ⟨b, o, c, hv, h1, h2, h3, h4⟩
  · exact .inl h
  · subst hv
    have hlt : b < base := hl b rfl
    exact .inr ⟨b, o, c, rfl, h1, h2, Nat.lt_of_lt_of_le h3 hb.size, fun j hj => by rw [hb.cell (p := ⟨b, o + j, none⟩) hlt]; exact h4 j hj⟩
/-- element by element, a list of slices of whole numbers, all in blocks below B -/
def SLs (k : IntKind) (B : Nat) (w : World) : List Value → List (List Int) → Prop
  | [], [] => True
  | u :: us, y :: ys => (SL k w u y ∧ ∀ g, u.ownBlock = some g → g < B) ∧ SLs k B w us ys
  | _, _ => False
theorem SLs.below {k : IntKind} {B : Nat} {w w' : World} (hb : Below B w w') : ∀ {us : List Value} {ys : List (List Int)}, SLs k B w us ys → SLs k B w' us ys
  | [], [], _ => trivial
  | [], _ :: _, h => h.elim
  | _ :: _, [], h => h.elim
  | _ :: _, _ :: _, h => ⟨⟨h.1.1.keep hb h.1.2, h.1.2⟩, SLs.below hb h.2⟩
theorem SLs.mono {k : IntKind} {B B' : Nat} {w : World} (hb : B ≤ B') : ∀ {us : List Value} {ys : List (List Int)}, SLs k B w us ys → SLs k B' w us ys
  | [], [], _ => trivial
  | [], _ :: _, h => h.elim
  | _ :: _, [], h => h.elim
  | _ :: _, _ :: _, h => ⟨⟨h.1.1, fun g hg => Nat.lt_of_lt_of_le (h.1.2 g hg) hb⟩, SLs.mono hb h.2⟩
theorem SLs.length {k : IntKind} {B : Nat} {w : World} : ∀ {us : List Value} {ys : List (List Int)}, SLs k B w us ys → us.length = ys.length
  | [], [], _ => rfl
  | [], _ :: _, h => h.elim
  | _ :: _, [], h => h.elim
  | _ :: _, _ :: _, h => by simp [SLs.length h.2]
theorem SLs.get {k : IntKind} {B : Nat} {w : World} : ∀ {us : List Value} {ys : List (List Int)}, SLs k B w us ys → ∀ j, j < us.length → SL k w (us.getD j undef) (ys.getD j []) ∧ ∀ g, (us.getD j undef).ownBlock = some g → g < B
  | [], [], _, j, hj => by simp at hj
  | [], _ :: _, h, _, _ => h.elim
  | _ :: _, [], h, _, _ => h.elim
  | _ :: _, _ :: _, h, 0, _ => by simpa using h.1
  | _ :: _, _ :: _, h, j + 1, hj => by simpa using SLs.get h.2 j (by simpa using hj)
theorem SLs.append {k : IntKind} {B : Nat} {w : World} : ∀ {us : List Value} {ys : List (List Int)} {us' : List Value} {ys' : List (List Int)}, SLs k B w us ys → SLs k B w us' ys' → SLs k B w (us ++ us') (ys ++ ys')
  | [], [], _, _, _, h => h
  | [], _ :: _, _, _, h, _ => h.elim
  | _ :: _, [], _, _, h, _ => h.elim
  | _ :: _, _ :: _, _, _, h, h' => ⟨h.1, SLs.append h.2 h'⟩
theorem SLs.one {k : IntKind} {B : Nat} {w : World} {u : Value} {y : List Int} (h : SL k w u y) (hl : ∀ g, u.ownBlock = some g → g < B) : SLs k B w [u] [y] := ⟨⟨h, hl⟩, trivial⟩

end Go.Proofs.Ytanggdnmoaflfaa

namespace Go.Proofs.Ytanggdnmoaflfaa
open Go.RowKit
set_option linter.unusedVariables false
set_option linter.unusedSimpArgs false
set_option maxRecDepth 100000
end Go.Proofs.Ytanggdnmoaflfaa

namespace Go.Proofs.Ytanggdnmoaflfaa
open Go.RowKit
set_option linter.unusedVariables false
set_option linter.unusedSimpArgs false
set_option maxRecDepth 100000

end Go.Proofs.Ytanggdnmoaflfaa

namespace Go.Proofs.Ytanggdnmoaflfaa
open Go.RowKit
set_option linter.unusedVariables false
set_option linter.unusedSimpArgs false
set_option maxRecDepth 100000

/-- every number is a byte -/
def Bytes (xs : List Int) : Prop := ∀ x ∈ xs, 0 ≤ x ∧ x < 256
theorem Bytes.getD {xs : List Int} (h : Bytes xs) (j : Nat) : 0 ≤ xs.getD j 0 ∧ xs.getD j 0 < 256 := by
  by_cases hj : j < xs.length
  · simp only [List.getD_eq_getElem?_getD, List.getElem?_eq_getElem hj, Option.getD_some]
    exact h _ (List.getElem_mem hj)
  · simp [List.getD_eq_getElem?_getD, List.getElem?_eq_none (Nat.le_of_not_lt hj)]
theorem SLs.two {k : IntKind} {B : Nat} {w : World} {u u' : Value} {y y' : List Int} (h : SL k w u y) (hl : ∀ g, u.ownBlock = some g → g < B) (h' : SL k w u' y') (hl' : ∀ g, u'.ownBlock = some g → g < B) : SLs k B w [u, u'] [y, y'] := ⟨⟨h, hl⟩, ⟨h', hl'⟩, trivial⟩

end Go.Proofs.Ytanggdnmoaflfaa

namespace Go.Proofs.Ytanggdnmoaflfaa
open Go.RowKit
set_option linter.unusedVariables false
set_option linter.unusedSimpArgs false
set_option maxRecDepth 100000

/-- Bytes as a string. -/
def strOf (xs : List Int) : ByteArray := xs.foldl (fun r n => r.push (UInt8.ofNat n.toNat)) ByteArray.empty

theorem conv_SL {P : Program} {src dst e : TypeId} (hs : P.underlying src = some (.slice e)) (he : P.underlying e = some (.int .u8)) (hd : P.underlying dst = some .string)
    {w : World} {v : Value} {xs : List Int} (h : SL .u8 w v xs) : (convert src dst v).run P w = .ok (.string (strOf xs)) w := by
  rcases h with ⟨rfl, rfl⟩ | ⟨b, o, c, rfl, h1, h2, h3, h4⟩
  · rw [run_convert_bytes_string w src dst e none 0 0 hs he hd]
    rfl
  · rw [run_convert_bytes_string w src dst e _ _ _ hs he hd]
    refine run_bytesToString w _ _ _ xs ?_
    have hl := run_loadCells_list (P := P) w ⟨b, o, none⟩ (xs.map (Value.int .u8)) (fun j v hv => by
      have hj : j < xs.length := by
        have := (List.getElem?_eq_some_iff.1 hv).1
        simpa using this
      rw [Addr.add_lit, h4 j hj, ← hv]
      simp [hj])
    simpa using hl

theorem strOf_data (xs : List Int) : ∀ acc : ByteArray, (xs.foldl (fun r n => r.push (UInt8.ofNat n.toNat)) acc).data.toList = acc.data.toList ++ xs.map (fun n => UInt8.ofNat n.toNat) := by
  induction xs with
  | nil => intro acc; simp
  | cons x xs ih => intro acc; rw [List.foldl_cons, ih]; simp [ByteArray.push]

theorem strOf_toList (xs : List Int) : (strOf xs).data.toList = xs.map (fun n => UInt8.ofNat n.toNat) := by
  rw [strOf, strOf_data]; rfl

theorem toList_inj {a b : ByteArray} (h : a.toList = b.toList) : a = b := by
  rw [Lib.toList_data, Lib.toList_data] at h
  cases a; cases b
  congr
  exact Array.toList_inj.1 h

theorem strOf_inj {xs ys : List Int} (hx : Bytes xs) (hy : Bytes ys) (h : strOf xs = strOf ys) : xs = ys := by
  have h2 := strOf_toList xs
  rw [h, strOf_toList] at h2
  clear h
  induction xs generalizing ys with
  | nil => cases ys with
    | nil => rfl
    | cons y ys => simp at h2
  | cons x xs ih => cases ys with
    | nil => simp at h2
    | cons y ys =>
      simp only [List.map_cons, List.cons.injEq] at h2
      have a := hx x (List.mem_cons_self ..)
      have b := hy y (List.mem_cons_self ..)
      have h3 := congrArg UInt8.toNat h2.1
      simp at h3
      have e : x = y := by omega
      rw [e, ih (fun z hz => hx z (List.mem_cons_of_mem _ hz)) (fun z hz => hy z (List.mem_cons_of_mem _ hz)) h2.2]

theorem strOf_eq {xs ys : List Int} (hx : Bytes xs) (hy : Bytes ys) : ((strOf xs).toList == (strOf ys).toList) = decide (xs = ys) := by
  by_cases h : xs = ys
  · subst h; simp only [decide_true]; exact beq_iff_eq.2 rfl
  · have : ¬ (strOf xs).toList = (strOf ys).toList := fun e => h (strOf_inj hx hy (toList_inj e))
    simp only [h, decide_false]; exact beq_eq_false_iff_ne.2 this

end Go.Proofs.Ytanggdnmoaflfaa

namespace Go.Proofs.Ytanggdnmoaflfaa
open Go.RowKit
set_option linter.unusedVariables false
set_option linter.unusedSimpArgs false
set_option maxRecDepth 100000

/-- Block g holds just these whole numbers. -/
def Blk (k : IntKind) (w : World) (g : Nat) (t : TypeId) (xs : List Int) : Prop := w.heap[g]? = some (.cells (cellsOf k xs) t (0, 0))

theorem cells_size (k : IntKind) (xs : List Int) : (cellsOf k xs).size = xs.length := by simp [cellsOf]
theorem cells_toList (k : IntKind) (xs : List Int) : (cellsOf k xs).toList = xs.map (Value.int k) := by simp [cellsOf]

theorem Blk.cell {k : IntKind} {w : World} {g : Nat} {t : TypeId} {xs : List Int} (h : Blk k w g t xs) (j : Nat) (hj : j < xs.length) : w.cell? ⟨g, j, none⟩ = some (.int k (xs.getD j 0)) := by
  rw [Joins.cell_of_block h, cells_at k xs j hj]
theorem Blk.frozen {k : IntKind} {w : World} {g : Nat} {t : TypeId} {xs : List Int} (h : Blk k w g t xs) (j : Nat) : w.frozen? ⟨g, j, none⟩ = false := Joins.unfrozen_of_block h j
theorem Blk.lt {k : IntKind} {w : World} {g : Nat} {t : TypeId} {xs : List Int} (h : Blk k w g t xs) : g < w.heap.size := (Array.getElem?_eq_some_iff.1 h).1
theorem Blk.keep {k : IntKind} {w w' : World} {g B : Nat} {t : TypeId} {xs : List Int} (h : Blk k w g t xs) (hb : Below B w w') (hg : g < B) : Blk k w' g t xs := (hb.block g hg).trans h
theorem Blk.below {k : IntKind} {w w' : World} {g : Nat} {t : TypeId} {xs : List Int} (h : Blk k w g t xs) (hb : Below w.heap.size w w') : Blk k w' g t xs := h.keep hb h.lt
theorem Blk.alloc {k : IntKind} {w : World} {g : Nat} {t : TypeId} {xs : List Int} (h : Blk k w g t xs) (o : Obj) : Blk k (w.alloc o) g t xs := h.below (Joins.below_alloc1 _ _)
theorem Blk.new {k : IntKind} (w : World) (t : TypeId) (xs : List Int) : Blk k (w.alloc (.cells (cellsOf k xs) t)) w.heap.size t xs := heap_alloc_new w _
theorem Blk.set {k : IntKind} {w : World} {g i : Nat} {t : TypeId} {xs : List Int} (h : Blk k w g t xs) (x : Int) : Blk k (w.setCell ⟨g, i, none⟩ (.int k x)) g t (xs.set i x) := by
  have h2 := Joins.block_setCell (i := i) h (.int k x)
  have e : (cellsOf k xs).setIfInBounds i (.int k x) = cellsOf k (xs.set i x) := by
    simp [cellsOf]
  rw [e] at h2
  exact h2
/-- A part of a list. -/
def seg (o n : Nat) (xs : List Int) : List Int := (xs.drop o).take n
theorem seg_length (o n : Nat) (xs : List Int) (h : o + n ≤ xs.length) : (seg o n xs).length = n := by simp [seg]; omega
theorem seg_getD (o n : Nat) (xs : List Int) (j : Nat) (hj : j < n) : (seg o n xs).getD j 0 = xs.getD (o + j) 0 := by
  simp only [seg, List.getD_eq_getElem?_getD, List.getElem?_take, List.getElem?_drop]
  rw [if_pos hj]
theorem Blk.range {k : IntKind} {w : World} {g : Nat} {t : TypeId} {xs : List Int} (h : Blk k w g t xs) (o n : Nat) (hl : o + n ≤ xs.length) : w.rangeAt g o (cellsOf k (seg o n xs)).toList := by
  intro j v hv
  rw [cells_toList] at hv
  have hj : j < (seg o n xs).length := by
    have := (List.getElem?_eq_some_iff.1 hv).1
    simpa using this
  rw [seg_length o n xs hl] at hj
  rw [h.cell (o + j) (by omega), ← hv]
  have := seg_getD o n xs j hj
  rw [← this]
  have hj2 : j < (seg o n xs).length := by rw [seg_length o n xs hl]; exact hj
  simp [hj2]

section
variable {P : Program}
theorem wpList_wanted {ops : Array Oper} {Q : Exit → Act → World → Prop} {a : Act} {w : World} {rest : List Oper} {o : Oper} (hw : Region.wanted o (yielded ops a.tmps) = true)
    (h : ∀ K : Act → World → Prop, (∀ a w, wpList P ops Q rest a w → K a w) → o.wp P a w K Q) : wpList P ops Q (o :: rest) a w :=
  wpList_step fun K hK => by rw [if_pos hw]; exact h K hK
/-- A whole array, read from the middle of a block: the equation. -/
theorem Blk.load {k : IntKind} {w : World} {g : Nat} {t : TypeId} {xs : List Int} (h : Blk k w g t xs) (ty : TypeId) (o n : Nat) (d : TypeDesc) (hu : P.underlying ty = some d) (hd : d.isRow = true)
    (hi : (P.info? ty).map (·.size) = some n) (hl : o + n ≤ xs.length) : (Instr.loadAt ty (.pointer (some ⟨g, o, none⟩))).run P w = .ok (.agg (cellsOf k (seg o n xs))) w := by
  have := run_loadAt_mid (P := P) w g o ty (cellsOf k (seg o n xs)).toList d (h.range o n hl) hu hd (by rw [hi]; simp [cells_size, seg_length o n xs hl])
  simpa using this
/-- xs with ys laid over it from place o on. -/
def over (xs : List Int) (o : Nat) (ys : List Int) : List Int := xs.take o ++ ys ++ xs.drop (o + ys.length)
theorem setCells_heap (g : Nat) : ∀ (vs : List Value) (o : Nat) (w : World) (cs : Array Value) (t : TypeId), w.heap[g]? = some (.cells cs t (0, 0)) → o + vs.length ≤ cs.size →
    (w.setCells g o vs).heap[g]? = some (.cells (cs.toList.take o ++ vs ++ cs.toList.drop (o + vs.length)).toArray t (0, 0))
  | [], o, w, cs, t, h, hl => by
    simp only [World.setCells, List.append_nil, List.length_nil, Nat.add_zero, List.take_append_drop]
    simpa using h
  | v :: vs, o, w, cs, t, h, hl => by
    rw [World.setCells]
    have h2 := Joins.block_setCell (i := o) h v
    have hl' : o + 1 + vs.length ≤ cs.size := by simp at hl; omega
    rw [setCells_heap g vs (o + 1) _ _ t h2 (by simpa using hl')]
    congr 2
    have ho : o < cs.toList.length := by simp; omega
    rw [Array.toList_setIfInBounds, List.take_set, List.drop_set_of_lt (by omega)]
    rw [List.take_succ_eq_append_getElem ho]
    simp only [List.length_cons]
    congr 1
    have e : (o + 1 + vs.length) = (o + (vs.length + 1)) := by omega
    rw [e]
    have e2 : (List.take o cs.toList ++ [cs.toList[o]]).set o v = List.take o cs.toList ++ [v] := by
      rw [List.set_append_right _ _ (by simp; omega)]
      have : (List.take o cs.toList).length = o := by simp; omega
      rw [this]; simp
    rw [e2]
    simp

theorem setCells_other (g : Nat) : ∀ (vs : List Value) (o : Nat) (w : World) (i : Nat), i ≠ g → (w.setCells g o vs).heap[i]? = w.heap[i]?
  | [], _, _, _, _ => rfl
  | v :: vs, o, w, i, h => by
    rw [World.setCells, setCells_other g vs (o + 1) _ i h]
    exact heap_setCell_other w _ i v h
theorem setCells_size (g : Nat) : ∀ (vs : List Value) (o : Nat) (w : World), (w.setCells g o vs).heap.size = w.heap.size
  | [], _, _ => rfl
  | v :: vs, o, w => by
    rw [World.setCells, setCells_size g vs (o + 1) _]
    simp [World.setCell]
theorem setCells_rest (g : Nat) : ∀ (vs : List Value) (o : Nat) (w : World), (w.setCells g o vs).os = w.os ∧ (w.setCells g o vs).tape = w.tape ∧ (w.setCells g o vs).output = w.output
  | [], _, _ => ⟨rfl, rfl, rfl⟩
  | v :: vs, o, w => by
    rw [World.setCells]
    exact setCells_rest g vs (o + 1) _

/-- Nothing but block g has turned. -/
structure Only (g : Nat) (w w' : World) : Prop where
  os : w'.os = w.os
  tape : w'.tape = w.tape
  output : w'.output = w.output
  size : w'.heap.size = w.heap.size
  block : ∀ i, i ≠ g → w'.heap[i]? = w.heap[i]?
theorem Only.below {g B : Nat} {w w' : World} (h : Only g w w') (hB : B ≤ g) : Below B w w' := ⟨h.os, h.tape, h.output, Nat.le_of_eq h.size.symm, fun k hk => h.block k (by omega)⟩
theorem Only.refl (g : Nat) (w : World) : Only g w w := ⟨rfl, rfl, rfl, rfl, fun _ _ => rfl⟩
theorem Only.trans {g : Nat} {a b c : World} (h : Only g a b) (k : Only g b c) : Only g a c := ⟨k.os.trans h.os, k.tape.trans h.tape, k.output.trans h.output, k.size.trans h.size, fun i hi => (k.block i hi).trans (h.block i hi)⟩
theorem Only.setCell (w : World) (a : Addr) (v : Value) : Only a.block w (w.setCell a v) := ⟨rfl, rfl, rfl, by simp [World.setCell], fun i hi => heap_setCell_other w a i v hi⟩
theorem Only.drew {g : Nat} {w w' : World} (h : Only g w w') : Only g w w'.drew := ⟨h.os, h.tape, h.output, h.size, h.block⟩
theorem Blk.only {k : IntKind} {w w' : World} {g b : Nat} {t : TypeId} {xs : List Int} (h : Blk k w g t xs) (ho : Only b w w') (hne : g ≠ b) : Blk k w' g t xs := (ho.block g hne).trans h

end
section
variable {P : Program}
/-- A new variable at its zero value. -/
theorem wp_alloc {ops : Array Oper} {rest : List Oper} {op : Oper} {a : Act} {w : World} {Q : Exit → Act → World → Prop} (hgd : Region.wanted op (yielded ops a.tmps) = true) (t : TypeId) (ho : op.op = .alloc t)
    (z : Value) (hz : (P.info? t).map (·.zero) = some (some z))
    (hk : wpList P ops Q rest (a.put op.dst (.pointer (some ⟨w.heap.size, 0, none⟩))) (w.alloc (.cells z.cells t))) : wpList P ops Q (op :: rest) a w := by
  refine wpList_wanted hgd fun K hK => ?_
  obtain ⟨i, hi, hzz⟩ := Option.map_eq_some_iff.1 hz
  have hrun : (Instr.alloc t true (.tuple #[])).run P w = .ok (.pointer (some ⟨w.heap.size, 0, none⟩)) (w.alloc (.cells z.cells t)) := by
    unfold Instr.alloc
    simp only [Sem.run_bind, zeroValue, typeInfo, run_program, Result.andThen_ok]
    simp [hi, hzz, newVar, newRow, newObj, Sem.run]
  unfold Oper.wp
  simp [execOp, ho, hrun, Result.andThen]
  exact hK _ _ hk
end
/-- The first ones. -/
theorem SL.take {k : IntKind} {w : World} {ad : Addr} {n c : Nat} {xs : List Int} (h : SL k w (.slice (some ad) n c) xs) (m : Nat) (hm : m ≤ n) : SL k w (.slice (some ad) m c) (xs.take m) := by
  rcases h with ⟨h, _⟩ | ⟨b, o, c', hv, h1, h2, h3, h4⟩
  · cases h
  · simp only [Value.slice.injEq, Option.some.injEq] at hv
    obtain ⟨rfl, rfl, rfl⟩ := hv
    have hl : (xs.take m).length = m := by simp; omega
    refine .inr ⟨b, o, c, by rw [hl], by omega, h2, h3, fun j hj => ?_⟩
    rw [hl] at hj
    rw [h4 j (by omega)]
    simp [List.getElem?_take, hj]
theorem SL.form {k : IntKind} {w : World} {v : Value} {xs : List Int} (h : SL k w v xs) (hn : 0 < xs.length) : ∃ b o c, v = .slice (some ⟨b, o, none⟩) xs.length c ∧ xs.length ≤ c ∧ c ≤ maxLen := by
  rcases h with ⟨_, rfl⟩ | ⟨b, o, c, hv, h1, h2, _⟩
  · simp at hn
  · exact ⟨b, o, c, hv, h1, h2⟩
end Go.Proofs.Ytanggdnmoaflfaa

namespace Go.Proofs.Ytanggdnmoaflfaa
open Go.RowKit
set_option linter.unusedVariables false
set_option linter.unusedSimpArgs false
set_option maxRecDepth 100000

section
variable {P : Program} {ops : Array Oper} {Q : Exit → Act → World → Prop} {md : Region.Mode} {S : World → Prop} {fuel : Nat} {listed : Array Bool} {l : List Value} {ds : List Deferred} {w : World} {oi : Oper}
theorem put_list (d : Nat) (v : Value) : (⟨l.toArray, ds⟩ : Act).put (some d) v = ⟨(l.set d v).toArray, ds⟩ := by simp [Act.put]
end
end Go.Proofs.Ytanggdnmoaflfaa

namespace Go.Proofs.Ytanggdnmoaflfaa
open Go.RowKit
set_option linter.unusedVariables false
set_option linter.unusedSimpArgs false
set_option maxRecDepth 100000

section
variable {P : Program} {ops : Array Oper} {Q : Exit → Act → World → Prop} {md : Region.Mode} {S : World → Prop} {fuel : Nat} {listed : Array Bool} {l : List Value} {ds : List Deferred} {w : World} {oi : Oper}
/-- Q, but K where the list ends. -/
def endK (K : Act → World → Prop) (Q : Exit → Act → World → Prop) : Exit → Act → World → Prop
  | .normal => K
  | .exit i => Q (.exit i)
  | .goto i => Q (.goto i)
  | .ret => Q .ret
  | .panic c => Q (.panic c)
  | .outgrown => Q .outgrown
/-- One operation, told as a list of one. -/
theorem wpOp_of_list {K : Act → World → Prop} {a : Act} (i : Nat) (hi : ops[i]? = some oi) (h : wpList P ops (endK K Q) [oi] a w) : wpOp P ops Q i K a w := by
  unfold wpOp
  simp only [hi]
  unfold wpList at h
  split
  · rename_i hw
    simp only [hw, if_true] at h
    refine h.imp (fun h => ?_) (fun h => h)
    unfold Oper.wp at *
    generalize (execOp a.eval oi).run P w = r at *
    cases r with
    | ok n w' => cases n <;> exact h
    | halt r w' => cases r <;> exact h
  · rename_i hw
    simp only [hw] at h
    exact h
/-- An operation that its guard keeps out. -/
theorem take_skip (i d : Nat) (hi : ops[i]? = some oi) (hd : oi.dst = some d) (hs : Region.noSelect ops = true) (hf : Region.free md ops listed i = true) (hr : (Region.ready md ops listed).contains i = true)
    (hQ' : ∀ c a v w, Q (.panic c) (a.put oi.dst v) w → Q (.panic c) a w) (hw : Region.wanted oi (yielded ops l.toArray) = false) (hS : S w)
    (h : wpAnyH P md ops Q S fuel (listed.setIfInBounds i true) ⟨(l.set d undef).toArray, ds⟩ w) : wpAnyH P md ops Q S (fuel + 1) listed ⟨l.toArray, ds⟩ w :=
  wpAnyH_take hi hs hf hr (fun c a w h => hQ' c a _ w h) (.inr ⟨hw, rfl⟩) hS (by rw [hd, put_list]; exact h)
end
end Go.Proofs.Ytanggdnmoaflfaa

namespace Go.Proofs.Ytanggdnmoaflfaa
open Go.RowKit

end Go.Proofs.Ytanggdnmoaflfaa

namespace Go.Proofs.Ytanggdnmoaflfaa
open Go.ChangeShapes Go.WideShapes Go.ChangeAt Go.RowKit
set_option linter.unusedVariables false
set_option linter.unusedSimpArgs false
set_option maxRecDepth 100000

section
variable {P : Program}
/-- Whatever reads as t is N cells, whole numbers of the kind k that fit it. -/
def AllInts (P : Program) (k : IntKind) (t : TypeId) (N : Nat) : Prop :=
  ∀ (H : Type) (enc : TypeId × Value → H) (w : World) (base : Nat) (spare : Nat → Bool) (held : Bool) (fuel : Nat) (cs : List Value) (x : DataW H × List MemPlace),
    DataW.trod enc P w base spare held fuel t cs = some x → cs.length = N ∧ ∀ c ∈ cs, ∃ n, c = .int k n ∧ (Lit.int k n).wf = true

theorem AllInts.int {k : IntKind} {t : TypeId} (ht : P.underlying t = some (.int k)) : AllInts P k t 1 := by
  intro H enc w base spare held fuel cs x h
  obtain ⟨n, rfl, _, wf⟩ := DataW.trod_int ht h
  exact ⟨rfl, fun c hc => ⟨n, by simpa using hc, wf⟩⟩

theorem AllInts.array {k : IntKind} {t e : TypeId} {n m N : Nat} (ht : P.underlying t = some (.array n e)) (he : AllInts P k e m) (hc : P.cellsOf e = m) (hN : P.cellsOf t = N) (hNm : N = n * m) : AllInts P k t N := by
  intro H enc w base spare held fuel cs x h
  obtain ⟨xs, f, _, _, hl, hxs, hel⟩ := DataW.trod_array ht h
  rw [hN] at hl
  refine ⟨hl, fun c hcm => ?_⟩
  obtain ⟨q, hq, rfl⟩ := List.mem_iff_getElem.1 hcm
  have hm : 0 < m := by
    rcases Nat.eq_zero_or_pos m with h0 | h0
    · subst h0; omega
    · exact h0
  have hi : q / m < n := by
    rw [Nat.div_lt_iff_lt_mul hm, ← hNm, ← hl]; exact hq
  have h2 := hel (q / m) hi
  rw [hc] at h2
  rw [List.getElem?_eq_getElem (by omega)] at h2
  obtain ⟨_, h4⟩ := he H enc w base spare held f _ _ h2
  refine h4 _ ?_
  rw [List.mem_iff_getElem?]
  refine ⟨q % m, ?_⟩
  rw [List.getElem?_take, if_pos (Nat.mod_lt _ hm), List.getElem?_drop, Nat.mul_comm, Nat.div_add_mod, List.getElem?_eq_getElem hq]

theorem ints_of {k : IntKind} : ∀ (cs : List Value), (∀ c ∈ cs, ∃ n, c = .int k n ∧ (Lit.int k n).wf = true) → ∃ xs : List Int, cs = xs.map (Value.int k) ∧ ∀ n ∈ xs, (Lit.int k n).wf = true
  | [], _ => ⟨[], rfl, fun n h => by cases h⟩
  | c :: cs, h => by
    obtain ⟨n, rfl, wf⟩ := h c (List.mem_cons_self ..)
    obtain ⟨xs, rfl, hw⟩ := ints_of cs fun d hd => h d (List.mem_cons_of_mem _ hd)
    exact ⟨n :: xs, rfl, fun m hm => by
      rcases List.mem_cons.1 hm with rfl | hm
      · exact wf
      · exact hw m hm⟩

theorem wf_bounds_u8 {xs : List Int} (h : ∀ n ∈ xs, (Lit.int .u8 n).wf = true) : ∀ x ∈ xs, 0 ≤ x ∧ x < 256 := fun x hx => by
  have := bounds_u8 (h x hx); omega
/-- An argument that is a slice of whole numbers. -/
theorem open_row {k : IntKind} {t e : TypeId} (ht : P.underlying t = some (.slice e)) (he : P.underlying e = some (.int k)) (hc : P.cellsOf e = 1) {H : Type} {enc : TypeId × Value → H} {W : World} {r : Reach} {b0 : Nat} {v : Value} {d : DataW H} {p : List MemPlace}
    (hval : Value.okWide P W r b0 t v) (h : DataW.Trod enc P W 0 (fun _ => true) true t v d p) (hlt : ∀ x ∈ p, x.block < W.heap.size) : ∃ xs : List Int, SL k W v xs ∧ ∀ n ∈ xs, (Lit.int k n).wf = true := by
  have hval' := hval
  obtain ⟨a0, len0, cap0, rfl⟩ := okWide_slice ht hval
  obtain ⟨fuel, hf⟩ := h
  rcases open_ints ht he hc hf with ⟨hcs, _⟩ | ⟨x, l, c, zs, hcs, _, hl, hm, hz, hx, hcell, hwz⟩
  · simp [Value.cells] at hcs
    obtain ⟨rfl, rfl, rfl⟩ := hcs
    exact ⟨[], .inl ⟨rfl, rfl⟩, fun n h => by cases h⟩
  · simp [Value.cells] at hcs
    obtain ⟨rfl, rfl, rfl⟩ := hcs
    refine ⟨zs.take len0, ?_, fun n hn => hwz n (List.mem_of_mem_take hn)⟩
    simp at hz
    have hlen : (zs.take len0).length = len0 := by rw [List.length_take]; omega
    simp only [Value.okWide, ht, Cell.okWide, Cell.ok, World.has] at hval'
    obtain ⟨_, _, _, hsp, row, cells, hsh, _⟩ := hval'
    obtain ⟨b, o, sp⟩ := x
    simp only at hsp hsh
    subst hsp
    have hb : b < W.heap.size := by
      rcases Nat.lt_or_ge b W.heap.size with h | h
      · exact h
      · simp [World.shape?, Array.getElem?_eq_none h] at hsh
    refine .inr ⟨b, o, cap0, by rw [hlen], by omega, hm, hb, fun j hj => ?_⟩
    rw [hlen] at hj
    have := hcell j (by omega)
    rw [Addr.add_mid] at this
    rw [this]
    simp [List.getElem?_take, hj]
end
end Go.Proofs.Ytanggdnmoaflfaa

namespace Go.Proofs.Ytanggdnmoaflfaa
open Go.ChangeShapes Go.WideShapes Go.ChangeAt Go.RowKit
set_option linter.unusedVariables false
set_option linter.unusedSimpArgs false
set_option maxRecDepth 100000

section
variable {P : Program}
theorem mapM_const {α β : Type} (f : α → Option β) (x : β) : ∀ (l : List α), (∀ i ∈ l, f i = some x) → l.mapM f = some (List.replicate l.length x)
  | [], _ => rfl
  | a :: l, h => by
    rw [List.mapM_cons, h a (List.mem_cons_self ..), mapM_const f x l fun i hi => h i (List.mem_cons_of_mem _ hi)]
    rfl
theorem flatMap_const {H : Type} (n : Nat) (d : DataW H) : (List.replicate n (d, ([] : List MemPlace))).flatMap (·.2) = [] := by
  induction n with
  | zero => rfl
  | succ n ih => rw [List.replicate_succ, List.flatMap_cons, ih]; rfl
theorem weightsAll_const {H : Type} (e : TypeId) (d : DataW H) (h : d.weights P e = []) : ∀ n, DataW.weightsAll P e (List.replicate n d) = []
  | 0 => by simp [DataW.weightsAll]
  | n + 1 => by rw [List.replicate_succ, DataW.weightsAll, h, weightsAll_const e d h n]; rfl

theorem has0 (k : IntKind) : k.has 0 := by
  cases k <;> exact ⟨by decide, by decide⟩
/-- N noughts read as t, whatever the world; nothing in it has a weight. -/
def ZR (P : Program) (k : IntKind) (t : TypeId) (N m : Nat) : Prop :=
  ∀ (H : Type) (enc : TypeId × Value → H) (w : World) (base : Nat) (spare : Nat → Bool) (held : Bool) (f : Nat), m ≤ f →
    ∃ d : DataW H, DataW.trod enc P w base spare held f t (List.replicate N (.int k 0)) = some (d, []) ∧ d.weights P t = []
theorem ZR.int {k : IntKind} {t : TypeId} (ht : P.underlying t = some (.int k)) (hw : (Lit.int k 0).wf = true) : ZR P k t 1 1 := by
  intro H enc w base spare held f hf
  obtain ⟨f, rfl⟩ : ∃ g, f = g + 1 := ⟨f - 1, by omega⟩
  exact ⟨.lit (.int k 0), by simp [DataW.trod, ht, hw], by simp [DataW.weights]⟩
theorem drop_take_replicate (n m i : Nat) (x : Value) (hi : i < n) : ((List.replicate (n * m) x).drop (i * m)).take m = List.replicate m x := by
  rw [List.drop_replicate, List.take_replicate]
  congr 1
  have : (i + 1) * m ≤ n * m := Nat.mul_le_mul_right _ hi
  rw [Nat.succ_mul] at this
  omega
theorem ZR.array {k : IntKind} {t e : TypeId} {n M m N : Nat} (ht : P.underlying t = some (.array n e)) (he : ZR P k e M m) (hc : P.cellsOf e = M) (hN : P.cellsOf t = N) (hNm : N = n * M) : ZR P k t N (m + 1) := by
  intro H enc w base spare held f hf
  obtain ⟨f, rfl⟩ : ∃ g, f = g + 1 := ⟨f - 1, by omega⟩
  obtain ⟨d, hd, hw⟩ := he H enc w base spare held f (by omega)
  have hm := mapM_const (fun i => DataW.trod enc P w base spare held f e (((List.replicate N (Value.int k 0)).drop (i * P.cellsOf e)).take (P.cellsOf e))) (d, []) (List.range n) (fun i hi => by
    rw [hc, hNm, drop_take_replicate n M i _ (List.mem_range.1 hi)]; exact hd)
  rw [List.length_range] at hm
  refine ⟨.agg (List.replicate n d), ?_, ?_⟩
  · rw [DataW.trod.eq_def]
    simp only [ht]
    rw [if_pos (by rw [List.length_replicate, hN]), hm]
    simp only [Option.map_some, List.map_replicate, flatMap_const]
  · rw [DataW.weights.eq_def]
    simp only [ht]
    exact weightsAll_const e d hw n
/-- An argument that fits whatever the world. -/
def WOk (P : Program) (t : TypeId) (v : Value) : Prop :=
  (∀ (w : World) (base : Nat), Value.okWide P w .any base t v) ∧ ∀ (H : Type) (enc : TypeId × Value → H) (w : World), ∃ d : DataW H, DataW.Trod enc P w 0 (fun _ => true) true t v d [] ∧ d.weights P t = []
theorem WOk.int {k : IntKind} {t : TypeId} (ht : P.underlying t = some (.int k)) (hw : (Lit.int k 0).wf = true) : WOk P t (.int k 0) := by
  refine ⟨fun w base => ?_, fun H enc w => ?_⟩
  · simp only [Value.okWide, ht, Cell.okWide, Cell.ok]
    exact ⟨trivial, has0 k⟩
  · obtain ⟨d, hd, hwt⟩ := ZR.int ht hw H enc w 0 (fun _ => true) true 1 (Nat.le_refl _)
    exact ⟨d, ⟨1, hd⟩, hwt⟩
theorem WOk.bool {t : TypeId} (ht : P.underlying t = some .bool) : WOk P t (.bool false) :=
  ⟨fun w base => by simp only [Value.okWide, ht, Cell.okWide, Cell.ok], fun H enc w => ⟨.lit (.bool false), ⟨1, by simp [DataW.trod, ht, Value.cells]⟩, by simp [DataW.weights]⟩⟩
theorem WOk.slice {t e : TypeId} (ht : P.underlying t = some (.slice e)) : WOk P t (.slice none 0 0) :=
  ⟨fun w base => by simp only [Value.okWide, ht, Cell.okWide, Cell.ok], fun H enc w => ⟨.nil, ⟨1, by simp [DataW.trod, ht, Value.cells]⟩, by simp [DataW.weights]⟩⟩
theorem WOk.flat {k : IntKind} {t e : TypeId} {N m : Nat} {d0 : TypeDesc} (hz : ZR P k t N m) (hu : P.underlying t = some d0) (hr : d0.isRow = true) (hN : P.cellsOf t = N) (hts : P.cellTypes P.depth t = some (List.replicate N e))
    (he : P.underlying e = some (.int k)) (hN0 : 0 < N) : WOk P t (.agg (cellsOf k (List.replicate N 0))) := by
  have hrow : ∀ (w : World) (base : Nat), Row.okWide P w .any base t (cellsOf k (List.replicate N 0)) := fun w base => by
    refine ⟨_, hts, ⟨1, by simp [cellsOf]⟩, fun i v hv => ?_⟩
    refine ⟨e, ?_, ?_⟩
    · rw [List.length_replicate, List.getElem?_replicate, if_pos (Nat.mod_lt _ hN0)]
    · have : v = .int k 0 := by
        have hm := Array.mem_of_getElem? hv
        simp [cellsOf] at hm
        exact hm.2
      subst this
      simp only [Cell.okWide, Cell.ok, he]
      exact ⟨trivial, has0 k⟩
  refine ⟨fun w base => ?_, fun H enc w => ?_⟩
  · cases d0 <;> simp only [TypeDesc.isRow, Bool.false_eq_true] at hr <;> (simp only [Value.okWide, hu]; exact ⟨_, rfl, by simp [cellsOf, hN], hrow w base⟩)
  · obtain ⟨d, hd, hwt⟩ := hz H enc w 0 (fun _ => true) true m (Nat.le_refl _)
    refine ⟨d, ⟨m, ?_⟩, hwt⟩
    simp only [Value.cells, cellsOf, List.map_replicate]
    exact hd

def AllW (P : Program) : List TypeId → List Value → Prop
  | [], [] => True
  | t :: ts, v :: vs => WOk P t v ∧ AllW P ts vs
  | _, _ => False
theorem AllW.trod {H : Type} {enc : TypeId × Value → H} {w : World} : ∀ {ts : List TypeId} {vs : List Value}, AllW P ts vs → ∃ ds : List (DataW H), DataW.TrodAll enc P w 0 (fun _ => true) true ts vs ds [] ∧ DataW.weightsEach P ts ds = []
  | [], [], _ => ⟨[], rfl, by simp [DataW.weightsEach]⟩
  | [], _ :: _, h => h.elim
  | _ :: _, [], h => h.elim
  | t :: ts, v :: vs, h => by
    obtain ⟨d, hd, hw⟩ := h.1.2 H enc w
    obtain ⟨ds, hds, hws⟩ := AllW.trod (enc := enc) (w := w) h.2
    exact ⟨d :: ds, ⟨[], [], hd, hds, rfl⟩, by rw [DataW.weightsEach, hw, hws]; rfl⟩
theorem AllW.get : ∀ {ts : List TypeId} {vs : List Value}, AllW P ts vs → ts.length = vs.length ∧ ∀ (j : Nat) (t : TypeId) (v : Value), ts[j]? = some t → vs[j]? = some v → WOk P t v
  | [], [], _ => ⟨rfl, fun j t v h => by simp at h⟩
  | [], _ :: _, h => h.elim
  | _ :: _, [], h => h.elim
  | _ :: _, _ :: _, h => by
    obtain ⟨hl, hg⟩ := AllW.get h.2
    refine ⟨by simp [hl], fun j t v ht hv => ?_⟩
    cases j with
    | zero => simp at ht hv; subst ht hv; exact h.1
    | succ j => exact hg j t v (by simpa using ht) (by simpa using hv)

theorem witness_flat {C : Checked} {os : Os} {f : FuncId} {fn : Func} {s : ChangeSpec} {conds : List PathCond} {H : Type} {enc : TypeId × Value → H} (args : Array Value)
    (hv : (World.plainHolding C.prog os ⟨#[], args, []⟩).variablesB C.prog = true)
    (hr : ((World.plainHolding C.prog os ⟨#[], args, []⟩).heap.toList.drop C.prog.globals.size).take ((begin C.prog (fun _ _ => 0) default).world.heap.size - C.prog.globals.size) =
      (begin C.prog (fun _ _ => 0) default).world.heap.toList.drop C.prog.globals.size)
    (hi : C.prog.inits.idxOf? f = none) (hf : C.prog.funcs[f]? = some fn) (hb : fn.body.isSome = true) (ho : fn.ours = false) (hn : fn.nfree = 0)
    (hW : AllW C.prog fn.params.toList args.toList) (hvars : s.vars = []) (hconds : conds = []) (hplat : C.prog.platform = "linux/amd64/v1") (hspec : (OpenSpec.ofChange s).bare.plain.varTypes C.prog = []) :
    ∃ (w : World) (tape : Tape) (i : Input), w.os = os ∧ (w.forCall tape i).Shaped C.prog ∧ i.vars = [] ∧ Input.okWide C.prog (w.forCall tape i) .any w.heap.size f i ∧
      s.pre6 enc C.prog fn conds false (w.forCall tape i).memory i.args ∧ ({ modest := false } : Assume).holds C.prog (lone (Frame.enter C.prog f i.args .normal) [] (w.forCall tape i)) := by
  obtain ⟨hlen, hget⟩ := hW.get
  have hwhole : ∀ w : World, ∃ ds : List (DataW H), DataW.Whole enc C.prog fn.params.toList s.vars false w args.toList ds [] [] ∧ DataW.weightsEach C.prog fn.params.toList ds = [] := fun w => by
    obtain ⟨ds, hds, hws⟩ := AllW.trod (enc := enc) (w := w) hW
    exact ⟨ds, ⟨[], [], hds, (by rw [hvars]; rfl), rfl, (fun b off h => by cases h), (fun h => by cases h)⟩, hws⟩
  refine ⟨World.holding C.prog os ⟨#[], args, []⟩, fun _ _ => 0, ⟨#[], args, []⟩, rfl, World.shaped_of_B hv hr, rfl, ?_, ⟨?_, ?_⟩, ?_⟩
  · refine ⟨fun o h => by simp at h, fun gv h => by simp at h, hi, fn, hf, hb, ho, hn, ?_, ?_⟩
    · simpa using hlen.symm
    · intro j t v ht hv
      exact (hget j t v (by simpa using ht) (by simpa using hv)).1 _ _
  · obtain ⟨ds, hds, _⟩ := hwhole ((World.holding C.prog os ⟨#[], args, []⟩).forCall (fun _ _ => 0) ⟨#[], args, []⟩).memory
    exact ⟨ds, [], [], hds, by rw [hconds]; rfl⟩
  · obtain ⟨ds, hds, hws⟩ := hwhole ((World.holding C.prog os ⟨#[], args, []⟩).forCall (fun _ _ => 0) ⟨#[], args, []⟩).memory
    refine ⟨hplat, ds, [], [], hds, ?_⟩
    rw [hspec, List.append_nil, List.append_nil, hws]
    rfl
  · simp only [Assume.holds]
    exact ⟨by simp, by simp, (fun h => by cases h), by simp, by simp⟩
end
end Go.Proofs.Ytanggdnmoaflfaa

namespace Go.Proofs.Ytanggdnmoaflfaa
open Go.ChangeShapes Go.WideShapes Go.ChangeAt Go.RowKit
set_option linter.unusedVariables false
set_option linter.unusedSimpArgs false
set_option maxRecDepth 100000

section
variable {P : Program}
/-- what a struct of a number and a slice of numbers is made of -/
structure NumRow (P : Program) (t : TypeId) (k0 k : IntKind) (f0 f1 : Field) (e : TypeId) : Prop where
  ht : P.underlying t = some (.struct #[f0, f1])
  h0 : P.underlying f0.type = some (.int k0)
  h1 : P.underlying f1.type = some (.slice e)
  he : P.underlying e = some (.int k)
  ce : P.cellsOf e = 1
  o0 : f0.offset = 0
  o1 : f1.offset = 1
  c0 : P.cellsOf f0.type = 1
  c1 : P.cellsOf f1.type = 1
  ct : P.cellsOf t = 2
  ts : P.cellTypes P.depth t = some [f0.type, f1.type]

end
end Go.Proofs.Ytanggdnmoaflfaa

namespace Go.Proofs.Ytanggdnmoaflfaa
open Go.RowKit
set_option linter.unusedVariables false
set_option linter.unusedSimpArgs false
set_option maxRecDepth 100000

section
variable {P : Program} {ops : Array Oper} {Q : Exit → Act → World → Prop} {md : Region.Mode} {S : World → Prop} {fuel : Nat} {listed : Array Bool} {l : List Value} {ds : List Deferred} {w : World} {oi : Oper}

/-- The operation yields v in the world w. -/
def Val (P : Program) (a : Act) (o : Oper) (v : Value) (w : World) : Prop := (execOp a.eval o).run P w = .ok (.value v) w

theorem Val.of {a : Act} {o : Oper} {v : Value} {w : World} (h : (execOp a.eval o).run P w = .ok (.value v) w := by kernel_rfl) : Val P a o v w := h
theorem Val.bin {a : Act} {o : Oper} {v : Value} {w : World} (b : BinOp) (t ty : TypeId) (x y : Operand) (ho : o.op = .binOp b t x y ty) (px py : Value) (hx : a.eval x = px) (hy : a.eval y = py)
    (hg : (eqGuard b t x y px py).run P w = .ok () w) (hrun : (binOp b t px py).run P w = .ok v w) : Val P a o v w := by
  unfold Val execOp
  simp only [ho, hx, hy, Sem.run_bind, hg, hrun, Result.andThen_ok, Sem.run_pure]
theorem guard_int {w : World} {op : BinOp} {t : TypeId} {x y : Operand} {k k' : IntKind} (a b : Int) : (eqGuard op t x y (.int k a) (.int k' b)).run P w = .ok () w := by
  cases op <;> simp [eqGuard]
theorem Val.add {a : Act} {o : Oper} {w : World} (t ty : TypeId) (x y : Operand) (ho : o.op = .binOp .add t x y ty) (n m : Int) (hx : a.eval x = .int .i64 n) (hy : a.eval y = .int .i64 m)
    (h : -9223372036854775808 ≤ n + m ∧ n + m ≤ 9223372036854775807) : Val P a o (.int .i64 (n + m)) w := by
  refine Val.bin .add t ty x y ho _ _ hx hy (guard_int n m) ?_
  have e : IntKind.i64.wrap (n + m) = n + m := by simp [IntKind.wrap, IntKind.bits, IntKind.signed]; omega
  simp [binOp, Op.intArith, e]
theorem Val.sub {a : Act} {o : Oper} {w : World} (t ty : TypeId) (x y : Operand) (ho : o.op = .binOp .sub t x y ty) (n m : Int) (hx : a.eval x = .int .i64 n) (hy : a.eval y = .int .i64 m)
    (h : -9223372036854775808 ≤ n - m ∧ n - m ≤ 9223372036854775807) : Val P a o (.int .i64 (n - m)) w := by
  refine Val.bin .sub t ty x y ho _ _ hx hy (guard_int n m) ?_
  have e : IntKind.i64.wrap (n - m) = n - m := by simp [IntKind.wrap, IntKind.bits, IntKind.signed]; omega
  simp [binOp, Op.intArith, e]
/-- a comparison of whole numbers -/
def cmpB (b : BinOp) (n m : Int) : Bool :=
  match b with
  | .eql => decide (n = m) | .neq => !decide (n = m) | .lss => decide (n < m) | .leq => decide (n ≤ m) | .gtr => decide (m < n) | .geq => decide (m ≤ n) | _ => false
theorem Val.cmp {a : Act} {o : Oper} {w : World} (b : BinOp) (t ty : TypeId) (x y : Operand) (ho : o.op = .binOp b t x y ty) (k : IntKind) (n m : Int) (hx : a.eval x = .int k n) (hy : a.eval y = .int k m)
    (hb : b = .eql ∨ b = .neq ∨ b = .lss ∨ b = .leq ∨ b = .gtr ∨ b = .geq) (r : Bool) (hr : cmpB b n m = r) : Val P a o (.bool r) w := by
  refine Val.bin b t ty x y ho _ _ hx hy (guard_int n m) ?_
  subst hr
  rcases hb with rfl | rfl | rfl | rfl | rfl | rfl <;> simp [binOp, Op.intCmp, cmpB]
  · by_cases h : n = m <;> simp [h]
  · by_cases h : n = m <;> simp [h]
theorem Val.not {a : Act} {o : Oper} {w : World} (t : TypeId) (x : Operand) (ho : o.op = .unOp .not t x) (b r : Bool) (hx : a.eval x = .bool b) (hr : (!b) = r) : Val P a o (.bool r) w := by
  unfold Val execOp
  subst hr
  simp [ho, hx, Op.unary, Result.andThen]
/-- a number into int -/
theorem Val.conv64 {a : Act} {o : Oper} {w : World} (src dst : TypeId) (x : Operand) (ho : o.op = .convert src dst x) {k : IntKind} (hs : P.underlying src = some (.int k)) (hd : P.underlying dst = some (.int .i64)) (n : Int) (hx : a.eval x = .int k n) (h : -9223372036854775808 ≤ n ∧ n ≤ 9223372036854775807) : Val P a o (.int .i64 n) w := by
  unfold Val execOp
  have e : IntKind.i64.wrap n = n := by simp [IntKind.wrap, IntKind.bits, IntKind.signed]; omega
  simp [ho, hx, convert, run_underlying hs, run_underlying hd, Conv.intToInt, e]
/-- a plain cell -/
theorem Val.cell {a : Act} {o : Oper} {w : World} (ty : TypeId) (x : Operand) (ho : o.op = .load ty x) (g i : Nat) (v : Value) (hx : a.eval x = .pointer (some ⟨g, i, none⟩)) (hagg : ∀ w, (isAgg ty).run P w = .ok false w)
    (hc : w.cell? ⟨g, i, none⟩ = some v) : Val P a o v w := by
  unfold Val execOp
  simp only [ho, hx, Instr.loadAt, Instr.sureAddr, loadVar, Sem.run_bind, Sem.run_pure, Result.andThen_ok, hagg]
  simp [load, Sem.run, hc]
/-- a struct, whole -/
theorem Val.struct {a : Act} {op : Oper} {w : World} (ty : TypeId) (x : Operand) (ho : op.op = .load ty x) (g : Nat) (t : TypeId) (cs : List Value) (hx : a.eval x = .pointer (some ⟨g, 0, none⟩)) (hB : w.heap[g]? = some (.cells cs.toArray t (0, 0)))
    (td : TypeDesc) (hu : P.underlying ty = some td) (hrow : td.isRow = true) (hi' : (P.info? ty).map (·.size) = some cs.length) : Val P a op (.agg cs.toArray) w := by
  unfold Val execOp
  have := run_loadAt_mid (P := P) w g 0 ty cs td (fun j v hv => by rw [Nat.zero_add, Joins.cell_of_block hB]; simpa using hv) hu hrow hi'
  simp only [ho, hx, Sem.run_bind, this, Result.andThen_ok, Sem.run_pure]
/-- the address of an element of a slice -/
theorem Val.idxS {a : Act} {op : Oper} {w : World} (t : TypeId) (x ix : Operand) (ho : op.op = .indexAddr t x ix) (g o n c k : Nat) (hx : a.eval x = .slice (some ⟨g, o, none⟩) n c) (hix : a.eval ix = .int .i64 (k : Int))
    {e : TypeId} (m : Nat) (ht : P.underlying t = some (.slice e)) (hi0 : (P.info? e).map (·.size) = some m) (hk : k < n) : Val P a op (.pointer (some ⟨g, o + k * m, none⟩)) w := by
  obtain ⟨i, hi, hm⟩ := Option.map_eq_some_iff.1 hi0
  unfold Val execOp
  have h0 : (0 : Int) ≤ (k : Int) ∧ (k : Int) < (n : Int) := by omega
  have hsz : (sizeOf e).run P w = .ok m w := by simp [sizeOf, typeInfo, hi, hm]
  simp [ho, hx, hix, Instr.indexAt, run_underlying ht, asIntOf, hsz, hk, Addr.add_mid]

/-- A cell of a slice. -/
theorem SL.at {k : IntKind} {w : World} {b o n c : Nat} {xs : List Int} (h : SL k w (.slice (some ⟨b, o, none⟩) n c) xs) (j : Nat) (hj : j < xs.length) : w.cell? ⟨b, o + j, none⟩ = some (.int k (xs.getD j 0)) := by
  rcases h with ⟨h, _⟩ | ⟨b', o', c', hv, h1, h2, h3, h4⟩
  · cases h
  · simp only [Value.slice.injEq, Option.some.injEq, Addr.mk.injEq] at hv
    obtain ⟨⟨rfl, rfl, _⟩, _, rfl⟩ := hv
    exact h4 j hj
/-- Operation i. -/
def opAt (ops : Array Oper) (i : Nat) : Oper := (ops[i]?).getD ⟨none, .move (.const undef), 0, "", #[], none⟩
theorem opAt_get {i : Nat} (h : i < ops.size) : ops[i]? = some (opAt ops i) := by simp [opAt, h]
/-- May operation i, which writes slot d, be taken first? Is it wanted? -/
def CK (md : Region.Mode) (ops : Array Oper) (listed : Array Bool) (l : List Value) (i d : Nat) (b : Bool) : Bool :=
  decide (i < ops.size) && ((opAt ops i).dst == some d) && Region.noSelect ops && Region.free md ops listed i && (Region.ready md ops listed).contains i && (Region.wanted (opAt ops i) (yielded ops l.toArray) == b)
theorem ts (i d : Nat) (hS : S w)
    (h : wpAnyH P md ops Q S fuel (listed.setIfInBounds i true) ⟨(l.set d undef).toArray, ds⟩ w) (hk : CK md ops listed l i d false = true := by kernel_rfl)
    (hQ' : ∀ c a v w, Q (.panic c) (a.put (opAt ops i).dst v) w → Q (.panic c) a w := by exact fun _ _ _ _ h => h) : wpAnyH P md ops Q S (fuel + 1) listed ⟨l.toArray, ds⟩ w := by
  simp only [CK, Bool.and_eq_true, decide_eq_true_eq, beq_iff_eq] at hk
  obtain ⟨⟨⟨⟨⟨h1, h2⟩, h3⟩, h4⟩, h5⟩, h6⟩ := hk
  exact take_skip i d (opAt_get h1) h2 h3 h4 h5 hQ' h6 hS h
/-- The one operation that may come up now: by a law on lists. -/
theorem a1 {a : Act} (i : Nat) (hi : ops[i]? = some oi) (h : wpList P ops (endK (fun a' w' => S w' ∧ wpAnyH P md ops Q S fuel (listed.setIfInBounds i true) a' w') Q) [oi] a w) (hr : Region.ready md ops listed = [i] := by kernel_rfl) : wpAnyH P md ops Q S (fuel + 1) listed a w := by
  refine wpAnyH_all hr (by simp) fun j hj => ?_
  obtain rfl : j = i := by simpa using hj
  exact wpOp_of_list j hi h
/-- One of two. -/
theorem a2 {a : Act} {oj : Oper} (i j : Nat) (hi : ops[i]? = some oi) (hj : ops[j]? = some oj)
    (h : wpList P ops (endK (fun a' w' => S w' ∧ wpAnyH P md ops Q S fuel (listed.setIfInBounds i true) a' w') Q) [oi] a w)
    (h' : wpList P ops (endK (fun a' w' => S w' ∧ wpAnyH P md ops Q S fuel (listed.setIfInBounds j true) a' w') Q) [oj] a w) (hr : Region.ready md ops listed = [i, j] := by kernel_rfl) : wpAnyH P md ops Q S (fuel + 1) listed a w := by
  refine wpAnyH_all hr (by simp) fun k hk => ?_
  rcases List.mem_cons.1 hk with rfl | hk
  · exact wpOp_of_list k hi h
  · obtain rfl : k = j := by simpa using hk
    exact wpOp_of_list k hj h'
/-- One of three. -/
theorem a3 {a : Act} {oj ok : Oper} (i j k : Nat) (hi : ops[i]? = some oi) (hj : ops[j]? = some oj) (hk : ops[k]? = some ok)
    (h : wpList P ops (endK (fun a' w' => S w' ∧ wpAnyH P md ops Q S fuel (listed.setIfInBounds i true) a' w') Q) [oi] a w)
    (h' : wpList P ops (endK (fun a' w' => S w' ∧ wpAnyH P md ops Q S fuel (listed.setIfInBounds j true) a' w') Q) [oj] a w)
    (h'' : wpList P ops (endK (fun a' w' => S w' ∧ wpAnyH P md ops Q S fuel (listed.setIfInBounds k true) a' w') Q) [ok] a w) (hr : Region.ready md ops listed = [i, j, k] := by kernel_rfl) : wpAnyH P md ops Q S (fuel + 1) listed a w := by
  refine wpAnyH_all hr (by simp) fun m hm => ?_
  rcases List.mem_cons.1 hm with rfl | hm
  · exact wpOp_of_list m hi h
  · rcases List.mem_cons.1 hm with rfl | hm
    · exact wpOp_of_list m hj h'
    · obtain rfl : m = k := by simpa using hm
      exact wpOp_of_list m hk h''
/-- .. and behind it. -/
theorem e1 {a' : Act} {w' : World} (d : Nat) (v : Value) (i : Nat) (hS : S w') (h : wpAnyH P md ops Q S fuel (listed.setIfInBounds i true) ⟨(l.set d v).toArray, ds⟩ w') (ha : a' = (⟨l.toArray, ds⟩ : Act).put (some d) v := by rfl) :
    wpList P ops (endK (fun a' w' => S w' ∧ wpAnyH P md ops Q S fuel (listed.setIfInBounds i true) a' w') Q) [] a' w' := by
  subst ha
  rw [put_list]
  exact ⟨hS, h⟩
theorem e0 {a' : Act} {w' : World} (i : Nat) (hS : S w') (h : wpAnyH P md ops Q S fuel (listed.setIfInBounds i true) a' w') :
    wpList P ops (endK (fun a' w' => S w' ∧ wpAnyH P md ops Q S fuel (listed.setIfInBounds i true) a' w') Q) [] a' w' := ⟨hS, h⟩
/-- A region in its order: one operation that yields. -/
theorem sv {rest : List Oper} (d : Nat) (v : Value) (hrun : Val P ⟨l.toArray, ds⟩ oi v w) (h : wpList P ops Q rest ⟨(l.set d v).toArray, ds⟩ w)
    (hw : Region.wanted oi (yielded ops l.toArray) = true := by kernel_rfl) (hd : oi.dst = some d := by rfl) : wpList P ops Q (oi :: rest) ⟨l.toArray, ds⟩ w :=
  wpList_wanted hw fun K hK => by
    unfold Oper.wp
    rw [hrun, Oper.upon_value, hd, put_list]
    exact hK _ _ h
/-- A store of one plain value. -/
theorem run_store1 (w : World) (ty : TypeId) (g i : Nat) (v u : Value) (hv : v.oneCell' = true) (hi : (P.info? ty).map (·.size) = some 1) (hc : w.cell? ⟨g, i, none⟩ = some u) (hf : w.frozen? ⟨g, i, none⟩ = false) :
    (Instr.storeAt ty (.pointer (some ⟨g, i, none⟩)) v).run P w = .ok () (w.setCell ⟨g, i, none⟩ v) := by
  obtain ⟨j, hi1, hi2⟩ := Option.map_eq_some_iff.1 hi
  have hcs : v.cells = #[v] := by cases v <;> first | rfl | (simp [Value.oneCell'] at hv)
  have hsz : (sizeOf ty).run P w = .ok 1 w := by simp [sizeOf, typeInfo, hi1, hi2]
  have hst := run_store P w ⟨g, i, none⟩ v .plain hv
  rw [hc, hf] at hst
  simp only [Bool.false_eq_true, if_false] at hst
  simp only [Instr.storeAt, Instr.sureAddr, Sem.run_bind, Sem.run_pure, Result.andThen_ok, storeVar, hsz, hcs]
  simp [storeCells, Addr.add_mid, hst]
theorem wp_store1 {rest : List Oper} {a : Act} (hgd : Region.wanted oi (yielded ops a.tmps) = true) (ty : TypeId) (x y : Operand) (ho : oi.op = .store ty x y) (hdst : oi.dst = none) (g i : Nat) (v u : Value) (hx : a.eval x = .pointer (some ⟨g, i, none⟩)) (hy : a.eval y = v)
    (hv : v.oneCell' = true) (hi : (P.info? ty).map (·.size) = some 1) (hc : w.cell? ⟨g, i, none⟩ = some u) (hf : w.frozen? ⟨g, i, none⟩ = false) (hk : wpList P ops Q rest a (w.setCell ⟨g, i, none⟩ v)) : wpList P ops Q (oi :: rest) a w :=
  wpList_wanted hgd fun K hK => by
    have := run_store1 (P := P) w ty g i v u hv hi hc hf
    unfold Oper.wp
    simp only [execOp, ho, hx, hy, Sem.run_bind, this, Result.andThen_ok, Sem.run_pure]
    have hput : a.put oi.dst undef = a := by rw [hdst]; rfl
    unfold Oper.upon
    simp only [hput]
    exact hK _ _ hk
end
end Go.Proofs.Ytanggdnmoaflfaa

namespace Go.Proofs.Ytanggdnmoaflfaa
open Go.RowKit
set_option linter.unusedVariables false
set_option linter.unusedSimpArgs false
set_option maxRecDepth 100000

section
variable {P : Program} {ops : Array Oper} {Q : Exit → Act → World → Prop} {md : Region.Mode} {S : World → Prop} {fuel z : Nat} {listed : Array Bool} {l : List Value} {ds : List Deferred} {w : World} {oi : Oper}
/-- Whatever order is picked from here on; S holds behind every operation but z. -/
def wpAnyZ (P : Program) (md : Region.Mode) (ops : Array Oper) (Q : Exit → Act → World → Prop) (S : World → Prop) (z : Nat) : Nat → Array Bool → Act → World → Prop
  | 0, listed, a, w => Region.ready md ops listed = [] ∧ Q .normal a w
  | fuel + 1, listed, a, w =>
    (Region.ready md ops listed = [] → Q .normal a w) ∧
    ∀ i ∈ Region.ready md ops listed, wpOp P ops Q i (fun a' w' => (i = z ∨ S w') ∧ wpAnyZ P md ops Q S z fuel (listed.setIfInBounds i true) a' w') a w
theorem wpAny_of_Z : ∀ (fuel : Nat) (listed : Array Bool) (a : Act) (w : World), wpAnyZ P md ops Q S z fuel listed a w → wpAny P md ops Q fuel listed a w
  | 0, _, _, _, h => h
  | fuel + 1, _, _, _, h => ⟨h.1, fun i hi => wpOp_mono (fun a' w' h' => wpAny_of_Z fuel _ a' w' h'.2) (h.2 i hi)⟩
theorem wpAnyZ_first {i : Nat} {oi oz : Oper} {v : Value} (hi : ops[i]? = some oi) (hsel : ∀ (j : Nat) (o : Oper) cs b, ops[j]? = some o → o.op ≠ .select cs b) (hz : ops[z]? = some oz → ∃ e ∈ oz.after, Region.binds md e = true ∧ e.on = i) (hoz : ops[z]? = some oz ∨ ops[z]? = none) (hiz : i ≠ z)
    (hQ : ∀ c a w, Q (.panic c) (a.put oi.dst v) w → Q (.panic c) a w) :
    ∀ (fuel : Nat) (listed : Array Bool) (a : Act) (w : World),
      (∀ j oj, ops[j]? = some oj → j ≠ i → listed.getD j true = false → (∀ e ∈ oj.after, Region.binds md e = true → e.on ≠ i) → oi.apart ops oj = true) →
      i ∈ Region.ready md ops listed → YieldsIf P ops S oi v a → S w →
      wpAnyZ P md ops Q S z fuel (listed.setIfInBounds i true) (a.put oi.dst v) w → wpAnyZ P md ops Q S z (fuel + 1) listed a w := by
  intro fuel
  induction fuel with
  | zero =>
    intro listed a w _ hr hy hS H
    refine ⟨fun h => (by rw [h] at hr; cases hr), fun j hj => ?_⟩
    by_cases hji : j = i
    · subst hji; exact hy.wpOp hi hS ⟨.inr hS, H⟩
    · have := ready_mono hj hji
      rw [H.1] at this
      cases this
  | succ fuel ih =>
    intro listed a w hfree hr hy hS H
    refine ⟨fun h => (by rw [h] at hr; cases hr), fun j hj => ?_⟩
    by_cases hji : j = i
    · subst hji; exact hy.wpOp hi hS ⟨.inr hS, H⟩
    · have h1 := H.2 j (ready_mono hj hji)
      obtain ⟨hjun, oj, hoj, hall⟩ := mem_ready.1 hj
      have hnot : ∀ e ∈ oj.after, Region.binds md e = true → e.on ≠ i := fun e he hb heq => by
        have h1 := hall e he hb
        have h0 := (mem_ready.1 hr).1
        rw [heq] at h1
        rcases Nat.lt_or_ge i listed.size with h' | h'
        · simp [h'] at h0 h1; rw [h0] at h1; cases h1
        · simp [Array.getElem?_eq_none h'] at h1
      have hjz : j ≠ z := by
        rintro rfl
        rcases hoz with ho | ho
        · rw [ho] at hoj
          obtain rfl := Option.some.inj hoj
          obtain ⟨e, he, hb, hon⟩ := hz ho
          exact hnot e he hb hon
        · rw [ho] at hoj; cases hoj
      have h2 := wpOp_putIf hoj (hfree j oj hoj hji hjun hnot) (fun cs b => hsel i oi cs b hi) (fun cs b => hsel j oj cs b hoj) hQ hy h1
      have hfree' : ∀ k ok, ops[k]? = some ok → k ≠ i → (listed.setIfInBounds j true).getD k true = false →
          (∀ e ∈ ok.after, Region.binds md e = true → e.on ≠ i) → oi.apart ops ok = true := fun k ok hk hki hun hno => by
        refine hfree k ok hk hki ?_ hno
        by_cases hjk : j = k
        · subst hjk; exact hjun
        · rw [getD_set_ne true hjk] at hun; exact hun
      refine wpOp_mono (fun a' w' h3 => ⟨h3.2.1, ih (listed.setIfInBounds j true) a' w' hfree' (ready_mono hr (Ne.symm hji)) h3.1 (h3.2.1.resolve_left hjz) ?_⟩) h2
      rw [Array.setIfInBounds_comm _ _ hji]
      exact h3.2.2
/-- Does z wait for i? (Or is there no z?) -/
def waitsZ (md : Region.Mode) (ops : Array Oper) (z i : Nat) : Bool :=
  match ops[z]? with
  | some o => o.after.any fun e => Region.binds md e && (e.on == i)
  | none => true
def CZ (md : Region.Mode) (ops : Array Oper) (z : Nat) (listed : Array Bool) (l : List Value) (i d : Nat) (b : Bool) : Bool := CK md ops listed l i d b && waitsZ md ops z i && !(i == z)
theorem zfirst {a : Act} (i : Nat) {v : Value} (hi : i < ops.size) (hs : Region.noSelect ops = true) (hf : Region.free md ops listed i = true) (hr : (Region.ready md ops listed).contains i = true) (hw : waitsZ md ops z i = true) (hiz : i ≠ z)
    (hQ : ∀ c a w, Q (.panic c) (a.put (opAt ops i).dst v) w → Q (.panic c) a w) (hy : YieldsIf P ops S (opAt ops i) v a) (hS : S w)
    (h : wpAnyZ P md ops Q S z fuel (listed.setIfInBounds i true) (a.put (opAt ops i).dst v) w) : wpAnyZ P md ops Q S z (fuel + 1) listed a w := by
  cases hz : ops[z]? with
  | none => exact wpAnyZ_first (oz := opAt ops i) (opAt_get hi) (Region.noSelect_spec hs) (fun h => by rw [hz] at h; cases h) (.inr hz) hiz hQ fuel listed a w (Region.free_spec (opAt_get hi) hf) (by simpa using hr) hy hS h
  | some oz =>
    refine wpAnyZ_first (oz := oz) (opAt_get hi) (Region.noSelect_spec hs) (fun _ => ?_) (.inl hz) hiz hQ fuel listed a w (Region.free_spec (opAt_get hi) hf) (by simpa using hr) hy hS h
    simp only [waitsZ, hz, Array.any_eq_true', Bool.and_eq_true, beq_iff_eq] at hw
    obtain ⟨e, he, hb, ho⟩ := hw
    exact ⟨e, he, hb, ho⟩
theorem zv (i d : Nat) (v : Value) (hrun : ∀ w, S w → Val P ⟨l.toArray, ds⟩ (opAt ops i) v w) (hS : S w)
    (h : wpAnyZ P md ops Q S z fuel (listed.setIfInBounds i true) ⟨(l.set d v).toArray, ds⟩ w) (hk : CZ md ops z listed l i d true = true := by kernel_rfl)
    (hQ' : ∀ c a w, Q (.panic c) (a.put (opAt ops i).dst v) w → Q (.panic c) a w := by exact fun _ _ _ h => h) : wpAnyZ P md ops Q S z (fuel + 1) listed ⟨l.toArray, ds⟩ w := by
  simp only [CZ, CK, Bool.and_eq_true, decide_eq_true_eq, beq_iff_eq, Bool.not_eq_true', beq_eq_false_iff_ne] at hk
  obtain ⟨⟨⟨⟨⟨⟨⟨h1, h2⟩, h3⟩, h4⟩, h5⟩, h6⟩, h7⟩, h8⟩ := hk
  exact zfirst i h1 h3 h4 h5 h7 h8 hQ' (.inl ⟨h6, hrun⟩) hS (by rw [h2, put_list]; exact h)
theorem zs (i d : Nat) (hS : S w)
    (h : wpAnyZ P md ops Q S z fuel (listed.setIfInBounds i true) ⟨(l.set d undef).toArray, ds⟩ w) (hk : CZ md ops z listed l i d false = true := by kernel_rfl)
    (hQ' : ∀ c a w, Q (.panic c) (a.put (opAt ops i).dst undef) w → Q (.panic c) a w := by exact fun _ _ _ h => h) : wpAnyZ P md ops Q S z (fuel + 1) listed ⟨l.toArray, ds⟩ w := by
  simp only [CZ, CK, Bool.and_eq_true, decide_eq_true_eq, beq_iff_eq, Bool.not_eq_true', beq_eq_false_iff_ne] at hk
  obtain ⟨⟨⟨⟨⟨⟨⟨h1, h2⟩, h3⟩, h4⟩, h5⟩, h6⟩, h7⟩, h8⟩ := hk
  exact zfirst i h1 h3 h4 h5 h7 h8 hQ' (.inr ⟨h6, rfl⟩) hS (by rw [h2, put_list]; exact h)
theorem wpAnyZ_all {rs : List Nat} {a : Act} (hr : Region.ready md ops listed = rs) (hne : rs ≠ [])
    (h : ∀ i ∈ rs, wpOp P ops Q i (fun a' w' => (i = z ∨ S w') ∧ wpAnyZ P md ops Q S z fuel (listed.setIfInBounds i true) a' w') a w) : wpAnyZ P md ops Q S z (fuel + 1) listed a w :=
  ⟨fun h0 => absurd (hr ▸ h0) hne, hr ▸ h⟩
theorem zo1 {a : Act} (i : Nat) (hi : ops[i]? = some oi) (h : wpList P ops (endK (fun a' w' => (i = z ∨ S w') ∧ wpAnyZ P md ops Q S z fuel (listed.setIfInBounds i true) a' w') Q) [oi] a w) (hr : Region.ready md ops listed = [i] := by kernel_rfl) : wpAnyZ P md ops Q S z (fuel + 1) listed a w := by
  refine wpAnyZ_all hr (by simp) fun j hj => ?_
  obtain rfl : j = i := by simpa using hj
  exact wpOp_of_list j hi h
theorem zo2 {a : Act} {oj : Oper} (i j : Nat) (hi : ops[i]? = some oi) (hj : ops[j]? = some oj)
    (h : wpList P ops (endK (fun a' w' => (i = z ∨ S w') ∧ wpAnyZ P md ops Q S z fuel (listed.setIfInBounds i true) a' w') Q) [oi] a w)
    (h' : wpList P ops (endK (fun a' w' => (j = z ∨ S w') ∧ wpAnyZ P md ops Q S z fuel (listed.setIfInBounds j true) a' w') Q) [oj] a w) (hr : Region.ready md ops listed = [i, j] := by kernel_rfl) : wpAnyZ P md ops Q S z (fuel + 1) listed a w := by
  refine wpAnyZ_all hr (by simp) fun k hk => ?_
  rcases List.mem_cons.1 hk with rfl | hk
  · exact wpOp_of_list k hi h
  · obtain rfl : k = j := by simpa using hk
    exact wpOp_of_list k hj h'
theorem ze {a' : Act} {w' : World} (i : Nat) (hS : S w') (h : wpAnyZ P md ops Q S z fuel (listed.setIfInBounds i true) a' w') :
    wpList P ops (endK (fun a' w' => (i = z ∨ S w') ∧ wpAnyZ P md ops Q S z fuel (listed.setIfInBounds i true) a' w') Q) [] a' w' := ⟨.inr hS, h⟩
theorem zz {a' : Act} {w' : World} (i : Nat) (h : wpAnyZ P md ops Q S z fuel (listed.setIfInBounds i true) a' w') (hi : i = z := by rfl) :
    wpList P ops (endK (fun a' w' => (i = z ∨ S w') ∧ wpAnyZ P md ops Q S z fuel (listed.setIfInBounds i true) a' w') Q) [] a' w' := ⟨.inl hi, h⟩
theorem zd {listed : Array Bool} {a : Act} {w : World} (hr : Region.ready md ops listed = []) (h : Q .normal a w) : ∀ fuel, wpAnyZ P md ops Q S z fuel listed a w
  | 0 => ⟨hr, h⟩
  | _ + 1 => ⟨fun _ => h, by rw [hr]; simp⟩
theorem zg {id : Nat} {a : Act} {w : World} (S T : World → Prop) (z n : Nat) (hT : T w.drew) (h : ∀ u, T u → wpAnyZ P .any ops Q S z n (Array.replicate n false) a u) (hm : P.follows .mixedOrders = true := by kernel_rfl) (hn : ops.size = n := by rfl) : (Code.region id ops true).wp P Q a w := by
  subst hn
  exact wp_region_any hm (wpAny_of_Z _ _ _ _ (h _ hT))
end
end Go.Proofs.Ytanggdnmoaflfaa

namespace Go.Proofs.Ytanggdnmoaflfaa
open Go.RowKit
set_option linter.unusedVariables false
set_option linter.unusedSimpArgs false
set_option maxRecDepth 100000

/-- Of the blocks that there were only those in X may have turned. -/
structure Ev (X : Nat → Prop) (w w' : World) : Prop where
  os : w'.os = w.os
  tape : w'.tape = w.tape
  output : w'.output = w.output
  size : w.heap.size ≤ w'.heap.size
  block : ∀ i, i < w.heap.size → ¬ X i → w'.heap[i]? = w.heap[i]?
abbrev E0 (w w' : World) : Prop := Ev (fun _ => False) w w'
theorem Ev.refl (X : Nat → Prop) (w : World) : Ev X w w := ⟨rfl, rfl, rfl, Nat.le_refl _, fun _ _ _ => rfl⟩
theorem Ev.mono {X Y : Nat → Prop} {w w' : World} (h : Ev X w w') (hx : ∀ i, X i → Y i) : Ev Y w w' := ⟨h.os, h.tape, h.output, h.size, fun i hi hn => h.block i hi fun hx' => hn (hx i hx')⟩
theorem Ev.trans {X : Nat → Prop} {a b c : World} (h : Ev X a b) (k : Ev X b c) : Ev X a c :=
  ⟨k.os.trans h.os, k.tape.trans h.tape, k.output.trans h.output, Nat.le_trans h.size k.size, fun i hi hn => (k.block i (Nat.lt_of_lt_of_le hi h.size) hn).trans (h.block i hi hn)⟩
theorem Ev.drew {X : Nat → Prop} {w w' : World} (h : Ev X w w') : Ev X w w'.drew := ⟨h.os, h.tape, h.output, h.size, h.block⟩
theorem belE0 {w w' : World} (h : Below w.heap.size w w') : E0 w w' := ⟨h.os, h.tape, h.output, h.size, fun i hi _ => h.block i hi⟩
theorem Ev.below {X : Nat → Prop} {B : Nat} {w w' : World} (h : Ev X w w') (hB : B ≤ w.heap.size) (hx : ∀ i, X i → B ≤ i) : Below B w w' :=
  ⟨h.os, h.tape, h.output, h.size, fun i hi => h.block i (by omega) fun x => by have := hx i x; omega⟩
theorem Only.ev {g : Nat} {w w' : World} (h : Only g w w') : Ev (fun i => i = g) w w' := ⟨h.os, h.tape, h.output, Nat.le_of_eq h.size.symm, fun i _ hn => h.block i hn⟩
theorem Mut.ev {w w' : World} {v v' : Value} (h : Mut w w' v v') : Ev (fun i => v.ownBlock = some i) w w' := ⟨h.g.os, h.g.tape, h.g.output, h.g.size, fun i hi hn => h.g.block i hi fun e => hn e.symm⟩
theorem alloc_e0 (w : World) (o : Obj) : E0 w (w.alloc o) := belE0 (Joins.below_alloc1 w o)
theorem drew_e0 (w : World) : E0 w w.drew := ⟨rfl, rfl, rfl, Nat.le_refl _, fun _ _ _ => rfl⟩
/-- Block g holds just these values. -/
def Cel (w : World) (g : Nat) (t : TypeId) (cs : List Value) : Prop := w.heap[g]? = some (.cells cs.toArray t (0, 0))
theorem Cel.lt {w : World} {g : Nat} {t : TypeId} {cs : List Value} (h : Cel w g t cs) : g < w.heap.size := (Array.getElem?_eq_some_iff.1 h).1
theorem Cel.ev {X : Nat → Prop} {w w' : World} {g : Nat} {t : TypeId} {cs : List Value} (h : Cel w g t cs) (e : Ev X w w') (hn : ¬ X g) : Cel w' g t cs := (e.block g h.lt hn).trans h
theorem Cel.e0 {w w' : World} {g : Nat} {t : TypeId} {cs : List Value} (h : Cel w g t cs) (e : E0 w w') : Cel w' g t cs := h.ev e fun x => x
theorem Cel.cell {w : World} {g : Nat} {t : TypeId} {cs : List Value} (h : Cel w g t cs) (j : Nat) (v : Value) (hv : cs[j]? = some v) : w.cell? ⟨g, j, none⟩ = some v := by
  rw [Joins.cell_of_block h]; simpa using hv
theorem Cel.frozen {w : World} {g : Nat} {t : TypeId} {cs : List Value} (h : Cel w g t cs) (j : Nat) : w.frozen? ⟨g, j, none⟩ = false := Joins.unfrozen_of_block h j
theorem Blk.cel {k : IntKind} {w : World} {g : Nat} {t : TypeId} {xs : List Int} (h : Blk k w g t xs) : Cel w g t (xs.map (Value.int k)) := h
theorem Blk.ev {X : Nat → Prop} {k : IntKind} {w w' : World} {g : Nat} {t : TypeId} {xs : List Int} (h : Blk k w g t xs) (e : Ev X w w') (hn : ¬ X g) : Blk k w' g t xs := (e.block g h.lt hn).trans h
theorem Blk.e0 {k : IntKind} {w w' : World} {g : Nat} {t : TypeId} {xs : List Int} (h : Blk k w g t xs) (e : E0 w w') : Blk k w' g t xs := h.ev e fun x => x
theorem SL.ev {X : Nat → Prop} {k : IntKind} {w w' : World} {v : Value} {xs : List Int} (h : SL k w v xs) (e : Ev X w w') (hn : ∀ g, v.ownBlock = some g → ¬ X g) : SL k w' v xs := by
  rcases h with h | ⟨b, o, c, hv, h1, h2, h3, h4⟩
  · exact .inl h
  · subst hv
    exact .inr ⟨b, o, c, rfl, h1, h2, Nat.lt_of_lt_of_le h3 e.size, fun j hj => by rw [World.cell?_of_block (a := ⟨b, o + j, none⟩) (e.block b h3 (hn b rfl))]; exact h4 j hj⟩
theorem SL.e0 {k : IntKind} {w w' : World} {v : Value} {xs : List Int} (h : SL k w v xs) (e : E0 w w') : SL k w' v xs := h.ev e fun _ _ x => x
theorem Own.ev {X : Nat → Prop} {e : TypeId} {k : IntKind} {base : Nat} {w w' : World} {v : Value} {xs : List Int} (h : Own e k base w v xs) (ev : Ev X w w') (hn : ∀ g, v.ownBlock = some g → ¬ X g) : Own e k base w' v xs := by
  refine ⟨h.1, ?_⟩
  rcases h.2 with hn' | ⟨g, cap, cur, rfl, hb, hgg, rest⟩
  · exact .inl hn'
  · exact .inr ⟨g, cap, cur, rfl, hb, (ev.block g (Array.getElem?_eq_some_iff.1 hgg).1 (hn g rfl)).trans hgg, rest⟩
theorem Own.e0 {e : TypeId} {k : IntKind} {base : Nat} {w w' : World} {v : Value} {xs : List Int} (h : Own e k base w v xs) (ev : E0 w w') : Own e k base w' v xs := h.ev ev fun _ _ x => x
/-- Since the beginning nothing below B has turned. -/
structure Bl (B : Nat) (w0 w : World) : Prop where
  b : Below B w0 w
  z : B ≤ w.heap.size
theorem Bl.refl (w : World) : Bl w.heap.size w w := ⟨Below.refl _ _, Nat.le_refl _⟩
theorem Bl.ev {X : Nat → Prop} {B : Nat} {w0 w w' : World} (h : Bl B w0 w) (e : Ev X w w') (hn : ∀ g, X g → B ≤ g) : Bl B w0 w' := ⟨h.b.trans (e.below h.z hn), Nat.le_trans h.z e.size⟩
theorem Bl.e0 {B : Nat} {w0 w w' : World} (h : Bl B w0 w) (e : E0 w w') : Bl B w0 w' := h.ev e fun _ x => x.elim

theorem SL.ofBlk {k : IntKind} {w : World} {g : Nat} {t : TypeId} {xs : List Int} (h : Blk k w g t xs) {n : Nat} (hn : xs.length = n) (hm : n ≤ maxLen) : SL k w (.slice (some ⟨g, 0, none⟩) n n) xs := by
  subst hn
  exact .inr ⟨g, 0, _, rfl, Nat.le_refl _, hm, h.lt, fun j hj => by rw [Nat.zero_add]; exact h.cell j hj⟩
theorem ownB_lit {g o n c lo hi : Nat} (h : lo ≤ g ∧ g < hi) : ∀ i, Value.ownBlock (.slice (some ⟨g, o, none⟩) n c) = some i → lo ≤ i ∧ i < hi := by
  intro i hi'
  have : g = i := by simpa [Value.ownBlock] using hi'
  omega
/-- A new block. -/
structure Nw (w w' : World) (t : TypeId) (cs : List Value) : Prop where
  e : E0 w w'
  c : Cel w' w.heap.size t cs
  z : w'.heap.size = w.heap.size + 1
theorem Nw.of (w : World) (t : TypeId) (cs : List Value) : Nw w (w.alloc (.cells cs.toArray t)) t cs := ⟨alloc_e0 _ _, heap_alloc_new w _, by simp⟩
/-- A block, turned. -/
structure Tn (g : Nat) (t : TypeId) (cs : List Value) (w w' : World) : Prop where
  e : Ev (fun i => i = g) w w'
  c : Cel w' g t cs
  z : w'.heap.size = w.heap.size

section
variable {P : Program} {ops : Array Oper} {Q : Exit → Act → World → Prop} {l : List Value} {ds : List Deferred} {w : World} {oi : Oper} {rest : List Oper}

theorem put_list' (d : Nat) (v : Value) (hd : oi.dst = some d) : (⟨l.toArray, ds⟩ : Act).put oi.dst v = ⟨(l.set d v).toArray, ds⟩ := by rw [hd, put_list]
/-- alloc -/
theorem xAlloc (d : Nat) (t : TypeId) (cs : List Value) (ho : oi.op = .alloc t) (hz : ((P.info? t).bind (·.zero)).map (·.cells.toList) = some cs) (h : ∀ w', Nw w w' t cs → wpList P ops Q rest ⟨(l.set d (.pointer (some ⟨w.heap.size, 0, none⟩))).toArray, ds⟩ w')
    (hw : Region.wanted oi (yielded ops l.toArray) = true := by kernel_rfl) (hd : oi.dst = some d := by rfl) : wpList P ops Q (oi :: rest) ⟨l.toArray, ds⟩ w := by
  obtain ⟨z, hz1, hz2⟩ := Option.map_eq_some_iff.1 hz
  obtain ⟨i, hi, hi2⟩ := Option.bind_eq_some_iff.1 hz1
  refine wp_alloc hw t ho z (by rw [hi]; simp [hi2]) ?_
  rw [put_list' d _ hd]
  refine h _ ?_
  subst hz2
  exact Nw.of w t _
/-- box -/
theorem xBox (d : Nat) (t : TypeId) (x : Operand) (cs : List Value) (ho : oi.op = .box t x) (hx : ((⟨l.toArray, ds⟩ : Act).eval x).cells.toList = cs) (h : ∀ w', Nw w w' t cs → wpList P ops Q rest ⟨(l.set d (.pointer (some ⟨w.heap.size, 0, none⟩))).toArray, ds⟩ w')
    (hw : Region.wanted oi (yielded ops l.toArray) = true := by kernel_rfl) (hd : oi.dst = some d := by rfl) : wpList P ops Q (oi :: rest) ⟨l.toArray, ds⟩ w := by
  subst hx
  refine wpList_wanted hw fun K hK => ?_
  have hrun : (Instr.box t ((⟨l.toArray, ds⟩ : Act).eval x)).run P w = .ok (.pointer (some ⟨w.heap.size, 0, none⟩)) (w.alloc (.cells ((⟨l.toArray, ds⟩ : Act).eval x).cells t)) := by
    unfold Instr.box
    simp [newVar, newRow, newObj, Sem.run]
  unfold Oper.wp
  simp only [execOp, ho, Sem.run_bind, hrun, Result.andThen_ok, Sem.run_pure]
  rw [Oper.upon_value, put_list' d _ hd]
  exact hK _ _ (h _ (Nw.of w t _))
/-- buildSlice -/
theorem xLit (d : Nat) (t e : TypeId) (n : Nat) (parts : Array (Nat × Operand)) (vs : Array (Nat × Value)) (cs : List Value) (ho : oi.op = .buildSlice t n parts) (hvs : (parts.map fun x => (x.1, (⟨l.toArray, ds⟩ : Act).eval x.2)) = vs) 
    (hrun : (Instr.buildSlice t n vs).run P w = .ok (.slice (some ⟨w.heap.size, 0, none⟩) n n) (w.alloc (.cells cs.toArray e)))
    (h : ∀ w', Nw w w' e cs → wpList P ops Q rest ⟨(l.set d (.slice (some ⟨w.heap.size, 0, none⟩) n n)).toArray, ds⟩ w')
    (hw : Region.wanted oi (yielded ops l.toArray) = true := by kernel_rfl) (hd : oi.dst = some d := by rfl) : wpList P ops Q (oi :: rest) ⟨l.toArray, ds⟩ w := by
  subst hvs
  refine wpList_wanted hw fun K hK => ?_
  unfold Oper.wp
  simp only [execOp, ho, Sem.run_bind, hrun, Result.andThen_ok, Sem.run_pure]
  rw [Oper.upon_value, put_list' d _ hd]
  exact hK _ _ (h _ (Nw.of w e _))
/-- values over others from place o on -/
def overV (cs : List Value) (o : Nat) (vs : List Value) : List Value := cs.take o ++ vs ++ cs.drop (o + vs.length)
/-- a store of a row (a struct, an array) into a known block -/
theorem xStoreR (ty : TypeId) (x y : Operand) (ho : oi.op = .store ty x y) (g : Nat) (t : TypeId) (cs : List Value) (o : Nat) (vs : List Value) (hx : (⟨l.toArray, ds⟩ : Act).eval x = .pointer (some ⟨g, o, none⟩)) (hy : (⟨l.toArray, ds⟩ : Act).eval y = .agg vs.toArray)
    (hc : Cel w g t cs) (hi : (P.info? ty).map (·.size) = some vs.length) (hl : o + vs.length ≤ cs.length) (h1 : vs.all (·.oneCell') = true) (cs' : List Value) (hcs : overV cs o vs = cs')
    (h : ∀ w', Tn g t cs' w w' → wpList P ops Q rest ⟨l.toArray, ds⟩ w')
    (hw : Region.wanted oi (yielded ops l.toArray) = true := by kernel_rfl) (hd : oi.dst = none := by rfl) : wpList P ops Q (oi :: rest) ⟨l.toArray, ds⟩ w := by
  subst hcs
  refine wpList_wanted hw fun K hK => wp_store_mid ty x y ho g o vs.toArray hx hy ?_ (by rw [hi]; simp) (by simpa using h1) ?_
  · intro j hj
    have hj' : j < vs.length := by simpa using hj
    have hjc : o + j < cs.length := by omega
    rw [hc.cell (o + j) _ (List.getElem?_eq_getElem hjc), hc.frozen]
    simp
  · have hput : (⟨l.toArray, ds⟩ : Act).put oi.dst undef = ⟨l.toArray, ds⟩ := by rw [hd]; rfl
    rw [hput]
    refine hK _ _ (h _ ⟨⟨(setCells_rest g _ _ _).1, (setCells_rest g _ _ _).2.1, (setCells_rest g _ _ _).2.2, Nat.le_of_eq (setCells_size g _ _ _).symm, fun i _ hi => setCells_other g _ _ _ i hi⟩, ?_, setCells_size g _ _ _⟩)
    have := setCells_heap g vs o w _ t hc (by simpa using hl)
    unfold Cel
    rw [show (vs.toArray : Array Value).toList = vs by simp, this]
    simp [overV]
/-- a store of one plain value into a known block -/
theorem xStore (ty : TypeId) (x y : Operand) (ho : oi.op = .store ty x y) (g : Nat) (t : TypeId) (cs : List Value) (o : Nat) (v : Value) (hx : (⟨l.toArray, ds⟩ : Act).eval x = .pointer (some ⟨g, o, none⟩)) (hy : (⟨l.toArray, ds⟩ : Act).eval y = v)
    (hc : Cel w g t cs) (hi : (P.info? ty).map (·.size) = some 1) (hl : o < cs.length) (h1 : v.oneCell' = true) (cs' : List Value) (hcs : cs.set o v = cs')
    (h : ∀ w', Tn g t cs' w w' → wpList P ops Q rest ⟨l.toArray, ds⟩ w')
    (hw : Region.wanted oi (yielded ops l.toArray) = true := by kernel_rfl) (hd : oi.dst = none := by rfl) : wpList P ops Q (oi :: rest) ⟨l.toArray, ds⟩ w := by
  subst hcs
  refine wp_store1 hw ty x y ho hd g o v _ hx hy h1 hi (hc.cell o _ (List.getElem?_eq_getElem hl)) (hc.frozen o) ?_
  refine h _ ⟨(Only.setCell w ⟨g, o, none⟩ v).ev, ?_, (Only.setCell w ⟨g, o, none⟩ v).size⟩
  have h2 := Joins.block_setCell (i := o) hc v
  unfold Cel
  rw [h2]
  simp
/-- append -/
theorem xApp (d : Nat) (s x : Operand) (t e : TypeId) (k : IntKind) (bytes : Nat) (ho : oi.op = .call { callee := .builtin .append, args := #[s, x], argTypes := #[t, t] })
    (ht : P.underlying t = some (.slice e)) (hinfo : (P.info? e).map (fun i => (i.zero, i.size, i.bytes)) = some (some (.int k 0), 1, bytes))
    (base : Nat) (v : Value) (xs : List Int) (hs : (⟨l.toArray, ds⟩ : Act).eval s = v) (hown : Own e k base w v xs)
    (u : Value) (ys : List Int) (hx : (⟨l.toArray, ds⟩ : Act).eval x = u) (hu : SL k w u ys)
    (h47 : (xs.length + ys.length) * bytes ≤ 140737488355328) (h63 : xs.length + ys.length ≤ maxLen) (hbase : base ≤ w.heap.size)
    (h : ∀ v' w', Own e k base w' v' (xs ++ ys) → Ev (fun i => v.ownBlock = some i) w w' → wpList P ops Q rest ⟨(l.set d v').toArray, ds⟩ w')
    (hgd : oi.guard = none := by rfl) (hd : oi.dst = some d := by rfl) : wpList P ops Q (oi :: rest) ⟨l.toArray, ds⟩ w := by
  refine app_mut hgd s x t e k bytes ho ht hinfo base v xs hs hown u ys hx hu h47 h63 hbase fun v' w' h1 h2 => ?_
  rw [put_list' d _ hd]
  exact h v' w' h1 h2.ev
/-- a call -/
theorem xCall (d : Nat) (f : FuncId) (args : Array Value) (hrun : (execOp (⟨l.toArray, ds⟩ : Act).eval oi).run P w = .ok (.enter f args) w)
    (hc : Calls P f args w fun e w' => ∃ v, e = .returned v ∧ wpList P ops Q rest ⟨(l.set d v).toArray, ds⟩ w')
    (hw : Region.wanted oi (yielded ops l.toArray) = true := by kernel_rfl) (hd : oi.dst = some d := by rfl) : wpList P ops Q (oi :: rest) ⟨l.toArray, ds⟩ w := by
  refine wpList_wanted hw fun K hK => ?_
  unfold Oper.wp
  rw [hrun, Oper.upon_enter]
  refine hc.mono fun e w' he => ?_
  obtain ⟨v, rfl, h⟩ := he
  simp only [put_list' d _ hd]
  exact hK _ _ h
/-- kept out by its guard -/
theorem xSkip (d : Nat) (h : wpList P ops Q rest ⟨(l.set d undef).toArray, ds⟩ w) (hw : Region.wanted oi (yielded ops l.toArray) = false := by kernel_rfl) (hd : oi.dst = some d := by rfl) : wpList P ops Q (oi :: rest) ⟨l.toArray, ds⟩ w :=
  wpList_step fun K hK => by
    rw [if_neg (by rw [hw]; simp), put_list' d _ hd]
    exact hK _ _ h
end
end Go.Proofs.Ytanggdnmoaflfaa

namespace Go.Proofs.Ytanggdnmoaflfaa
open Go.RowKit
set_option linter.unusedVariables false
set_option linter.unusedSimpArgs false
set_option maxRecDepth 100000

section
variable {P : Program} {Q : Exit → Act → World → Prop} {a : Act} {w : World} {ops : Array Oper} {l : List Value} {ds : List Deferred} {oi : Oper} {rest : List Oper}
theorem cPlain {id : Nat} {l : List Oper} (h : wpList P l.toArray Q l a w) : (Code.region id l.toArray false).wp P Q a w := wp_region_lit h
/-- a test that is open -/
theorem cDec {c : Operand} {x y : Code} (p : Prop) [Decidable p] (hc : a.eval c = .bool (decide p)) (ht : p → x.wp P Q a w) (hf : ¬ p → y.wp P Q a w) : (Code.cond c x y).wp P Q a w :=
  wp_cond_split hc (fun h => ht (of_decide_eq_true h)) (fun h => hf (of_decide_eq_false h))
theorem cT {c : Operand} {x y : Code} (h : x.wp P Q a w) (hc : a.eval c = .bool true := by kernel_rfl) : (Code.cond c x y).wp P Q a w := wp_cond_true hc h
theorem cF {c : Operand} {x y : Code} (h : y.wp P Q a w) (hc : a.eval c = .bool false := by kernel_rfl) : (Code.cond c x y).wp P Q a w := wp_cond_false hc h
/-- a loop: what holds at its head, told by how many rounds there may be at most -/
theorem cLoop {c : Code} (I : Nat → Act → World → Prop) (n : Nat) (h0 : I n a w) (round : ∀ n a w, I n a w → c.wp P (Exit.then (fun a' w' => ∃ m, m < n ∧ I m a' w') Q) a w) : (Code.loop c).wp P Q a w := by
  classical
  let J : Act → World → Prop := fun a w => ∃ n, I n a w
  have hleast : ∀ k a w, I k a w → ∃ m, I m a w ∧ m ≤ k ∧ ∀ j, j < m → ¬ I j a w := by
    intro k
    induction k using Nat.strongRecOn with
    | _ k ih =>
      intro a w hk
      by_cases h : ∃ j, j < k ∧ I j a w
      · obtain ⟨j, hj, hI⟩ := h
        obtain ⟨m, h1, h2, h3⟩ := ih j hj a w hI
        exact ⟨m, h1, by omega, h3⟩
      · exact ⟨k, hk, Nat.le_refl _, fun j hj hI => h ⟨j, hj, hI⟩⟩
  let μ : Act → World → Nat := fun a w => if h : ∃ m, I m a w ∧ ∀ j, j < m → ¬ I j a w then h.choose else 0
  have hμ : ∀ a w, J a w → I (μ a w) a w ∧ ∀ k, I k a w → μ a w ≤ k := by
    intro a w ⟨n, hn⟩
    have h : ∃ m, I m a w ∧ ∀ j, j < m → ¬ I j a w := by
      obtain ⟨m, h1, _, h3⟩ := hleast n a w hn
      exact ⟨m, h1, h3⟩
    have e : μ a w = h.choose := dif_pos h
    rw [e]
    refine ⟨h.choose_spec.1, fun k hk => ?_⟩
    rcases Nat.lt_or_ge k h.choose with hlt | hge
    · exact absurd hk (h.choose_spec.2 k hlt)
    · exact hge
  refine wp_loop J μ ⟨n, h0⟩ fun a w hJ => ?_
  refine wp_mono (round (μ a w) a w (hμ a w hJ).1) fun e a' w' h => ?_
  cases e with
  | normal =>
    obtain ⟨m, hm, hI⟩ := h
    exact ⟨⟨m, hI⟩, Nat.lt_of_le_of_lt ((hμ a' w' ⟨m, hI⟩).2 m hI) hm⟩
  | _ => exact h
/-- a frame, some of whose slots are let go -/
theorem cutE {l : List Value} {ds : List Deferred} {F : (Nat → Value) → List Value} (h : F (fun i => l.getD i undef) = l := by kernel_rfl) : ∃ sc : Nat → Value, (⟨l.toArray, ds⟩ : Act) = ⟨(F sc).toArray, ds⟩ := ⟨_, by rw [h]⟩
/-- a cut: what holds behind x -/
theorem cCut {x y : Code} (J : Act → World → Prop) (hx : x.wp P (Exit.then J Q) a w) (hy : ∀ a w, J a w → y.wp P Q a w) : (Code.seq x y).wp P Q a w :=
  wp_seq (wp_mono hx fun e a' w' h => by cases e <;> first | exact hy _ _ h | exact h)
/-- one result that lies in memory -/
theorem rC {fn : Func} {s : Nat} {t : TypeId} (hr : fn.results = #[.cell s t]) (tm : Array Value) (g : Nat) (bt : TypeId) (cs : List Value) (hs : tm.getD s undef = .pointer (some ⟨g, 0, none⟩)) (hc : Cel w g bt cs)
    (d : TypeDesc) (hu : P.underlying t = some d) (hd : d.isRow = true) (hi : (P.info? t).map (·.size) = some cs.length) : (results fn tm).run P w = .ok (.agg cs.toArray) w := by
  have := run_loadVar_mid (P := P) w g 0 t cs d (fun j v hv => by rw [Nat.zero_add, hc.cell j v hv]) hu hd hi
  have ha : (asAddr (tm.getD s undef)).run P w = .ok ⟨g, 0, none⟩ w := by rw [hs]; simp [asAddr]
  simp only [results, hr]
  simp only [Array.getD_eq_getD_getElem?] at ha
  simp [ha, this]
/-- .. and one in a slot -/
theorem rCT {fn : Func} {s r : Nat} {t : TypeId} (hr : fn.results = #[.cell s t, .tmp r]) (tm : Array Value) (g : Nat) (bt : TypeId) (cs : List Value) (v : Value) (hs : tm.getD s undef = .pointer (some ⟨g, 0, none⟩)) (hv : tm.getD r undef = v) (hc : Cel w g bt cs)
    (d : TypeDesc) (hu : P.underlying t = some d) (hd : d.isRow = true) (hi : (P.info? t).map (·.size) = some cs.length) : (results fn tm).run P w = .ok (.tuple #[.agg cs.toArray, v]) w := by
  have := run_loadVar_mid (P := P) w g 0 t cs d (fun j v hv => by rw [Nat.zero_add, hc.cell j v hv]) hu hd hi
  subst hv
  have ha : (asAddr (tm.getD s undef)).run P w = .ok ⟨g, 0, none⟩ w := by rw [hs]; simp [asAddr]
  simp only [results, hr]
  simp only [Array.getD_eq_getD_getElem?] at ha
  simp [ha, this]
theorem eval_not {b : Bool} : (!b) = decide (b = false) := by cases b <;> rfl
/-- results in slots -/
theorem rT {fn : Func} {tm : Array Value} {v : Value} (h : (results fn tm).run P w = .ok v w := by kernel_rfl) : (results fn tm).run P w = .ok v w := h
/-- part of a block -/
def segV (o n : Nat) (cs : List Value) : List Value := (cs.drop o).take n
theorem Val.cel {a : Act} {op : Oper} {w : World} (ty : TypeId) (x : Operand) (ho : op.op = .load ty x) {g : Nat} {t : TypeId} {cs : List Value} (o n : Nat) (hx : a.eval x = .pointer (some ⟨g, o, none⟩)) (h : Cel w g t cs)
    (d : TypeDesc) (hu : P.underlying ty = some d) (hd : d.isRow = true) (hi : (P.info? ty).map (·.size) = some n) (hl : o + n ≤ cs.length) (vs : List Value) (hvs : segV o n cs = vs) : Val P a op (.agg vs.toArray) w := by
  subst hvs
  have hlen : (segV o n cs).length = n := by simp [segV]; omega
  unfold Val execOp
  have := run_loadAt_mid (P := P) w g o ty (segV o n cs) d (fun j v hv => by
    have hj : j < n := by rw [← hlen]; exact (List.getElem?_eq_some_iff.1 hv).1
    refine h.cell _ _ ?_
    rw [← hv]
    simp only [segV, List.getElem?_take, List.getElem?_drop]
    rw [if_pos hj]) hu hd (by rw [hi, hlen])
  simp only [ho, hx, Sem.run_bind, this, Result.andThen_ok, Sem.run_pure]
/-- a plain cell of a known block -/
theorem Val.cel1 {a : Act} {o : Oper} {w : World} (ty : TypeId) (x : Operand) (ho : o.op = .load ty x) (g i : Nat) (v : Value) (hx : a.eval x = .pointer (some ⟨g, i, none⟩)) (hagg : ∀ w, (isAgg ty).run P w = .ok false w)
    {t : TypeId} {cs : List Value} (hc : Cel w g t cs) (hv : cs[i]? = some v) : Val P a o v w := Val.cell ty x ho g i v hx hagg (hc.cell i v hv)
/-- a number of a known block of numbers -/
theorem Val.blk1 {a : Act} {o : Oper} {w : World} (ty : TypeId) (x : Operand) (ho : o.op = .load ty x) (g i : Nat) (hx : a.eval x = .pointer (some ⟨g, i, none⟩)) (hagg : ∀ w, (isAgg ty).run P w = .ok false w)
    {k : IntKind} {t : TypeId} {xs : List Int} (hc : Blk k w g t xs) (hv : i < xs.length) : Val P a o (.int k (xs.getD i 0)) w := Val.cell ty x ho g i _ hx hagg (hc.cell i hv)
/-- a number of a slice of numbers -/
theorem Val.sl1 {a : Act} {op : Oper} {w : World} (ty : TypeId) (x : Operand) (ho : op.op = .load ty x) (b o j n c : Nat) (hx : a.eval x = .pointer (some ⟨b, o + j * 1, none⟩)) (hagg : ∀ w, (isAgg ty).run P w = .ok false w)
    {k : IntKind} {xs : List Int} (hc : SL k w (.slice (some ⟨b, o, none⟩) n c) xs) (hv : j < xs.length) : Val P a op (.int k (xs.getD j 0)) w := Val.cell ty x ho b (o + j * 1) _ hx hagg (by rw [Nat.mul_one]; exact hc.at j hv)
/-- a part of a slice, as it lies -/
def sliceV : Value → Nat → Nat → Value
  | .slice a n c, lo, hi => .slice (if c = lo then a else a.map (·.add lo)) (hi - lo) (c - lo)
  | v, _, _ => v
theorem sliceV_own {v : Value} {lo hi i : Nat} (h : (sliceV v lo hi).ownBlock = some i) : v.ownBlock = some i := by
  cases v with
  | slice a n c =>
    simp only [sliceV, Value.ownBlock] at h ⊢
    cases a with
    | none => by_cases hc : c = lo <;> simp [hc] at h
    | some ad =>
      by_cases hc : c = lo
      · simpa [hc] using h
      · simp only [hc, if_false, Option.map_some] at h
        have : (ad.add lo).block = ad.block := by unfold Addr.add; split <;> rfl
        simpa [this] using h
  | _ => exact h
theorem SL.slice {k : IntKind} {w : World} {v : Value} {xs : List Int} (h : SL k w v xs) (lo hi : Nat) (h1 : lo ≤ hi) (h2 : hi ≤ xs.length) : SL k w (sliceV v lo hi) ((xs.drop lo).take (hi - lo)) := by
  have hlen : ((xs.drop lo).take (hi - lo)).length = hi - lo := by simp; omega
  rcases h with ⟨rfl, rfl⟩ | ⟨b, o, c, rfl, h3, h4, h5, h6⟩
  · have : lo = 0 := by simp at h2; omega
    have h0 : hi = 0 := by simpa using h2
    subst this h0
    left; simp [sliceV]
  · by_cases hc : c = lo
    · refine .inr ⟨b, o, 0, ?_, by omega, by omega, h5, fun j hj => ?_⟩
      · simp [sliceV, hc, hlen]
      · omega
    · refine .inr ⟨b, o + lo, c - lo, ?_, by omega, by omega, h5, fun j hj => ?_⟩
      · simp [sliceV, hc, hlen, Addr.add_mid]
      · rw [Nat.add_assoc, h6 (lo + j) (by omega)]
        have : j < hi - lo := by omega
        simp [List.getElem?_take, List.getElem?_drop, this]
theorem run_bound {k : Nat} {y : Nat} {c : BoundsCode} (h : k ≤ y) : (Instr.sliceBound (.int .i64 (k : Int)) y c).run P w = .ok k w := by
  have h2 : (0 : Int) ≤ k ∧ (k : Int) ≤ y := by omega
  simp [Instr.sliceBound, asIntOf, h]
theorem Val.slc {a : Act} {op : Oper} {w : World} (t : TypeId) (x : Operand) (lo hi : Option Operand) (ho : op.op = .slice t x lo hi none) (v : Value) (hx : a.eval x = v) {k : IntKind} {xs : List Int} (hs : SL k w v xs) (l' h' : Nat)
    (hlo : lo.map a.eval = some (.int .i64 (l' : Int)) ∨ (lo = none ∧ l' = 0)) (hhi : hi.map a.eval = some (.int .i64 (h' : Int)) ∨ (hi = none ∧ h' = xs.length)) (h1 : l' ≤ h') (h2 : h' ≤ xs.length)
    {e : TypeId} (ht : P.underlying t = some (.slice e)) (hi0 : (P.info? e).map (·.size) = some 1) : Val P a op (sliceV v l' h') w := by
  obtain ⟨i, hi1, hm⟩ := Option.map_eq_some_iff.1 hi0
  have hsz : (sizeOf e).run P w = .ok 1 w := by simp [sizeOf, typeInfo, hi1, hm]
  obtain ⟨b, c, rfl, hle, hml⟩ : ∃ b c, v = .slice b xs.length c ∧ xs.length ≤ c ∧ True := by
    rcases hs with ⟨rfl, rfl⟩ | ⟨b, o, c, rfl, h3, h4, _⟩
    · exact ⟨none, 0, rfl, by simp, trivial⟩
    · exact ⟨_, _, rfl, h3, trivial⟩
  have hb : (Instr.sliceBounds true xs.length c (lo.map a.eval) (hi.map a.eval) none).run P w = .ok (l', h', c) w := by
    unfold Instr.sliceBounds
    rcases hlo with hlo | ⟨rfl, rfl⟩ <;> rcases hhi with hhi | ⟨rfl, rfl⟩
    · simp [hlo, hhi, run_bound (P := P) (w := w) (show h' ≤ c by omega), run_bound (P := P) (w := w) h1]
    · simp [hlo, run_bound (P := P) (w := w) h1]
    · simp [hhi, run_bound (P := P) (w := w) (show h' ≤ c by omega)]
    · simp
  unfold Val execOp
  simp only [ho, hx, Instr.sliceAt, run_underlying ht, Sem.run_bind, Result.andThen_ok, Instr.slice, Option.map_none, hb, hsz, Nat.mul_one, Sem.run_pure]
  rfl
/-- the address of an element of a slice, as it lies -/
def elemP : Value → Nat → Value
  | .slice (some ad) _ _, k => .pointer (some (ad.add k))
  | _, _ => undef
theorem Val.idxE {a : Act} {op : Oper} {w : World} (t : TypeId) (x ix : Operand) (ho : op.op = .indexAddr t x ix) (v : Value) (j : Nat) (hx : a.eval x = v) (hix : a.eval ix = .int .i64 (j : Int)) {k : IntKind} {xs : List Int} (hs : SL k w v xs)
    {e : TypeId} (ht : P.underlying t = some (.slice e)) (hi0 : (P.info? e).map (·.size) = some 1) (hj : j < xs.length) : Val P a op (elemP v j) w := by
  rcases hs with ⟨rfl, rfl⟩ | ⟨b, o, c, rfl, h1, h2, h3, h4⟩
  · simp at hj
  · have := Val.idxS (P := P) (w := w) t x ix ho b o xs.length c j hx hix 1 ht hi0 hj
    rw [Nat.mul_one] at this
    simpa [elemP, Addr.add_mid] using this
theorem Val.ldE {a : Act} {op : Oper} {w : World} (ty : TypeId) (x : Operand) (ho : op.op = .load ty x) (v : Value) (j : Nat) (hx : a.eval x = elemP v j) (hagg : ∀ w, (isAgg ty).run P w = .ok false w) {k : IntKind} {xs : List Int} (hs : SL k w v xs) (hj : j < xs.length) : Val P a op (.int k (xs.getD j 0)) w := by
  rcases hs with ⟨rfl, rfl⟩ | ⟨b, o, c, rfl, h1, h2, h3, h4⟩
  · simp at hj
  · simp only [elemP, Addr.add_mid] at hx
    exact Val.cell ty x ho b (o + j) _ hx hagg (h4 j hj)
/-- a store into an element of a row of the call's own -/
theorem xStoreE (ty : TypeId) (x y : Operand) (ho : oi.op = .store ty x y) (v : Value) (j : Nat) (n : Int) {e : TypeId} {k : IntKind} {base : Nat} {xs : List Int} (hx : (⟨l.toArray, ds⟩ : Act).eval x = elemP v j) (hy : (⟨l.toArray, ds⟩ : Act).eval y = .int k n)
    (hs : Own e k base w v xs) (hi : (P.info? ty).map (·.size) = some 1) (hj : j < xs.length)
    (h : ∀ w', Own e k base w' v (xs.set j n) → Ev (fun i => v.ownBlock = some i) w w' → w'.heap.size = w.heap.size → wpList P ops Q rest ⟨l.toArray, ds⟩ w')
    (hw : Region.wanted oi (yielded ops l.toArray) = true := by kernel_rfl) (hd : oi.dst = none := by rfl) : wpList P ops Q (oi :: rest) ⟨l.toArray, ds⟩ w := by
  obtain ⟨hl, hc⟩ := hs
  rcases hc with ⟨rfl, h0⟩ | ⟨g, cap, cur, rfl, q1, q2, q3, q4, q5, q6⟩
  · omega
  · simp only [elemP, Addr.add_mid, Nat.zero_add] at hx
    have hcur : cur.toList.take xs.length = nums k xs := by simpa using q6
    have hsz : cur.size = cap := by simpa using q5
    have hjc : j < cur.size := by omega
    refine wp_store1 hw ty x y ho hd g j (.int k n) cur[j] hx hy rfl hi (by rw [Joins.cell_of_block q2]; simp [hjc]) (Joins.unfrozen_of_block q2 j) ?_
    refine h _ ⟨by simp [nums], .inr ⟨g, cap, cur.setIfInBounds j (.int k n), by rw [List.length_set], q1, ?_, by rw [List.length_set]; exact q3, q4, by simp [hsz], ?_⟩⟩ ⟨rfl, rfl, rfl, by simp [World.setCell], fun i _ hne => heap_setCell_other w _ i _ (fun e => hne (by rw [e]; rfl))⟩ (by simp [World.setCell])
    · rw [heap_setCell_same w g j _ _ _ q2]
    · rw [List.length_set, Nat.mul_one, Array.toList_setIfInBounds, List.take_set, hcur]
      simp [nums, List.map_set]
end
end Go.Proofs.Ytanggdnmoaflfaa

namespace Go.Proofs.Ytanggdnmoaflfaa
open Go.ChangeShapes Go.WideShapes Go.ChangeAt Go.RowKit
set_option linter.unusedVariables false
set_option linter.unusedSimpArgs false
set_option maxRecDepth 100000

section
variable {P : Program}
/-- Cells of the types ts that read as t are as R says. -/
def Opens (P : Program) (t : TypeId) (ts : List TypeId) (R : World → List Value → Prop) : Prop :=
  ∀ (H : Type) (enc : TypeId × Value → H) (W : World) (r : Reach) (b0 fuel : Nat) (cs : List Value) (x : DataW H × List MemPlace),
    DataW.trod enc P W 0 (fun _ => true) true fuel t cs = some x → (∀ (i : Nat) (c : Value) (u : TypeId), cs[i]? = some c → ts[i]? = some u → Cell.okWide P W r b0 u c) → (∀ y ∈ x.2, y.block < W.heap.size) → cs.length = ts.length → R W cs
theorem Opens.mono {t : TypeId} {ts : List TypeId} {R R' : World → List Value → Prop} (h : Opens P t ts R) (hr : ∀ w cs, R w cs → R' w cs) : Opens P t ts R' :=
  fun H enc W r b0 fuel cs x h1 h2 h3 h4 => hr _ _ (h H enc W r b0 fuel cs x h1 h2 h3 h4)
def RInt (k : IntKind) (w : World) (cs : List Value) : Prop := ∃ n, cs = [.int k n] ∧ (Lit.int k n).wf = true
theorem Opens.int {k : IntKind} {t : TypeId} (ht : P.underlying t = some (.int k)) : Opens P t [t] (RInt k) := by
  intro H enc W r b0 fuel cs x h _ _ _
  obtain ⟨n, rfl, _, wf⟩ := DataW.trod_int ht h
  exact ⟨n, rfl, wf⟩
def RBool (w : World) (cs : List Value) : Prop := ∃ b, cs = [.bool b]
theorem Opens.bool {t : TypeId} (ht : P.underlying t = some .bool) : Opens P t [t] RBool := by
  intro H enc W r b0 fuel cs x h _ _ hl
  cases fuel with
  | zero => simp [DataW.trod] at h
  | succ m =>
    match cs, hl with
    | [c], _ =>
      unfold DataW.trod at h
      rw [ht] at h
      cases c <;> simp at h
      exact ⟨_, rfl⟩
def RRow (k : IntKind) (w : World) (cs : List Value) : Prop := ∃ v xs, cs = [v] ∧ SL k w v xs ∧ ∀ n ∈ xs, (Lit.int k n).wf = true
theorem Opens.row {k : IntKind} {t e : TypeId} (ht : P.underlying t = some (.slice e)) (he : P.underlying e = some (.int k)) (hc : P.cellsOf e = 1) : Opens P t [t] (RRow k) := by
  intro H enc W r b0 fuel cs x h h2 h3 hl
  match cs, hl with
  | [c], _ =>
    have hc1 := h2 0 c t rfl rfl
    have hval : Value.okWide P W r b0 t c := by simp only [Value.okWide, ht]; exact hc1
    have hb : c.cells.toList = [c] := by obtain ⟨_, _, _, rfl⟩ := okWide_slice ht hval; simp [Value.cells]
    obtain ⟨xs, hsl, hw⟩ := open_row ht he hc hval (d := x.1) (p := x.2) ⟨fuel, by rw [hb]; exact h⟩ h3
    exact ⟨c, xs, rfl, hsl, hw⟩
/-- fields, one behind the other -/
def RFields : List (Nat × (World → List Value → Prop)) → World → List Value → Prop
  | [], _, cs => cs = []
  | (n, R) :: fs, w, cs => ∃ a b, cs = a ++ b ∧ a.length = n ∧ R w a ∧ RFields fs w b
inductive OFields (P : Program) : Nat → List Field → List TypeId → List (Nat × (World → List Value → Prop)) → Prop where
  | nil (o : Nat) : OFields P o [] [] []
  | cons {o n : Nat} {f : Field} {fs : List Field} {ts tt : List TypeId} {R : World → List Value → Prop} {rs : List (Nat × (World → List Value → Prop))} (ho : f.offset = o) (hc : P.cellsOf f.type = n) (hn : ts.length = n) (h : Opens P f.type ts R) (hr : OFields P (o + n) fs tt rs) :
      OFields P o (f :: fs) (ts ++ tt) ((n, R) :: rs)
theorem fields_go {H : Type} {enc : TypeId × Value → H} {W : World} {r : Reach} {b0 : Nat} : ∀ {fs : List Field} {o : Nat} {ts : List TypeId} {rs : List (Nat × (World → List Value → Prop))}, OFields P o fs ts rs → ∀ (cs : List Value) (xs : List (DataW H × List MemPlace)) (n : Nat),
    (∀ (i : Nat) (f : Field), fs[i]? = some f → DataW.trod enc P W 0 (fun _ => true) true n f.type ((cs.drop f.offset).take (P.cellsOf f.type)) = xs[i]?) → fs.length = xs.length → (∀ (i : Nat) (c : Value) (u : TypeId), (cs.drop o)[i]? = some c → ts[i]? = some u → Cell.okWide P W r b0 u c) →
    (∀ x ∈ xs, ∀ y ∈ x.2, y.block < W.heap.size) → (cs.drop o).length = ts.length → RFields rs W (cs.drop o)
  | _, _, _, _, .nil o, cs, xs, n, h1, hl, h2, h3, h4 => List.eq_nil_of_length_eq_zero (by simpa using h4)
  | _, o, _, _, .cons (n := m) (f := f) (fs := fs) (ts := ts) (tt := tt) ho hc hn h hr, cs, xs, n, h1, hl, h2, h3, h4 => by
    have h0 := h1 0 f rfl
    rw [ho, hc] at h0
    rw [List.length_append, hn] at h4
    have hdrop : cs.drop o = (cs.drop o).take m ++ cs.drop (o + m) := by
      have e := List.take_append_drop m (cs.drop o)
      rw [List.drop_drop] at e
      exact e.symm
    match xs, hl with
    | x0 :: xr, hl =>
      have hlen : ((cs.drop o).take m).length = m := by rw [List.length_take]; omega
      refine ⟨(cs.drop o).take m, cs.drop (o + m), hdrop, hlen, ?_, ?_⟩
      · refine h H enc W r b0 n _ x0 (by simpa using h0) (fun i c u hi hu => ?_) (fun y hy => h3 x0 (List.mem_cons_self ..) y hy) (by rw [hlen, hn])
        have hi' : i < m := by rw [← hlen]; exact (List.getElem?_eq_some_iff.1 hi).1
        refine h2 i c u ?_ ?_
        · rw [List.getElem?_take, if_pos hi'] at hi; exact hi
        · rw [List.getElem?_append_left (by omega)]; exact hu
      · refine fields_go (r := r) (b0 := b0) hr cs xr n (fun i f' hf => by simpa using h1 (i + 1) f' (by simpa using hf)) (by simpa using hl) (fun i c u hi hu => ?_) (fun x hx => h3 x (List.mem_cons_of_mem _ hx)) ?_
        · refine h2 (m + i) c u ?_ ?_
          · rw [hdrop, List.getElem?_append_right (by omega), hlen]; simpa using hi
          · rw [List.getElem?_append_right (by omega), hn]; simpa using hu
        · rw [List.length_drop] at h4 ⊢; omega
theorem Opens.struct {t : TypeId} {fs : Array Field} {ts : List TypeId} {rs : List (Nat × (World → List Value → Prop))} (ht : P.underlying t = some (.struct fs)) (hf : OFields P 0 fs.toList ts rs) : Opens P t ts (RFields rs) := by
  intro H enc W r b0 fuel cs x h h2 h3 hl
  obtain ⟨xs, n, _, rfl, _, hlen, hft⟩ := DataW.trod_struct ht h
  have := fields_go (H := H) (enc := enc) (W := W) (r := r) (b0 := b0) hf cs xs n (fun i f hi => hft i f (by simpa using hi)) (by simpa using hlen.symm) (by simpa using h2) (fun x hx y hy => h3 y (List.mem_flatMap.2 ⟨x, hx, hy⟩)) (by simpa using hl)
  simpa using this
/-- n elements of m cells each -/
def RArr (m : Nat) (R : World → List Value → Prop) : Nat → World → List Value → Prop
  | 0, _, cs => cs = []
  | n + 1, w, cs => ∃ a b, cs = a ++ b ∧ a.length = m ∧ R w a ∧ RArr m R n w b
theorem flat_len (ts : List TypeId) : ∀ n, (List.replicate n ts).flatten.length = n * ts.length
  | 0 => by simp
  | n + 1 => by rw [List.replicate_succ, List.flatten_cons, List.length_append, flat_len ts n, Nat.succ_mul]; omega
theorem arr_go {m : Nat} {e : TypeId} {ts : List TypeId} {R : World → List Value → Prop} (hc : P.cellsOf e = m) (hn : ts.length = m) (he : Opens P e ts R) {H : Type} {enc : TypeId × Value → H} {W : World} {r : Reach} {b0 f : Nat} {cs : List Value} (xs : List (DataW H × List MemPlace)) :
    ∀ (n o : Nat), (∀ i, i < n → DataW.trod enc P W 0 (fun _ => true) true f e ((cs.drop ((o + i) * m)).take m) = xs[o + i]?) → o + n = xs.length → (∀ (i : Nat) (c : Value) (u : TypeId), (cs.drop (o * m))[i]? = some c → (List.replicate n ts).flatten[i]? = some u → Cell.okWide P W r b0 u c) →
      (∀ x ∈ xs, ∀ y ∈ x.2, y.block < W.heap.size) → (cs.drop (o * m)).length = n * m → RArr m R n W (cs.drop (o * m))
  | 0, o, h1, hl, h2, h3, h4 => List.eq_nil_of_length_eq_zero (by simpa using h4)
  | n + 1, o, h1, hl, h2, h3, h4 => by
    have h0 := h1 0 (by omega)
    rw [Nat.add_zero] at h0
    have e1 : (o + 1) * m = o * m + m := by rw [Nat.succ_mul]
    have hdrop : cs.drop (o * m) = (cs.drop (o * m)).take m ++ cs.drop ((o + 1) * m) := by
      have e := List.take_append_drop m (cs.drop (o * m))
      rw [List.drop_drop] at e
      rw [e1]; exact e.symm
    rw [Nat.succ_mul] at h4
    have hlen : ((cs.drop (o * m)).take m).length = m := by rw [List.length_take]; omega
    have hox : o < xs.length := by omega
    rw [List.getElem?_eq_getElem hox] at h0
    refine ⟨_, _, hdrop, hlen, ?_, ?_⟩
    · refine he H enc W r b0 f _ _ h0 (fun i c u hi hu => ?_) (h3 _ (List.getElem_mem hox)) (by rw [hlen, hn])
      have hi' : i < m := by rw [← hlen]; exact (List.getElem?_eq_some_iff.1 hi).1
      refine h2 i c u ?_ ?_
      · rw [List.getElem?_take, if_pos hi'] at hi; exact hi
      · rw [List.replicate_succ, List.flatten_cons, List.getElem?_append_left (by omega)]; exact hu
    · refine arr_go (r := r) (b0 := b0) hc hn he xs n (o + 1) (fun i hi => by have := h1 (i + 1) (by omega); rw [show o + (i + 1) = o + 1 + i by omega] at this; exact this) (by omega) (fun i c u hi hu => ?_) h3 ?_
      · refine h2 (m + i) c u ?_ ?_
        · rw [hdrop, List.getElem?_append_right (by omega), hlen]; simpa using hi
        · rw [List.replicate_succ, List.flatten_cons, List.getElem?_append_right (by omega), hn]; simpa using hu
      · rw [List.length_drop] at h4 ⊢; omega
theorem Opens.array {t e : TypeId} {n m : Nat} {ts : List TypeId} {R : World → List Value → Prop} (ht : P.underlying t = some (.array n e)) (he : Opens P e ts R) (hc : P.cellsOf e = m) (hn : ts.length = m) : Opens P t (List.replicate n ts).flatten (RArr m R n) := by
  intro H enc W r b0 fuel cs x h h2 h3 hl
  obtain ⟨xs, f, _, rfl, hlc, hxs, hel⟩ := DataW.trod_array ht h
  rw [flat_len, hn] at hl
  have := arr_go (H := H) (enc := enc) (W := W) (r := r) (b0 := b0) (f := f) (cs := cs) hc hn he xs n 0 (fun i hi => by rw [Nat.zero_add]; have := hel i hi; rw [hc] at this; exact this) (by simpa using hxs.symm) (by simpa using h2) (fun x hx y hy => h3 y (List.mem_flatMap.2 ⟨x, hx, hy⟩)) (by simpa using hl)
  simpa using this
/-- arrays (of arrays, ..) of whole numbers of one kind: all at once -/
def RInts (k : IntKind) (n : Nat) (w : World) (cs : List Value) : Prop := ∃ xs : List Int, cs = xs.map (Value.int k) ∧ xs.length = n ∧ ∀ x ∈ xs, (Lit.int k x).wf = true
theorem Opens.flat {k : IntKind} {t : TypeId} {n : Nat} {ts : List TypeId} (ha : AllInts P k t n) : Opens P t ts (RInts k n) := by
  intro H enc W r b0 fuel cs x h _ _ _
  obtain ⟨hl, hall⟩ := ha H enc W 0 _ _ fuel _ _ h
  obtain ⟨xs, rfl, hw⟩ := ints_of _ hall
  exact ⟨xs, rfl, by simpa using hl, hw⟩

/-- The argument, opened: a row (struct or array). -/
theorem open_agg {t : TypeId} {ts : List TypeId} {R : World → List Value → Prop} (ho : Opens P t ts R) (hts : P.cellTypes P.depth t = some ts) {d0 : TypeDesc} (hu : P.underlying t = some d0) (hr : d0.isRow = true) (hc : P.cellsOf t = ts.length)
    {H : Type} {enc : TypeId × Value → H} {W : World} {r : Reach} {b0 : Nat} {v : Value} {d : DataW H} {p : List MemPlace}
    (hval : Value.okWide P W r b0 t v) (h : DataW.Trod enc P W 0 (fun _ => true) true t v d p) (hlt : ∀ x ∈ p, x.block < W.heap.size) : ∃ cs : List Value, v = .agg cs.toArray ∧ R W cs := by
  have hv : ∃ cs, v = .agg cs ∧ cs.size = P.cellsOf t ∧ Row.okWide P W r b0 t cs := by
    cases d0 <;> simp only [TypeDesc.isRow, Bool.false_eq_true] at hr <;> (simp only [Value.okWide, hu] at hval; exact hval)
  obtain ⟨cs, rfl, hsz, ts', hts', _, hcells⟩ := hv
  rw [hts] at hts'
  obtain rfl := Option.some.inj hts'
  obtain ⟨fuel, hf⟩ := h
  refine ⟨cs.toList, by simp, ho H enc W r b0 fuel cs.toList (d, p) hf (fun i c u hi hu => ?_) hlt (by simpa [hc] using hsz)⟩
  obtain ⟨u', hu', hok⟩ := hcells i c (by simpa using hi)
  have hil : i < ts.length := (List.getElem?_eq_some_iff.1 hu).1
  rw [Nat.mod_eq_of_lt hil, hu] at hu'
  obtain rfl := Option.some.inj hu'
  exact hok

/-! ### a start -/
/-- Cells that read as t, whatever the world; nothing in them has a weight. -/
def ZG (P : Program) (t : TypeId) (ts : List TypeId) (cs : List Value) (m : Nat) : Prop :=
  cs.length = ts.length ∧ (∀ (w : World) (base i : Nat) (c : Value) (u : TypeId), cs[i]? = some c → ts[i]? = some u → Cell.okWide P w .any base u c) ∧
  ∀ (H : Type) (enc : TypeId × Value → H) (w : World) (f : Nat), m ≤ f → ∃ d : DataW H, DataW.trod enc P w 0 (fun _ => true) true f t cs = some (d, []) ∧ d.weights P t = []
theorem ok1 {w : World} {base : Nat} {t u : TypeId} {c v : Value} {i : Nat} (h : Cell.okWide P w .any base t v) (h1 : [v][i]? = some c) (h2 : [t][i]? = some u) : Cell.okWide P w .any base u c := by
  cases i with
  | zero => simp at h1 h2; subst h1 h2; exact h
  | succ i => simp at h1
theorem ZG.int {k : IntKind} {t : TypeId} (ht : P.underlying t = some (.int k)) (hw : (Lit.int k 0).wf = true) : ZG P t [t] [.int k 0] 1 := by
  refine ⟨rfl, fun w base i c u h1 h2 => ok1 (by simp only [Cell.okWide, Cell.ok, ht]; exact ⟨trivial, has0 k⟩) h1 h2, fun H enc w f hf => ?_⟩
  obtain ⟨f, rfl⟩ : ∃ g, f = g + 1 := ⟨f - 1, by omega⟩
  exact ⟨.lit (.int k 0), by simp [DataW.trod, ht, hw], by simp [DataW.weights]⟩
theorem ZG.bool {t : TypeId} (ht : P.underlying t = some .bool) : ZG P t [t] [.bool false] 1 := by
  refine ⟨rfl, fun w base i c u h1 h2 => ok1 (by simp only [Cell.okWide, Cell.ok, ht]) h1 h2, fun H enc w f hf => ?_⟩
  obtain ⟨f, rfl⟩ : ∃ g, f = g + 1 := ⟨f - 1, by omega⟩
  exact ⟨.lit (.bool false), by simp [DataW.trod, ht], by simp [DataW.weights]⟩
theorem ZG.slice {t e : TypeId} (ht : P.underlying t = some (.slice e)) : ZG P t [t] [.slice none 0 0] 1 := by
  refine ⟨rfl, fun w base i c u h1 h2 => ok1 (by simp only [Cell.okWide, Cell.ok, ht]) h1 h2, fun H enc w f hf => ?_⟩
  obtain ⟨f, rfl⟩ : ∃ g, f = g + 1 := ⟨f - 1, by omega⟩
  exact ⟨.nil, by simp [DataW.trod, ht], by simp [DataW.weights]⟩
theorem ZG.flat {k : IntKind} {t e : TypeId} {N m : Nat} (hz : ZR P k t N m) (he : P.underlying e = some (.int k)) : ZG P t (List.replicate N e) ((List.replicate N (0 : Int)).map (Value.int k)) m := by
  refine ⟨by simp, fun w base i c u h1 h2 => ?_, fun H enc w f hf => ?_⟩
  · have hi : i < N := by simpa using (List.getElem?_eq_some_iff.1 h2).1
    obtain rfl : e = u := by simpa [hi] using h2
    obtain rfl : Value.int k 0 = c := by simpa [hi] using h1
    simp only [Cell.okWide, Cell.ok, he]
    exact ⟨trivial, has0 k⟩
  · obtain ⟨d, hd, hw⟩ := hz H enc w 0 (fun _ => true) true f hf
    exact ⟨d, by rw [List.map_replicate]; exact hd, hw⟩
inductive ZFields (P : Program) (m : Nat) : Nat → List Field → List TypeId → List Value → Prop where
  | nil (o : Nat) : ZFields P m o [] [] []
  | cons {o n : Nat} {f : Field} {fs : List Field} {ts tt : List TypeId} {cs cc : List Value} (ho : f.offset = o) (hc : P.cellsOf f.type = n) (hn : cs.length = n) (h : ZG P f.type ts cs m) (hr : ZFields P m (o + n) fs tt cc) : ZFields P m o (f :: fs) (ts ++ tt) (cs ++ cc)
theorem ok2 {w : World} {base : Nat} {ts tt : List TypeId} {cs cc : List Value} (hl : cs.length = ts.length) (h1 : ∀ (i : Nat) (c : Value) (u : TypeId), cs[i]? = some c → ts[i]? = some u → Cell.okWide P w .any base u c)
    (h2 : ∀ (i : Nat) (c : Value) (u : TypeId), cc[i]? = some c → tt[i]? = some u → Cell.okWide P w .any base u c) : ∀ (i : Nat) (c : Value) (u : TypeId), (cs ++ cc)[i]? = some c → (ts ++ tt)[i]? = some u → Cell.okWide P w .any base u c := by
  intro i c u hc hu
  by_cases hi : i < cs.length
  · rw [List.getElem?_append_left hi] at hc
    rw [List.getElem?_append_left (by omega)] at hu
    exact h1 i c u hc hu
  · rw [List.getElem?_append_right (by omega)] at hc
    rw [List.getElem?_append_right (by omega)] at hu
    exact h2 _ c u hc (by rw [hl]; exact hu)
theorem zfields_go {m : Nat} : ∀ {fs : List Field} {o : Nat} {ts : List TypeId} {cs : List Value}, ZFields P m o fs ts cs → cs.length = ts.length ∧ (∀ (w : World) (base i : Nat) (c : Value) (u : TypeId), cs[i]? = some c → ts[i]? = some u → Cell.okWide P w .any base u c) ∧
    ∀ (H : Type) (enc : TypeId × Value → H) (w : World) (f : Nat) (hd : List Value), m ≤ f → hd.length = o → ∃ dl : List (DataW H), fs.mapM (fun fl => DataW.trod enc P w 0 (fun _ => true) true f fl.type (((hd ++ cs).drop fl.offset).take (P.cellsOf fl.type))) = some (dl.map fun d => (d, [])) ∧ DataW.weightsEach P (fs.map (·.type)) dl = []
  | _, _, _, _, .nil o => ⟨rfl, fun w base i c u h1 => by simp at h1, fun H enc w f hd _ _ => ⟨[], rfl, by simp [DataW.weightsEach]⟩⟩
  | _, _, _, _, .cons (n := n) (f := fl) (fs := fs) (ts := ts) (cs := cs) (cc := cc) ho hc hn h hr => by
    obtain ⟨g1, g2, g3⟩ := zfields_go hr
    refine ⟨by rw [List.length_append, List.length_append, h.1, g1], fun w base => ok2 h.1 (h.2.1 w base) (g2 w base), fun H enc w f hd hf ho2 => ?_⟩
    obtain ⟨d, hd1, hw1⟩ := h.2.2 H enc w f hf
    obtain ⟨dl, hd2, hw2⟩ := g3 H enc w f (hd ++ cs) hf (by rw [List.length_append]; omega)
    refine ⟨d :: dl, ?_, ?_⟩
    · rw [List.mapM_cons]
      have e1 : (((hd ++ (cs ++ cc)).drop fl.offset).take (P.cellsOf fl.type)) = cs := by
        rw [ho, hc, List.drop_left' ho2, List.take_left' hn]
      rw [e1, hd1]
      rw [List.append_assoc] at hd2
      rw [hd2]
      rfl
    · rw [List.map_cons, DataW.weightsEach, hw1, hw2]; rfl
theorem ZG.struct {t : TypeId} {fs : Array Field} {ts : List TypeId} {cs : List Value} {m : Nat} (ht : P.underlying t = some (.struct fs)) (hc : P.cellsOf t = cs.length) (hf : ZFields P m 0 fs.toList ts cs) : ZG P t ts cs (m + 1) := by
  obtain ⟨g1, g2, g3⟩ := zfields_go hf
  refine ⟨g1, g2, fun H enc w f hm => ?_⟩
  obtain ⟨f, rfl⟩ : ∃ g, f = g + 1 := ⟨f - 1, by omega⟩
  obtain ⟨dl, h1, h2⟩ := g3 H enc w f [] (by omega) rfl
  refine ⟨.agg dl, ?_, ?_⟩
  · have := trod_struct_mk (enc := enc) (w := w) (base := 0) (spare := fun _ => true) (held := true) (n := f) (cs := cs) ht hc.symm (by simpa using h1)
    rw [this]
    have e1 : (dl.map fun d => (d, ([] : List MemPlace))).map (·.1) = dl := by rw [List.map_map]; exact List.map_id' dl
    have e2 : ∀ dl : List (DataW H), (dl.map fun d => (d, ([] : List MemPlace))).flatMap (·.2) = [] := fun dl => by
      induction dl with
      | nil => rfl
      | cons d dl ih => rw [List.map_cons, List.flatMap_cons, ih]; rfl
    rw [e1, e2]
  · rw [DataW.weights.eq_def]
    simp only [ht]
    exact h2
theorem ZG.array {t e : TypeId} {n m M : Nat} {ts : List TypeId} {cs : List Value} (ht : P.underlying t = some (.array n e)) (he : ZG P e ts cs m) (hc : P.cellsOf e = M) (hM : cs.length = M) (hN : P.cellsOf t = n * M) : ZG P t (List.replicate n ts).flatten (List.replicate n cs).flatten (m + 1) := by
  have hl : ∀ n, (List.replicate n cs).flatten.length = n * M := fun n => by
    induction n with
    | zero => simp
    | succ n ih => rw [List.replicate_succ, List.flatten_cons, List.length_append, ih, hM, Nat.succ_mul]; omega
  refine ⟨by rw [hl, flat_len, ← he.1, hM], fun w base => ?_, fun H enc w f hf => ?_⟩
  · have : ∀ n, ∀ (i : Nat) (c : Value) (u : TypeId), (List.replicate n cs).flatten[i]? = some c → (List.replicate n ts).flatten[i]? = some u → Cell.okWide P w .any base u c := fun n => by
      induction n with
      | zero => intro i c u h; simp at h
      | succ n ih => rw [List.replicate_succ, List.flatten_cons, List.replicate_succ, List.flatten_cons]; exact ok2 he.1 (he.2.1 w base) ih
    exact this n
  · obtain ⟨f, rfl⟩ : ∃ g, f = g + 1 := ⟨f - 1, by omega⟩
    obtain ⟨d, hd, hw⟩ := he.2.2 H enc w f (by omega)
    have hsub : ∀ n i, i < n → (((List.replicate n cs).flatten.drop (i * M)).take M) = cs := by
      intro n
      induction n with
      | zero => intro i hi; omega
      | succ n ih =>
        intro i hi
        rw [List.replicate_succ, List.flatten_cons]
        cases i with
        | zero => rw [Nat.zero_mul, List.drop_zero, List.take_left' hM]
        | succ i =>
          rw [Nat.succ_mul, Nat.add_comm, ← List.drop_drop, List.drop_left' hM]
          exact ih i (by omega)
    have hm := mapM_const (fun i => DataW.trod enc P w 0 (fun _ => true) true f e (((List.replicate n cs).flatten.drop (i * P.cellsOf e)).take (P.cellsOf e))) (d, []) (List.range n) (fun i hi => by
      rw [hc, hsub n i (List.mem_range.1 hi)]; exact hd)
    rw [List.length_range] at hm
    refine ⟨.agg (List.replicate n d), ?_, ?_⟩
    · rw [DataW.trod.eq_def]
      simp only [ht]
      rw [if_pos (by rw [hl, hN]), hm]
      simp only [Option.map_some, List.map_replicate, flatMap_const]
    · rw [DataW.weights.eq_def]
      simp only [ht]
      exact weightsAll_const e d hw n
theorem WOk.agg {t : TypeId} {ts : List TypeId} {cs : List Value} {m : Nat} (hz : ZG P t ts cs m) (hts : P.cellTypes P.depth t = some ts) {d0 : TypeDesc} (hu : P.underlying t = some d0) (hr : d0.isRow = true) (hc : P.cellsOf t = ts.length) : WOk P t (.agg cs.toArray) := by
  refine ⟨fun w base => ?_, fun H enc w => ?_⟩
  · have hrow : Row.okWide P w .any base t cs.toArray := by
      refine ⟨ts, hts, ⟨1, by simp [hz.1]⟩, fun i v hv => ?_⟩
      have hi : i < ts.length := by rw [← hz.1]; simpa using (Array.getElem?_eq_some_iff.1 hv).1
      refine ⟨ts[i], ?_, hz.2.1 w base i v _ (by simpa using hv) (List.getElem?_eq_getElem hi)⟩
      rw [Nat.mod_eq_of_lt hi, List.getElem?_eq_getElem hi]
    cases d0 <;> simp only [TypeDesc.isRow, Bool.false_eq_true] at hr <;> (simp only [Value.okWide, hu]; exact ⟨_, rfl, by simp [hc, hz.1], hrow⟩)
  · obtain ⟨d, hd, hwt⟩ := hz.2.2 H enc w m (Nat.le_refl _)
    exact ⟨d, ⟨m, by simpa [Value.cells] using hd⟩, hwt⟩
end
end Go.Proofs.Ytanggdnmoaflfaa

namespace Go.Proofs.Ytanggdnmoaflfaa
open Go.RowKit
set_option linter.unusedVariables false
set_option linter.unusedSimpArgs false
set_option maxRecDepth 100000

section
variable {P : Program}
def zipK (ks : List IntKind) (ns : List Int) : List Value := List.zipWith Value.int ks ns
def zipL (ks : List IntKind) (ns : List Int) : List Lit := List.zipWith Lit.int ks ns
def wfK (ks : List IntKind) (ns : List Int) : Prop := ∀ (i : Nat) (k : IntKind) (n : Int), ks[i]? = some k → ns[i]? = some n → (Lit.int k n).wf = true
/-- t's cells are whole numbers of these kinds. -/
def KT (P : Program) (t : TypeId) (ks : List IntKind) (D : Nat) : Prop := ∀ ns : List Int, ns.length = ks.length → wfK ks ns → P.keyLits D t (zipK ks ns) = some (zipL ks ns)
theorem zipK_len (ks : List IntKind) (ns : List Int) (h : ns.length = ks.length) : (zipK ks ns).length = ks.length := by simp [zipK, h]
theorem zipK_app (ks kt : List IntKind) (ns nt : List Int) (h : ns.length = ks.length) : zipK (ks ++ kt) (ns ++ nt) = zipK ks ns ++ zipK kt nt := List.zipWith_append h.symm
theorem zipL_app (ks kt : List IntKind) (ns nt : List Int) (h : ns.length = ks.length) : zipL (ks ++ kt) (ns ++ nt) = zipL ks ns ++ zipL kt nt := List.zipWith_append h.symm
theorem wfK_app {ks kt : List IntKind} {ns nt : List Int} (hl : ns.length = ks.length) (h : wfK (ks ++ kt) (ns ++ nt)) : wfK ks ns ∧ wfK kt nt := by
  refine ⟨fun i k n h1 h2 => h i k n ?_ ?_, fun i k n h1 h2 => h (ks.length + i) k n ?_ ?_⟩
  · rw [List.getElem?_append_left (List.getElem?_eq_some_iff.1 h1).1]; exact h1
  · rw [List.getElem?_append_left (List.getElem?_eq_some_iff.1 h2).1]; exact h2
  · rw [List.getElem?_append_right (by omega)]; simpa using h1
  · rw [List.getElem?_append_right (by omega), hl]; simpa using h2
theorem KT.int {k : IntKind} {t : TypeId} (ht : P.underlying t = some (.int k)) : KT P t [k] 1 := by
  intro ns hl hw
  match ns, hl with
  | [n], _ =>
    have := hw 0 k n rfl rfl
    simp [Program.keyLits, ht, zipK, zipL, this]
theorem keyLits_succ : ∀ (D : Nat) (t : TypeId) (cs : List Value) (l : List Lit), P.keyLits D t cs = some l → P.keyLits (D + 1) t cs = some l
  | 0, _, _, _, h => by simp [Program.keyLits] at h
  | D + 1, t, cs, l, h => by
    have hm : ∀ {α : Type} (f g : α → Option (List Lit)) (is : List α) (aa : List (List Lit)), (∀ x a, f x = some a → g x = some a) → is.mapM f = some aa → is.mapM g = some aa := by
      intro α f g is
      induction is with
      | nil => intro aa _ h; exact h
      | cons i is ih =>
        intro aa hfg h
        rw [List.mapM_cons] at h ⊢
        simp only [bind, Option.bind_eq_some_iff, pure, Option.some.injEq] at h ⊢
        obtain ⟨a, h1, b, h2, rfl⟩ := h
        exact ⟨a, hfg _ _ h1, b, ih _ hfg h2, rfl⟩
    rw [Program.keyLits.eq_def] at h ⊢
    simp only at h ⊢
    split at h <;> (try simp_all only [Option.some.injEq, reduceCtorEq])
    · split at h
      · rename_i hc
        rw [if_pos hc]
        simp only [Option.map_eq_some_iff] at h ⊢
        obtain ⟨aa, h1, h2⟩ := h
        exact ⟨aa, hm _ _ _ _ (fun x a hx => keyLits_succ D _ _ _ hx) h1, h2⟩
      · cases h
    · split at h
      · rename_i hc
        rw [if_pos hc]
        simp only [Option.map_eq_some_iff] at h ⊢
        obtain ⟨aa, h1, h2⟩ := h
        exact ⟨aa, hm _ _ _ _ (fun x a hx => keyLits_succ D _ _ _ hx) h1, h2⟩
      · cases h
theorem KT.up {t : TypeId} {ks : List IntKind} {D : Nat} (h : KT P t ks D) : ∀ m, KT P t ks (D + m)
  | 0 => h
  | m + 1 => fun ns hl hw => keyLits_succ _ _ _ _ (KT.up h m ns hl hw)
inductive KFields (P : Program) (D : Nat) : Nat → List Field → List IntKind → Prop where
  | nil (o : Nat) : KFields P D o [] []
  | cons {o n : Nat} {f : Field} {fs : List Field} {ks kt : List IntKind} (ho : f.offset = o) (hc : P.cellsOf f.type = n) (hn : ks.length = n) (h : KT P f.type ks D) (hr : KFields P D (o + n) fs kt) : KFields P D o (f :: fs) (ks ++ kt)
theorem kfields_go {D : Nat} : ∀ {fs : List Field} {o : Nat} {ks : List IntKind}, KFields P D o fs ks → ∀ (hd : List Value) (ns : List Int), hd.length = o → ns.length = ks.length → wfK ks ns →
    ∃ aa, fs.mapM (fun f => P.keyLits D f.type (((hd ++ zipK ks ns).drop f.offset).take (P.cellsOf f.type))) = some aa ∧ aa.flatten = zipL ks ns
  | _, _, _, .nil o, hd, ns, _, hl, _ => by
    obtain rfl : ns = [] := List.eq_nil_of_length_eq_zero (by simpa using hl)
    exact ⟨[], rfl, rfl⟩
  | _, _, _, .cons (n := n) (f := f) (fs := fs) (ks := ks) (kt := kt) ho hc hn h hr, hd, ns, hh, hl, hw => by
    rw [List.length_append] at hl
    have hs : ns = ns.take n ++ ns.drop n := (List.take_append_drop _ _).symm
    have hl1 : (ns.take n).length = ks.length := by rw [List.length_take]; omega
    have hl2 : (ns.drop n).length = kt.length := by rw [List.length_drop]; omega
    rw [hs] at hw ⊢
    obtain ⟨w1, w2⟩ := wfK_app hl1 hw
    rw [zipK_app _ _ _ _ hl1, zipL_app _ _ _ _ hl1]
    obtain ⟨aa, a1, a2⟩ := kfields_go hr (hd ++ zipK ks (ns.take n)) (ns.drop n) (by rw [List.length_append, zipK_len _ _ hl1]; omega) hl2 w2
    refine ⟨zipL ks (ns.take n) :: aa, ?_, by rw [List.flatten_cons, a2]⟩
    rw [List.mapM_cons]
    have e1 : (((hd ++ (zipK ks (ns.take n) ++ zipK kt (ns.drop n))).drop f.offset).take (P.cellsOf f.type)) = zipK ks (ns.take n) := by
      rw [ho, hc, List.drop_left' hh, List.take_left' (by rw [zipK_len _ _ hl1, hn])]
    rw [e1, h _ hl1 w1]
    rw [List.append_assoc] at a1
    rw [a1]
    rfl
theorem KT.struct {t : TypeId} {fs : Array Field} {ks : List IntKind} {D : Nat} (ht : P.underlying t = some (.struct fs)) (hc : P.cellsOf t = ks.length) (hn : fs.all (·.name != "_") = true) (hf : KFields P D 0 fs.toList ks) : KT P t ks (D + 1) := by
  intro ns hl hw
  obtain ⟨aa, h1, h2⟩ := kfields_go hf [] ns rfl hl hw
  rw [Program.keyLits.eq_def]
  simp only [ht]
  rw [if_pos ⟨by rw [zipK_len _ _ hl, hc], hn⟩]
  simp only [List.nil_append] at h1
  rw [h1, Option.map_some, h2]
theorem kflat_len (ks : List IntKind) : ∀ n, (List.replicate n ks).flatten.length = n * ks.length
  | 0 => by simp
  | n + 1 => by rw [List.replicate_succ, List.flatten_cons, List.length_append, kflat_len ks n, Nat.succ_mul]; omega
theorem karr_go {e : TypeId} {ks : List IntKind} {D M : Nat} (he : KT P e ks D) (hc : P.cellsOf e = M) (hM : ks.length = M) : ∀ (n o : Nat) (hd : List Value) (ns : List Int), hd.length = o * M → ns.length = n * M → wfK (List.replicate n ks).flatten ns →
    ∃ aa, (List.range' o n).mapM (fun i => P.keyLits D e (((hd ++ zipK (List.replicate n ks).flatten ns).drop (i * P.cellsOf e)).take (P.cellsOf e))) = some aa ∧ aa.flatten = zipL (List.replicate n ks).flatten ns
  | 0, o, hd, ns, _, hl, _ => by
    obtain rfl : ns = [] := List.eq_nil_of_length_eq_zero (by simpa using hl)
    exact ⟨[], rfl, rfl⟩
  | n + 1, o, hd, ns, hh, hl, hw => by
    rw [Nat.succ_mul] at hl
    have hs : ns = ns.take M ++ ns.drop M := (List.take_append_drop _ _).symm
    have hl1 : (ns.take M).length = ks.length := by rw [List.length_take]; omega
    have hl2 : (ns.drop M).length = n * M := by rw [List.length_drop]; omega
    rw [List.replicate_succ, List.flatten_cons] at hw ⊢
    rw [hs] at hw ⊢
    obtain ⟨w1, w2⟩ := wfK_app hl1 hw
    rw [zipK_app _ _ _ _ hl1, zipL_app _ _ _ _ hl1, List.range'_succ]
    have hz1 : (zipK ks (ns.take M)).length = M := by rw [zipK_len _ _ hl1, hM]
    obtain ⟨aa, a1, a2⟩ := karr_go he hc hM n (o + 1) (hd ++ zipK ks (ns.take M)) (ns.drop M) (by rw [List.length_append, hz1, hh, Nat.succ_mul]) hl2 w2
    refine ⟨zipL ks (ns.take M) :: aa, ?_, by rw [List.flatten_cons, a2]⟩
    rw [List.mapM_cons]
    have e1 : (((hd ++ (zipK ks (ns.take M) ++ zipK (List.replicate n ks).flatten (ns.drop M))).drop (o * P.cellsOf e)).take (P.cellsOf e)) = zipK ks (ns.take M) := by
      rw [hc, List.drop_left' hh, List.take_left' hz1]
    rw [e1, he _ hl1 w1]
    rw [List.append_assoc] at a1
    rw [a1]
    rfl
theorem KT.array {t e : TypeId} {n D M : Nat} {ks : List IntKind} (ht : P.underlying t = some (.array n e)) (he : KT P e ks D) (hc : P.cellsOf e = M) (hM : ks.length = M) (hN : P.cellsOf t = n * M) : KT P t (List.replicate n ks).flatten (D + 1) := by
  intro ns hl hw
  rw [kflat_len, hM] at hl
  obtain ⟨aa, h1, h2⟩ := karr_go he hc hM n 0 [] ns (by simp) hl hw
  rw [Program.keyLits.eq_def]
  simp only [ht]
  rw [if_pos (by rw [zipK_len _ _ (by rw [kflat_len, hM]; exact hl), kflat_len, hM, hN])]
  rw [List.range_eq_range']
  simp only [List.nil_append] at h1
  rw [h1, Option.map_some, h2]
theorem zipL_inj : ∀ (ks : List IntKind) (ns ms : List Int), ns.length = ks.length → ms.length = ks.length → (zipL ks ns = zipL ks ms ↔ ns = ms)
  | [], [], [], _, _ => by simp [zipL]
  | k :: ks, n :: ns, m :: ms, h1, h2 => by
    have := zipL_inj ks ns ms (by simpa using h1) (by simpa using h2)
    simp only [zipL] at this
    simp [zipL, this]
theorem run_eqK {t : TypeId} {ks : List IntKind} {D : Nat} (hk : KT P t ks D) (m : Nat) (hkt : P.keyTypeAt m t = true) (hm : m ≤ Op.maxDepth) {d0 : TypeDesc} (hu : P.underlying t = some d0) (hr : d0.isRow = true) (hcells : P.cellsOf t = ks.length) (w : World) (ns ms : List Int) (hn : ns.length = ks.length) (hms : ms.length = ks.length) (wn : wfK ks ns) (wm : wfK ks ms) :
    (Op.equal t (.agg (zipK ks ns).toArray) (.agg (zipK ks ms).toArray)).run P w = .ok (decide (ns = ms)) w := by
  have hform : ∀ cs : Array Value, cs.size = ks.length → Value.formed P t (.agg cs) = true := fun cs hc => by
    cases d0 <;> simp only [TypeDesc.isRow, Bool.false_eq_true] at hr <;> simp [Value.formed, hu, hc, hcells]
  obtain ⟨r, h1, h2⟩ := run_equalIn_deep (P := P) (Op.maxDepth - m) m t hkt w D D _ _ _ _ (hform (zipK ks ns).toArray (by simpa using zipK_len ks ns hn)) (hform (zipK ks ms).toArray (by simpa using zipK_len ks ms hms)) (by simpa [Value.cells] using hk ns hn wn) (by simpa [Value.cells] using hk ms hms wm)
  rw [show Op.maxDepth - m + m = Op.maxDepth by omega] at h1
  unfold Op.equal
  rw [h1]
  congr 1
  rw [zipL_inj ks ns ms hn hms] at h2
  cases r
  · symm; exact decide_eq_false fun e => by have := h2.2 e; cases this
  · symm; exact decide_eq_true (h2.1 rfl)
theorem Val.eqK {a : Act} {o : Oper} {w : World} (b : BinOp) (t ty : TypeId) (x y : Operand) (ho : o.op = .binOp b t x y ty) {ks : List IntKind} {D : Nat} (hk : KT P t ks D) (m : Nat) (hkt : P.keyTypeAt m t = true) (hm : m ≤ Op.maxDepth) {d0 : TypeDesc} (hu : P.underlying t = some d0) (hr : d0.isRow = true)
    (hcells : P.cellsOf t = ks.length) (hgt : P.eqGuardType P.depth t = false) (ns ms : List Int) (hx : a.eval x = .agg (zipK ks ns).toArray) (hy : a.eval y = .agg (zipK ks ms).toArray) (hn : ns.length = ks.length) (hms : ms.length = ks.length) (wn : wfK ks ns) (wm : wfK ks ms)
    (hb : b = .eql ∨ b = .neq) (r : Bool) (hrr : (if b = .eql then decide (ns = ms) else !decide (ns = ms)) = r) : Val P a o (.bool r) w := by
  have hq := run_eqK hk m hkt hm hu hr hcells w ns ms hn hms wn wm
  subst hrr
  refine Val.bin b t ty x y ho _ _ hx hy ?_ ?_
  · rcases hb with rfl | rfl <;> simp [eqGuard, hgt]
  · rcases hb with rfl | rfl <;> simp [binOp, hq]
theorem wfK_cons {k : IntKind} {ks : List IntKind} {n : Int} {ns : List Int} (h : (Lit.int k n).wf = true) (ht : wfK ks ns) : wfK (k :: ks) (n :: ns) := by
  intro i k' x h1 h2
  cases i with
  | zero => simp at h1 h2; subst h1 h2; exact h
  | succ i => exact ht i k' x (by simpa using h1) (by simpa using h2)
theorem wfK_nil : wfK [] [] := fun i k n h => by simp at h
/-- bytes as a string -/
theorem Val.str {a : Act} {o : Oper} {w : World} (src dst e : TypeId) (x : Operand) (ho : o.op = .convert src dst x) (hs : P.underlying src = some (.slice e)) (he : P.underlying e = some (.int .u8)) (hd : P.underlying dst = some .string) (v : Value) (xs : List Int) (hx : a.eval x = v) (h : SL .u8 w v xs) : Val P a o (.string (strOf xs)) w := by
  unfold Val execOp
  simp only [ho, hx, Sem.run_bind, conv_SL hs he hd h, Result.andThen_ok, Sem.run_pure]
theorem Val.eqStr {a : Act} {o : Oper} {w : World} (b : BinOp) (t ty : TypeId) (x y : Operand) (ho : o.op = .binOp b t x y ty) (xs ys : List Int) (hx : a.eval x = .string (strOf xs)) (hy : a.eval y = .string (strOf ys)) (bx : Bytes xs) (byy : Bytes ys)
    (hb : b = .eql ∨ b = .neq) (r : Bool) (hr : (if b = .eql then decide (xs = ys) else !decide (xs = ys)) = r) : Val P a o (.bool r) w := by
  have hq := strOf_eq bx byy
  subst hr
  refine Val.bin b t ty x y ho _ _ hx hy ?_ ?_
  · rcases hb with rfl | rfl <;> simp [eqGuard]
  · rcases hb with rfl | rfl <;> simp [binOp, Op.stringOp, hq, bne]
end
end Go.Proofs.Ytanggdnmoaflfaa

namespace Go.Proofs.Ytanggdnmoaflfaa
open Go.RowKit
set_option linter.unusedVariables false
set_option linter.unusedSimpArgs false
set_option maxRecDepth 100000

/-- Naturals as whole numbers. -/
def nn (ns : List Nat) : List Int := ns.map (fun (n : Nat) => (n : Int))
theorem nn_len (ns : List Nat) : (nn ns).length = ns.length := by simp [nn]
theorem nn_getD (ns : List Nat) (j : Nat) : (nn ns).getD j 0 = ((ns.getD j 0 : Nat) : Int) := by
  simp only [nn, List.getD_eq_getElem?_getD, List.getElem?_map]
  cases ns[j]? <;> rfl
theorem nn_set (ns : List Nat) (j n : Nat) : (nn ns).set j (n : Int) = nn (ns.set j n) := by simp [nn, List.map_set]
theorem nn_inj {a b : List Nat} (h : nn a = nn b) : a = b := by
  induction a generalizing b with
  | nil => cases b <;> simp [nn] at h ⊢
  | cons x a ih => cases b with
    | nil => simp [nn] at h
    | cons y b =>
      simp only [nn, List.map_cons, List.cons.injEq] at h
      have h1 : x = y := by omega
      rw [h1, ih h.2]
theorem nn_rep (n : Nat) : nn (List.replicate n 0) = List.replicate n 0 := by simp [nn]
theorem nn_toNat {xs : List Int} (h : ∀ x ∈ xs, 0 ≤ x) : nn (xs.map Int.toNat) = xs := by
  induction xs with
  | nil => rfl
  | cons x xs ih =>
    have := ih fun y hy => h y (List.mem_cons_of_mem _ hy)
    have hx := h x (List.mem_cons_self ..)
    simp only [nn, List.map_cons] at this ⊢
    rw [this, Int.toNat_of_nonneg hx]

section
variable {P : Program} {w : World}
theorem wrapU (k : IntKind) (hs : k.signed = false) (n : Nat) : k.wrap (n : Int) = ((n % 2 ^ k.bits : Nat) : Int) := by
  have e : ((2 : Int) ^ k.bits) = ((2 ^ k.bits : Nat) : Int) := by simp
  simp only [IntKind.wrap, hs, e]
  simp
theorem Val.bin' {a : Act} {o : Oper} (b : BinOp) (t ty : TypeId) (x y : Operand) (ho : o.op = .binOp b t x y ty) {k k' : IntKind} {p q : Int} {v : Value} (hx : a.eval x = .int k p) (hy : a.eval y = .int k' q) (hrun : (binOp b t (.int k p) (.int k' q)).run P w = .ok v w) : Val P a o v w :=
  Val.bin b t ty x y ho _ _ hx hy (guard_int p q) hrun
theorem ofInt_nat (b n : Nat) : BitVec.ofInt b (n : Int) = BitVec.ofNat b n := by simp
theorem Val.xorN {a : Act} {o : Oper} (t ty : TypeId) (x y : Operand) (ho : o.op = .binOp .xor t x y ty) (k : IntKind) (p q m : Nat) (hx : a.eval x = .int k (p : Int)) (hy : a.eval y = .int k (q : Int)) (hs : k.signed = false := by rfl) (hm : 2 ^ k.bits = m := by kernel_rfl) : Val P a o (.int k (((p ^^^ q) % m : Nat) : Int)) w := by
  refine Val.bin' .xor t ty x y ho hx hy ?_
  subst hm
  simp only [binOp, Op.intBits, ne_eq, not_true_eq_false, if_false, ofInt_nat, wrapU k hs, Sem.run_pure]
  congr 2
  rw [BitVec.toNat_xor, BitVec.toNat_ofNat, BitVec.toNat_ofNat, ← Nat.xor_mod_two_pow, Nat.mod_mod]
theorem Val.remN {a : Act} {o : Oper} (t ty : TypeId) (x y : Operand) (ho : o.op = .binOp .rem t x y ty) (k : IntKind) (p q : Nat) (hx : a.eval x = .int k (p : Int)) (hy : a.eval y = .int k (q : Int)) (hq : 0 < q) : Val P a o (.int k ((p % q : Nat) : Int)) w := by
  refine Val.bin' .rem t ty x y ho hx hy ?_
  have h0 : ¬ (q : Int) = 0 := by omega
  have e : (p : Int).tmod q = ((p % q : Nat) : Int) := by rw [Int.tmod_eq_emod_of_nonneg (by omega)]; rfl
  simp only [binOp, ne_eq, not_true_eq_false, if_false, Op.intDiv, h0, e, Sem.run_pure]
theorem Val.as {a : Act} {o : Oper} {v u : Value} (h : Val P a o v w) (e : v = u) : Val P a o u w := e ▸ h
theorem Val.nldE {a : Act} {op : Oper} (ty : TypeId) (x : Operand) (ho : op.op = .load ty x) (v : Value) (j : Nat) (hx : a.eval x = elemP v j) (hagg : ∀ w, (isAgg ty).run P w = .ok false w) {k : IntKind} {ns : List Nat} (hs : SL k w v (nn ns)) (hj : j < ns.length) : Val P a op (.int k ((ns.getD j 0 : Nat) : Int)) w := by
  have := Val.ldE (P := P) ty x ho v j hx hagg hs (by rw [nn_len]; exact hj)
  rwa [nn_getD] at this
end
end Go.Proofs.Ytanggdnmoaflfaa

namespace Go.Proofs.Ytanggdnmoaflfaa
open Go.RowKit
set_option linter.unusedVariables false
set_option linter.unusedSimpArgs false
set_option maxRecDepth 100000

section
variable {P : Program} {ops : Array Oper} {Q : Exit → Act → World → Prop} {l : List Value} {ds : List Deferred} {w : World} {oi : Oper} {rest : List Oper}
theorem Own.ofNw {w w' : World} {e : TypeId} {k : IntKind} {base : Nat} {xs : List Int} (h : Nw w w' e (nums k xs)) (hb : base ≤ w.heap.size) (hm : xs.length ≤ maxLen) : Own e k base w' (.slice (some ⟨w.heap.size, 0, none⟩) xs.length xs.length) xs :=
  ⟨by simp [nums], .inr ⟨w.heap.size, xs.length, _, rfl, hb, h.c, Nat.le_refl _, hm, by simp [nums], by simpa [nums] using List.take_of_length_le (by simp)⟩⟩
theorem Val.lenS {a : Act} {op : Oper} {w : World} (x : Operand) (tx : TypeId) (ho : op.op = .call { callee := .builtin .len, args := #[x], argTypes := #[tx] }) {v : Value} {k : IntKind} {xs : List Int} (hx : a.eval x = v) (h : SL k w v xs) (m : Nat) (hm : xs.length = m) {te : TypeId} (ht : P.underlying tx = some (.slice te)) : Val P a op (.int .i64 (m : Int)) w := by
  obtain ⟨b, c, rfl, _⟩ := h.len
  subst hm
  unfold Val
  simp only [execOp, ho]
  simp [resolve, invoke, builtin, hx, Builtin.len_, run_underlying ht, goInt]
end
end Go.Proofs.Ytanggdnmoaflfaa

namespace Go.Proofs.Ytanggdnmoaflfaa
open Go.RowKit
set_option linter.unusedVariables false
set_option linter.unusedSimpArgs false
section
variable {P : Program}
end
end Go.Proofs.Ytanggdnmoaflfaa

namespace Go.Proofs.Ytanggdnmoaflfaa
open Go.RowKit
set_option linter.unusedVariables false
set_option linter.unusedSimpArgs false
theorem wf_nonneg {k : IntKind} (hk : k.signed = false) {x : Int} (h : (Lit.int k x).wf = true) : 0 ≤ x := by
  cases k <;> first | (cases hk; done) | (simp [Lit.wf, IntKind.min, IntKind.signed] at h; omega)
theorem nn_of {xs : List Int} (h : ∀ x ∈ xs, 0 ≤ x) : ∃ ns, xs = nn ns ∧ ns.length = xs.length := ⟨xs.map Int.toNat, (nn_toNat h).symm, by simp⟩
theorem RInts.nn {k : IntKind} {n : Nat} {w : World} {cs : List Value} (hk : k.signed = false) (h : RInts k n w cs) : ∃ ns : List Nat, ns.length = n ∧ Value.agg cs.toArray = .agg (cellsOf k (nn ns)) := by
  obtain ⟨xs, rfl, hl, hw⟩ := h
  obtain ⟨ns, rfl, hn⟩ := nn_of fun x hx => wf_nonneg hk (hw x hx)
  exact ⟨ns, by omega, rfl⟩
end Go.Proofs.Ytanggdnmoaflfaa

namespace Go.Proofs.Ytanggdnmoaflfaa
open Go.RowKit
set_option maxRecDepth 100000
set_option linter.unusedVariables false
end Go.Proofs.Ytanggdnmoaflfaa

namespace Go.Proofs.Ytanggdnmoaflfaa
open Go.RowKit
set_option linter.unusedVariables false
set_option linter.unusedSimpArgs false
set_option maxRecDepth 100000

section
variable {P : Program} {ops : Array Oper} {Q : Exit → Act → World → Prop} {l : List Value} {ds : List Deferred} {w : World} {oi : Oper} {rest : List Oper}
theorem xMakeN (d : Nat) (x y : Operand) (t e : TypeId) (k : IntKind) (bytes : Nat) (ho : oi.op = .makeSlice t x y)
    (ht : P.underlying t = some (.slice e)) (hinfo : (P.info? e).map (fun i => (i.zero, i.size, i.bytes)) = some (some (.int k 0), 1, bytes))
    (c : Nat) (hx : (⟨l.toArray, ds⟩ : Act).eval x = .int .i64 (c : Int)) (hy : (⟨l.toArray, ds⟩ : Act).eval y = .int .i64 (c : Int)) (hmx : c ≤ maxLen) (h48 : bytes * c ≤ 281474976710656)
    (h : ∀ w', Nw w w' e ((List.replicate c (0 : Int)).map (Value.int k)) → wpList P ops Q rest ⟨(l.set d (.slice (some ⟨w.heap.size, 0, none⟩) c c)).toArray, ds⟩ w')
    (hw : Region.wanted oi (yielded ops l.toArray) = true := by kernel_rfl) (hd : oi.dst = some d := by rfl) : wpList P ops Q (oi :: rest) ⟨l.toArray, ds⟩ w := by
  obtain ⟨i, hi, hz0, hz1, hz2⟩ := info_parts hinfo
  have h63 : (c : Int) ≤ 9223372036854775807 := by unfold maxLen at hmx; omega
  have hb2 : (i.bytes : Int) * (c : Int) ≤ 281474976710656 := by
    have : ((bytes * c : Nat) : Int) ≤ 281474976710656 := by omega
    rw [hz2]; rwa [Int.natCast_mul] at this
  have hr := run_make (P := P) w t e i (.int k 0) ht hi hz0 .i64 .i64 c c (by omega) (Int.le_refl _) hb2 h63
  simp only [Int.toNat_natCast, hz1, Nat.mul_one] at hr
  have hm : madeCells (Value.int k 0).cells c = ((List.replicate c (0 : Int)).map (Value.int k)).toArray := by
    have := toList_madeCells_one (.int k 0) c
    rw [show (Value.int k 0).cells = #[.int k 0] from rfl]
    apply Array.toList_inj.1
    rw [this]; simp
  rw [hm] at hr
  refine wpList_wanted hw fun K hK => ?_
  unfold Oper.wp
  simp only [execOp, ho, hx, hy, Sem.run_bind, hr, Result.andThen_ok, Sem.run_pure]
  rw [Oper.upon_value, put_list' d _ hd]
  exact hK _ _ (h _ (Nw.of w e _))
end
end Go.Proofs.Ytanggdnmoaflfaa

namespace Go.Proofs.Ytanggdnmoaflfaa
open Go.RowKit
set_option linter.unusedVariables false
set_option linter.unusedSimpArgs false
set_option maxRecDepth 100000

section
variable {P : Program} {ops : Array Oper} {Q : Exit → Act → World → Prop} {l : List Value} {ds : List Deferred} {w : World} {oi : Oper} {rest : List Oper}
end
end Go.Proofs.Ytanggdnmoaflfaa

namespace Go.Proofs.Ytanggdnmoaflfaa
open Go.RowKit
set_option linter.unusedVariables false
set_option linter.unusedSimpArgs false
set_option maxRecDepth 100000

section
variable {P : Program} {ops : Array Oper} {Q : Exit → Act → World → Prop} {l : List Value} {ds : List Deferred} {w : World} {oi : Oper} {rest : List Oper}
theorem run_mark (t e : TypeId) (g n c : Nat) (C : Array Value) (ht : P.underlying t = some (.slice e)) (he : P.underlying e = some (.int .u8)) (hg : w.heap[g]? = some (.cells C e (0, 0))) :
    (convert t t (.slice (some ⟨g, 0, none⟩) n c)).run P w = .ok (.slice (some ⟨g, 0, none⟩) n c) { w with heap := w.heap.modify g fun _ => .cells C e (C.size, C.size + 1) } := by
  have hlt : g < w.heap.size := (Array.getElem?_eq_some_iff.1 hg).1
  have hsh : w.shape? g = some (e, C.size) := by unfold World.shape?; rw [hg]
  have hfr : w.freeze ⟨g, C.size, none⟩ 1 = { w with heap := w.heap.modify g fun _ => .cells C e (C.size, C.size + 1) } := by
    unfold World.freeze
    rw [if_neg (by decide)]
    congr 1
    apply Array.ext
    · simp
    · intro i h1 h2
      simp only [Array.getElem_modify]
      by_cases h : g = i
      · subst h
        have := (Array.getElem?_eq_some_iff.1 hg).2
        simp [this]
      · simp [h]
  simp [convert, run_underlying ht, run_underlying he, markStringish, hsh]
  exact hfr
theorem xMark (d : Nat) (t e : TypeId) (x : Operand) (ho : oi.op = .convert t t x) (ht : P.underlying t = some (.slice e)) (he : P.underlying e = some (.int .u8))
    (g n : Nat) (xs : List Int) (hx : (⟨l.toArray, ds⟩ : Act).eval x = .slice (some ⟨g, 0, none⟩) n n) (hB : Blk .u8 w g e xs) (hn : xs.length = n) (hm : n ≤ maxLen)
    (h : ∀ w', SL .u8 w' (.slice (some ⟨g, 0, none⟩) n n) xs → Ev (fun i => i = g) w w' → w'.heap.size = w.heap.size → wpList P ops Q rest ⟨(l.set d (.slice (some ⟨g, 0, none⟩) n n)).toArray, ds⟩ w')
    (hw : Region.wanted oi (yielded ops l.toArray) = true := by kernel_rfl) (hd : oi.dst = some d := by rfl) : wpList P ops Q (oi :: rest) ⟨l.toArray, ds⟩ w := by
  subst hn
  refine wpList_wanted hw fun K hK => ?_
  have hrun := run_mark (P := P) (w := w) t e g xs.length xs.length (cellsOf .u8 xs) ht he hB
  unfold Oper.wp
  simp only [execOp, ho, hx, Sem.run_bind, hrun, Result.andThen_ok, Sem.run_pure]
  rw [Oper.upon_value, put_list' d _ hd]
  have hlt : g < w.heap.size := (Array.getElem?_eq_some_iff.1 hB).1
  refine hK _ _ (h _ ?_ ⟨rfl, rfl, rfl, by simp, fun i hi hn => ?_⟩ (by simp))
  · refine .inr ⟨g, 0, _, rfl, Nat.le_refl _, hm, by simpa using hlt, fun j hj => ?_⟩
    rw [Nat.zero_add]
    unfold World.cell?
    have : (w.heap.modify g fun _ => Obj.cells (cellsOf .u8 xs) e ((cellsOf .u8 xs).size, (cellsOf .u8 xs).size + 1))[g]? = some (.cells (cellsOf .u8 xs) e ((cellsOf .u8 xs).size, (cellsOf .u8 xs).size + 1)) := by
      simp [Array.getElem?_modify, hlt, Array.getElem_modify]
    simp only [this]
    exact cells_at .u8 xs j hj
  · have hne : ¬ g = i := fun e => hn e.symm
    simp [Array.getElem?_modify, hne]
end
end Go.Proofs.Ytanggdnmoaflfaa

namespace Go.Proofs.Ytanggdnmoaflfaa
open Go.RowKit
set_option linter.unusedVariables false
set_option linter.unusedSimpArgs false
set_option maxRecDepth 100000

section
variable {P : Program} {ops : Array Oper} {Q : Exit → Act → World → Prop} {l : List Value} {ds : List Deferred} {w : World} {oi : Oper} {rest : List Oper}
end
end Go.Proofs.Ytanggdnmoaflfaa
