/-
  A row of slices that grows by two at a time.
  No conditions: lemmas over any program.
-/
import Derived.Test.YtanggdnmoaflfaaPk1
namespace Go.Proofs.Ytanggdnmoaflfaa
open Go.RowKit
set_option linter.unusedVariables false
set_option linter.unusedSimpArgs false
set_option maxRecDepth 100000

section
variable {P : Program} {w : World} {ops : Array Oper} {rest : List Oper} {o : Oper} {a : Act} {Q : Exit → Act → World → Prop}
end
theorem OwnV.ev {X : Nat → Prop} {e : TypeId} {base : Nat} {w w' : World} {v : Value} {us : List Value} (h : OwnV e base w v us) (ev : Ev X w w') (hn : ∀ g, v.ownBlock = some g → ¬ X g) : OwnV e base w' v us := by
  refine ⟨h.1, ?_⟩
  rcases h.2 with hn' | ⟨g, cap, cur, rfl, hb, hgg, rest⟩
  · exact .inl hn'
  · exact .inr ⟨g, cap, cur, rfl, hb, (ev.block g (Array.getElem?_eq_some_iff.1 hgg).1 (hn g rfl)).trans hgg, rest⟩
theorem SLs.evX {B : Nat} {w w' : World} {X : Nat → Prop} (e : Ev X w w') : ∀ {us : List Value} {ys : List (List Int)}, (∀ u ∈ us, ∀ g, u.ownBlock = some g → ¬ X g) → SLs .u8 B w us ys → SLs .u8 B w' us ys
  | [], [], _, _ => trivial
  | [], _ :: _, _, h => h.elim
  | _ :: _, [], _, h => h.elim
  | u :: us, y :: ys, hn, h => ⟨⟨h.1.1.ev e (hn u (List.mem_cons_self ..)), h.1.2⟩, SLs.evX e (fun x hx => hn x (List.mem_cons_of_mem _ hx)) h.2⟩
theorem SLs.ltAll {B : Nat} {w : World} : ∀ {us : List Value} {ys : List (List Int)}, SLs .u8 B w us ys → ∀ u ∈ us, ∀ g, u.ownBlock = some g → g < B
  | [], [], _, u, hu => by cases hu
  | [], _ :: _, h, _, _ => h.elim
  | _ :: _, [], h, _, _ => h.elim
  | x :: us, y :: ys, h, u, hu => by
    rcases List.mem_cons.1 hu with rfl | hu
    · exact h.1.2
    · exact SLs.ltAll h.2 u hu
/-- A row of slices of the call's own; what they hold lies elsewhere. -/
structure RowsB (e : TypeId) (B base : Nat) (w : World) (v : Value) (us : List Value) (ys : List (List Int)) : Prop where
  own : OwnV e base w v us
  sls : SLs .u8 B w us ys
  sep : ∀ x ∈ us, ∀ g, x.ownBlock = some g → v.ownBlock ≠ some g
  lt : ∀ g, v.ownBlock = some g → base ≤ g ∧ g < B
  le : B ≤ w.heap.size
theorem RowsB.nil (e : TypeId) (base : Nat) (w : World) : RowsB e w.heap.size base w (.slice none 0 0) [] [] :=
  ⟨OwnV.nil _ _ _, trivial, (fun x hx => by cases hx), (fun g hg => by cases hg), Nat.le_refl _⟩
theorem RowsB.ev {e : TypeId} {B base : Nat} {w w' : World} {v : Value} {us : List Value} {ys : List (List Int)} {X : Nat → Prop} (h : RowsB e B base w v us ys) (ev : Ev X w w') (hX : ∀ i, i < B → ¬ X i) : RowsB e B base w' v us ys :=
  ⟨h.own.ev ev fun g hg => hX g (h.lt g hg).2, SLs.evX ev (fun u hu g hg => hX g (SLs.ltAll h.sls u hu g hg)) h.sls, h.sep, h.lt, Nat.le_trans h.le ev.size⟩
theorem RowsB.e0 {e : TypeId} {B base : Nat} {w w' : World} {v : Value} {us : List Value} {ys : List (List Int)} (h : RowsB e B base w v us ys) (ev : E0 w w') : RowsB e B base w' v us ys := h.ev ev fun _ _ x => x
section
variable {P : Program} {ops : Array Oper} {Q : Exit → Act → World → Prop} {l : List Value} {ds : List Deferred} {w : World} {oi : Oper} {rest : List Oper}
end
end Go.Proofs.Ytanggdnmoaflfaa
