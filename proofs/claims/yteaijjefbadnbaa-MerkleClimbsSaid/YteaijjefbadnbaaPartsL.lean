/-
  A row of slices that grows by two at a time.
  No conditions: lemmas over any program.
-/
import Derived.Test.YteaijjefbadnbaaCtl
import Derived.Test.YteaijjefbadnbaaStepZ
namespace Go.Proofs.Yteaijjefbadnbaa
open Go.RowKit
set_option linter.unusedVariables false
set_option linter.unusedSimpArgs false
set_option maxRecDepth 100000

section
variable {P : Program} {w : World} {ops : Array Oper} {rest : List Oper} {o : Oper} {a : Act} {Q : Exit → Act → World → Prop}
/-- 'append(s, x...)' of values: told exactly. -/
theorem app_mutV (hgd : o.guard = none) (s x : Operand) (t e : TypeId) (z : Value) (bytes : Nat)
    (ho : o.op = .call { callee := .builtin .append, args := #[s, x], argTypes := #[t, t] })
    (ht : P.underlying t = some (.slice e)) (hinfo : (P.info? e).map (fun i => (i.zero, i.size, i.bytes)) = some (some z, 1, bytes)) (hzc : z.cells.size = 1)
    (base : Nat) (v : Value) (us : List Value) (hs : a.eval s = v) (hown : OwnV e base w v us)
    (u : Value) (ys : List Value) (hx : a.eval x = u) (hu : SV w u ys) (hone : ∀ y ∈ ys, y.oneCell' = true)
    (h47 : (us.length + ys.length) * bytes ≤ 140737488355328) (h63 : us.length + ys.length ≤ maxLen) (hbase : base ≤ w.heap.size)
    (h : ∀ v' w', OwnV e base w' v' (us ++ ys) → Mut w w' v v' → wpList P ops Q rest (a.put o.dst v') w') :
    wpList P ops Q (o :: rest) a w := by
  obtain ⟨i, hi, hz0, hz1, hz2⟩ := info_parts hinfo
  rcases hu with ⟨hv, hy⟩ | ⟨b, of, c, hv, h1, h2, h3, h4⟩
  · subst hy
    exact wpList_append_own_none hgd s x t ho base e i 1 ht hi v us.length us hs hown (hx.trans hv) (h v w (by simpa using hown) (Mut.refl _ _))
  · have hcells : ∀ j u, ys[j]? = some u → w.cell? ((⟨b, of, none⟩ : Addr).add j) = some u := by
      intro j u hj
      have hlt : j < ys.length := (List.getElem?_eq_some_iff.1 hj).1
      rw [Addr.add_lit, h4 j hlt, ← hj]
      simp [hlt]
    have hm := hown
    obtain ⟨hl, hcase⟩ := hm
    rcases hcase with ⟨hvn, h0⟩ | ⟨g, cap, cur, hvs, hg, hh, q1, q2, q3, q4⟩
    · by_cases hy0 : ys.length = 0
      · refine wpList_append_own w hgd s x t ho base e i z 1 bytes ht hi hz0 hz1 hz2 hzc (by decide) v us.length us hs hown
          ⟨b, of, none⟩ ys.length c ys (hx.trans hv) (by simp) hcells hone h63 h47 hbase ?_
        intro v' w' hown' hg hiff
        have hown2 : OwnV e base w' v' (us ++ ys) := by unfold OwnV; rw [List.length_append]; exact hown'
        exact h v' w' hown2 ⟨hg, .inl (by rw [hiff.2 ⟨hvn, hy0⟩, hvn])⟩
      · refine wpList_append_grows w hgd s x t ho e i z 1 bytes ht hi hz0 hz1 hz2 hzc (by decide) none 0 0 [] (hs.trans hvn) (fun _ => ⟨rfl, rfl⟩) (by simp) (fun b hb => by cases hb)
          ⟨b, of, none⟩ ys.length c ys (hx.trans hv) (by simp) hcells hone (by omega) (by omega) (by rw [h0] at h47; exact h47) ?_
        intro v' w' hown' hg'
        have hx0 : us = [] := List.eq_nil_of_length_eq_zero h0
        subst hx0
        rw [Nat.zero_add, List.nil_append] at hown'
        have hown2 : OwnV e w.heap.size w' v' ys := hown'
        refine h v' w' (by rw [List.nil_append]; exact hown2.mono hbase) ⟨⟨hg'.os, hg'.tape, hg'.output, hg'.size, fun i hi _ => hg'.block i hi (by simp)⟩, .inr fun g hg => (World.ownsRow.lt hown2 g hg).1⟩
    · by_cases hfit : us.length + ys.length ≤ cap
      · refine wpList_append_fits w hgd s x t ho base e i 1 ht hi hz1 g us.length cap us (hs.trans hvs) (hvs ▸ hown) ⟨b, of, none⟩ ys.length c ys (hx.trans hv) (by simp) hcells hone hfit ?_
        intro w' hown' hg'
        subst hvs
        refine h _ w' ?_ ⟨hg', .inl rfl⟩
        unfold OwnV; rw [List.length_append]; exact hown'
      · refine wpList_append_grows w hgd s x t ho e i z 1 bytes ht hi hz0 hz1 hz2 hzc (by decide) (some ⟨g, 0, none⟩) us.length cap us (hs.trans hvs) (fun hn => by cases hn) (by simp) ?_
          ⟨b, of, none⟩ ys.length c ys (hx.trans hv) (by simp) hcells hone (by omega) h63 h47 ?_
        · intro b' hb' j u hj
          obtain rfl := Option.some.inj hb'
          exact World.ownsRow.cells hown (by rw [hvs]; rfl) j u hj
        · intro v' w' hown' hg'
          have hown2 : OwnV e w.heap.size w' v' (us ++ ys) := by unfold OwnV; rw [List.length_append]; exact hown'
          exact h v' w' (hown2.mono hbase) ⟨⟨hg'.os, hg'.tape, hg'.output, hg'.size, fun i hi _ => hg'.block i hi (by simp)⟩, .inr fun g hg => (World.ownsRow.lt hown2 g hg).1⟩
end
theorem OwnV.ev {X : Nat → Prop} {e : TypeId} {base : Nat} {w w' : World} {v : Value} {us : List Value} (h : OwnV e base w v us) (ev : Ev X w w') (hn : ∀ g, v.ownBlock = some g → ¬ X g) : OwnV e base w' v us := by
  refine ⟨h.1, ?_⟩
  rcases h.2 with hn' | ⟨g, cap, cur, rfl, hb, hgg, rest⟩
  · exact .inl hn'
  · exact .inr ⟨g, cap, cur, rfl, hb, (ev.block g (Array.getElem?_eq_some_iff.1 hgg).1 (hn g rfl)).trans hgg, rest⟩
theorem SLs.evX {B : Nat} {w w' : World} {X : Nat → Prop} (e : Ev X w w') : ∀ {us : List Value} {ys : List (List Int)}, (∀ u ∈ us, ∀ g, u.ownBlock = some g → ¬ X g) → SLs .u8 B w us ys → SLs .u8 B w' us ys
  | [], [], _, _ => trivial
  | [], _ :: _, _, h => h.elim
  | _ :: _, [], _, h => h.elim
  | u :: us, y :: ys, hn, h => ⟨⟨h.1.1.ev e (hn u (List.mem_cons_self ..)), h.1.2⟩, SLs.evX e (fun x hx => hn x (List.mem_cons_of_mem _ hx)) h.2⟩
theorem SLs.ltAll {B : Nat} {w : World} : ∀ {us : List Value} {ys : List (List Int)}, SLs .u8 B w us ys → ∀ u ∈ us, ∀ g, u.ownBlock = some g → g < B
  | [], [], _, u, hu => by cases hu
  | [], _ :: _, h, _, _ => h.elim
  | _ :: _, [], h, _, _ => h.elim
  | x :: us, y :: ys, h, u, hu => by
    rcases List.mem_cons.1 hu with rfl | hu
    · exact h.1.2
    · exact SLs.ltAll h.2 u hu
/-- A row of slices of the call's own; what they hold lies elsewhere. -/
structure RowsB (e : TypeId) (B base : Nat) (w : World) (v : Value) (us : List Value) (ys : List (List Int)) : Prop where
  own : OwnV e base w v us
  sls : SLs .u8 B w us ys
  sep : ∀ x ∈ us, ∀ g, x.ownBlock = some g → v.ownBlock ≠ some g
  lt : ∀ g, v.ownBlock = some g → base ≤ g ∧ g < B
  le : B ≤ w.heap.size
theorem RowsB.nil (e : TypeId) (base : Nat) (w : World) : RowsB e w.heap.size base w (.slice none 0 0) [] [] :=
  ⟨OwnV.nil _ _ _, trivial, (fun x hx => by cases hx), (fun g hg => by cases hg), Nat.le_refl _⟩
theorem RowsB.ev {e : TypeId} {B base : Nat} {w w' : World} {v : Value} {us : List Value} {ys : List (List Int)} {X : Nat → Prop} (h : RowsB e B base w v us ys) (ev : Ev X w w') (hX : ∀ i, i < B → ¬ X i) : RowsB e B base w' v us ys :=
  ⟨h.own.ev ev fun g hg => hX g (h.lt g hg).2, SLs.evX ev (fun u hu g hg => hX g (SLs.ltAll h.sls u hu g hg)) h.sls, h.sep, h.lt, Nat.le_trans h.le ev.size⟩
theorem RowsB.e0 {e : TypeId} {B base : Nat} {w w' : World} {v : Value} {us : List Value} {ys : List (List Int)} (h : RowsB e B base w v us ys) (ev : E0 w w') : RowsB e B base w' v us ys := h.ev ev fun _ _ x => x
section
variable {P : Program} {ops : Array Oper} {Q : Exit → Act → World → Prop} {l : List Value} {ds : List Deferred} {w : World} {oi : Oper} {rest : List Oper}
theorem xAppRows (d : Nat) (s x : Operand) (t e : TypeId) (ho : oi.op = .call { callee := .builtin .append, args := #[s, x], argTypes := #[t, t] })
    (ht : P.underlying t = some (.slice e)) (hinfo : (P.info? e).map (fun i => (i.zero, i.size, i.bytes)) = some (some (.slice none 0 0), 1, 24))
    (B base : Nat) (v : Value) (us : List Value) (ys : List (List Int)) (hs : (⟨l.toArray, ds⟩ : Act).eval s = v) (hR : RowsB e B base w v us ys) (xv p q : Value) (yp yq : List Int) (hx : (⟨l.toArray, ds⟩ : Act).eval x = xv) (hxs : SV w xv [p, q])
    (hp : SL .u8 w p yp) (hq : SL .u8 w q yq) (hpB : ∀ g, p.ownBlock = some g → B ≤ g) (hqB : ∀ g, q.ownBlock = some g → B ≤ g) (hlen : us.length ≤ 100000) (hbase : base ≤ w.heap.size)
    (h : ∀ v' w', RowsB e w'.heap.size base w' v' (us ++ [p, q]) (ys ++ [yp, yq]) → Ev (fun i => v.ownBlock = some i) w w' → wpList P ops Q rest ⟨(l.set d v').toArray, ds⟩ w')
    (hgd : oi.guard = none := by rfl) (hd : oi.dst = some d := by rfl) : wpList P ops Q (oi :: rest) ⟨l.toArray, ds⟩ w := by
  refine app_mutV hgd s x t e (.slice none 0 0) 24 ho ht hinfo rfl base v us hs hR.own xv [p, q] hx hxs (fun y hy => ?_) (by simp only [List.length_cons, List.length_nil]; omega) (by simp only [List.length_cons, List.length_nil]; unfold maxLen; omega) hbase fun v' w' h1 h2 => ?_
  · simp only [List.mem_cons, List.not_mem_nil, or_false] at hy
    rcases hy with rfl | rfl
    · exact hp.oneCell
    · exact hq.oneCell
  rw [put_list' d _ hd]
  have hev := h2.ev
  have hsz := hev.size
  have hpn : ∀ g, p.ownBlock = some g → ¬ v.ownBlock = some g := fun g hg hv => by have := hpB g hg; have := (hR.lt g hv).2; omega
  have hqn : ∀ g, q.ownBlock = some g → ¬ v.ownBlock = some g := fun g hg hv => by have := hqB g hg; have := (hR.lt g hv).2; omega
  have hp' := hp.ev hev hpn
  have hq' := hq.ev hev hqn
  have hold : SLs .u8 w'.heap.size w' us ys := SLs.mono (Nat.le_trans hR.le hsz) (SLs.evX hev (fun u hu g hg => fun e => hR.sep u hu g hg e) hR.sls)
  have hnew : SLs .u8 w'.heap.size w' [p, q] [yp, yq] := ⟨⟨hp', hp'.lt⟩, ⟨hq', hq'.lt⟩, trivial⟩
  refine h v' w' ⟨h1, SLs.append hold hnew, fun u hu g hg => ?_, fun g hg => World.ownsRow.lt h1 g hg, Nat.le_refl _⟩ hev
  have hltw : g < w.heap.size := by
    rcases List.mem_append.1 hu with hu | hu
    · exact Nat.lt_of_lt_of_le (SLs.ltAll hR.sls u hu g hg) hR.le
    · simp only [List.mem_cons, List.not_mem_nil, or_false] at hu
      rcases hu with rfl | rfl
      · exact hp.lt g hg
      · exact hq.lt g hg
  have hnv : ¬ v.ownBlock = some g := by
    rcases List.mem_append.1 hu with hu | hu
    · exact hR.sep u hu g hg
    · simp only [List.mem_cons, List.not_mem_nil, or_false] at hu
      rcases hu with rfl | rfl
      · exact hpn g hg
      · exact hqn g hg
  intro hv'
  rcases h2.o with ho' | ho'
  · rw [ho'] at hv'; exact hnv hv'
  · have := ho' g hv'; omega
theorem xAppRow1 (d : Nat) (s x : Operand) (t e : TypeId) (ho : oi.op = .call { callee := .builtin .append, args := #[s, x], argTypes := #[t, t] })
    (ht : P.underlying t = some (.slice e)) (hinfo : (P.info? e).map (fun i => (i.zero, i.size, i.bytes)) = some (some (.slice none 0 0), 1, 24))
    (B base : Nat) (v : Value) (us : List Value) (ys : List (List Int)) (hs : (⟨l.toArray, ds⟩ : Act).eval s = v) (hR : RowsB e B base w v us ys) (xv p : Value) (yp : List Int) (hx : (⟨l.toArray, ds⟩ : Act).eval x = xv) (hxs : SV w xv [p])
    (hp : SL .u8 w p yp) (hpB : ∀ g, p.ownBlock = some g → B ≤ g) (hlen : us.length ≤ 100000) (hbase : base ≤ w.heap.size)
    (h : ∀ v' w', RowsB e w'.heap.size base w' v' (us ++ [p]) (ys ++ [yp]) → Ev (fun i => v.ownBlock = some i) w w' → wpList P ops Q rest ⟨(l.set d v').toArray, ds⟩ w')
    (hgd : oi.guard = none := by rfl) (hd : oi.dst = some d := by rfl) : wpList P ops Q (oi :: rest) ⟨l.toArray, ds⟩ w := by
  refine app_mutV hgd s x t e (.slice none 0 0) 24 ho ht hinfo rfl base v us hs hR.own xv [p] hx hxs (fun y hy => ?_) (by simp only [List.length_cons, List.length_nil]; omega) (by simp only [List.length_cons, List.length_nil]; unfold maxLen; omega) hbase fun v' w' h1 h2 => ?_
  · simp only [List.mem_cons, List.not_mem_nil, or_false] at hy
    subst hy
    exact hp.oneCell
  rw [put_list' d _ hd]
  have hev := h2.ev
  have hsz := hev.size
  have hpn : ∀ g, p.ownBlock = some g → ¬ v.ownBlock = some g := fun g hg hv => by have := hpB g hg; have := (hR.lt g hv).2; omega
  have hp' := hp.ev hev hpn
  have hold : SLs .u8 w'.heap.size w' us ys := SLs.mono (Nat.le_trans hR.le hsz) (SLs.evX hev (fun u hu g hg => fun e => hR.sep u hu g hg e) hR.sls)
  have hnew : SLs .u8 w'.heap.size w' [p] [yp] := ⟨⟨hp', hp'.lt⟩, trivial⟩
  refine h v' w' ⟨h1, SLs.append hold hnew, fun u hu g hg => ?_, fun g hg => World.ownsRow.lt h1 g hg, Nat.le_refl _⟩ hev
  have hltw : g < w.heap.size := by
    rcases List.mem_append.1 hu with hu | hu
    · exact Nat.lt_of_lt_of_le (SLs.ltAll hR.sls u hu g hg) hR.le
    · simp only [List.mem_cons, List.not_mem_nil, or_false] at hu
      subst hu
      exact hp.lt g hg
  have hnv : ¬ v.ownBlock = some g := by
    rcases List.mem_append.1 hu with hu | hu
    · exact hR.sep u hu g hg
    · simp only [List.mem_cons, List.not_mem_nil, or_false] at hu
      subst hu
      exact hpn g hg
  intro hv'
  rcases h2.o with ho' | ho'
  · rw [ho'] at hv'; exact hnv hv'
  · have := ho' g hv'; omega
end
end Go.Proofs.Yteaijjefbadnbaa
