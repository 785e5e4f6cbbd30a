/-
  An append inside a region that draws its order.
-/
import Derived.Test.YteaijjefbadnbaaHeld
namespace Go.Proofs.Yteaijjefbadnbaa
open Go.RowKit
set_option linter.unusedVariables false
set_option linter.unusedSimpArgs false
set_option maxRecDepth 100000

section
variable {P : Program} {ops : Array Oper} {Q : Exit → Act → World → Prop} {md : Region.Mode} {S : World → Prop} {fuel : Nat} {listed : Array Bool} {l : List Value} {ds : List Deferred} {w : World} {oi : Oper}
/-- Q, but K where the list ends. -/
def endK (K : Act → World → Prop) (Q : Exit → Act → World → Prop) : Exit → Act → World → Prop
  | .normal => K
  | .exit i => Q (.exit i)
  | .goto i => Q (.goto i)
  | .ret => Q .ret
  | .panic c => Q (.panic c)
  | .outgrown => Q .outgrown
/-- One operation, told as a list of one. -/
theorem wpOp_of_list {K : Act → World → Prop} {a : Act} (i : Nat) (hi : ops[i]? = some oi) (h : wpList P ops (endK K Q) [oi] a w) : wpOp P ops Q i K a w := by
  unfold wpOp
  simp only [hi]
  unfold wpList at h
  split
  · rename_i hw
    simp only [hw, if_true] at h
    refine h.imp (fun h => ?_) (fun h => h)
    unfold Oper.wp at *
    generalize (execOp a.eval oi).run P w = r at *
    cases r with
    | ok n w' => cases n <;> exact h
    | halt r w' => cases r <;> exact h
  · rename_i hw
    simp only [hw] at h
    exact h
/-- 'append(s, x...)' as the one operation that may come up now. -/
theorem all_app (i d : Nat) (hi : ops[i]? = some oi) (hd : oi.dst = some d) (hr : Region.ready md ops listed = [i]) (hgd : oi.guard = none) (s x : Operand) (t e : TypeId) (k : IntKind) (bytes : Nat)
    (ho : oi.op = .call { callee := .builtin .append, args := #[s, x], argTypes := #[t, t] })
    (ht : P.underlying t = some (.slice e)) (hinfo : (P.info? e).map (fun i => (i.zero, i.size, i.bytes)) = some (some (.int k 0), 1, bytes))
    (base : Nat) (v : Value) (xs : List Int) (hs : (⟨l.toArray, ds⟩ : Act).eval s = v) (hown : Own e k base w v xs)
    (u : Value) (ys : List Int) (hx : (⟨l.toArray, ds⟩ : Act).eval x = u) (hu : SL k w u ys)
    (h47 : (xs.length + ys.length) * bytes ≤ 140737488355328) (h63 : xs.length + ys.length ≤ maxLen) (hbase : base ≤ w.heap.size)
    (h : ∀ v' w', Own e k base w' v' (xs ++ ys) → Mut w w' v v' → S w' ∧ wpAnyH P md ops Q S fuel (listed.setIfInBounds i true) ⟨(l.set d v').toArray, ds⟩ w') :
    wpAnyH P md ops Q S (fuel + 1) listed ⟨l.toArray, ds⟩ w := by
  refine wpAnyH_all hr (by simp) fun j hj => ?_
  obtain rfl : j = i := by simpa using hj
  refine wpOp_of_list j hi (app_mut hgd s x t e k bytes ho ht hinfo base v xs hs hown u ys hx hu h47 h63 hbase fun v' w' h1 h2 => ?_)
  rw [hd, put_list]
  exact h v' w' h1 h2
/-- An operation that its guard keeps out. -/
theorem take_skip (i d : Nat) (hi : ops[i]? = some oi) (hd : oi.dst = some d) (hs : Region.noSelect ops = true) (hf : Region.free md ops listed i = true) (hr : (Region.ready md ops listed).contains i = true)
    (hQ' : ∀ c a v w, Q (.panic c) (a.put oi.dst v) w → Q (.panic c) a w) (hw : Region.wanted oi (yielded ops l.toArray) = false) (hS : S w)
    (h : wpAnyH P md ops Q S fuel (listed.setIfInBounds i true) ⟨(l.set d undef).toArray, ds⟩ w) : wpAnyH P md ops Q S (fuel + 1) listed ⟨l.toArray, ds⟩ w :=
  wpAnyH_take hi hs hf hr (fun c a w h => hQ' c a _ w h) (.inr ⟨hw, rfl⟩) hS (by rw [hd, put_list]; exact h)
/-- A struct, whole. -/
theorem take_struct (i d : Nat) (hi : ops[i]? = some oi) (hd : oi.dst = some d) (hs : Region.noSelect ops = true) (hf : Region.free md ops listed i = true) (hr : (Region.ready md ops listed).contains i = true)
    (hQ' : ∀ c a v w, Q (.panic c) (a.put oi.dst v) w → Q (.panic c) a w) (hw : Region.wanted oi (yielded ops l.toArray) = true) (ty : TypeId) (x : Operand) (ho : oi.op = .load ty x)
    (g : Nat) (t : TypeId) (cs : List Value) (hx : (⟨l.toArray, ds⟩ : Act).eval x = .pointer (some ⟨g, 0, none⟩)) (hB : ∀ w, S w → w.heap[g]? = some (.cells cs.toArray t (0, 0))) (td : TypeDesc) (hu : P.underlying ty = some td) (hrow : td.isRow = true)
    (hi' : (P.info? ty).map (·.size) = some cs.length) (hS : S w)
    (h : wpAnyH P md ops Q S fuel (listed.setIfInBounds i true) ⟨(l.set d (.agg cs.toArray)).toArray, ds⟩ w) : wpAnyH P md ops Q S (fuel + 1) listed ⟨l.toArray, ds⟩ w :=
  wpAnyH_take hi hs hf hr (fun c a w h => hQ' c a _ w h)
    (yieldsIf_load_mid hw ty x ho g 0 hx cs td (fun w hw' j v hj => by rw [Nat.zero_add, Joins.cell_of_block (hB w hw')]; simpa using hj) hu hrow hi') hS (by rw [hd, put_list]; exact h)
end
end Go.Proofs.Yteaijjefbadnbaa
