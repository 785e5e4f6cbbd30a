/-
  A region whose order is open, step by step: loads of arrays, plain operations and calls that leave a condition S on the world standing.
  No conditions: lemmas over any program.
-/
import Derived.Test.YteaijjefbadnbaaArr
import Derived.OrdersHeld
import Derived.Deep.RegionHeld3
namespace Go.Proofs.Yteaijjefbadnbaa
open Go.RowKit
set_option linter.unusedVariables false
set_option linter.unusedSimpArgs false
set_option maxRecDepth 100000

section
variable {P : Program} {ops : Array Oper} {Q : Exit → Act → World → Prop} {md : Region.Mode} {S : World → Prop} {fuel : Nat} {listed : Array Bool} {l : List Value} {ds : List Deferred} {w : World} {oi : Oper}
theorem put_list (d : Nat) (v : Value) : (⟨l.toArray, ds⟩ : Act).put (some d) v = ⟨(l.set d v).toArray, ds⟩ := by simp [Act.put]
theorem take_val (i d : Nat) (hi : ops[i]? = some oi) (hd : oi.dst = some d) (hs : Region.noSelect ops = true) (hf : Region.free md ops listed i = true) (hr : (Region.ready md ops listed).contains i = true)
    (hQ' : ∀ c a v w, Q (.panic c) (a.put oi.dst v) w → Q (.panic c) a w) (hw : Region.wanted oi (yielded ops l.toArray) = true) (v : Value) (hrun : ∀ w, S w → (execOp (⟨l.toArray, ds⟩ : Act).eval oi).run P w = .ok (.value v) w) (hS : S w)
    (h : wpAnyH P md ops Q S fuel (listed.setIfInBounds i true) ⟨(l.set d v).toArray, ds⟩ w) : wpAnyH P md ops Q S (fuel + 1) listed ⟨l.toArray, ds⟩ w :=
  wpAnyH_take hi hs hf hr (fun c a w h => hQ' c a _ w h) (.inl ⟨hw, hrun⟩) hS (by rw [hd, put_list]; exact h)
theorem take_blk (i d : Nat) (hi : ops[i]? = some oi) (hd : oi.dst = some d) (hs : Region.noSelect ops = true) (hf : Region.free md ops listed i = true) (hr : (Region.ready md ops listed).contains i = true)
    (hQ' : ∀ c a v w, Q (.panic c) (a.put oi.dst v) w → Q (.panic c) a w) (hw : Region.wanted oi (yielded ops l.toArray) = true) (ty : TypeId) (x : Operand) (ho : oi.op = .load ty x)
    {k : IntKind} {g : Nat} {t : TypeId} {xs : List Int} (o n : Nat) (hx : (⟨l.toArray, ds⟩ : Act).eval x = .pointer (some ⟨g, o, none⟩)) (hB : ∀ w, S w → Blk k w g t xs) (td : TypeDesc) (hu : P.underlying ty = some td) (hrow : td.isRow = true)
    (hi' : (P.info? ty).map (·.size) = some n) (hl : o + n ≤ xs.length) (ys : List Int) (hys : seg o n xs = ys) (hS : S w)
    (h : wpAnyH P md ops Q S fuel (listed.setIfInBounds i true) ⟨(l.set d (.agg (cellsOf k ys))).toArray, ds⟩ w) : wpAnyH P md ops Q S (fuel + 1) listed ⟨l.toArray, ds⟩ w :=
  wpAnyH_take hi hs hf hr (fun c a w h => hQ' c a _ w h)
    (by
      have := yieldsIf_load_mid (P := P) (ops := ops) (S := S) (op := oi) (a := ⟨l.toArray, ds⟩) hw ty x ho g o hx (cellsOf k (seg o n xs)).toList td (fun w hw' => (hB w hw').range o n hl) hu hrow (by rw [hi']; simp [cells_size, seg_length o n xs hl])
      rw [hys] at this
      simpa using this) hS (by rw [hd, put_list]; exact h)
theorem run_idx {w : World} {t : TypeId} {n : Nat} {e : TypeId} {i : TypeInfo} {m : Nat} (ht : P.underlying t = some (.array n e)) (hi : P.info? e = some i) (hm : i.size = m) (g o k : Nat) (hk : k < n) :
    (Instr.indexAt t (.pointer (some ⟨g, o, none⟩)) (.int .i64 (k : Int))).run P w = .ok (.pointer (some ⟨g, o + k * m, none⟩)) w := by
  have h0 : (0 : Int) ≤ (k : Int) ∧ (k : Int) < (n : Int) := by omega
  have hsz : (sizeOf e).run P w = .ok m w := by simp [sizeOf, typeInfo, hi, hm]
  simp [Instr.indexAt, run_underlying ht, Instr.sureAddr, asIntOf, hsz, hk, Addr.add_mid]
theorem take_idx (i d : Nat) (hi : ops[i]? = some oi) (hd : oi.dst = some d) (hs : Region.noSelect ops = true) (hf : Region.free md ops listed i = true) (hr : (Region.ready md ops listed).contains i = true)
    (hQ' : ∀ c a v w, Q (.panic c) (a.put oi.dst v) w → Q (.panic c) a w) (hw : Region.wanted oi (yielded ops l.toArray) = true) (t : TypeId) (x ix : Operand) (ho : oi.op = .indexAddr t x ix)
    (px pi v : Value) (hx : (⟨l.toArray, ds⟩ : Act).eval x = px) (hix : (⟨l.toArray, ds⟩ : Act).eval ix = pi) (hrun : ∀ w, (Instr.indexAt t px pi).run P w = .ok v w) (hS : S w)
    (h : wpAnyH P md ops Q S fuel (listed.setIfInBounds i true) ⟨(l.set d v).toArray, ds⟩ w) : wpAnyH P md ops Q S (fuel + 1) listed ⟨l.toArray, ds⟩ w :=
  take_val i d hi hd hs hf hr hQ' hw v (fun w' _ => by
    unfold execOp
    simp only [ho, hx, hix, Sem.run_bind, hrun, Result.andThen_ok, Sem.run_pure]) hS h
theorem take_bin (i d : Nat) (hi : ops[i]? = some oi) (hd : oi.dst = some d) (hs : Region.noSelect ops = true) (hf : Region.free md ops listed i = true) (hr : (Region.ready md ops listed).contains i = true)
    (hQ' : ∀ c a v w, Q (.panic c) (a.put oi.dst v) w → Q (.panic c) a w) (hw : Region.wanted oi (yielded ops l.toArray) = true) (b : BinOp) (t ty : TypeId) (x y : Operand) (ho : oi.op = .binOp b t x y ty)
    (px py v : Value) (hx : (⟨l.toArray, ds⟩ : Act).eval x = px) (hy : (⟨l.toArray, ds⟩ : Act).eval y = py) (hg : ∀ w, (eqGuard b t x y px py).run P w = .ok () w) (hrun : ∀ w, (binOp b t px py).run P w = .ok v w) (hS : S w)
    (h : wpAnyH P md ops Q S fuel (listed.setIfInBounds i true) ⟨(l.set d v).toArray, ds⟩ w) : wpAnyH P md ops Q S (fuel + 1) listed ⟨l.toArray, ds⟩ w :=
  take_val i d hi hd hs hf hr hQ' hw v (fun w' _ => by
    unfold execOp
    simp only [ho, hx, hy, Sem.run_bind, hg, hrun, Result.andThen_ok, Sem.run_pure]) hS h
theorem run_eql_bool {w : World} {t : TypeId} (ht : P.underlying t = some .bool) (a b : Bool) : (binOp .eql t (.bool a) (.bool b)).run P w = .ok (.bool (a == b)) w := by
  simp only [binOp]
  simp [run_equal_bool w t a b ht]
theorem run_guard_bool {w : World} {op : BinOp} {t : TypeId} {x y : Operand} (a b : Bool) : (eqGuard op t x y (.bool a) (.bool b)).run P w = .ok () w := by
  cases op <;> simp [eqGuard]
/-- A plain cell. -/
theorem take_cell (i d : Nat) (hi : ops[i]? = some oi) (hd : oi.dst = some d) (hs : Region.noSelect ops = true) (hf : Region.free md ops listed i = true) (hr : (Region.ready md ops listed).contains i = true)
    (hQ' : ∀ c a v w, Q (.panic c) (a.put oi.dst v) w → Q (.panic c) a w) (hw : Region.wanted oi (yielded ops l.toArray) = true) (ty : TypeId) (x : Operand) (ho : oi.op = .load ty x)
    (g o : Nat) (v : Value) (hx : (⟨l.toArray, ds⟩ : Act).eval x = .pointer (some ⟨g, o, none⟩)) (hagg : ∀ w, (isAgg ty).run P w = .ok false w) (hB : ∀ w, S w → w.cell? ⟨g, o, none⟩ = some v) (hS : S w)
    (h : wpAnyH P md ops Q S fuel (listed.setIfInBounds i true) ⟨(l.set d v).toArray, ds⟩ w) : wpAnyH P md ops Q S (fuel + 1) listed ⟨l.toArray, ds⟩ w :=
  take_val i d hi hd hs hf hr hQ' hw v (fun w' hw' => by
    unfold execOp
    simp only [ho, hx, Instr.loadAt, Instr.sureAddr, loadVar, Sem.run_bind, Sem.run_pure, Result.andThen_ok, hagg]
    simp [load, Sem.run, hB w' hw']) hS h
/-- An operation that lays a block, or writes. -/
theorem wpOp_new {K : Act → World → Prop} (i d : Nat) (hi : ops[i]? = some oi) (hd : oi.dst = some d) (hw : Region.wanted oi (yielded ops l.toArray) = true) (v : Value) (w' : World)
    (hrun : (execOp (⟨l.toArray, ds⟩ : Act).eval oi).run P w = .ok (.value v) w') (h : K ⟨(l.set d v).toArray, ds⟩ w') : wpOp P ops Q i K ⟨l.toArray, ds⟩ w := by
  unfold wpOp
  simp only [hi, hw, if_true]
  refine .inl ?_
  unfold Oper.wp
  rw [hrun, Oper.upon_value, hd, put_list]
  exact h
theorem all_new1 (i d : Nat) (hi : ops[i]? = some oi) (hd : oi.dst = some d) (hr : Region.ready md ops listed = [i]) (hw : Region.wanted oi (yielded ops l.toArray) = true) (v : Value) (w' : World)
    (hrun : (execOp (⟨l.toArray, ds⟩ : Act).eval oi).run P w = .ok (.value v) w') (h : S w' ∧ wpAnyH P md ops Q S fuel (listed.setIfInBounds i true) ⟨(l.set d v).toArray, ds⟩ w') : wpAnyH P md ops Q S (fuel + 1) listed ⟨l.toArray, ds⟩ w := by
  refine wpAnyH_all hr (by simp) fun j hj => ?_
  obtain rfl : j = i := by simpa using hj
  exact wpOp_new j d hi hd hw v w' hrun h
theorem all_new2 {oj : Oper} (i j d e : Nat) (hr : Region.ready md ops listed = [i, j]) (hi : ops[i]? = some oi) (hj : ops[j]? = some oj) (hd : oi.dst = some d) (he : oj.dst = some e)
    (hwi : Region.wanted oi (yielded ops l.toArray) = true) (hwj : Region.wanted oj (yielded ops l.toArray) = true) (v u : Value) (w1 w2 : World)
    (hrun : (execOp (⟨l.toArray, ds⟩ : Act).eval oi).run P w = .ok (.value v) w1) (hrun2 : (execOp (⟨l.toArray, ds⟩ : Act).eval oj).run P w = .ok (.value u) w2)
    (h1 : S w1 ∧ wpAnyH P md ops Q S fuel (listed.setIfInBounds i true) ⟨(l.set d v).toArray, ds⟩ w1) (h2 : S w2 ∧ wpAnyH P md ops Q S fuel (listed.setIfInBounds j true) ⟨(l.set e u).toArray, ds⟩ w2) :
    wpAnyH P md ops Q S (fuel + 1) listed ⟨l.toArray, ds⟩ w := by
  refine wpAnyH_all hr (by simp) fun k hk => ?_
  rcases List.mem_cons.1 hk with rfl | hk
  · exact wpOp_new k d hi hd hwi v w1 hrun h1
  · obtain rfl : k = j := by simpa using hk
    exact wpOp_new k e hj he hwj u w2 hrun2 h2
/-- The one operation that may come up now is a call. -/
theorem all_call (i d : Nat) (f : FuncId) (args : Array Value) (hi : ops[i]? = some oi) (hd : oi.dst = some d) (hr : Region.ready md ops listed = [i]) (hw : Region.wanted oi (yielded ops l.toArray) = true)
    (hrun : (execOp (⟨l.toArray, ds⟩ : Act).eval oi).run P w = .ok (.enter f args) w)
    (hc : Calls P f args w fun e w' => ∃ v, e = .returned v ∧ S w' ∧ wpAnyH P md ops Q S fuel (listed.setIfInBounds i true) ⟨(l.set d v).toArray, ds⟩ w') : wpAnyH P md ops Q S (fuel + 1) listed ⟨l.toArray, ds⟩ w := by
  refine wpAnyH_all hr (by simp) fun j hj => ?_
  obtain rfl : j = i := by simpa using hj
  unfold wpOp
  simp only [hi, hw, if_true]
  refine .inl ?_
  unfold Oper.wp
  rw [hrun, Oper.upon_enter]
  refine hc.mono fun e w' he => ?_
  obtain ⟨v, rfl, h⟩ := he
  simp only [hd, put_list]
  exact h
end
end Go.Proofs.Yteaijjefbadnbaa
