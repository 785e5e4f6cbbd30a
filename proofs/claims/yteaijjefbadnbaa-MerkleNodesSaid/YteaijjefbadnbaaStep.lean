/-
  One operation at a time: what it yields, and how a region (its order open, or not) goes on behind it.
  No conditions: lemmas over any program.
-/
import Derived.Test.YteaijjefbadnbaaHeldApp
namespace Go.Proofs.Yteaijjefbadnbaa
open Go.RowKit
set_option linter.unusedVariables false
set_option linter.unusedSimpArgs false
set_option maxRecDepth 100000

section
variable {P : Program} {ops : Array Oper} {Q : Exit → Act → World → Prop} {md : Region.Mode} {S : World → Prop} {fuel : Nat} {listed : Array Bool} {l : List Value} {ds : List Deferred} {w : World} {oi : Oper}

/-- The operation yields v in the world w. -/
def Val (P : Program) (a : Act) (o : Oper) (v : Value) (w : World) : Prop := (execOp a.eval o).run P w = .ok (.value v) w

theorem Val.of {a : Act} {o : Oper} {v : Value} {w : World} (h : (execOp a.eval o).run P w = .ok (.value v) w := by kernel_rfl) : Val P a o v w := h
theorem Val.bin {a : Act} {o : Oper} {v : Value} {w : World} (b : BinOp) (t ty : TypeId) (x y : Operand) (ho : o.op = .binOp b t x y ty) (px py : Value) (hx : a.eval x = px) (hy : a.eval y = py)
    (hg : (eqGuard b t x y px py).run P w = .ok () w) (hrun : (binOp b t px py).run P w = .ok v w) : Val P a o v w := by
  unfold Val execOp
  simp only [ho, hx, hy, Sem.run_bind, hg, hrun, Result.andThen_ok, Sem.run_pure]
theorem guard_int {w : World} {op : BinOp} {t : TypeId} {x y : Operand} {k k' : IntKind} (a b : Int) : (eqGuard op t x y (.int k a) (.int k' b)).run P w = .ok () w := by
  cases op <;> simp [eqGuard]
theorem Val.add {a : Act} {o : Oper} {w : World} (t ty : TypeId) (x y : Operand) (ho : o.op = .binOp .add t x y ty) (n m : Int) (hx : a.eval x = .int .i64 n) (hy : a.eval y = .int .i64 m)
    (h : -9223372036854775808 ≤ n + m ∧ n + m ≤ 9223372036854775807) : Val P a o (.int .i64 (n + m)) w := by
  refine Val.bin .add t ty x y ho _ _ hx hy (guard_int n m) ?_
  have e : IntKind.i64.wrap (n + m) = n + m := by simp [IntKind.wrap, IntKind.bits, IntKind.signed]; omega
  simp [binOp, Op.intArith, e]
theorem Val.sub {a : Act} {o : Oper} {w : World} (t ty : TypeId) (x y : Operand) (ho : o.op = .binOp .sub t x y ty) (n m : Int) (hx : a.eval x = .int .i64 n) (hy : a.eval y = .int .i64 m)
    (h : -9223372036854775808 ≤ n - m ∧ n - m ≤ 9223372036854775807) : Val P a o (.int .i64 (n - m)) w := by
  refine Val.bin .sub t ty x y ho _ _ hx hy (guard_int n m) ?_
  have e : IntKind.i64.wrap (n - m) = n - m := by simp [IntKind.wrap, IntKind.bits, IntKind.signed]; omega
  simp [binOp, Op.intArith, e]
theorem Val.mul {a : Act} {o : Oper} {w : World} (t ty : TypeId) (x y : Operand) (ho : o.op = .binOp .mul t x y ty) (n m : Int) (hx : a.eval x = .int .i64 n) (hy : a.eval y = .int .i64 m)
    (h : -9223372036854775808 ≤ n * m ∧ n * m ≤ 9223372036854775807) : Val P a o (.int .i64 (n * m)) w := by
  refine Val.bin .mul t ty x y ho _ _ hx hy (guard_int n m) ?_
  have e : IntKind.i64.wrap (n * m) = n * m := by simp only [IntKind.wrap, IntKind.bits, IntKind.signed]; simp; omega
  simp [binOp, Op.intArith, e]
/-- a comparison of whole numbers -/
def cmpB (b : BinOp) (n m : Int) : Bool :=
  match b with
  | .eql => decide (n = m) | .neq => !decide (n = m) | .lss => decide (n < m) | .leq => decide (n ≤ m) | .gtr => decide (m < n) | .geq => decide (m ≤ n) | _ => false
theorem Val.cmp {a : Act} {o : Oper} {w : World} (b : BinOp) (t ty : TypeId) (x y : Operand) (ho : o.op = .binOp b t x y ty) (k : IntKind) (n m : Int) (hx : a.eval x = .int k n) (hy : a.eval y = .int k m)
    (hb : b = .eql ∨ b = .neq ∨ b = .lss ∨ b = .leq ∨ b = .gtr ∨ b = .geq) (r : Bool) (hr : cmpB b n m = r) : Val P a o (.bool r) w := by
  refine Val.bin b t ty x y ho _ _ hx hy (guard_int n m) ?_
  subst hr
  rcases hb with rfl | rfl | rfl | rfl | rfl | rfl <;> simp [binOp, Op.intCmp, cmpB]
  · by_cases h : n = m <;> simp [h]
  · by_cases h : n = m <;> simp [h]
theorem Val.not {a : Act} {o : Oper} {w : World} (t : TypeId) (x : Operand) (ho : o.op = .unOp .not t x) (b r : Bool) (hx : a.eval x = .bool b) (hr : (!b) = r) : Val P a o (.bool r) w := by
  unfold Val execOp
  subst hr
  simp [ho, hx, Op.unary, Result.andThen]
/-- a number into int -/
theorem Val.conv64 {a : Act} {o : Oper} {w : World} (src dst : TypeId) (x : Operand) (ho : o.op = .convert src dst x) {k : IntKind} (hs : P.underlying src = some (.int k)) (hd : P.underlying dst = some (.int .i64)) (n : Int) (hx : a.eval x = .int k n) (h : -9223372036854775808 ≤ n ∧ n ≤ 9223372036854775807) : Val P a o (.int .i64 n) w := by
  unfold Val execOp
  have e : IntKind.i64.wrap n = n := by simp [IntKind.wrap, IntKind.bits, IntKind.signed]; omega
  simp [ho, hx, convert, run_underlying hs, run_underlying hd, Conv.intToInt, e]
/-- a plain cell -/
theorem Val.cell {a : Act} {o : Oper} {w : World} (ty : TypeId) (x : Operand) (ho : o.op = .load ty x) (g i : Nat) (v : Value) (hx : a.eval x = .pointer (some ⟨g, i, none⟩)) (hagg : ∀ w, (isAgg ty).run P w = .ok false w)
    (hc : w.cell? ⟨g, i, none⟩ = some v) : Val P a o v w := by
  unfold Val execOp
  simp only [ho, hx, Instr.loadAt, Instr.sureAddr, loadVar, Sem.run_bind, Sem.run_pure, Result.andThen_ok, hagg]
  simp [load, Sem.run, hc]
theorem Val.blk {a : Act} {op : Oper} {w : World} (ty : TypeId) (x : Operand) (ho : op.op = .load ty x) {k : IntKind} {g : Nat} {t : TypeId} {xs : List Int} (o n : Nat) (hx : a.eval x = .pointer (some ⟨g, o, none⟩)) (h : Blk k w g t xs)
    (d : TypeDesc) (hu : P.underlying ty = some d) (hd : d.isRow = true) (hi : (P.info? ty).map (·.size) = some n) (hl : o + n ≤ xs.length) (ys : List Int) (hys : seg o n xs = ys) : Val P a op (.agg (cellsOf k ys)) w := by
  subst hys
  have := h.load (P := P) ty o n d hu hd hi hl
  unfold Val execOp
  simp only [ho, hx, Sem.run_bind, this, Result.andThen_ok, Sem.run_pure]
/-- a struct, whole -/
theorem Val.struct {a : Act} {op : Oper} {w : World} (ty : TypeId) (x : Operand) (ho : op.op = .load ty x) (g : Nat) (t : TypeId) (cs : List Value) (hx : a.eval x = .pointer (some ⟨g, 0, none⟩)) (hB : w.heap[g]? = some (.cells cs.toArray t (0, 0)))
    (td : TypeDesc) (hu : P.underlying ty = some td) (hrow : td.isRow = true) (hi' : (P.info? ty).map (·.size) = some cs.length) : Val P a op (.agg cs.toArray) w := by
  unfold Val execOp
  have := run_loadAt_mid (P := P) w g 0 ty cs td (fun j v hv => by rw [Nat.zero_add, Joins.cell_of_block hB]; simpa using hv) hu hrow hi'
  simp only [ho, hx, Sem.run_bind, this, Result.andThen_ok, Sem.run_pure]
/-- the address of an element of an array -/
theorem Val.idxA {a : Act} {op : Oper} {w : World} (t : TypeId) (x ix : Operand) (ho : op.op = .indexAddr t x ix) (g o k : Nat) (hx : a.eval x = .pointer (some ⟨g, o, none⟩)) (hix : a.eval ix = .int .i64 (k : Int))
    {n : Nat} {e : TypeId} (m : Nat) (ht : P.underlying t = some (.array n e)) (hi0 : (P.info? e).map (·.size) = some m) (hk : k < n) : Val P a op (.pointer (some ⟨g, o + k * m, none⟩)) w := by
  obtain ⟨i, hi, hm⟩ := Option.map_eq_some_iff.1 hi0
  unfold Val execOp
  simp only [ho, hx, hix, Sem.run_bind, run_idx ht hi hm g o k hk, Result.andThen_ok, Sem.run_pure]
/-- the address of an element of a slice -/
theorem Val.idxS {a : Act} {op : Oper} {w : World} (t : TypeId) (x ix : Operand) (ho : op.op = .indexAddr t x ix) (g o n c k : Nat) (hx : a.eval x = .slice (some ⟨g, o, none⟩) n c) (hix : a.eval ix = .int .i64 (k : Int))
    {e : TypeId} (m : Nat) (ht : P.underlying t = some (.slice e)) (hi0 : (P.info? e).map (·.size) = some m) (hk : k < n) : Val P a op (.pointer (some ⟨g, o + k * m, none⟩)) w := by
  obtain ⟨i, hi, hm⟩ := Option.map_eq_some_iff.1 hi0
  unfold Val execOp
  have h0 : (0 : Int) ≤ (k : Int) ∧ (k : Int) < (n : Int) := by omega
  have hsz : (sizeOf e).run P w = .ok m w := by simp [sizeOf, typeInfo, hi, hm]
  simp [ho, hx, hix, Instr.indexAt, run_underlying ht, asIntOf, hsz, hk, Addr.add_mid]

/-- A cell of a slice. -/
theorem SL.at {k : IntKind} {w : World} {b o n c : Nat} {xs : List Int} (h : SL k w (.slice (some ⟨b, o, none⟩) n c) xs) (j : Nat) (hj : j < xs.length) : w.cell? ⟨b, o + j, none⟩ = some (.int k (xs.getD j 0)) := by
  rcases h with ⟨h, _⟩ | ⟨b', o', c', hv, h1, h2, h3, h4⟩
  · cases h
  · simp only [Value.slice.injEq, Option.some.injEq, Addr.mk.injEq] at hv
    obtain ⟨⟨rfl, rfl, _⟩, _, rfl⟩ := hv
    exact h4 j hj
/-- Operation i. -/
def opAt (ops : Array Oper) (i : Nat) : Oper := (ops[i]?).getD ⟨none, .move (.const undef), 0, "", #[], none⟩
theorem opAt_get {i : Nat} (h : i < ops.size) : ops[i]? = some (opAt ops i) := by simp [opAt, h]
/-- May operation i, which writes slot d, be taken first? Is it wanted? -/
def CK (md : Region.Mode) (ops : Array Oper) (listed : Array Bool) (l : List Value) (i d : Nat) (b : Bool) : Bool :=
  decide (i < ops.size) && ((opAt ops i).dst == some d) && Region.noSelect ops && Region.free md ops listed i && (Region.ready md ops listed).contains i && (Region.wanted (opAt ops i) (yielded ops l.toArray) == b)
theorem tv (i d : Nat) (v : Value) (hrun : ∀ w, S w → Val P ⟨l.toArray, ds⟩ (opAt ops i) v w) (hS : S w)
    (h : wpAnyH P md ops Q S fuel (listed.setIfInBounds i true) ⟨(l.set d v).toArray, ds⟩ w) (hk : CK md ops listed l i d true = true := by kernel_rfl)
    (hQ' : ∀ c a v w, Q (.panic c) (a.put (opAt ops i).dst v) w → Q (.panic c) a w := by exact fun _ _ _ _ h => h) : wpAnyH P md ops Q S (fuel + 1) listed ⟨l.toArray, ds⟩ w := by
  simp only [CK, Bool.and_eq_true, decide_eq_true_eq, beq_iff_eq] at hk
  obtain ⟨⟨⟨⟨⟨h1, h2⟩, h3⟩, h4⟩, h5⟩, h6⟩ := hk
  exact take_val i d (opAt_get h1) h2 h3 h4 h5 hQ' h6 v hrun hS h
theorem ts (i d : Nat) (hS : S w)
    (h : wpAnyH P md ops Q S fuel (listed.setIfInBounds i true) ⟨(l.set d undef).toArray, ds⟩ w) (hk : CK md ops listed l i d false = true := by kernel_rfl)
    (hQ' : ∀ c a v w, Q (.panic c) (a.put (opAt ops i).dst v) w → Q (.panic c) a w := by exact fun _ _ _ _ h => h) : wpAnyH P md ops Q S (fuel + 1) listed ⟨l.toArray, ds⟩ w := by
  simp only [CK, Bool.and_eq_true, decide_eq_true_eq, beq_iff_eq] at hk
  obtain ⟨⟨⟨⟨⟨h1, h2⟩, h3⟩, h4⟩, h5⟩, h6⟩ := hk
  exact take_skip i d (opAt_get h1) h2 h3 h4 h5 hQ' h6 hS h
/-- The one operation that may come up now: by a law on lists. -/
theorem a1 {a : Act} (i : Nat) (hi : ops[i]? = some oi) (h : wpList P ops (endK (fun a' w' => S w' ∧ wpAnyH P md ops Q S fuel (listed.setIfInBounds i true) a' w') Q) [oi] a w) (hr : Region.ready md ops listed = [i] := by kernel_rfl) : wpAnyH P md ops Q S (fuel + 1) listed a w := by
  refine wpAnyH_all hr (by simp) fun j hj => ?_
  obtain rfl : j = i := by simpa using hj
  exact wpOp_of_list j hi h
/-- One of two. -/
theorem a2 {a : Act} {oj : Oper} (i j : Nat) (hi : ops[i]? = some oi) (hj : ops[j]? = some oj)
    (h : wpList P ops (endK (fun a' w' => S w' ∧ wpAnyH P md ops Q S fuel (listed.setIfInBounds i true) a' w') Q) [oi] a w)
    (h' : wpList P ops (endK (fun a' w' => S w' ∧ wpAnyH P md ops Q S fuel (listed.setIfInBounds j true) a' w') Q) [oj] a w) (hr : Region.ready md ops listed = [i, j] := by kernel_rfl) : wpAnyH P md ops Q S (fuel + 1) listed a w := by
  refine wpAnyH_all hr (by simp) fun k hk => ?_
  rcases List.mem_cons.1 hk with rfl | hk
  · exact wpOp_of_list k hi h
  · obtain rfl : k = j := by simpa using hk
    exact wpOp_of_list k hj h'
/-- One of three. -/
theorem a3 {a : Act} {oj ok : Oper} (i j k : Nat) (hi : ops[i]? = some oi) (hj : ops[j]? = some oj) (hk : ops[k]? = some ok)
    (h : wpList P ops (endK (fun a' w' => S w' ∧ wpAnyH P md ops Q S fuel (listed.setIfInBounds i true) a' w') Q) [oi] a w)
    (h' : wpList P ops (endK (fun a' w' => S w' ∧ wpAnyH P md ops Q S fuel (listed.setIfInBounds j true) a' w') Q) [oj] a w)
    (h'' : wpList P ops (endK (fun a' w' => S w' ∧ wpAnyH P md ops Q S fuel (listed.setIfInBounds k true) a' w') Q) [ok] a w) (hr : Region.ready md ops listed = [i, j, k] := by kernel_rfl) : wpAnyH P md ops Q S (fuel + 1) listed a w := by
  refine wpAnyH_all hr (by simp) fun m hm => ?_
  rcases List.mem_cons.1 hm with rfl | hm
  · exact wpOp_of_list m hi h
  · rcases List.mem_cons.1 hm with rfl | hm
    · exact wpOp_of_list m hj h'
    · obtain rfl : m = k := by simpa using hm
      exact wpOp_of_list m hk h''
/-- .. and behind it. -/
theorem e1 {a' : Act} {w' : World} (d : Nat) (v : Value) (i : Nat) (hS : S w') (h : wpAnyH P md ops Q S fuel (listed.setIfInBounds i true) ⟨(l.set d v).toArray, ds⟩ w') (ha : a' = (⟨l.toArray, ds⟩ : Act).put (some d) v := by rfl) :
    wpList P ops (endK (fun a' w' => S w' ∧ wpAnyH P md ops Q S fuel (listed.setIfInBounds i true) a' w') Q) [] a' w' := by
  subst ha
  rw [put_list]
  exact ⟨hS, h⟩
theorem e0 {a' : Act} {w' : World} (i : Nat) (hS : S w') (h : wpAnyH P md ops Q S fuel (listed.setIfInBounds i true) a' w') :
    wpList P ops (endK (fun a' w' => S w' ∧ wpAnyH P md ops Q S fuel (listed.setIfInBounds i true) a' w') Q) [] a' w' := ⟨hS, h⟩
/-- The one operation that may come up now is a call. -/
theorem ac (i d : Nat) (f : FuncId) (args : Array Value) (hrun : (execOp (⟨l.toArray, ds⟩ : Act).eval (opAt ops i)).run P w = .ok (.enter f args) w)
    (hc : Calls P f args w fun e w' => ∃ v, e = .returned v ∧ S w' ∧ wpAnyH P md ops Q S fuel (listed.setIfInBounds i true) ⟨(l.set d v).toArray, ds⟩ w')
    (hk : (decide (i < ops.size) && ((opAt ops i).dst == some d) && Region.wanted (opAt ops i) (yielded ops l.toArray)) = true := by kernel_rfl) (hr : Region.ready md ops listed = [i] := by kernel_rfl) : wpAnyH P md ops Q S (fuel + 1) listed ⟨l.toArray, ds⟩ w := by
  simp only [Bool.and_eq_true, decide_eq_true_eq, beq_iff_eq] at hk
  exact all_call i d f args (opAt_get hk.1.1) hk.1.2 hr hk.2 hrun hc
/-- The beginning of a region whose order is open. -/
theorem rg {id : Nat} {a : Act} {w : World} (S : World → Prop) (n : Nat) (hS : S w.drew) (h : ∀ u, S u → wpAnyH P .any ops Q S n (Array.replicate n false) a u) (hm : P.follows .mixedOrders = true := by kernel_rfl) (hn : ops.size = n := by rfl) : (Code.region id ops true).wp P Q a w := by
  subst hn
  exact wp_region_held hm (h _ hS)
/-- .. with more known of the world at hand (T) than stays throughout (S). -/
theorem rgT {id : Nat} {a : Act} {w : World} (S T : World → Prop) (n : Nat) (hS : ∀ u, T u → S u) (hT : T w.drew) (h : ∀ u, T u → wpAnyH P .any ops Q S n (Array.replicate n false) a u) (hm : P.follows .mixedOrders = true := by kernel_rfl) (hn : ops.size = n := by rfl) : (Code.region id ops true).wp P Q a w := by
  subst hn
  exact wp_region_held hm (h _ hT)
/-- A region in its order: one operation that yields. -/
theorem sv {rest : List Oper} (d : Nat) (v : Value) (hrun : Val P ⟨l.toArray, ds⟩ oi v w) (h : wpList P ops Q rest ⟨(l.set d v).toArray, ds⟩ w)
    (hw : Region.wanted oi (yielded ops l.toArray) = true := by kernel_rfl) (hd : oi.dst = some d := by rfl) : wpList P ops Q (oi :: rest) ⟨l.toArray, ds⟩ w :=
  wpList_wanted hw fun K hK => by
    unfold Oper.wp
    rw [hrun, Oper.upon_value, hd, put_list]
    exact hK _ _ h
/-- A store of one plain value. -/
theorem run_store1 (w : World) (ty : TypeId) (g i : Nat) (v u : Value) (hv : v.oneCell' = true) (hi : (P.info? ty).map (·.size) = some 1) (hc : w.cell? ⟨g, i, none⟩ = some u) (hf : w.frozen? ⟨g, i, none⟩ = false) :
    (Instr.storeAt ty (.pointer (some ⟨g, i, none⟩)) v).run P w = .ok () (w.setCell ⟨g, i, none⟩ v) := by
  obtain ⟨j, hi1, hi2⟩ := Option.map_eq_some_iff.1 hi
  have hcs : v.cells = #[v] := by cases v <;> first | rfl | (simp [Value.oneCell'] at hv)
  have hsz : (sizeOf ty).run P w = .ok 1 w := by simp [sizeOf, typeInfo, hi1, hi2]
  have hst := run_store P w ⟨g, i, none⟩ v .plain hv
  rw [hc, hf] at hst
  simp only [Bool.false_eq_true, if_false] at hst
  simp only [Instr.storeAt, Instr.sureAddr, Sem.run_bind, Sem.run_pure, Result.andThen_ok, storeVar, hsz, hcs]
  simp [storeCells, Addr.add_mid, hst]
theorem wp_store1 {rest : List Oper} {a : Act} (hgd : Region.wanted oi (yielded ops a.tmps) = true) (ty : TypeId) (x y : Operand) (ho : oi.op = .store ty x y) (hdst : oi.dst = none) (g i : Nat) (v u : Value) (hx : a.eval x = .pointer (some ⟨g, i, none⟩)) (hy : a.eval y = v)
    (hv : v.oneCell' = true) (hi : (P.info? ty).map (·.size) = some 1) (hc : w.cell? ⟨g, i, none⟩ = some u) (hf : w.frozen? ⟨g, i, none⟩ = false) (hk : wpList P ops Q rest a (w.setCell ⟨g, i, none⟩ v)) : wpList P ops Q (oi :: rest) a w :=
  wpList_wanted hgd fun K hK => by
    have := run_store1 (P := P) w ty g i v u hv hi hc hf
    unfold Oper.wp
    simp only [execOp, ho, hx, hy, Sem.run_bind, this, Result.andThen_ok, Sem.run_pure]
    have hput : a.put oi.dst undef = a := by rw [hdst]; rfl
    unfold Oper.upon
    simp only [hput]
    exact hK _ _ hk
end
end Go.Proofs.Yteaijjefbadnbaa
