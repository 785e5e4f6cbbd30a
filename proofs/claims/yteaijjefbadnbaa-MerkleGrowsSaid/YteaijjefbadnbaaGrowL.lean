/-
  append(nil, make([]T, n)...), and what slices.Grow does with it.
  No conditions: lemmas over any program.
-/
import Derived.Test.YteaijjefbadnbaaNatV
namespace Go.Proofs.Yteaijjefbadnbaa
open Go.RowKit
set_option linter.unusedVariables false
set_option linter.unusedSimpArgs false
set_option maxRecDepth 100000

section
variable {P : Program} {ops : Array Oper} {Q : Exit → Act → World → Prop} {l : List Value} {ds : List Deferred} {w : World} {oi : Oper} {rest : List Oper}
theorem zeroCells_size (z : Array Value) (n : Nat) (h : z.size = 1) : (Builtin.zeroCells z n).size = n := by simp [Builtin.zeroCells, h]
theorem run_append_zeros (t u ty e : TypeId) (i : TypeInfo) (z : Value) (k' : IntKind) (ht : P.underlying t = some (.slice e)) (hu : P.underlying u = some (.int k')) (hi : P.info? e = some i) (hz : i.zero = some z) (hs : i.size = 1)
    (n : Nat) (h0 : 0 < n) (h63 : (n : Int) ≤ 9223372036854775807) (h48 : n * i.bytes ≤ 281474976710656) :
    (Builtin.append_ #[t, u] ty #[.slice none 0 0, .int .i64 (n : Int)]).run P w =
      .ok (.slice (some ⟨w.heap.size, 0, none⟩) n (grownCap w n 0 e)) (w.drew.alloc (.cells (Builtin.zeroCells z.cells n ++ Builtin.zeroCells z.cells (grownCap w n 0 e - n)) e)) := by
  have hn : n ≠ 0 := by omega
  have hwr : IntKind.i64.wrap (n : Int) = n := by simp [IntKind.wrap, IntKind.bits, IntKind.signed]; omega
  have h63' : ¬ (9223372036854775807 < (n : Int)) := by omega
  have h48' : ¬ (281474976710656 < Builtin.nextslicecap n 0 * i.bytes) := by rw [nextslicecap_zero h0]; omega
  have h48'' : ¬ ((281474976710656 : Int) < (n : Int) * (i.bytes : Int)) := by
    have : ((n * i.bytes : Nat) : Int) ≤ ((281474976710656 : Nat) : Int) := Int.ofNat_le.2 h48
    simp at this; omega
  have hm : IntKind.i64.max = 9223372036854775807 := by rfl
  have hneg : ¬ ((n : Int) < 0) := by omega
  simp [Builtin.append_, run_underlying ht, run_underlying hu, sizeOf, typeInfo, zeroValue, hi, hz, hs, asInt, asIntOf, hwr, hn, h63', h48', h48'', Question.forced, run_firstCells_none, newRow, grownCap, hm, hneg]
theorem zeroCells_add (k : IntKind) (a b : Nat) : Builtin.zeroCells #[.int k 0] a ++ Builtin.zeroCells #[.int k 0] b = Builtin.zeroCells #[.int k 0] (a + b) := by
  apply Array.ext
  · simp [zeroCells_size]
  · intro i h1 h2
    simp [Builtin.zeroCells, Array.getElem_append, Nat.mod_one]
/-- append(nil, make([]T, n)...), the room alone -/
theorem xAppZ (d : Nat) (s x : Operand) (t u e : TypeId) (k k' : IntKind) (bytes : Nat) (ho : oi.op = .call { callee := .builtin .append, args := #[s, x], argTypes := #[t, u] })
    (ht : P.underlying t = some (.slice e)) (hu : P.underlying u = some (.int k')) (hinfo : (P.info? e).map (fun i => (i.zero, i.size, i.bytes)) = some (some (.int k 0), 1, bytes))
    (n : Nat) (hs : (⟨l.toArray, ds⟩ : Act).eval s = .slice none 0 0) (hx : (⟨l.toArray, ds⟩ : Act).eval x = .int .i64 (n : Int)) (h0 : 0 < n) (hmx : n ≤ maxLen) (h48 : n * bytes ≤ 281474976710656)
    (h : ∀ c w', n ≤ c → c ≤ maxLen → Own e k w.heap.size w' (.slice (some ⟨w.heap.size, 0, none⟩) 0 c) [] → E0 w w' → wpList P ops Q rest ⟨(l.set d (.slice (some ⟨w.heap.size, 0, none⟩) n c)).toArray, ds⟩ w')
    (hgd : oi.guard = none := by rfl) (hd : oi.dst = some d := by rfl) : wpList P ops Q (oi :: rest) ⟨l.toArray, ds⟩ w := by
  obtain ⟨i, hi, hz0, hz1, hz2⟩ := info_parts hinfo
  refine wpList_plain hgd fun K hK => ?_
  have h63 : (n : Int) ≤ 9223372036854775807 := by unfold maxLen at hmx; omega
  have hrun := run_append_zeros (P := P) (w := w) t u oi.type e i (.int k 0) k' ht hu hi hz0 hz1 n h0 h63 (by rw [hz2]; exact h48)
  unfold Oper.wp
  simp [execOp, ho, resolve, invoke, builtin, hs, hx, hrun, Result.andThen]
  refine hK _ _ ?_
  rw [put_list' d _ hd]
  have hc1 := grownCap_ge w n 0 e
  have hc2 := grownCap_le_maxLen w n 0 e hmx
  refine h (grownCap w n 0 e) _ hc1 hc2 ?_ ((drew_e0 w).trans (alloc_e0 _ _))
  refine ⟨rfl, .inr ⟨w.heap.size, grownCap w n 0 e, _, rfl, Nat.le_refl _, heap_alloc_new w.drew _, Nat.zero_le _, hc2, ?_, ?_⟩⟩
  · rw [show (Value.int k 0).cells = #[.int k 0] from rfl, zeroCells_add]
    simp [zeroCells_size]; omega
  · simp [nums]
theorem Val.slH {a : Act} {op : Oper} {w : World} (t : TypeId) (x hi : Operand) (ho : op.op = .slice t x none (some hi) none) (g n c : Nat) (hx : a.eval x = .slice (some ⟨g, 0, none⟩) n c) (h' : Nat)
    (hhi : a.eval hi = .int .i64 (h' : Int)) (h2 : h' ≤ c) {e : TypeId} (ht : P.underlying t = some (.slice e)) (hi0 : (P.info? e).map (·.size) = some 1) : Val P a op (.slice (some ⟨g, 0, none⟩) h' c) w := by
  obtain ⟨i, hi1, hm⟩ := Option.map_eq_some_iff.1 hi0
  have hsz : (sizeOf e).run P w = .ok 1 w := by simp [sizeOf, typeInfo, hi1, hm]
  have hb : (Instr.sliceBounds true n c none (some (.int .i64 (h' : Int))) none).run P w = .ok (0, h', c) w := by
    unfold Instr.sliceBounds
    simp [run_bound (P := P) (w := w) h2]
  unfold Val execOp
  simp only [ho, hx, hhi, Instr.sliceAt, run_underlying ht, Sem.run_bind, Result.andThen_ok, Instr.slice, Option.map_none, Option.map_some, hb, hsz, Nat.mul_one, Sem.run_pure]
  simp [Addr.add]
theorem Val.idxV {a : Act} {op : Oper} {w : World} (t : TypeId) (x ix : Operand) (ho : op.op = .indexAddr t x ix) (v : Value) (j : Nat) (hx : a.eval x = v) (hix : a.eval ix = .int .i64 (j : Int)) {us : List Value} (hs : SV w v us)
    {e : TypeId} (ht : P.underlying t = some (.slice e)) (hi0 : (P.info? e).map (·.size) = some 1) (hj : j < us.length) : Val P a op (elemP v j) w := by
  rcases hs with ⟨rfl, rfl⟩ | ⟨b, o, c, rfl, h1, h2, h3, h4⟩
  · simp at hj
  · have := Val.idxS (P := P) (w := w) t x ix ho b o us.length c j hx hix 1 ht hi0 hj
    rw [Nat.mul_one] at this
    simpa [elemP, Addr.add_mid] using this
theorem Val.ldV {a : Act} {op : Oper} {w : World} (ty : TypeId) (x : Operand) (ho : op.op = .load ty x) (v : Value) (j : Nat) (hx : a.eval x = elemP v j) (hagg : ∀ w, (isAgg ty).run P w = .ok false w) {us : List Value} (hs : SV w v us) (hj : j < us.length) : Val P a op (us.getD j undef) w := by
  rcases hs with ⟨rfl, rfl⟩ | ⟨b, o, c, rfl, h1, h2, h3, h4⟩
  · simp at hj
  · simp only [elemP, Addr.add_mid] at hx
    exact Val.cell ty x ho b (o + j) _ hx hagg (h4 j hj)
theorem Val.lenO {a : Act} {op : Oper} {w : World} (x : Operand) (tx : TypeId) (ho : op.op = .call { callee := .builtin .len, args := #[x], argTypes := #[tx] }) {v : Value} {e : TypeId} {k : IntKind} {base : Nat} {xs : List Int} (hx : a.eval x = v) (h : Own e k base w v xs) (m : Nat) (hm : xs.length = m) {te : TypeId} (ht : P.underlying tx = some (.slice te)) : Val P a op (.int .i64 (m : Int)) w := by
  obtain ⟨b, c, rfl⟩ := h.len
  subst hm
  unfold Val
  simp only [execOp, ho]
  simp [resolve, invoke, builtin, hx, Builtin.len_, run_underlying ht, goInt]
theorem Own.ofNw {w w' : World} {e : TypeId} {k : IntKind} {base : Nat} {xs : List Int} (h : Nw w w' e (nums k xs)) (hb : base ≤ w.heap.size) (hm : xs.length ≤ maxLen) : Own e k base w' (.slice (some ⟨w.heap.size, 0, none⟩) xs.length xs.length) xs :=
  ⟨by simp [nums], .inr ⟨w.heap.size, xs.length, _, rfl, hb, h.c, Nat.le_refl _, hm, by simp [nums], by simpa [nums] using List.take_of_length_le (by simp)⟩⟩
theorem Val.lenS {a : Act} {op : Oper} {w : World} (x : Operand) (tx : TypeId) (ho : op.op = .call { callee := .builtin .len, args := #[x], argTypes := #[tx] }) {v : Value} {k : IntKind} {xs : List Int} (hx : a.eval x = v) (h : SL k w v xs) (m : Nat) (hm : xs.length = m) {te : TypeId} (ht : P.underlying tx = some (.slice te)) : Val P a op (.int .i64 (m : Int)) w := by
  obtain ⟨b, c, rfl, _⟩ := h.len
  subst hm
  unfold Val
  simp only [execOp, ho]
  simp [resolve, invoke, builtin, hx, Builtin.len_, run_underlying ht, goInt]
/-- a slice's first elements, as an array -/
theorem Val.arrP {a : Act} {op : Oper} {w : World} (ty : TypeId) (x : Operand) (ho : op.op = .sliceToArrayPointer ty x) (v : Value) (hx : a.eval x = v) {k : IntKind} {xs : List Int} (h : SL k w v xs) (n : Nat) {te : TypeId} (hu : P.underlying ty = some (.array n te)) (h0 : 0 < n) (hn : n ≤ xs.length) : Val P a op (elemP v 0) w := by
  rcases h with ⟨rfl, rfl⟩ | ⟨b, o, c, rfl, h1, h2, h3, h4⟩
  · simp at hn; omega
  · unfold Val execOp
    have hlt : ¬ (xs.length < n) := by omega
    simp only [ho, hx, Instr.arrayAt, run_underlying hu, Sem.run_bind, Result.andThen_ok, hlt, if_false, Sem.run_pure]
    rfl
theorem Val.ldArr {a : Act} {op : Oper} {w : World} (ty : TypeId) (x : Operand) (ho : op.op = .load ty x) (v : Value) (hx : a.eval x = elemP v 0) {k : IntKind} {xs : List Int} (h : SL k w v xs) (n : Nat) {td : TypeDesc} (hu : P.underlying ty = some td) (hrow : td.isRow = true) (hi' : (P.info? ty).map (·.size) = some n) (h0 : 0 < n) (hn : n ≤ xs.length) (ys : List Int) (hys : xs.take n = ys) : Val P a op (.agg (cellsOf k ys)) w := by
  subst hys
  rcases h with ⟨rfl, rfl⟩ | ⟨b, o, c, rfl, h1, h2, h3, h4⟩
  · simp at hn; omega
  · simp only [elemP, Addr.add_mid] at hx
    have := run_loadAt_mid (P := P) w b (o + 0) ty ((xs.take n).map (Value.int k)) td (fun j v hv => by
      rw [List.getElem?_map, List.getElem?_take] at hv
      by_cases hj : j < n
      · rw [if_pos hj] at hv
        have hj2 : j < xs.length := by omega
        rw [List.getElem?_eq_getElem hj2] at hv
        obtain rfl := Option.some.inj hv
        rw [Nat.add_zero, h4 j hj2, List.getD_eq_getElem?_getD, List.getElem?_eq_getElem hj2]; rfl
      · rw [if_neg hj] at hv; cases hv) hu hrow (by rw [hi']; simp; omega)
    unfold Val execOp
    simp only [ho, hx, Sem.run_bind, this, Result.andThen_ok, Sem.run_pure]
    rfl
theorem flat_take {α : Type} (ys : List (List α)) (k : Nat) (h : k < ys.length) : (ys.take (k + 1)).flatten = (ys.take k).flatten ++ ys.getD k [] := by
  have e1 : ys.take (k + 1) = ys.take k ++ [ys[k]] := by rw [List.take_add_one, List.getElem?_eq_getElem h]; rfl
  have e2 : ys.getD k [] = ys[k] := by rw [List.getD_eq_getElem?_getD, List.getElem?_eq_getElem h]; rfl
  rw [e1, e2]; simp only [List.flatten_append, List.flatten_cons, List.flatten_nil, List.append_nil]
theorem flat_take_le {α : Type} (ys : List (List α)) (k : Nat) : (ys.take k).flatten.length ≤ ys.flatten.length := by
  conv => rhs; rw [← List.take_append_drop k ys]
  rw [List.flatten_append, List.length_append]; omega
theorem flat_take_all {α : Type} (ys : List (List α)) (k : Nat) (h : k = ys.length) : (ys.take k).flatten = ys.flatten := by subst h; rw [List.take_length]
end
end Go.Proofs.Yteaijjefbadnbaa
