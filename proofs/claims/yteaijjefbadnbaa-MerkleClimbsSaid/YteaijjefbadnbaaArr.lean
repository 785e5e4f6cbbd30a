/-
  Arrays of whole numbers in memory: loads and stores of whole arrays in the middle of a block; arrays compared.
  No conditions: lemmas over any program.
-/
import Derived.Test.YteaijjefbadnbaaBase
import Derived.Deep.MidRow
import Derived.ChangeKeysEq
namespace Go.Proofs.Yteaijjefbadnbaa
open Go.RowKit
set_option linter.unusedVariables false
set_option linter.unusedSimpArgs false
set_option maxRecDepth 100000

/-- Block g holds just these whole numbers. -/
def Blk (k : IntKind) (w : World) (g : Nat) (t : TypeId) (xs : List Int) : Prop := w.heap[g]? = some (.cells (cellsOf k xs) t (0, 0))

theorem cells_size (k : IntKind) (xs : List Int) : (cellsOf k xs).size = xs.length := by simp [cellsOf]
theorem cells_toList (k : IntKind) (xs : List Int) : (cellsOf k xs).toList = xs.map (Value.int k) := by simp [cellsOf]

theorem Blk.cell {k : IntKind} {w : World} {g : Nat} {t : TypeId} {xs : List Int} (h : Blk k w g t xs) (j : Nat) (hj : j < xs.length) : w.cell? ⟨g, j, none⟩ = some (.int k (xs.getD j 0)) := by
  rw [Joins.cell_of_block h, cells_at k xs j hj]
theorem Blk.frozen {k : IntKind} {w : World} {g : Nat} {t : TypeId} {xs : List Int} (h : Blk k w g t xs) (j : Nat) : w.frozen? ⟨g, j, none⟩ = false := Joins.unfrozen_of_block h j
theorem Blk.lt {k : IntKind} {w : World} {g : Nat} {t : TypeId} {xs : List Int} (h : Blk k w g t xs) : g < w.heap.size := (Array.getElem?_eq_some_iff.1 h).1
theorem Blk.keep {k : IntKind} {w w' : World} {g B : Nat} {t : TypeId} {xs : List Int} (h : Blk k w g t xs) (hb : Below B w w') (hg : g < B) : Blk k w' g t xs := (hb.block g hg).trans h
theorem Blk.below {k : IntKind} {w w' : World} {g : Nat} {t : TypeId} {xs : List Int} (h : Blk k w g t xs) (hb : Below w.heap.size w w') : Blk k w' g t xs := h.keep hb h.lt
theorem Blk.alloc {k : IntKind} {w : World} {g : Nat} {t : TypeId} {xs : List Int} (h : Blk k w g t xs) (o : Obj) : Blk k (w.alloc o) g t xs := h.below (Joins.below_alloc1 _ _)
theorem Blk.new {k : IntKind} (w : World) (t : TypeId) (xs : List Int) : Blk k (w.alloc (.cells (cellsOf k xs) t)) w.heap.size t xs := heap_alloc_new w _
theorem Blk.new' {k : IntKind} {w : World} {t : TypeId} {xs : List Int} {cs : Array Value} {n : Nat} (hn : n = w.heap.size) (hc : cs = cellsOf k xs) : Blk k (w.alloc (.cells cs t)) n t xs := by subst hc hn; exact heap_alloc_new w _
theorem Blk.set {k : IntKind} {w : World} {g i : Nat} {t : TypeId} {xs : List Int} (h : Blk k w g t xs) (x : Int) : Blk k (w.setCell ⟨g, i, none⟩ (.int k x)) g t (xs.set i x) := by
  have h2 := Joins.block_setCell (i := i) h (.int k x)
  have e : (cellsOf k xs).setIfInBounds i (.int k x) = cellsOf k (xs.set i x) := by
    simp [cellsOf]
  rw [e] at h2
  exact h2
theorem Blk.set_other {k : IntKind} {w : World} {g : Nat} {t : TypeId} {xs : List Int} (h : Blk k w g t xs) {a : Addr} (hne : g ≠ a.block) (v : Value) : Blk k (w.setCell a v) g t xs :=
  (heap_setCell_other w a g v hne).trans h

/-- A part of a list. -/
def seg (o n : Nat) (xs : List Int) : List Int := (xs.drop o).take n
theorem seg_length (o n : Nat) (xs : List Int) (h : o + n ≤ xs.length) : (seg o n xs).length = n := by simp [seg]; omega
theorem seg_getD (o n : Nat) (xs : List Int) (j : Nat) (hj : j < n) : (seg o n xs).getD j 0 = xs.getD (o + j) 0 := by
  simp only [seg, List.getD_eq_getElem?_getD, List.getElem?_take, List.getElem?_drop]
  rw [if_pos hj]
theorem seg_all (xs : List Int) : seg 0 xs.length xs = xs := by simp [seg]
theorem seg_all' (xs : List Int) {n : Nat} (h : xs.length = n) : seg 0 n xs = xs := by subst h; exact seg_all xs

theorem Blk.range {k : IntKind} {w : World} {g : Nat} {t : TypeId} {xs : List Int} (h : Blk k w g t xs) (o n : Nat) (hl : o + n ≤ xs.length) : w.rangeAt g o (cellsOf k (seg o n xs)).toList := by
  intro j v hv
  rw [cells_toList] at hv
  have hj : j < (seg o n xs).length := by
    have := (List.getElem?_eq_some_iff.1 hv).1
    simpa using this
  rw [seg_length o n xs hl] at hj
  rw [h.cell (o + j) (by omega), ← hv]
  have := seg_getD o n xs j hj
  rw [← this]
  have hj2 : j < (seg o n xs).length := by rw [seg_length o n xs hl]; exact hj
  simp [hj2]

section
variable {P : Program}
theorem wpList_wanted {ops : Array Oper} {Q : Exit → Act → World → Prop} {a : Act} {w : World} {rest : List Oper} {o : Oper} (hw : Region.wanted o (yielded ops a.tmps) = true)
    (h : ∀ K : Act → World → Prop, (∀ a w, wpList P ops Q rest a w → K a w) → o.wp P a w K Q) : wpList P ops Q (o :: rest) a w :=
  wpList_step fun K hK => by rw [if_pos hw]; exact h K hK
/-- A whole array, read from the middle of a block: the equation. -/
theorem Blk.load {k : IntKind} {w : World} {g : Nat} {t : TypeId} {xs : List Int} (h : Blk k w g t xs) (ty : TypeId) (o n : Nat) (d : TypeDesc) (hu : P.underlying ty = some d) (hd : d.isRow = true)
    (hi : (P.info? ty).map (·.size) = some n) (hl : o + n ≤ xs.length) : (Instr.loadAt ty (.pointer (some ⟨g, o, none⟩))).run P w = .ok (.agg (cellsOf k (seg o n xs))) w := by
  have := run_loadAt_mid (P := P) w g o ty (cellsOf k (seg o n xs)).toList d (h.range o n hl) hu hd (by rw [hi]; simp [cells_size, seg_length o n xs hl])
  simpa using this
theorem wp_load_blk {ops : Array Oper} {rest : List Oper} {op : Oper} {a : Act} {w : World} {Q : Exit → Act → World → Prop} (hgd : Region.wanted op (yielded ops a.tmps) = true) (ty : TypeId) (x : Operand) (ho : op.op = .load ty x)
    {k : IntKind} {g : Nat} {t : TypeId} {xs : List Int} (o n : Nat) (hx : a.eval x = .pointer (some ⟨g, o, none⟩)) (h : Blk k w g t xs) (d : TypeDesc) (hu : P.underlying ty = some d) (hd : d.isRow = true)
    (hi : (P.info? ty).map (·.size) = some n) (hl : o + n ≤ xs.length)
    (hk : wpList P ops Q rest (a.put op.dst (.agg (cellsOf k (seg o n xs)))) w) : wpList P ops Q (op :: rest) a w :=
  wpList_wanted hgd fun K hK => wp_load_mid ty x ho g o hx (cellsOf k (seg o n xs)).toList d (h.range o n hl) hu hd (by rw [hi]; simp [cells_size, seg_length o n xs hl]) (hK _ _ (by simpa using hk))
theorem wp_load_whole {ops : Array Oper} {rest : List Oper} {op : Oper} {a : Act} {w : World} {Q : Exit → Act → World → Prop} (hgd : Region.wanted op (yielded ops a.tmps) = true) (ty : TypeId) (x : Operand) (ho : op.op = .load ty x)
    {k : IntKind} {g : Nat} {t : TypeId} {xs : List Int} (hx : a.eval x = .pointer (some ⟨g, 0, none⟩)) (h : Blk k w g t xs) (d : TypeDesc) (hu : P.underlying ty = some d) (hd : d.isRow = true)
    (hi : (P.info? ty).map (·.size) = some xs.length)
    (hk : wpList P ops Q rest (a.put op.dst (.agg (cellsOf k xs))) w) : wpList P ops Q (op :: rest) a w :=
  wp_load_blk hgd ty x ho 0 xs.length hx h d hu hd hi (by omega) (by rw [seg_all]; exact hk)

/-- xs with ys laid over it from place o on. -/
def over (xs : List Int) (o : Nat) (ys : List Int) : List Int := xs.take o ++ ys ++ xs.drop (o + ys.length)
theorem over_length (xs ys : List Int) (o : Nat) (h : o + ys.length ≤ xs.length) : (over xs o ys).length = xs.length := by simp [over]; omega
theorem over_whole (xs ys : List Int) (h : ys.length = xs.length) : over xs 0 ys = ys := by simp [over, h]

theorem setCells_heap (g : Nat) : ∀ (vs : List Value) (o : Nat) (w : World) (cs : Array Value) (t : TypeId), w.heap[g]? = some (.cells cs t (0, 0)) → o + vs.length ≤ cs.size →
    (w.setCells g o vs).heap[g]? = some (.cells (cs.toList.take o ++ vs ++ cs.toList.drop (o + vs.length)).toArray t (0, 0))
  | [], o, w, cs, t, h, hl => by
    simp only [World.setCells, List.append_nil, List.length_nil, Nat.add_zero, List.take_append_drop]
    simpa using h
  | v :: vs, o, w, cs, t, h, hl => by
    rw [World.setCells]
    have h2 := Joins.block_setCell (i := o) h v
    have hl' : o + 1 + vs.length ≤ cs.size := by simp at hl; omega
    rw [setCells_heap g vs (o + 1) _ _ t h2 (by simpa using hl')]
    congr 2
    have ho : o < cs.toList.length := by simp; omega
    rw [Array.toList_setIfInBounds, List.take_set, List.drop_set_of_lt (by omega)]
    rw [List.take_succ_eq_append_getElem ho]
    simp only [List.length_cons]
    congr 1
    have e : (o + 1 + vs.length) = (o + (vs.length + 1)) := by omega
    rw [e]
    have e2 : (List.take o cs.toList ++ [cs.toList[o]]).set o v = List.take o cs.toList ++ [v] := by
      rw [List.set_append_right _ _ (by simp; omega)]
      have : (List.take o cs.toList).length = o := by simp; omega
      rw [this]; simp
    rw [e2]
    simp

theorem setCells_other (g : Nat) : ∀ (vs : List Value) (o : Nat) (w : World) (i : Nat), i ≠ g → (w.setCells g o vs).heap[i]? = w.heap[i]?
  | [], _, _, _, _ => rfl
  | v :: vs, o, w, i, h => by
    rw [World.setCells, setCells_other g vs (o + 1) _ i h]
    exact heap_setCell_other w _ i v h
theorem setCells_size (g : Nat) : ∀ (vs : List Value) (o : Nat) (w : World), (w.setCells g o vs).heap.size = w.heap.size
  | [], _, _ => rfl
  | v :: vs, o, w => by
    rw [World.setCells, setCells_size g vs (o + 1) _]
    simp [World.setCell]
theorem setCells_rest (g : Nat) : ∀ (vs : List Value) (o : Nat) (w : World), (w.setCells g o vs).os = w.os ∧ (w.setCells g o vs).tape = w.tape ∧ (w.setCells g o vs).output = w.output
  | [], _, _ => ⟨rfl, rfl, rfl⟩
  | v :: vs, o, w => by
    rw [World.setCells]
    exact setCells_rest g vs (o + 1) _

/-- Nothing but block g has turned. -/
structure Only (g : Nat) (w w' : World) : Prop where
  os : w'.os = w.os
  tape : w'.tape = w.tape
  output : w'.output = w.output
  size : w'.heap.size = w.heap.size
  block : ∀ i, i ≠ g → w'.heap[i]? = w.heap[i]?
theorem Only.below {g B : Nat} {w w' : World} (h : Only g w w') (hB : B ≤ g) : Below B w w' := ⟨h.os, h.tape, h.output, Nat.le_of_eq h.size.symm, fun k hk => h.block k (by omega)⟩
theorem Only.refl (g : Nat) (w : World) : Only g w w := ⟨rfl, rfl, rfl, rfl, fun _ _ => rfl⟩
theorem Only.trans {g : Nat} {a b c : World} (h : Only g a b) (k : Only g b c) : Only g a c := ⟨k.os.trans h.os, k.tape.trans h.tape, k.output.trans h.output, k.size.trans h.size, fun i hi => (k.block i hi).trans (h.block i hi)⟩
theorem Only.setCell (w : World) (a : Addr) (v : Value) : Only a.block w (w.setCell a v) := ⟨rfl, rfl, rfl, by simp [World.setCell], fun i hi => heap_setCell_other w a i v hi⟩
theorem Only.drew {g : Nat} {w w' : World} (h : Only g w w') : Only g w w'.drew := ⟨h.os, h.tape, h.output, h.size, h.block⟩
theorem Only.drewN {g : Nat} {w w' : World} (h : Only g w w') (n : Nat) : Only g w (w'.drewN n) := ⟨h.os, h.tape, h.output, h.size, h.block⟩
theorem Blk.only {k : IntKind} {w w' : World} {g b : Nat} {t : TypeId} {xs : List Int} (h : Blk k w g t xs) (ho : Only b w w') (hne : g ≠ b) : Blk k w' g t xs := (ho.block g hne).trans h

/-- A whole array, stored into the middle of a block. -/
theorem wp_store_blk {ops : Array Oper} {rest : List Oper} {op : Oper} {a : Act} {w : World} {Q : Exit → Act → World → Prop} (hgd : Region.wanted op (yielded ops a.tmps) = true) (ty : TypeId) (x y : Operand) (ho : op.op = .store ty x y) (hdst : op.dst = none)
    {k : IntKind} {g : Nat} {t : TypeId} {xs : List Int} (o : Nat) (ys : List Int) (hx : a.eval x = .pointer (some ⟨g, o, none⟩)) (hy : a.eval y = .agg (cellsOf k ys)) (h : Blk k w g t xs)
    (hi : (P.info? ty).map (·.size) = some ys.length) (hl : o + ys.length ≤ xs.length)
    (hk : ∀ w', Blk k w' g t (over xs o ys) → Only g w w' → wpList P ops Q rest a w') : wpList P ops Q (op :: rest) a w := by
  refine wpList_wanted hgd fun K hK => wp_store_mid ty x y ho g o (cellsOf k ys) hx hy ?_ (by rw [cells_size]; exact hi) ?_ ?_
  · intro j hj
    rw [cells_size] at hj
    rw [h.cell (o + j) (by omega), h.frozen]
    simp
  · rw [Array.all_eq_true_iff_forall_mem]
    intro v hv
    exact ints_oneCell k ys v (by simpa [cellsOf] using hv)
  · have hsz : (cellsOf k ys).toList.length = ys.length := by simp [cellsOf]
    have hput : a.put op.dst undef = a := by rw [hdst]; rfl
    rw [hput]
    refine hK _ _ (hk _ ?_ ⟨(setCells_rest g _ _ _).1, (setCells_rest g _ _ _).2.1, (setCells_rest g _ _ _).2.2, setCells_size g _ _ _, fun i hi => setCells_other g _ _ _ i hi⟩)
    unfold Blk
    rw [setCells_heap g _ o w _ t h (by rw [hsz, cells_size]; exact hl), hsz]
    simp only [cells_toList]
    simp only [cellsOf, over, List.map_append, List.map_take, List.map_drop]

/-- Arrays of whole numbers are the same just if their numbers are. -/
theorem eqItems_int (d : Nat) {e : TypeId} {k : IntKind} {i : TypeInfo} (he : P.underlying e = some (.int k)) (hc : P.cellsOf e = 1) (hi : P.info? e = some i) (xs ys : List Int) (hl : xs.length = ys.length) (w : World) :
    ∀ m o, o + m = xs.length → (Op.eqItems (d + 1) e 1 (cellsOf k xs) (cellsOf k ys) (List.range' o m)).run P w = .ok (decide (xs.drop o = ys.drop o)) w := by
  have hpart : ∀ (zs : List Int) (j : Nat), j < zs.length → (part e (cellsOf k zs) j).run P w = .ok (.int k (zs.getD j 0)) w := by
    intro zs j hj
    have hagg : (isAgg e).run P w = .ok false w := by simp [isAgg, run_underlying he]
    simp only [part, Sem.run_bind, hagg, Result.andThen_ok]
    have := cells_at k zs j hj
    simp [this]
  intro m
  induction m with
  | zero =>
    intro o ho
    rw [List.drop_of_length_le (by omega), List.drop_of_length_le (by omega)]
    simp [Op.eqItems]
  | succ m ih =>
    intro o ho
    rw [List.range'_succ]
    simp only [Op.eqItems, Sem.run_bind, Nat.mul_one]
    rw [hpart xs o (by omega), Result.andThen_ok, hpart ys o (by omega), Result.andThen_ok]
    have e1 : (Op.equalIn (d + 1) e (.int k (xs.getD o 0)) (.int k (ys.getD o 0))).run P w = .ok (xs.getD o 0 == ys.getD o 0) w := by
      simp [Op.equalIn, run_underlying he]
    rw [e1, Result.andThen_ok]
    have hx : xs.drop o = xs.getD o 0 :: xs.drop (o + 1) := by
      rw [List.drop_eq_getElem_cons (by omega : o < xs.length)]
      simp [show o < xs.length by omega]
    have hy : ys.drop o = ys.getD o 0 :: ys.drop (o + 1) := by
      rw [List.drop_eq_getElem_cons (by omega : o < ys.length)]
      simp [show o < ys.length by omega]
    by_cases hq : xs.getD o 0 = ys.getD o 0
    · have hb : (xs.getD o 0 == ys.getD o 0) = true := beq_iff_eq.2 hq
      rw [hb]
      simp only [Bool.not_true, Bool.false_eq_true, if_false]
      rw [hx, hy]
      have := ih (o + 1) (by omega)
      rw [this, hq]
      congr 1
      simp
    · have hb : (xs.getD o 0 == ys.getD o 0) = false := beq_eq_false_iff_ne.2 hq
      have hne : ¬ (xs.getD o 0 :: xs.drop (o + 1)) = (ys.getD o 0 :: ys.drop (o + 1)) := by
        intro h; exact hq (List.cons.inj h).1
      rw [hb, hx, hy, decide_eq_false hne]
      simp

theorem eq_array (d : Nat) {t e : TypeId} {n : Nat} {k : IntKind} (hu : P.underlying t = some (.array n e)) (he : P.underlying e = some (.int k)) (hc : P.cellsOf e = 1) (xs ys : List Int) (hx : xs.length = n) (hy : ys.length = n) (w : World) :
    (Op.equalIn (d + 2) t (.agg (cellsOf k xs)) (.agg (cellsOf k ys))).run P w = .ok (decide (xs = ys)) w := by
  obtain ⟨i, hi⟩ := info_of_underlying he
  rw [run_equalIn_array w (d + 1) _ _ hu hi, hc, List.range_eq_range']
  have := eqItems_int (P := P) d he hc hi xs ys (by omega) w n 0 (by omega)
  simpa using this
end
section
variable {P : Program}
/-- A struct or an array put together: by a closed fact. -/
theorem wp_build {ops : Array Oper} {rest : List Oper} {op : Oper} {a : Act} {w : World} {Q : Exit → Act → World → Prop} (hgd : Region.wanted op (yielded ops a.tmps) = true) (t : TypeId) (parts : Array (Nat × Operand)) (ho : op.op = .build t parts)
    (vs : Array (Nat × Value)) (hvs : (parts.map fun x => (x.1, a.eval x.2)) = vs) (v : Value) (hrun : (Instr.build t vs).run P w = .ok v w)
    (hk : wpList P ops Q rest (a.put op.dst v) w) : wpList P ops Q (op :: rest) a w := by
  refine wpList_wanted hgd fun K hK => ?_
  unfold Oper.wp
  subst hvs
  simp [execOp, ho, hrun, Result.andThen]
  exact hK _ _ hk
/-- A new variable at its zero value. -/
theorem wp_alloc {ops : Array Oper} {rest : List Oper} {op : Oper} {a : Act} {w : World} {Q : Exit → Act → World → Prop} (hgd : Region.wanted op (yielded ops a.tmps) = true) (t : TypeId) (ho : op.op = .alloc t)
    (z : Value) (hz : (P.info? t).map (·.zero) = some (some z))
    (hk : wpList P ops Q rest (a.put op.dst (.pointer (some ⟨w.heap.size, 0, none⟩))) (w.alloc (.cells z.cells t))) : wpList P ops Q (op :: rest) a w := by
  refine wpList_wanted hgd fun K hK => ?_
  obtain ⟨i, hi, hzz⟩ := Option.map_eq_some_iff.1 hz
  have hrun : (Instr.alloc t true (.tuple #[])).run P w = .ok (.pointer (some ⟨w.heap.size, 0, none⟩)) (w.alloc (.cells z.cells t)) := by
    unfold Instr.alloc
    simp only [Sem.run_bind, zeroValue, typeInfo, run_program, Result.andThen_ok]
    simp [hi, hzz, newVar, newRow, newObj, Sem.run]
  unfold Oper.wp
  simp [execOp, ho, hrun, Result.andThen]
  exact hK _ _ hk
end
/-- The first ones. -/
theorem SL.take {k : IntKind} {w : World} {ad : Addr} {n c : Nat} {xs : List Int} (h : SL k w (.slice (some ad) n c) xs) (m : Nat) (hm : m ≤ n) : SL k w (.slice (some ad) m c) (xs.take m) := by
  rcases h with ⟨h, _⟩ | ⟨b, o, c', hv, h1, h2, h3, h4⟩
  · cases h
  · simp only [Value.slice.injEq, Option.some.injEq] at hv
    obtain ⟨rfl, rfl, rfl⟩ := hv
    have hl : (xs.take m).length = m := by simp; omega
    refine .inr ⟨b, o, c, by rw [hl], by omega, h2, h3, fun j hj => ?_⟩
    rw [hl] at hj
    rw [h4 j (by omega)]
    simp [List.getElem?_take, hj]
theorem SL.form {k : IntKind} {w : World} {v : Value} {xs : List Int} (h : SL k w v xs) (hn : 0 < xs.length) : ∃ b o c, v = .slice (some ⟨b, o, none⟩) xs.length c ∧ xs.length ≤ c ∧ c ≤ maxLen := by
  rcases h with ⟨_, rfl⟩ | ⟨b, o, c, hv, h1, h2, _⟩
  · simp at hn
  · exact ⟨b, o, c, hv, h1, h2⟩
end Go.Proofs.Yteaijjefbadnbaa
