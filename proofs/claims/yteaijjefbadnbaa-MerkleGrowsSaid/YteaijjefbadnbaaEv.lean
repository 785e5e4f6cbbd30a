/-
  What an operation does to the world: events; what stays of what is known; laws of the operations in that form.
  No conditions: lemmas over any program.
-/
import Derived.Test.YteaijjefbadnbaaStep
namespace Go.Proofs.Yteaijjefbadnbaa
open Go.RowKit
set_option linter.unusedVariables false
set_option linter.unusedSimpArgs false
set_option maxRecDepth 100000

/-- Of the blocks that there were only those in X may have turned. -/
structure Ev (X : Nat → Prop) (w w' : World) : Prop where
  os : w'.os = w.os
  tape : w'.tape = w.tape
  output : w'.output = w.output
  size : w.heap.size ≤ w'.heap.size
  block : ∀ i, i < w.heap.size → ¬ X i → w'.heap[i]? = w.heap[i]?
abbrev E0 (w w' : World) : Prop := Ev (fun _ => False) w w'
theorem Ev.refl (X : Nat → Prop) (w : World) : Ev X w w := ⟨rfl, rfl, rfl, Nat.le_refl _, fun _ _ _ => rfl⟩
theorem Ev.mono {X Y : Nat → Prop} {w w' : World} (h : Ev X w w') (hx : ∀ i, X i → Y i) : Ev Y w w' := ⟨h.os, h.tape, h.output, h.size, fun i hi hn => h.block i hi fun hx' => hn (hx i hx')⟩
theorem Ev.trans {X : Nat → Prop} {a b c : World} (h : Ev X a b) (k : Ev X b c) : Ev X a c :=
  ⟨k.os.trans h.os, k.tape.trans h.tape, k.output.trans h.output, Nat.le_trans h.size k.size, fun i hi hn => (k.block i (Nat.lt_of_lt_of_le hi h.size) hn).trans (h.block i hi hn)⟩
theorem Ev.drew {X : Nat → Prop} {w w' : World} (h : Ev X w w') : Ev X w w'.drew := ⟨h.os, h.tape, h.output, h.size, h.block⟩
theorem belE0 {w w' : World} (h : Below w.heap.size w w') : E0 w w' := ⟨h.os, h.tape, h.output, h.size, fun i hi _ => h.block i hi⟩
theorem Ev.below0 {w w' : World} (h : E0 w w') : Below w.heap.size w w' := ⟨h.os, h.tape, h.output, h.size, fun i hi => h.block i hi fun x => x⟩
theorem Ev.below {X : Nat → Prop} {B : Nat} {w w' : World} (h : Ev X w w') (hB : B ≤ w.heap.size) (hx : ∀ i, X i → B ≤ i) : Below B w w' :=
  ⟨h.os, h.tape, h.output, h.size, fun i hi => h.block i (by omega) fun x => by have := hx i x; omega⟩
theorem belEv {B : Nat} {w w' : World} (h : Below B w w') : Ev (fun i => B ≤ i) w w' := ⟨h.os, h.tape, h.output, h.size, fun i _ hn => h.block i (by simpa using hn)⟩
theorem Only.ev {g : Nat} {w w' : World} (h : Only g w w') : Ev (fun i => i = g) w w' := ⟨h.os, h.tape, h.output, Nat.le_of_eq h.size.symm, fun i _ hn => h.block i hn⟩
theorem Mut.ev {w w' : World} {v v' : Value} (h : Mut w w' v v') : Ev (fun i => v.ownBlock = some i) w w' := ⟨h.g.os, h.g.tape, h.g.output, h.g.size, fun i hi hn => h.g.block i hi fun e => hn e.symm⟩
theorem alloc_e0 (w : World) (o : Obj) : E0 w (w.alloc o) := belE0 (Joins.below_alloc1 w o)
theorem drew_e0 (w : World) : E0 w w.drew := ⟨rfl, rfl, rfl, Nat.le_refl _, fun _ _ _ => rfl⟩
theorem drewN_e0 (w : World) (n : Nat) : E0 w (w.drewN n) := ⟨rfl, rfl, rfl, Nat.le_refl _, fun _ _ _ => rfl⟩

/-- Block g holds just these values. -/
def Cel (w : World) (g : Nat) (t : TypeId) (cs : List Value) : Prop := w.heap[g]? = some (.cells cs.toArray t (0, 0))
theorem Cel.lt {w : World} {g : Nat} {t : TypeId} {cs : List Value} (h : Cel w g t cs) : g < w.heap.size := (Array.getElem?_eq_some_iff.1 h).1
theorem Cel.ev {X : Nat → Prop} {w w' : World} {g : Nat} {t : TypeId} {cs : List Value} (h : Cel w g t cs) (e : Ev X w w') (hn : ¬ X g) : Cel w' g t cs := (e.block g h.lt hn).trans h
theorem Cel.e0 {w w' : World} {g : Nat} {t : TypeId} {cs : List Value} (h : Cel w g t cs) (e : E0 w w') : Cel w' g t cs := h.ev e fun x => x
theorem Cel.cell {w : World} {g : Nat} {t : TypeId} {cs : List Value} (h : Cel w g t cs) (j : Nat) (v : Value) (hv : cs[j]? = some v) : w.cell? ⟨g, j, none⟩ = some v := by
  rw [Joins.cell_of_block h]; simpa using hv
theorem Cel.frozen {w : World} {g : Nat} {t : TypeId} {cs : List Value} (h : Cel w g t cs) (j : Nat) : w.frozen? ⟨g, j, none⟩ = false := Joins.unfrozen_of_block h j
theorem Cel.blk {k : IntKind} {w : World} {g : Nat} {t : TypeId} {xs : List Int} (h : Cel w g t (xs.map (Value.int k))) : Blk k w g t xs := h
theorem Blk.cel {k : IntKind} {w : World} {g : Nat} {t : TypeId} {xs : List Int} (h : Blk k w g t xs) : Cel w g t (xs.map (Value.int k)) := h
theorem Blk.ev {X : Nat → Prop} {k : IntKind} {w w' : World} {g : Nat} {t : TypeId} {xs : List Int} (h : Blk k w g t xs) (e : Ev X w w') (hn : ¬ X g) : Blk k w' g t xs := (e.block g h.lt hn).trans h
theorem Blk.e0 {k : IntKind} {w w' : World} {g : Nat} {t : TypeId} {xs : List Int} (h : Blk k w g t xs) (e : E0 w w') : Blk k w' g t xs := h.ev e fun x => x
theorem SL.ev {X : Nat → Prop} {k : IntKind} {w w' : World} {v : Value} {xs : List Int} (h : SL k w v xs) (e : Ev X w w') (hn : ∀ g, v.ownBlock = some g → ¬ X g) : SL k w' v xs := by
  rcases h with h | ⟨b, o, c, hv, h1, h2, h3, h4⟩
  · exact .inl h
  · subst hv
    exact .inr ⟨b, o, c, rfl, h1, h2, Nat.lt_of_lt_of_le h3 e.size, fun j hj => by rw [World.cell?_of_block (a := ⟨b, o + j, none⟩) (e.block b h3 (hn b rfl))]; exact h4 j hj⟩
theorem SL.e0 {k : IntKind} {w w' : World} {v : Value} {xs : List Int} (h : SL k w v xs) (e : E0 w w') : SL k w' v xs := h.ev e fun _ _ x => x
theorem Own.ev {X : Nat → Prop} {e : TypeId} {k : IntKind} {base : Nat} {w w' : World} {v : Value} {xs : List Int} (h : Own e k base w v xs) (ev : Ev X w w') (hn : ∀ g, v.ownBlock = some g → ¬ X g) : Own e k base w' v xs := by
  refine ⟨h.1, ?_⟩
  rcases h.2 with hn' | ⟨g, cap, cur, rfl, hb, hgg, rest⟩
  · exact .inl hn'
  · exact .inr ⟨g, cap, cur, rfl, hb, (ev.block g (Array.getElem?_eq_some_iff.1 hgg).1 (hn g rfl)).trans hgg, rest⟩
theorem Own.e0 {e : TypeId} {k : IntKind} {base : Nat} {w w' : World} {v : Value} {xs : List Int} (h : Own e k base w v xs) (ev : E0 w w') : Own e k base w' v xs := h.ev ev fun _ _ x => x
/-- Since the beginning nothing below B has turned. -/
structure Bl (B : Nat) (w0 w : World) : Prop where
  b : Below B w0 w
  z : B ≤ w.heap.size
theorem Bl.refl (w : World) : Bl w.heap.size w w := ⟨Below.refl _ _, Nat.le_refl _⟩
theorem Bl.ev {X : Nat → Prop} {B : Nat} {w0 w w' : World} (h : Bl B w0 w) (e : Ev X w w') (hn : ∀ g, X g → B ≤ g) : Bl B w0 w' := ⟨h.b.trans (e.below h.z hn), Nat.le_trans h.z e.size⟩
theorem Bl.e0 {B : Nat} {w0 w w' : World} (h : Bl B w0 w) (e : E0 w w') : Bl B w0 w' := h.ev e fun _ x => x.elim

theorem SL.ofBlk {k : IntKind} {w : World} {g : Nat} {t : TypeId} {xs : List Int} (h : Blk k w g t xs) {n : Nat} (hn : xs.length = n) (hm : n ≤ maxLen) : SL k w (.slice (some ⟨g, 0, none⟩) n n) xs := by
  subst hn
  exact .inr ⟨g, 0, _, rfl, Nat.le_refl _, hm, h.lt, fun j hj => by rw [Nat.zero_add]; exact h.cell j hj⟩
theorem ownB_lit {g o n c lo hi : Nat} (h : lo ≤ g ∧ g < hi) : ∀ i, Value.ownBlock (.slice (some ⟨g, o, none⟩) n c) = some i → lo ≤ i ∧ i < hi := by
  intro i hi'
  have : g = i := by simpa [Value.ownBlock] using hi'
  omega
theorem SL.bd {k : IntKind} {w : World} {v : Value} {xs : List Int} (h : SL k w v xs) : ∀ i, v.ownBlock = some i → 0 ≤ i ∧ i < w.heap.size := fun i hi => ⟨Nat.zero_le _, h.lt i hi⟩
theorem allN : ([] : List Value).all (·.oneCell') = true := rfl
theorem allC {v : Value} {vs : List Value} (h : v.oneCell' = true) (t : vs.all (·.oneCell') = true) : (v :: vs).all (·.oneCell') = true := by rw [List.all_cons, h, t]; rfl
/-- A new block. -/
structure Nw (w w' : World) (t : TypeId) (cs : List Value) : Prop where
  e : E0 w w'
  c : Cel w' w.heap.size t cs
  z : w'.heap.size = w.heap.size + 1
theorem Nw.of (w : World) (t : TypeId) (cs : List Value) : Nw w (w.alloc (.cells cs.toArray t)) t cs := ⟨alloc_e0 _ _, heap_alloc_new w _, by simp⟩
/-- A block, turned. -/
structure Tn (g : Nat) (t : TypeId) (cs : List Value) (w w' : World) : Prop where
  e : Ev (fun i => i = g) w w'
  c : Cel w' g t cs
  z : w'.heap.size = w.heap.size

section
variable {P : Program} {ops : Array Oper} {Q : Exit → Act → World → Prop} {l : List Value} {ds : List Deferred} {w : World} {oi : Oper} {rest : List Oper}

theorem put_list' (d : Nat) (v : Value) (hd : oi.dst = some d) : (⟨l.toArray, ds⟩ : Act).put oi.dst v = ⟨(l.set d v).toArray, ds⟩ := by rw [hd, put_list]
/-- alloc -/
theorem xAlloc (d : Nat) (t : TypeId) (cs : List Value) (ho : oi.op = .alloc t) (hz : ((P.info? t).bind (·.zero)).map (·.cells.toList) = some cs) (h : ∀ w', Nw w w' t cs → wpList P ops Q rest ⟨(l.set d (.pointer (some ⟨w.heap.size, 0, none⟩))).toArray, ds⟩ w')
    (hw : Region.wanted oi (yielded ops l.toArray) = true := by kernel_rfl) (hd : oi.dst = some d := by rfl) : wpList P ops Q (oi :: rest) ⟨l.toArray, ds⟩ w := by
  obtain ⟨z, hz1, hz2⟩ := Option.map_eq_some_iff.1 hz
  obtain ⟨i, hi, hi2⟩ := Option.bind_eq_some_iff.1 hz1
  refine wp_alloc hw t ho z (by rw [hi]; simp [hi2]) ?_
  rw [put_list' d _ hd]
  refine h _ ?_
  subst hz2
  exact Nw.of w t _
/-- box -/
theorem xBox (d : Nat) (t : TypeId) (x : Operand) (cs : List Value) (ho : oi.op = .box t x) (hx : ((⟨l.toArray, ds⟩ : Act).eval x).cells.toList = cs) (h : ∀ w', Nw w w' t cs → wpList P ops Q rest ⟨(l.set d (.pointer (some ⟨w.heap.size, 0, none⟩))).toArray, ds⟩ w')
    (hw : Region.wanted oi (yielded ops l.toArray) = true := by kernel_rfl) (hd : oi.dst = some d := by rfl) : wpList P ops Q (oi :: rest) ⟨l.toArray, ds⟩ w := by
  subst hx
  refine wpList_wanted hw fun K hK => ?_
  have hrun : (Instr.box t ((⟨l.toArray, ds⟩ : Act).eval x)).run P w = .ok (.pointer (some ⟨w.heap.size, 0, none⟩)) (w.alloc (.cells ((⟨l.toArray, ds⟩ : Act).eval x).cells t)) := by
    unfold Instr.box
    simp [newVar, newRow, newObj, Sem.run]
  unfold Oper.wp
  simp only [execOp, ho, Sem.run_bind, hrun, Result.andThen_ok, Sem.run_pure]
  rw [Oper.upon_value, put_list' d _ hd]
  exact hK _ _ (h _ (Nw.of w t _))
/-- buildSlice -/
theorem xLit (d : Nat) (t e : TypeId) (n : Nat) (parts : Array (Nat × Operand)) (vs : Array (Nat × Value)) (cs : List Value) (ho : oi.op = .buildSlice t n parts) (hvs : (parts.map fun x => (x.1, (⟨l.toArray, ds⟩ : Act).eval x.2)) = vs) 
    (hrun : (Instr.buildSlice t n vs).run P w = .ok (.slice (some ⟨w.heap.size, 0, none⟩) n n) (w.alloc (.cells cs.toArray e)))
    (h : ∀ w', Nw w w' e cs → wpList P ops Q rest ⟨(l.set d (.slice (some ⟨w.heap.size, 0, none⟩) n n)).toArray, ds⟩ w')
    (hw : Region.wanted oi (yielded ops l.toArray) = true := by kernel_rfl) (hd : oi.dst = some d := by rfl) : wpList P ops Q (oi :: rest) ⟨l.toArray, ds⟩ w := by
  subst hvs
  refine wpList_wanted hw fun K hK => ?_
  unfold Oper.wp
  simp only [execOp, ho, Sem.run_bind, hrun, Result.andThen_ok, Sem.run_pure]
  rw [Oper.upon_value, put_list' d _ hd]
  exact hK _ _ (h _ (Nw.of w e _))
/-- values over others from place o on -/
def overV (cs : List Value) (o : Nat) (vs : List Value) : List Value := cs.take o ++ vs ++ cs.drop (o + vs.length)
/-- a store of a row (a struct, an array) into a known block -/
theorem xStoreR (ty : TypeId) (x y : Operand) (ho : oi.op = .store ty x y) (g : Nat) (t : TypeId) (cs : List Value) (o : Nat) (vs : List Value) (hx : (⟨l.toArray, ds⟩ : Act).eval x = .pointer (some ⟨g, o, none⟩)) (hy : (⟨l.toArray, ds⟩ : Act).eval y = .agg vs.toArray)
    (hc : Cel w g t cs) (hi : (P.info? ty).map (·.size) = some vs.length) (hl : o + vs.length ≤ cs.length) (h1 : vs.all (·.oneCell') = true) (cs' : List Value) (hcs : overV cs o vs = cs')
    (h : ∀ w', Tn g t cs' w w' → wpList P ops Q rest ⟨l.toArray, ds⟩ w')
    (hw : Region.wanted oi (yielded ops l.toArray) = true := by kernel_rfl) (hd : oi.dst = none := by rfl) : wpList P ops Q (oi :: rest) ⟨l.toArray, ds⟩ w := by
  subst hcs
  refine wpList_wanted hw fun K hK => wp_store_mid ty x y ho g o vs.toArray hx hy ?_ (by rw [hi]; simp) (by simpa using h1) ?_
  · intro j hj
    have hj' : j < vs.length := by simpa using hj
    have hjc : o + j < cs.length := by omega
    rw [hc.cell (o + j) _ (List.getElem?_eq_getElem hjc), hc.frozen]
    simp
  · have hput : (⟨l.toArray, ds⟩ : Act).put oi.dst undef = ⟨l.toArray, ds⟩ := by rw [hd]; rfl
    rw [hput]
    refine hK _ _ (h _ ⟨⟨(setCells_rest g _ _ _).1, (setCells_rest g _ _ _).2.1, (setCells_rest g _ _ _).2.2, Nat.le_of_eq (setCells_size g _ _ _).symm, fun i _ hi => setCells_other g _ _ _ i hi⟩, ?_, setCells_size g _ _ _⟩)
    have := setCells_heap g vs o w _ t hc (by simpa using hl)
    unfold Cel
    rw [show (vs.toArray : Array Value).toList = vs by simp, this]
    simp [overV]
/-- a store of one plain value into a known block -/
theorem xStore (ty : TypeId) (x y : Operand) (ho : oi.op = .store ty x y) (g : Nat) (t : TypeId) (cs : List Value) (o : Nat) (v : Value) (hx : (⟨l.toArray, ds⟩ : Act).eval x = .pointer (some ⟨g, o, none⟩)) (hy : (⟨l.toArray, ds⟩ : Act).eval y = v)
    (hc : Cel w g t cs) (hi : (P.info? ty).map (·.size) = some 1) (hl : o < cs.length) (h1 : v.oneCell' = true) (cs' : List Value) (hcs : cs.set o v = cs')
    (h : ∀ w', Tn g t cs' w w' → wpList P ops Q rest ⟨l.toArray, ds⟩ w')
    (hw : Region.wanted oi (yielded ops l.toArray) = true := by kernel_rfl) (hd : oi.dst = none := by rfl) : wpList P ops Q (oi :: rest) ⟨l.toArray, ds⟩ w := by
  subst hcs
  refine wp_store1 hw ty x y ho hd g o v _ hx hy h1 hi (hc.cell o _ (List.getElem?_eq_getElem hl)) (hc.frozen o) ?_
  refine h _ ⟨(Only.setCell w ⟨g, o, none⟩ v).ev, ?_, (Only.setCell w ⟨g, o, none⟩ v).size⟩
  have h2 := Joins.block_setCell (i := o) hc v
  unfold Cel
  rw [h2]
  simp
/-- a store of a whole number into a block of numbers -/
theorem xStoreN (ty : TypeId) (x y : Operand) (ho : oi.op = .store ty x y) (k : IntKind) (g : Nat) (t : TypeId) (xs : List Int) (o : Nat) (n : Int) (hx : (⟨l.toArray, ds⟩ : Act).eval x = .pointer (some ⟨g, o, none⟩)) (hy : (⟨l.toArray, ds⟩ : Act).eval y = .int k n)
    (hc : Blk k w g t xs) (hi : (P.info? ty).map (·.size) = some 1) (hl : o < xs.length)
    (h : ∀ w', Tn g t ((xs.set o n).map (Value.int k)) w w' → wpList P ops Q rest ⟨l.toArray, ds⟩ w')
    (hw : Region.wanted oi (yielded ops l.toArray) = true := by kernel_rfl) (hd : oi.dst = none := by rfl) : wpList P ops Q (oi :: rest) ⟨l.toArray, ds⟩ w :=
  xStore ty x y ho g t _ o _ hx hy hc.cel hi (by simpa using hl) rfl _ (by simp) h hw hd
/-- a store of an array of whole numbers into a block of numbers -/
theorem xStoreA (ty : TypeId) (x y : Operand) (ho : oi.op = .store ty x y) (k : IntKind) (g : Nat) (t : TypeId) (xs : List Int) (o : Nat) (ys : List Int) (hx : (⟨l.toArray, ds⟩ : Act).eval x = .pointer (some ⟨g, o, none⟩)) (hy : (⟨l.toArray, ds⟩ : Act).eval y = .agg (cellsOf k ys))
    (hc : Blk k w g t xs) (hi : (P.info? ty).map (·.size) = some ys.length) (hl : o + ys.length ≤ xs.length) (zs : List Int) (hzs : over xs o ys = zs)
    (h : ∀ w', Tn g t (zs.map (Value.int k)) w w' → wpList P ops Q rest ⟨l.toArray, ds⟩ w')
    (hw : Region.wanted oi (yielded ops l.toArray) = true := by kernel_rfl) (hd : oi.dst = none := by rfl) : wpList P ops Q (oi :: rest) ⟨l.toArray, ds⟩ w := by
  subst hzs
  refine xStoreR ty x y ho g t _ o (ys.map (Value.int k)) hx hy hc.cel (by simpa using hi) (by simpa using hl) ?_ _ ?_ h hw hd
  · simp only [List.all_map, List.all_eq_true]; intro n _; rfl
  · simp [overV, over, List.map_append, List.map_take, List.map_drop]
/-- append -/
theorem xApp (d : Nat) (s x : Operand) (t e : TypeId) (k : IntKind) (bytes : Nat) (ho : oi.op = .call { callee := .builtin .append, args := #[s, x], argTypes := #[t, t] })
    (ht : P.underlying t = some (.slice e)) (hinfo : (P.info? e).map (fun i => (i.zero, i.size, i.bytes)) = some (some (.int k 0), 1, bytes))
    (base : Nat) (v : Value) (xs : List Int) (hs : (⟨l.toArray, ds⟩ : Act).eval s = v) (hown : Own e k base w v xs)
    (u : Value) (ys : List Int) (hx : (⟨l.toArray, ds⟩ : Act).eval x = u) (hu : SL k w u ys)
    (h47 : (xs.length + ys.length) * bytes ≤ 140737488355328) (h63 : xs.length + ys.length ≤ maxLen) (hbase : base ≤ w.heap.size)
    (h : ∀ v' w', Own e k base w' v' (xs ++ ys) → Ev (fun i => v.ownBlock = some i) w w' → wpList P ops Q rest ⟨(l.set d v').toArray, ds⟩ w')
    (hgd : oi.guard = none := by rfl) (hd : oi.dst = some d := by rfl) : wpList P ops Q (oi :: rest) ⟨l.toArray, ds⟩ w := by
  refine app_mut hgd s x t e k bytes ho ht hinfo base v xs hs hown u ys hx hu h47 h63 hbase fun v' w' h1 h2 => ?_
  rw [put_list' d _ hd]
  exact h v' w' h1 h2.ev
/-- a call -/
theorem xCall (d : Nat) (f : FuncId) (args : Array Value) (hrun : (execOp (⟨l.toArray, ds⟩ : Act).eval oi).run P w = .ok (.enter f args) w)
    (hc : Calls P f args w fun e w' => ∃ v, e = .returned v ∧ wpList P ops Q rest ⟨(l.set d v).toArray, ds⟩ w')
    (hw : Region.wanted oi (yielded ops l.toArray) = true := by kernel_rfl) (hd : oi.dst = some d := by rfl) : wpList P ops Q (oi :: rest) ⟨l.toArray, ds⟩ w := by
  refine wpList_wanted hw fun K hK => ?_
  unfold Oper.wp
  rw [hrun, Oper.upon_enter]
  refine hc.mono fun e w' he => ?_
  obtain ⟨v, rfl, h⟩ := he
  simp only [put_list' d _ hd]
  exact hK _ _ h
/-- kept out by its guard -/
theorem xSkip (d : Nat) (h : wpList P ops Q rest ⟨(l.set d undef).toArray, ds⟩ w) (hw : Region.wanted oi (yielded ops l.toArray) = false := by kernel_rfl) (hd : oi.dst = some d := by rfl) : wpList P ops Q (oi :: rest) ⟨l.toArray, ds⟩ w :=
  wpList_step fun K hK => by
    rw [if_neg (by rw [hw]; simp), put_list' d _ hd]
    exact hK _ _ h
end
end Go.Proofs.Yteaijjefbadnbaa
