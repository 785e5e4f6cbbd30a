/-
  One start that fits, for arguments that are great arrays: by rules, not by reckoning.
  No conditions: lemmas over any program.
-/
import Derived.Test.YteaijjefbadnbaaOpen
import Derived.Handed
namespace Go.Proofs.Yteaijjefbadnbaa
open Go.ChangeShapes Go.WideShapes Go.ChangeAt Go.RowKit
set_option linter.unusedVariables false
set_option linter.unusedSimpArgs false
set_option maxRecDepth 100000

section
variable {P : Program}
theorem mapM_const {α β : Type} (f : α → Option β) (x : β) : ∀ (l : List α), (∀ i ∈ l, f i = some x) → l.mapM f = some (List.replicate l.length x)
  | [], _ => rfl
  | a :: l, h => by
    rw [List.mapM_cons, h a (List.mem_cons_self ..), mapM_const f x l fun i hi => h i (List.mem_cons_of_mem _ hi)]
    rfl
theorem flatMap_const {H : Type} (n : Nat) (d : DataW H) : (List.replicate n (d, ([] : List MemPlace))).flatMap (·.2) = [] := by
  induction n with
  | zero => rfl
  | succ n ih => rw [List.replicate_succ, List.flatMap_cons, ih]; rfl
theorem weightsAll_const {H : Type} (e : TypeId) (d : DataW H) (h : d.weights P e = []) : ∀ n, DataW.weightsAll P e (List.replicate n d) = []
  | 0 => by simp [DataW.weightsAll]
  | n + 1 => by rw [List.replicate_succ, DataW.weightsAll, h, weightsAll_const e d h n]; rfl

theorem has0 (k : IntKind) : k.has 0 := by
  cases k <;> exact ⟨by decide, by decide⟩
/-- N noughts read as t, whatever the world; nothing in it has a weight. -/
def ZR (P : Program) (k : IntKind) (t : TypeId) (N m : Nat) : Prop :=
  ∀ (H : Type) (enc : TypeId × Value → H) (w : World) (base : Nat) (spare : Nat → Bool) (held : Bool) (f : Nat), m ≤ f →
    ∃ d : DataW H, DataW.trod enc P w base spare held f t (List.replicate N (.int k 0)) = some (d, []) ∧ d.weights P t = []
theorem ZR.int {k : IntKind} {t : TypeId} (ht : P.underlying t = some (.int k)) (hw : (Lit.int k 0).wf = true) : ZR P k t 1 1 := by
  intro H enc w base spare held f hf
  obtain ⟨f, rfl⟩ : ∃ g, f = g + 1 := ⟨f - 1, by omega⟩
  exact ⟨.lit (.int k 0), by simp [DataW.trod, ht, hw], by simp [DataW.weights]⟩
theorem drop_take_replicate (n m i : Nat) (x : Value) (hi : i < n) : ((List.replicate (n * m) x).drop (i * m)).take m = List.replicate m x := by
  rw [List.drop_replicate, List.take_replicate]
  congr 1
  have : (i + 1) * m ≤ n * m := Nat.mul_le_mul_right _ hi
  rw [Nat.succ_mul] at this
  omega
theorem ZR.array {k : IntKind} {t e : TypeId} {n M m N : Nat} (ht : P.underlying t = some (.array n e)) (he : ZR P k e M m) (hc : P.cellsOf e = M) (hN : P.cellsOf t = N) (hNm : N = n * M) : ZR P k t N (m + 1) := by
  intro H enc w base spare held f hf
  obtain ⟨f, rfl⟩ : ∃ g, f = g + 1 := ⟨f - 1, by omega⟩
  obtain ⟨d, hd, hw⟩ := he H enc w base spare held f (by omega)
  have hm := mapM_const (fun i => DataW.trod enc P w base spare held f e (((List.replicate N (Value.int k 0)).drop (i * P.cellsOf e)).take (P.cellsOf e))) (d, []) (List.range n) (fun i hi => by
    rw [hc, hNm, drop_take_replicate n M i _ (List.mem_range.1 hi)]; exact hd)
  rw [List.length_range] at hm
  refine ⟨.agg (List.replicate n d), ?_, ?_⟩
  · rw [DataW.trod.eq_def]
    simp only [ht]
    rw [if_pos (by rw [List.length_replicate, hN]), hm]
    simp only [Option.map_some, List.map_replicate, flatMap_const]
  · rw [DataW.weights.eq_def]
    simp only [ht]
    exact weightsAll_const e d hw n
theorem ZR.struct2 {k : IntKind} {t : TypeId} {f0 f1 : Field} {n0 n1 m N : Nat} (ht : P.underlying t = some (.struct #[f0, f1])) (h0 : ZR P k f0.type n0 m) (h1 : ZR P k f1.type n1 m)
    (o0 : f0.offset = 0) (o1 : f1.offset = n0) (c0 : P.cellsOf f0.type = n0) (c1 : P.cellsOf f1.type = n1) (hN : P.cellsOf t = N) (hn : N = n0 + n1) : ZR P k t N (m + 1) := by
  intro H enc w base spare held f hf
  obtain ⟨f, rfl⟩ : ∃ g, f = g + 1 := ⟨f - 1, by omega⟩
  obtain ⟨d0, hd0, hw0⟩ := h0 H enc w base spare held f (by omega)
  obtain ⟨d1, hd1, hw1⟩ := h1 H enc w base spare held f (by omega)
  have e0 : ((List.replicate N (Value.int k 0)).drop f0.offset).take (P.cellsOf f0.type) = List.replicate n0 (.int k 0) := by
    rw [o0, c0, List.drop_zero, List.take_replicate]; congr 1; omega
  have e1 : ((List.replicate N (Value.int k 0)).drop f1.offset).take (P.cellsOf f1.type) = List.replicate n1 (.int k 0) := by
    rw [o1, c1, List.drop_replicate, List.take_replicate]; congr 1; omega
  refine ⟨.agg [d0, d1], ?_, ?_⟩
  · rw [DataW.trod.eq_def]
    simp only [ht]
    rw [if_pos (by rw [List.length_replicate, hN])]
    simp only [List.mapM_cons, List.mapM_nil, e0, e1, hd0, hd1]
    rfl
  · rw [DataW.weights.eq_def]
    simp only [ht]
    simp [DataW.weightsEach, hw0, hw1]

/-- An argument that fits whatever the world. -/
def WOk (P : Program) (t : TypeId) (v : Value) : Prop :=
  (∀ (w : World) (base : Nat), Value.okWide P w .any base t v) ∧ ∀ (H : Type) (enc : TypeId × Value → H) (w : World), ∃ d : DataW H, DataW.Trod enc P w 0 (fun _ => true) true t v d [] ∧ d.weights P t = []
theorem WOk.int {k : IntKind} {t : TypeId} (ht : P.underlying t = some (.int k)) (hw : (Lit.int k 0).wf = true) : WOk P t (.int k 0) := by
  refine ⟨fun w base => ?_, fun H enc w => ?_⟩
  · simp only [Value.okWide, ht, Cell.okWide, Cell.ok]
    exact ⟨trivial, has0 k⟩
  · obtain ⟨d, hd, hwt⟩ := ZR.int ht hw H enc w 0 (fun _ => true) true 1 (Nat.le_refl _)
    exact ⟨d, ⟨1, hd⟩, hwt⟩
theorem WOk.bool {t : TypeId} (ht : P.underlying t = some .bool) : WOk P t (.bool false) :=
  ⟨fun w base => by simp only [Value.okWide, ht, Cell.okWide, Cell.ok], fun H enc w => ⟨.lit (.bool false), ⟨1, by simp [DataW.trod, ht, Value.cells]⟩, by simp [DataW.weights]⟩⟩
theorem WOk.slice {t e : TypeId} (ht : P.underlying t = some (.slice e)) : WOk P t (.slice none 0 0) :=
  ⟨fun w base => by simp only [Value.okWide, ht, Cell.okWide, Cell.ok], fun H enc w => ⟨.nil, ⟨1, by simp [DataW.trod, ht, Value.cells]⟩, by simp [DataW.weights]⟩⟩
theorem WOk.flat {k : IntKind} {t e : TypeId} {N m : Nat} {d0 : TypeDesc} (hz : ZR P k t N m) (hu : P.underlying t = some d0) (hr : d0.isRow = true) (hN : P.cellsOf t = N) (hts : P.cellTypes P.depth t = some (List.replicate N e))
    (he : P.underlying e = some (.int k)) (hN0 : 0 < N) : WOk P t (.agg (cellsOf k (List.replicate N 0))) := by
  have hrow : ∀ (w : World) (base : Nat), Row.okWide P w .any base t (cellsOf k (List.replicate N 0)) := fun w base => by
    refine ⟨_, hts, ⟨1, by simp [cellsOf]⟩, fun i v hv => ?_⟩
    refine ⟨e, ?_, ?_⟩
    · rw [List.length_replicate, List.getElem?_replicate, if_pos (Nat.mod_lt _ hN0)]
    · have : v = .int k 0 := by
        have hm := Array.mem_of_getElem? hv
        simp [cellsOf] at hm
        exact hm.2
      subst this
      simp only [Cell.okWide, Cell.ok, he]
      exact ⟨trivial, has0 k⟩
  refine ⟨fun w base => ?_, fun H enc w => ?_⟩
  · cases d0 <;> simp only [TypeDesc.isRow, Bool.false_eq_true] at hr <;> (simp only [Value.okWide, hu]; exact ⟨_, rfl, by simp [cellsOf, hN], hrow w base⟩)
  · obtain ⟨d, hd, hwt⟩ := hz H enc w 0 (fun _ => true) true m (Nat.le_refl _)
    refine ⟨d, ⟨m, ?_⟩, hwt⟩
    simp only [Value.cells, cellsOf, List.map_replicate]
    exact hd

def AllW (P : Program) : List TypeId → List Value → Prop
  | [], [] => True
  | t :: ts, v :: vs => WOk P t v ∧ AllW P ts vs
  | _, _ => False
theorem AllW.trod {H : Type} {enc : TypeId × Value → H} {w : World} : ∀ {ts : List TypeId} {vs : List Value}, AllW P ts vs → ∃ ds : List (DataW H), DataW.TrodAll enc P w 0 (fun _ => true) true ts vs ds [] ∧ DataW.weightsEach P ts ds = []
  | [], [], _ => ⟨[], rfl, by simp [DataW.weightsEach]⟩
  | [], _ :: _, h => h.elim
  | _ :: _, [], h => h.elim
  | t :: ts, v :: vs, h => by
    obtain ⟨d, hd, hw⟩ := h.1.2 H enc w
    obtain ⟨ds, hds, hws⟩ := AllW.trod (enc := enc) (w := w) h.2
    exact ⟨d :: ds, ⟨[], [], hd, hds, rfl⟩, by rw [DataW.weightsEach, hw, hws]; rfl⟩
theorem AllW.get : ∀ {ts : List TypeId} {vs : List Value}, AllW P ts vs → ts.length = vs.length ∧ ∀ (j : Nat) (t : TypeId) (v : Value), ts[j]? = some t → vs[j]? = some v → WOk P t v
  | [], [], _ => ⟨rfl, fun j t v h => by simp at h⟩
  | [], _ :: _, h => h.elim
  | _ :: _, [], h => h.elim
  | _ :: _, _ :: _, h => by
    obtain ⟨hl, hg⟩ := AllW.get h.2
    refine ⟨by simp [hl], fun j t v ht hv => ?_⟩
    cases j with
    | zero => simp at ht hv; subst ht hv; exact h.1
    | succ j => exact hg j t v (by simpa using ht) (by simpa using hv)

theorem witness_flat {C : Checked} {os : Os} {f : FuncId} {fn : Func} {s : ChangeSpec} {conds : List PathCond} {H : Type} {enc : TypeId × Value → H} (args : Array Value)
    (hv : (World.plainHolding C.prog os ⟨#[], args, []⟩).variablesB C.prog = true)
    (hr : ((World.plainHolding C.prog os ⟨#[], args, []⟩).heap.toList.drop C.prog.globals.size).take ((begin C.prog (fun _ _ => 0) default).world.heap.size - C.prog.globals.size) =
      (begin C.prog (fun _ _ => 0) default).world.heap.toList.drop C.prog.globals.size)
    (hi : C.prog.inits.idxOf? f = none) (hf : C.prog.funcs[f]? = some fn) (hb : fn.body.isSome = true) (ho : fn.ours = false) (hn : fn.nfree = 0)
    (hW : AllW C.prog fn.params.toList args.toList) (hvars : s.vars = []) (hconds : conds = []) (hplat : C.prog.platform = "linux/amd64/v1") (hspec : (OpenSpec.ofChange s).bare.plain.varTypes C.prog = []) :
    ∃ (w : World) (tape : Tape) (i : Input), w.os = os ∧ (w.forCall tape i).Shaped C.prog ∧ i.vars = [] ∧ Input.okWide C.prog (w.forCall tape i) .any w.heap.size f i ∧
      s.pre6 enc C.prog fn conds false (w.forCall tape i).memory i.args ∧ ({ modest := false } : Assume).holds C.prog (lone (Frame.enter C.prog f i.args .normal) [] (w.forCall tape i)) := by
  obtain ⟨hlen, hget⟩ := hW.get
  have hwhole : ∀ w : World, ∃ ds : List (DataW H), DataW.Whole enc C.prog fn.params.toList s.vars false w args.toList ds [] [] ∧ DataW.weightsEach C.prog fn.params.toList ds = [] := fun w => by
    obtain ⟨ds, hds, hws⟩ := AllW.trod (enc := enc) (w := w) hW
    exact ⟨ds, ⟨[], [], hds, (by rw [hvars]; rfl), rfl, (fun b off h => by cases h), (fun h => by cases h)⟩, hws⟩
  refine ⟨World.holding C.prog os ⟨#[], args, []⟩, fun _ _ => 0, ⟨#[], args, []⟩, rfl, World.shaped_of_B hv hr, rfl, ?_, ⟨?_, ?_⟩, ?_⟩
  · refine ⟨fun o h => by simp at h, fun gv h => by simp at h, hi, fn, hf, hb, ho, hn, ?_, ?_⟩
    · simpa using hlen.symm
    · intro j t v ht hv
      exact (hget j t v (by simpa using ht) (by simpa using hv)).1 _ _
  · obtain ⟨ds, hds, _⟩ := hwhole ((World.holding C.prog os ⟨#[], args, []⟩).forCall (fun _ _ => 0) ⟨#[], args, []⟩).memory
    exact ⟨ds, [], [], hds, by rw [hconds]; rfl⟩
  · obtain ⟨ds, hds, hws⟩ := hwhole ((World.holding C.prog os ⟨#[], args, []⟩).forCall (fun _ _ => 0) ⟨#[], args, []⟩).memory
    refine ⟨hplat, ds, [], [], hds, ?_⟩
    rw [hspec, List.append_nil, List.append_nil, hws]
    rfl
  · simp only [Assume.holds]
    exact ⟨by simp, by simp, (fun h => by cases h), by simp, by simp⟩
end
end Go.Proofs.Yteaijjefbadnbaa
