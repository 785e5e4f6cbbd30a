/-
  How arguments are opened, whatever they are made of (structs, arrays, numbers, truths, slices of numbers); one start that fits.
  No conditions: lemmas over any program.
-/
import Derived.Test.YteaijjefbadnbaaOpen
import Derived.Test.YteaijjefbadnbaaWit
import Derived.ChangeSame
namespace Go.Proofs.Yteaijjefbadnbaa
open Go.ChangeShapes Go.WideShapes Go.ChangeAt Go.RowKit
set_option linter.unusedVariables false
set_option linter.unusedSimpArgs false
set_option maxRecDepth 100000

section
variable {P : Program}
/-- Cells of the types ts that read as t are as R says. -/
def Opens (P : Program) (t : TypeId) (ts : List TypeId) (R : World → List Value → Prop) : Prop :=
  ∀ (H : Type) (enc : TypeId × Value → H) (W : World) (r : Reach) (b0 fuel : Nat) (cs : List Value) (x : DataW H × List MemPlace),
    DataW.trod enc P W 0 (fun _ => true) true fuel t cs = some x → (∀ (i : Nat) (c : Value) (u : TypeId), cs[i]? = some c → ts[i]? = some u → Cell.okWide P W r b0 u c) → (∀ y ∈ x.2, y.block < W.heap.size) → cs.length = ts.length → R W cs
theorem Opens.mono {t : TypeId} {ts : List TypeId} {R R' : World → List Value → Prop} (h : Opens P t ts R) (hr : ∀ w cs, R w cs → R' w cs) : Opens P t ts R' :=
  fun H enc W r b0 fuel cs x h1 h2 h3 h4 => hr _ _ (h H enc W r b0 fuel cs x h1 h2 h3 h4)
def RInt (k : IntKind) (w : World) (cs : List Value) : Prop := ∃ n, cs = [.int k n] ∧ (Lit.int k n).wf = true
theorem Opens.int {k : IntKind} {t : TypeId} (ht : P.underlying t = some (.int k)) : Opens P t [t] (RInt k) := by
  intro H enc W r b0 fuel cs x h _ _ _
  obtain ⟨n, rfl, _, wf⟩ := DataW.trod_int ht h
  exact ⟨n, rfl, wf⟩
def RBool (w : World) (cs : List Value) : Prop := ∃ b, cs = [.bool b]
theorem Opens.bool {t : TypeId} (ht : P.underlying t = some .bool) : Opens P t [t] RBool := by
  intro H enc W r b0 fuel cs x h _ _ hl
  cases fuel with
  | zero => simp [DataW.trod] at h
  | succ m =>
    match cs, hl with
    | [c], _ =>
      unfold DataW.trod at h
      rw [ht] at h
      cases c <;> simp at h
      exact ⟨_, rfl⟩
def RRow (k : IntKind) (w : World) (cs : List Value) : Prop := ∃ v xs, cs = [v] ∧ SL k w v xs ∧ ∀ n ∈ xs, (Lit.int k n).wf = true
theorem Opens.row {k : IntKind} {t e : TypeId} (ht : P.underlying t = some (.slice e)) (he : P.underlying e = some (.int k)) (hc : P.cellsOf e = 1) : Opens P t [t] (RRow k) := by
  intro H enc W r b0 fuel cs x h h2 h3 hl
  match cs, hl with
  | [c], _ =>
    have hc1 := h2 0 c t rfl rfl
    have hval : Value.okWide P W r b0 t c := by simp only [Value.okWide, ht]; exact hc1
    have hb : c.cells.toList = [c] := by obtain ⟨_, _, _, rfl⟩ := okWide_slice ht hval; simp [Value.cells]
    obtain ⟨xs, hsl, hw⟩ := open_row ht he hc hval (d := x.1) (p := x.2) ⟨fuel, by rw [hb]; exact h⟩ h3
    exact ⟨c, xs, rfl, hsl, hw⟩
/-- fields, one behind the other -/
def RFields : List (Nat × (World → List Value → Prop)) → World → List Value → Prop
  | [], _, cs => cs = []
  | (n, R) :: fs, w, cs => ∃ a b, cs = a ++ b ∧ a.length = n ∧ R w a ∧ RFields fs w b
inductive OFields (P : Program) : Nat → List Field → List TypeId → List (Nat × (World → List Value → Prop)) → Prop where
  | nil (o : Nat) : OFields P o [] [] []
  | cons {o n : Nat} {f : Field} {fs : List Field} {ts tt : List TypeId} {R : World → List Value → Prop} {rs : List (Nat × (World → List Value → Prop))} (ho : f.offset = o) (hc : P.cellsOf f.type = n) (hn : ts.length = n) (h : Opens P f.type ts R) (hr : OFields P (o + n) fs tt rs) :
      OFields P o (f :: fs) (ts ++ tt) ((n, R) :: rs)
theorem fields_go {H : Type} {enc : TypeId × Value → H} {W : World} {r : Reach} {b0 : Nat} : ∀ {fs : List Field} {o : Nat} {ts : List TypeId} {rs : List (Nat × (World → List Value → Prop))}, OFields P o fs ts rs → ∀ (cs : List Value) (xs : List (DataW H × List MemPlace)) (n : Nat),
    (∀ (i : Nat) (f : Field), fs[i]? = some f → DataW.trod enc P W 0 (fun _ => true) true n f.type ((cs.drop f.offset).take (P.cellsOf f.type)) = xs[i]?) → fs.length = xs.length → (∀ (i : Nat) (c : Value) (u : TypeId), (cs.drop o)[i]? = some c → ts[i]? = some u → Cell.okWide P W r b0 u c) →
    (∀ x ∈ xs, ∀ y ∈ x.2, y.block < W.heap.size) → (cs.drop o).length = ts.length → RFields rs W (cs.drop o)
  | _, _, _, _, .nil o, cs, xs, n, h1, hl, h2, h3, h4 => List.eq_nil_of_length_eq_zero (by simpa using h4)
  | _, o, _, _, .cons (n := m) (f := f) (fs := fs) (ts := ts) (tt := tt) ho hc hn h hr, cs, xs, n, h1, hl, h2, h3, h4 => by
    have h0 := h1 0 f rfl
    rw [ho, hc] at h0
    rw [List.length_append, hn] at h4
    have hdrop : cs.drop o = (cs.drop o).take m ++ cs.drop (o + m) := by
      have e := List.take_append_drop m (cs.drop o)
      rw [List.drop_drop] at e
      exact e.symm
    match xs, hl with
    | x0 :: xr, hl =>
      have hlen : ((cs.drop o).take m).length = m := by rw [List.length_take]; omega
      refine ⟨(cs.drop o).take m, cs.drop (o + m), hdrop, hlen, ?_, ?_⟩
      · refine h H enc W r b0 n _ x0 (by simpa using h0) (fun i c u hi hu => ?_) (fun y hy => h3 x0 (List.mem_cons_self ..) y hy) (by rw [hlen, hn])
        have hi' : i < m := by rw [← hlen]; exact (List.getElem?_eq_some_iff.1 hi).1
        refine h2 i c u ?_ ?_
        · rw [List.getElem?_take, if_pos hi'] at hi; exact hi
        · rw [List.getElem?_append_left (by omega)]; exact hu
      · refine fields_go (r := r) (b0 := b0) hr cs xr n (fun i f' hf => by simpa using h1 (i + 1) f' (by simpa using hf)) (by simpa using hl) (fun i c u hi hu => ?_) (fun x hx => h3 x (List.mem_cons_of_mem _ hx)) ?_
        · refine h2 (m + i) c u ?_ ?_
          · rw [hdrop, List.getElem?_append_right (by omega), hlen]; simpa using hi
          · rw [List.getElem?_append_right (by omega), hn]; simpa using hu
        · rw [List.length_drop] at h4 ⊢; omega
theorem Opens.struct {t : TypeId} {fs : Array Field} {ts : List TypeId} {rs : List (Nat × (World → List Value → Prop))} (ht : P.underlying t = some (.struct fs)) (hf : OFields P 0 fs.toList ts rs) : Opens P t ts (RFields rs) := by
  intro H enc W r b0 fuel cs x h h2 h3 hl
  obtain ⟨xs, n, _, rfl, _, hlen, hft⟩ := DataW.trod_struct ht h
  have := fields_go (H := H) (enc := enc) (W := W) (r := r) (b0 := b0) hf cs xs n (fun i f hi => hft i f (by simpa using hi)) (by simpa using hlen.symm) (by simpa using h2) (fun x hx y hy => h3 y (List.mem_flatMap.2 ⟨x, hx, hy⟩)) (by simpa using hl)
  simpa using this
/-- n elements of m cells each -/
def RArr (m : Nat) (R : World → List Value → Prop) : Nat → World → List Value → Prop
  | 0, _, cs => cs = []
  | n + 1, w, cs => ∃ a b, cs = a ++ b ∧ a.length = m ∧ R w a ∧ RArr m R n w b
theorem flat_len (ts : List TypeId) : ∀ n, (List.replicate n ts).flatten.length = n * ts.length
  | 0 => by simp
  | n + 1 => by rw [List.replicate_succ, List.flatten_cons, List.length_append, flat_len ts n, Nat.succ_mul]; omega
theorem arr_go {m : Nat} {e : TypeId} {ts : List TypeId} {R : World → List Value → Prop} (hc : P.cellsOf e = m) (hn : ts.length = m) (he : Opens P e ts R) {H : Type} {enc : TypeId × Value → H} {W : World} {r : Reach} {b0 f : Nat} {cs : List Value} (xs : List (DataW H × List MemPlace)) :
    ∀ (n o : Nat), (∀ i, i < n → DataW.trod enc P W 0 (fun _ => true) true f e ((cs.drop ((o + i) * m)).take m) = xs[o + i]?) → o + n = xs.length → (∀ (i : Nat) (c : Value) (u : TypeId), (cs.drop (o * m))[i]? = some c → (List.replicate n ts).flatten[i]? = some u → Cell.okWide P W r b0 u c) →
      (∀ x ∈ xs, ∀ y ∈ x.2, y.block < W.heap.size) → (cs.drop (o * m)).length = n * m → RArr m R n W (cs.drop (o * m))
  | 0, o, h1, hl, h2, h3, h4 => List.eq_nil_of_length_eq_zero (by simpa using h4)
  | n + 1, o, h1, hl, h2, h3, h4 => by
    have h0 := h1 0 (by omega)
    rw [Nat.add_zero] at h0
    have e1 : (o + 1) * m = o * m + m := by rw [Nat.succ_mul]
    have hdrop : cs.drop (o * m) = (cs.drop (o * m)).take m ++ cs.drop ((o + 1) * m) := by
      have e := List.take_append_drop m (cs.drop (o * m))
      rw [List.drop_drop] at e
      rw [e1]; exact e.symm
    rw [Nat.succ_mul] at h4
    have hlen : ((cs.drop (o * m)).take m).length = m := by rw [List.length_take]; omega
    have hox : o < xs.length := by omega
    rw [List.getElem?_eq_getElem hox] at h0
    refine ⟨_, _, hdrop, hlen, ?_, ?_⟩
    · refine he H enc W r b0 f _ _ h0 (fun i c u hi hu => ?_) (h3 _ (List.getElem_mem hox)) (by rw [hlen, hn])
      have hi' : i < m := by rw [← hlen]; exact (List.getElem?_eq_some_iff.1 hi).1
      refine h2 i c u ?_ ?_
      · rw [List.getElem?_take, if_pos hi'] at hi; exact hi
      · rw [List.replicate_succ, List.flatten_cons, List.getElem?_append_left (by omega)]; exact hu
    · refine arr_go (r := r) (b0 := b0) hc hn he xs n (o + 1) (fun i hi => by have := h1 (i + 1) (by omega); rw [show o + (i + 1) = o + 1 + i by omega] at this; exact this) (by omega) (fun i c u hi hu => ?_) h3 ?_
      · refine h2 (m + i) c u ?_ ?_
        · rw [hdrop, List.getElem?_append_right (by omega), hlen]; simpa using hi
        · rw [List.replicate_succ, List.flatten_cons, List.getElem?_append_right (by omega), hn]; simpa using hu
      · rw [List.length_drop] at h4 ⊢; omega
theorem Opens.array {t e : TypeId} {n m : Nat} {ts : List TypeId} {R : World → List Value → Prop} (ht : P.underlying t = some (.array n e)) (he : Opens P e ts R) (hc : P.cellsOf e = m) (hn : ts.length = m) : Opens P t (List.replicate n ts).flatten (RArr m R n) := by
  intro H enc W r b0 fuel cs x h h2 h3 hl
  obtain ⟨xs, f, _, rfl, hlc, hxs, hel⟩ := DataW.trod_array ht h
  rw [flat_len, hn] at hl
  have := arr_go (H := H) (enc := enc) (W := W) (r := r) (b0 := b0) (f := f) (cs := cs) hc hn he xs n 0 (fun i hi => by rw [Nat.zero_add]; have := hel i hi; rw [hc] at this; exact this) (by simpa using hxs.symm) (by simpa using h2) (fun x hx y hy => h3 y (List.mem_flatMap.2 ⟨x, hx, hy⟩)) (by simpa using hl)
  simpa using this
/-- arrays (of arrays, ..) of whole numbers of one kind: all at once -/
def RInts (k : IntKind) (n : Nat) (w : World) (cs : List Value) : Prop := ∃ xs : List Int, cs = xs.map (Value.int k) ∧ xs.length = n ∧ ∀ x ∈ xs, (Lit.int k x).wf = true
theorem Opens.flat {k : IntKind} {t : TypeId} {n : Nat} {ts : List TypeId} (ha : AllInts P k t n) : Opens P t ts (RInts k n) := by
  intro H enc W r b0 fuel cs x h _ _ _
  obtain ⟨hl, hall⟩ := ha H enc W 0 _ _ fuel _ _ h
  obtain ⟨xs, rfl, hw⟩ := ints_of _ hall
  exact ⟨xs, rfl, by simpa using hl, hw⟩

/-- The argument, opened: a row (struct or array). -/
theorem open_agg {t : TypeId} {ts : List TypeId} {R : World → List Value → Prop} (ho : Opens P t ts R) (hts : P.cellTypes P.depth t = some ts) {d0 : TypeDesc} (hu : P.underlying t = some d0) (hr : d0.isRow = true) (hc : P.cellsOf t = ts.length)
    {H : Type} {enc : TypeId × Value → H} {W : World} {r : Reach} {b0 : Nat} {v : Value} {d : DataW H} {p : List MemPlace}
    (hval : Value.okWide P W r b0 t v) (h : DataW.Trod enc P W 0 (fun _ => true) true t v d p) (hlt : ∀ x ∈ p, x.block < W.heap.size) : ∃ cs : List Value, v = .agg cs.toArray ∧ R W cs := by
  have hv : ∃ cs, v = .agg cs ∧ cs.size = P.cellsOf t ∧ Row.okWide P W r b0 t cs := by
    cases d0 <;> simp only [TypeDesc.isRow, Bool.false_eq_true] at hr <;> (simp only [Value.okWide, hu] at hval; exact hval)
  obtain ⟨cs, rfl, hsz, ts', hts', _, hcells⟩ := hv
  rw [hts] at hts'
  obtain rfl := Option.some.inj hts'
  obtain ⟨fuel, hf⟩ := h
  refine ⟨cs.toList, by simp, ho H enc W r b0 fuel cs.toList (d, p) hf (fun i c u hi hu => ?_) hlt (by simpa [hc] using hsz)⟩
  obtain ⟨u', hu', hok⟩ := hcells i c (by simpa using hi)
  have hil : i < ts.length := (List.getElem?_eq_some_iff.1 hu).1
  rw [Nat.mod_eq_of_lt hil, hu] at hu'
  obtain rfl := Option.some.inj hu'
  exact hok

/-! ### a start -/
/-- Cells that read as t, whatever the world; nothing in them has a weight. -/
def ZG (P : Program) (t : TypeId) (ts : List TypeId) (cs : List Value) (m : Nat) : Prop :=
  cs.length = ts.length ∧ (∀ (w : World) (base i : Nat) (c : Value) (u : TypeId), cs[i]? = some c → ts[i]? = some u → Cell.okWide P w .any base u c) ∧
  ∀ (H : Type) (enc : TypeId × Value → H) (w : World) (f : Nat), m ≤ f → ∃ d : DataW H, DataW.trod enc P w 0 (fun _ => true) true f t cs = some (d, []) ∧ d.weights P t = []
theorem ok1 {w : World} {base : Nat} {t u : TypeId} {c v : Value} {i : Nat} (h : Cell.okWide P w .any base t v) (h1 : [v][i]? = some c) (h2 : [t][i]? = some u) : Cell.okWide P w .any base u c := by
  cases i with
  | zero => simp at h1 h2; subst h1 h2; exact h
  | succ i => simp at h1
theorem ZG.int {k : IntKind} {t : TypeId} (ht : P.underlying t = some (.int k)) (hw : (Lit.int k 0).wf = true) : ZG P t [t] [.int k 0] 1 := by
  refine ⟨rfl, fun w base i c u h1 h2 => ok1 (by simp only [Cell.okWide, Cell.ok, ht]; exact ⟨trivial, has0 k⟩) h1 h2, fun H enc w f hf => ?_⟩
  obtain ⟨f, rfl⟩ : ∃ g, f = g + 1 := ⟨f - 1, by omega⟩
  exact ⟨.lit (.int k 0), by simp [DataW.trod, ht, hw], by simp [DataW.weights]⟩
theorem ZG.bool {t : TypeId} (ht : P.underlying t = some .bool) : ZG P t [t] [.bool false] 1 := by
  refine ⟨rfl, fun w base i c u h1 h2 => ok1 (by simp only [Cell.okWide, Cell.ok, ht]) h1 h2, fun H enc w f hf => ?_⟩
  obtain ⟨f, rfl⟩ : ∃ g, f = g + 1 := ⟨f - 1, by omega⟩
  exact ⟨.lit (.bool false), by simp [DataW.trod, ht], by simp [DataW.weights]⟩
theorem ZG.slice {t e : TypeId} (ht : P.underlying t = some (.slice e)) : ZG P t [t] [.slice none 0 0] 1 := by
  refine ⟨rfl, fun w base i c u h1 h2 => ok1 (by simp only [Cell.okWide, Cell.ok, ht]) h1 h2, fun H enc w f hf => ?_⟩
  obtain ⟨f, rfl⟩ : ∃ g, f = g + 1 := ⟨f - 1, by omega⟩
  exact ⟨.nil, by simp [DataW.trod, ht], by simp [DataW.weights]⟩
theorem ZG.flat {k : IntKind} {t e : TypeId} {N m : Nat} (hz : ZR P k t N m) (he : P.underlying e = some (.int k)) : ZG P t (List.replicate N e) ((List.replicate N (0 : Int)).map (Value.int k)) m := by
  refine ⟨by simp, fun w base i c u h1 h2 => ?_, fun H enc w f hf => ?_⟩
  · have hi : i < N := by simpa using (List.getElem?_eq_some_iff.1 h2).1
    obtain rfl : e = u := by simpa [hi] using h2
    obtain rfl : Value.int k 0 = c := by simpa [hi] using h1
    simp only [Cell.okWide, Cell.ok, he]
    exact ⟨trivial, has0 k⟩
  · obtain ⟨d, hd, hw⟩ := hz H enc w 0 (fun _ => true) true f hf
    exact ⟨d, by rw [List.map_replicate]; exact hd, hw⟩
inductive ZFields (P : Program) (m : Nat) : Nat → List Field → List TypeId → List Value → Prop where
  | nil (o : Nat) : ZFields P m o [] [] []
  | cons {o n : Nat} {f : Field} {fs : List Field} {ts tt : List TypeId} {cs cc : List Value} (ho : f.offset = o) (hc : P.cellsOf f.type = n) (hn : cs.length = n) (h : ZG P f.type ts cs m) (hr : ZFields P m (o + n) fs tt cc) : ZFields P m o (f :: fs) (ts ++ tt) (cs ++ cc)
theorem ok2 {w : World} {base : Nat} {ts tt : List TypeId} {cs cc : List Value} (hl : cs.length = ts.length) (h1 : ∀ (i : Nat) (c : Value) (u : TypeId), cs[i]? = some c → ts[i]? = some u → Cell.okWide P w .any base u c)
    (h2 : ∀ (i : Nat) (c : Value) (u : TypeId), cc[i]? = some c → tt[i]? = some u → Cell.okWide P w .any base u c) : ∀ (i : Nat) (c : Value) (u : TypeId), (cs ++ cc)[i]? = some c → (ts ++ tt)[i]? = some u → Cell.okWide P w .any base u c := by
  intro i c u hc hu
  by_cases hi : i < cs.length
  · rw [List.getElem?_append_left hi] at hc
    rw [List.getElem?_append_left (by omega)] at hu
    exact h1 i c u hc hu
  · rw [List.getElem?_append_right (by omega)] at hc
    rw [List.getElem?_append_right (by omega)] at hu
    exact h2 _ c u hc (by rw [hl]; exact hu)
theorem zfields_go {m : Nat} : ∀ {fs : List Field} {o : Nat} {ts : List TypeId} {cs : List Value}, ZFields P m o fs ts cs → cs.length = ts.length ∧ (∀ (w : World) (base i : Nat) (c : Value) (u : TypeId), cs[i]? = some c → ts[i]? = some u → Cell.okWide P w .any base u c) ∧
    ∀ (H : Type) (enc : TypeId × Value → H) (w : World) (f : Nat) (hd : List Value), m ≤ f → hd.length = o → ∃ dl : List (DataW H), fs.mapM (fun fl => DataW.trod enc P w 0 (fun _ => true) true f fl.type (((hd ++ cs).drop fl.offset).take (P.cellsOf fl.type))) = some (dl.map fun d => (d, [])) ∧ DataW.weightsEach P (fs.map (·.type)) dl = []
  | _, _, _, _, .nil o => ⟨rfl, fun w base i c u h1 => by simp at h1, fun H enc w f hd _ _ => ⟨[], rfl, by simp [DataW.weightsEach]⟩⟩
  | _, _, _, _, .cons (n := n) (f := fl) (fs := fs) (ts := ts) (cs := cs) (cc := cc) ho hc hn h hr => by
    obtain ⟨g1, g2, g3⟩ := zfields_go hr
    refine ⟨by rw [List.length_append, List.length_append, h.1, g1], fun w base => ok2 h.1 (h.2.1 w base) (g2 w base), fun H enc w f hd hf ho2 => ?_⟩
    obtain ⟨d, hd1, hw1⟩ := h.2.2 H enc w f hf
    obtain ⟨dl, hd2, hw2⟩ := g3 H enc w f (hd ++ cs) hf (by rw [List.length_append]; omega)
    refine ⟨d :: dl, ?_, ?_⟩
    · rw [List.mapM_cons]
      have e1 : (((hd ++ (cs ++ cc)).drop fl.offset).take (P.cellsOf fl.type)) = cs := by
        rw [ho, hc, List.drop_left' ho2, List.take_left' hn]
      rw [e1, hd1]
      rw [List.append_assoc] at hd2
      rw [hd2]
      rfl
    · rw [List.map_cons, DataW.weightsEach, hw1, hw2]; rfl
theorem ZG.struct {t : TypeId} {fs : Array Field} {ts : List TypeId} {cs : List Value} {m : Nat} (ht : P.underlying t = some (.struct fs)) (hc : P.cellsOf t = cs.length) (hf : ZFields P m 0 fs.toList ts cs) : ZG P t ts cs (m + 1) := by
  obtain ⟨g1, g2, g3⟩ := zfields_go hf
  refine ⟨g1, g2, fun H enc w f hm => ?_⟩
  obtain ⟨f, rfl⟩ : ∃ g, f = g + 1 := ⟨f - 1, by omega⟩
  obtain ⟨dl, h1, h2⟩ := g3 H enc w f [] (by omega) rfl
  refine ⟨.agg dl, ?_, ?_⟩
  · have := trod_struct_mk (enc := enc) (w := w) (base := 0) (spare := fun _ => true) (held := true) (n := f) (cs := cs) ht hc.symm (by simpa using h1)
    rw [this]
    have e1 : (dl.map fun d => (d, ([] : List MemPlace))).map (·.1) = dl := by rw [List.map_map]; exact List.map_id' dl
    have e2 : ∀ dl : List (DataW H), (dl.map fun d => (d, ([] : List MemPlace))).flatMap (·.2) = [] := fun dl => by
      induction dl with
      | nil => rfl
      | cons d dl ih => rw [List.map_cons, List.flatMap_cons, ih]; rfl
    rw [e1, e2]
  · rw [DataW.weights.eq_def]
    simp only [ht]
    exact h2
theorem ZG.array {t e : TypeId} {n m M : Nat} {ts : List TypeId} {cs : List Value} (ht : P.underlying t = some (.array n e)) (he : ZG P e ts cs m) (hc : P.cellsOf e = M) (hM : cs.length = M) (hN : P.cellsOf t = n * M) : ZG P t (List.replicate n ts).flatten (List.replicate n cs).flatten (m + 1) := by
  have hl : ∀ n, (List.replicate n cs).flatten.length = n * M := fun n => by
    induction n with
    | zero => simp
    | succ n ih => rw [List.replicate_succ, List.flatten_cons, List.length_append, ih, hM, Nat.succ_mul]; omega
  refine ⟨by rw [hl, flat_len, ← he.1, hM], fun w base => ?_, fun H enc w f hf => ?_⟩
  · have : ∀ n, ∀ (i : Nat) (c : Value) (u : TypeId), (List.replicate n cs).flatten[i]? = some c → (List.replicate n ts).flatten[i]? = some u → Cell.okWide P w .any base u c := fun n => by
      induction n with
      | zero => intro i c u h; simp at h
      | succ n ih => rw [List.replicate_succ, List.flatten_cons, List.replicate_succ, List.flatten_cons]; exact ok2 he.1 (he.2.1 w base) ih
    exact this n
  · obtain ⟨f, rfl⟩ : ∃ g, f = g + 1 := ⟨f - 1, by omega⟩
    obtain ⟨d, hd, hw⟩ := he.2.2 H enc w f (by omega)
    have hsub : ∀ n i, i < n → (((List.replicate n cs).flatten.drop (i * M)).take M) = cs := by
      intro n
      induction n with
      | zero => intro i hi; omega
      | succ n ih =>
        intro i hi
        rw [List.replicate_succ, List.flatten_cons]
        cases i with
        | zero => rw [Nat.zero_mul, List.drop_zero, List.take_left' hM]
        | succ i =>
          rw [Nat.succ_mul, Nat.add_comm, ← List.drop_drop, List.drop_left' hM]
          exact ih i (by omega)
    have hm := mapM_const (fun i => DataW.trod enc P w 0 (fun _ => true) true f e (((List.replicate n cs).flatten.drop (i * P.cellsOf e)).take (P.cellsOf e))) (d, []) (List.range n) (fun i hi => by
      rw [hc, hsub n i (List.mem_range.1 hi)]; exact hd)
    rw [List.length_range] at hm
    refine ⟨.agg (List.replicate n d), ?_, ?_⟩
    · rw [DataW.trod.eq_def]
      simp only [ht]
      rw [if_pos (by rw [hl, hN]), hm]
      simp only [Option.map_some, List.map_replicate, flatMap_const]
    · rw [DataW.weights.eq_def]
      simp only [ht]
      exact weightsAll_const e d hw n
theorem WOk.agg {t : TypeId} {ts : List TypeId} {cs : List Value} {m : Nat} (hz : ZG P t ts cs m) (hts : P.cellTypes P.depth t = some ts) {d0 : TypeDesc} (hu : P.underlying t = some d0) (hr : d0.isRow = true) (hc : P.cellsOf t = ts.length) : WOk P t (.agg cs.toArray) := by
  refine ⟨fun w base => ?_, fun H enc w => ?_⟩
  · have hrow : Row.okWide P w .any base t cs.toArray := by
      refine ⟨ts, hts, ⟨1, by simp [hz.1]⟩, fun i v hv => ?_⟩
      have hi : i < ts.length := by rw [← hz.1]; simpa using (Array.getElem?_eq_some_iff.1 hv).1
      refine ⟨ts[i], ?_, hz.2.1 w base i v _ (by simpa using hv) (List.getElem?_eq_getElem hi)⟩
      rw [Nat.mod_eq_of_lt hi, List.getElem?_eq_getElem hi]
    cases d0 <;> simp only [TypeDesc.isRow, Bool.false_eq_true] at hr <;> (simp only [Value.okWide, hu]; exact ⟨_, rfl, by simp [hc, hz.1], hrow⟩)
  · obtain ⟨d, hd, hwt⟩ := hz.2.2 H enc w m (Nat.le_refl _)
    exact ⟨d, ⟨m, by simpa [Value.cells] using hd⟩, hwt⟩
end
end Go.Proofs.Yteaijjefbadnbaa
