/-
  Rows of spans (structs of two whole numbers): read whole, read by a field.
  No conditions: lemmas over any program.
-/
import Derived.Test.YtanggdnmoaflfaaDigL
namespace Go.Proofs.Ytanggdnmoaflfaa
open Go.ChangeShapes Go.WideShapes Go.ChangeAt Go.RowKit
set_option linter.unusedVariables false
set_option linter.unusedSimpArgs false
set_option maxRecDepth 100000

/-- spans as rows of two numbers -/
def spS (h : List (Int × Int)) : List (List Int) := h.map fun s => [s.1, s.2]
theorem spS_len (h : List (Int × Int)) : (spS h).length = h.length := by simp [spS]
theorem spS_app (g h : List (Int × Int)) : spS (g ++ h) = spS g ++ spS h := by simp [spS]
theorem spS_lens (h : List (Int × Int)) : ∀ d ∈ spS h, d.length = 2 := fun d hd => by
  obtain ⟨s, _, rfl⟩ := List.mem_map.1 hd; rfl
theorem spS_of {es : List (List Int)} (h : ∀ d ∈ es, d.length = 2) : ∃ g : List (Int × Int), es = spS g := by
  induction es with
  | nil => exact ⟨[], rfl⟩
  | cons d es ih =>
    obtain ⟨g, hg⟩ := ih fun x hx => h x (List.mem_cons_of_mem _ hx)
    have := h d (List.mem_cons_self ..)
    match d, this with
    | [a, b], _ => exact ⟨(a, b) :: g, by rw [hg]; rfl⟩
theorem spS_getD (h : List (Int × Int)) (j : Nat) (hj : j < h.length) : (spS h).getD j [] = [(h.getD j (0, 0)).1, (h.getD j (0, 0)).2] := by
  simp [spS, List.getD_eq_getElem?_getD, hj]
theorem spS_flat (h : List (Int × Int)) (j : Nat) (hj : j < h.length) : (spS h).flatten.getD (j * 2) 0 = (h.getD j (0, 0)).1 ∧ (spS h).flatten.getD (j * 2 + 1) 0 = (h.getD j (0, 0)).2 := by
  have e := spS_getD h j hj
  have hd : (spS h)[j]? = some [(h.getD j (0, 0)).1, (h.getD j (0, 0)).2] := by
    have hj' : j < (spS h).length := by rw [spS_len]; exact hj
    rw [← e, List.getD_eq_getElem?_getD, List.getElem?_eq_getElem hj']; rfl
  constructor
  · rw [List.getD_eq_getElem?_getD, fe_get (by omega) (spS_lens h), show j * 2 / 2 = j by omega, show j * 2 % 2 = 0 by omega, hd]; rfl
  · rw [List.getD_eq_getElem?_getD, fe_get (by omega) (spS_lens h), show (j * 2 + 1) / 2 = j by omega, show (j * 2 + 1) % 2 = 1 by omega, hd]; rfl
/-- the address of a field of a span of a row -/
def elemF : Value → Nat → Nat → Value
  | .slice (some ad) _ _, k, f => .pointer (some (ad.add (k * 2 + f)))
  | _, _, _ => undef
section
variable {P : Program}
theorem Val.fldE {a : Act} {op : Oper} {w : World} (t : TypeId) (x : Operand) (f : Nat) (ho : op.op = .fieldAddr t x f) (v : Value) (j : Nat) (hx : a.eval x = elemE 2 v j) {h : List (Int × Int)} (hs : SE .i64 2 w v (spS h)) {fs : Array Field}
    (ht : P.underlying t = some (.struct fs)) (o : Nat) (hf : (fs[f]?).map (fun g => (g.offset, (P.info? g.type).map (·.size))) = some (o, some 1)) (hj : j < h.length) : Val P a op (elemF v j o) w := by
  obtain ⟨fd, hfd, hf2⟩ := Option.map_eq_some_iff.1 hf
  simp only [Prod.mk.injEq] at hf2
  obtain ⟨rfl, hsz⟩ := hf2
  obtain ⟨i, hi, hm⟩ := Option.map_eq_some_iff.1 hsz
  rcases hs.2 with ⟨rfl, h0⟩ | ⟨b, of, c, rfl, h1, h2, h3, h4⟩
  · have h0' : h.length = 0 := by rw [← spS_len, h0]; rfl
    omega
  · have hsz' : ∀ w, (sizeOf fd.type).run P w = .ok 1 w := fun w => by simp [sizeOf, typeInfo, hi, hm]
    simp only [elemE, Addr.add_mid] at hx
    unfold Val execOp
    simp [ho, hx, Instr.fieldAt, run_underlying ht, hfd, Instr.sureAddr, fieldPlace, hsz', elemF, Addr.add_mid, Nat.add_assoc]
theorem Val.ldF0 {a : Act} {op : Oper} {w : World} (ty : TypeId) (x : Operand) (ho : op.op = .load ty x) (v : Value) (j : Nat) (hx : a.eval x = elemF v j 0) (hagg : ∀ w, (isAgg ty).run P w = .ok false w) {h : List (Int × Int)} (hs : SE .i64 2 w v (spS h)) (hj : j < h.length) : Val P a op (.int .i64 (h.getD j (0, 0)).1) w := by
  rcases hs.2 with ⟨rfl, h0⟩ | ⟨b, o, c, rfl, h1, h2, h3, h4⟩
  · have h0' : h.length = 0 := by rw [← spS_len, h0]; rfl
    omega
  · simp only [elemF, Addr.add_mid] at hx
    have := h4 (j * 2) (by rw [spS_len]; omega)
    rw [(spS_flat h j hj).1] at this
    exact Val.cell ty x ho b (o + (j * 2 + 0)) _ hx hagg this
theorem Val.ldF1 {a : Act} {op : Oper} {w : World} (ty : TypeId) (x : Operand) (ho : op.op = .load ty x) (v : Value) (j : Nat) (hx : a.eval x = elemF v j 1) (hagg : ∀ w, (isAgg ty).run P w = .ok false w) {h : List (Int × Int)} (hs : SE .i64 2 w v (spS h)) (hj : j < h.length) : Val P a op (.int .i64 (h.getD j (0, 0)).2) w := by
  rcases hs.2 with ⟨rfl, h0⟩ | ⟨b, o, c, rfl, h1, h2, h3, h4⟩
  · have h0' : h.length = 0 := by rw [← spS_len, h0]; rfl
    omega
  · simp only [elemF, Addr.add_mid] at hx
    have := h4 (j * 2 + 1) (by rw [spS_len]; omega)
    rw [(spS_flat h j hj).2] at this
    exact Val.cell ty x ho b (o + (j * 2 + 1)) _ hx hagg this
theorem Val.ldS {a : Act} {op : Oper} {w : World} (ty : TypeId) (x : Operand) (ho : op.op = .load ty x) (v : Value) (j : Nat) (hx : a.eval x = elemE 2 v j) {h : List (Int × Int)} (hs : SE .i64 2 w v (spS h)) (d : TypeDesc) (hu : P.underlying ty = some d) (hd : d.isRow = true)
    (hi : (P.info? ty).map (·.size) = some 2) (hj : j < h.length) : Val P a op (.agg #[.int .i64 (h.getD j (0, 0)).1, .int .i64 (h.getD j (0, 0)).2]) w := by
  have := Val.ldG (P := P) ty x ho v j hx hs d hu hd hi (by rw [spS_len]; exact hj)
  rw [spS_getD h j hj] at this
  exact this
theorem Val.minI {a : Act} {op : Oper} {w : World} (x y : Operand) (ts : Array TypeId) (ho : op.op = .call { callee := .builtin .min, args := #[x, y], argTypes := ts }) (p q : Int) (hx : a.eval x = .int .i64 p) (hy : a.eval y = .int .i64 q) : Val P a op (.int .i64 (min p q)) w := by
  have e : (if q < p then q else p) = min p q := by split <;> omega
  unfold Val execOp
  simp [ho, resolve, invoke, builtin, hx, hy, Builtin.min_, Builtin.min2, e, Result.andThen]
theorem Val.maxI {a : Act} {op : Oper} {w : World} (x y : Operand) (ts : Array TypeId) (ho : op.op = .call { callee := .builtin .max, args := #[x, y], argTypes := ts }) (p q : Int) (hx : a.eval x = .int .i64 p) (hy : a.eval y = .int .i64 q) : Val P a op (.int .i64 (max p q)) w := by
  have e : (if p < q then q else p) = max p q := by split <;> omega
  unfold Val execOp
  simp [ho, resolve, invoke, builtin, hx, hy, Builtin.max_, Builtin.max2, e, Result.andThen]
end
end Go.Proofs.Ytanggdnmoaflfaa
