/-
  An argument that is a struct of a number and a slice of numbers.
  No conditions: lemmas over any program.
-/
import Derived.Test.YtoeaekamoejhcaaOpen
import Derived.Test.YtoeaekamoejhcaaWit
import Derived.ChangeSame
namespace Go.Proofs.Ytoeaekamoejhcaa
open Go.ChangeShapes Go.WideShapes Go.ChangeAt Go.RowKit
set_option linter.unusedVariables false
set_option linter.unusedSimpArgs false
set_option maxRecDepth 100000

section
variable {P : Program}
/-- what a struct of a number and a slice of numbers is made of -/
structure NumRow (P : Program) (t : TypeId) (k0 k : IntKind) (f0 f1 : Field) (e : TypeId) : Prop where
  ht : P.underlying t = some (.struct #[f0, f1])
  h0 : P.underlying f0.type = some (.int k0)
  h1 : P.underlying f1.type = some (.slice e)
  he : P.underlying e = some (.int k)
  ce : P.cellsOf e = 1
  o0 : f0.offset = 0
  o1 : f1.offset = 1
  c0 : P.cellsOf f0.type = 1
  c1 : P.cellsOf f1.type = 1
  ct : P.cellsOf t = 2
  ts : P.cellTypes P.depth t = some [f0.type, f1.type]

theorem open_numrow {t e : TypeId} {k0 k : IntKind} {f0 f1 : Field} (hs : NumRow P t k0 k f0 f1 e) {H : Type} {enc : TypeId × Value → H} {W : World} {r : Reach} {b0 : Nat} {v : Value} {d : DataW H} {p : List MemPlace}
    (hval : Value.okWide P W r b0 t v) (h : DataW.Trod enc P W 0 (fun _ => true) true t v d p) (hlt : ∀ x ∈ p, x.block < W.heap.size) :
    ∃ (n : Int) (u : Value) (xs : List Int), v = .agg #[.int k0 n, u] ∧ (Lit.int k0 n).wf = true ∧ SL k W u xs ∧ ∀ n ∈ xs, (Lit.int k n).wf = true := by
  simp only [Value.okWide, hs.ht] at hval
  obtain ⟨cs, rfl, hsz, ts, hts, _, hcells⟩ := hval
  rw [hs.ts] at hts
  obtain rfl := Option.some.inj hts
  rw [hs.ct] at hsz
  obtain ⟨l⟩ := cs
  match l, hsz with
  | [a, b], _ =>
    obtain ⟨fuel, hf⟩ := h
    obtain ⟨y0, y1, m, hx, _, e0, e1⟩ := trod_struct2 hs.ht hf
    rw [hs.o0, hs.c0] at e0
    rw [hs.o1, hs.c1] at e1
    simp only [Value.cells, List.drop_zero, List.take_succ_cons, List.take_zero, List.drop_succ_cons] at e0 e1
    obtain ⟨n, hn, _, wf⟩ := DataW.trod_int hs.h0 e0
    obtain rfl : a = .int k0 n := by simpa using hn
    obtain ⟨u1, hu1, hc1⟩ := hcells 1 b rfl
    obtain rfl : f1.type = u1 := by simpa using hu1
    have hval1 : Value.okWide P W r b0 f1.type b := by simp only [Value.okWide, hs.h1]; exact hc1
    have hb : b.cells.toList = [b] := by obtain ⟨_, _, _, rfl⟩ := okWide_slice hs.h1 hval1; simp [Value.cells]
    have hp : p = y0.2 ++ y1.2 := by have := congrArg Prod.snd hx; simpa using this
    obtain ⟨xs, hsl, hw⟩ := open_row hs.h1 hs.he hs.ce hval1 (d := y1.1) (p := y1.2) ⟨m, by rw [hb]; exact e1⟩ (fun x hx => hlt x (by rw [hp]; exact List.mem_append_right _ hx))
    exact ⟨n, b, xs, rfl, wf, hsl, hw⟩

theorem WOk.numrow {t e : TypeId} {k0 k : IntKind} {f0 f1 : Field} (hs : NumRow P t k0 k f0 f1 e) (hw : (Lit.int k0 0).wf = true) : WOk P t (.agg #[.int k0 0, .slice none 0 0]) := by
  refine ⟨fun w base => ?_, fun H enc w => ?_⟩
  · simp only [Value.okWide, hs.ht]
    refine ⟨_, rfl, by rw [hs.ct]; rfl, _, hs.ts, ⟨1, rfl⟩, fun i v hv => ?_⟩
    match i, hv with
    | 0, hv =>
      obtain rfl : Value.int k0 0 = v := by simpa using hv
      exact ⟨f0.type, rfl, by simp only [Cell.okWide, Cell.ok, hs.h0]; exact ⟨trivial, has0 k0⟩⟩
    | 1, hv =>
      obtain rfl : Value.slice none 0 0 = v := by simpa using hv
      exact ⟨f1.type, rfl, by simp only [Cell.okWide, Cell.ok, hs.h1]⟩
    | i + 2, hv => simp at hv
  · obtain ⟨d0, hd0, hw0⟩ := ZR.int (P := P) hs.h0 hw H enc w 0 (fun _ => true) true 1 (Nat.le_refl _)
    have hd1 : DataW.trod enc P w 0 (fun _ => true) true 1 f1.type [.slice none 0 0] = some (.nil, []) := by simp [DataW.trod, hs.h1]
    have hd := trod_struct2_mk (enc := enc) (w := w) (base := 0) (spare := fun _ => true) (held := true) (n := 1) (cs := [.int k0 0, .slice none 0 0]) (y0 := (d0, [])) (y1 := (.nil, [])) hs.ht (by rw [hs.ct]; rfl)
      (by rw [hs.o0, hs.c0]; simpa using hd0) (by rw [hs.o1, hs.c1]; simpa using hd1)
    refine ⟨_, ⟨2, hd⟩, ?_⟩
    rw [DataW.weights.eq_def]
    simp only [hs.ht]
    simp [DataW.weightsEach, hw0, DataW.weights, hs.h1]
end
end Go.Proofs.Ytoeaekamoejhcaa
