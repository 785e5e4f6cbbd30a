/-
  MacTagged, as the frame asks it.
-/
import Derived.Test.YtlmadkldiidkaaaMacTg
import Derived.Test.YtlmadkldiidkaaaNnB
namespace Go.Proofs.Ytlmadkldiidkaaa
open Go.RowKit
set_option maxRecDepth 100000
set_option linter.unusedVariables false
theorem rows_nn : ∀ {ys : List (List Int)}, (∀ y ∈ ys, ∀ n ∈ y, (Lit.int .u8 n).wf = true) → ∃ ps : List (List Nat), ys = ps.map nn ∧ ∀ p ∈ ps, ∀ x ∈ p, x < 256
  | [], _ => ⟨[], rfl, fun p hp => by cases hp⟩
  | y :: ys, h => by
    obtain ⟨ps, e, hb⟩ := rows_nn (ys := ys) fun z hz => h z (List.mem_cons_of_mem _ hz)
    obtain ⟨p, e2, hp⟩ := row8 (wf_bounds_u8 (h y (List.mem_cons_self ..)))
    refine ⟨p :: ps, by rw [e, e2]; rfl, fun q hq => ?_⟩
    rcases List.mem_cons.1 hq with rfl | hq
    · exact hp
    · exact hb q hq
theorem macTagged_any (w : World) (x0 : List Value) (R0 : RInts .u32 72 w x0) (tag : Int) (ht : 0 ≤ tag ∧ tag ≤ 255) (v : Value) (us : List Value) (ys : List (List Int)) (HV : SV w v us) (HY : SLxs w.heap.size w us ys) (hw : ∀ y ∈ ys, ∀ n ∈ y, (Lit.int .u8 n).wf = true) :
    Calls Try.prog 8 #[.agg x0.toArray, .int .u8 tag, v] w fun e w' => e = .returned (.bool true) ∧ Below w.heap.size w w' := by
  obtain ⟨tab, htl, rfl, h32⟩ := rints32 R0
  obtain ⟨m, rfl⟩ : ∃ n : Nat, tag = (n : Int) := ⟨tag.toNat, by omega⟩
  obtain ⟨ps, rfl, _⟩ := rows_nn hw
  exact macTagged_walk tab htl m (by omega) v us ps w HV HY
end Go.Proofs.Ytlmadkldiidkaaa
