/-
  ShaTwice: a hasher is plain data. For any table, any bytes ahead (up to 200), two lists of bytes behind (up to 200 each).
-/
import Derived.Test.YtoeaekamoejhcaaRows
import Derived.Test.YtoeaekamoejhcaaOpenG
import Derived.Test.YtoeaekamoejhcaaShaTwA
namespace Go.Proofs.Ytoeaekamoejhcaa.shaTwice
open Go.ChangeShapes Go.WideShapes Go.ChangeAt Go.RowKit
set_option linter.unusedVariables false
set_option linter.unusedSimpArgs false
set_option maxRecDepth 100000

theorem ai_uint32 : AllInts Try.prog .u32 39 1 := AllInts.int Try.underlying39
theorem ai__8_uint32 : AllInts Try.prog .u32 58 8 := AllInts.array Try.underlying58 ai_uint32 (by kernel_rfl) (by kernel_rfl) (by rfl)
theorem ai__64_uint32 : AllInts Try.prog .u32 59 64 := AllInts.array Try.underlying59 ai_uint32 (by kernel_rfl) (by kernel_rfl) (by rfl)
theorem ai_api_Rounds : AllInts Try.prog .u32 61 72 := AllInts.struct2 Try.underlying61 ai__8_uint32 ai__64_uint32 rfl rfl (by kernel_rfl) (by kernel_rfl) (by kernel_rfl) (by rfl)
theorem op_api_Rounds : Opens Try.prog 61 (List.replicate 72 39) (RInts .u32 72) := Opens.flat ai_api_Rounds
theorem zr_uint32 : ZR Try.prog .u32 39 1 1 := ZR.int Try.underlying39 (by decide)
theorem zr__8_uint32 : ZR Try.prog .u32 58 8 2 := ZR.array Try.underlying58 zr_uint32 (by kernel_rfl) (by kernel_rfl) (by rfl)
theorem zr__64_uint32 : ZR Try.prog .u32 59 64 2 := ZR.array Try.underlying59 zr_uint32 (by kernel_rfl) (by kernel_rfl) (by rfl)
theorem zr_api_Rounds : ZR Try.prog .u32 61 72 3 := ZR.struct2 Try.underlying61 zr__8_uint32 zr__64_uint32 rfl rfl (by kernel_rfl) (by kernel_rfl) (by kernel_rfl) (by rfl)
theorem zg_api_Rounds : ZG Try.prog 61 (List.replicate 72 39) ((List.replicate 72 (0 : Int)).map (Value.int .u32)) 3 := ZG.flat zr_api_Rounds Try.underlying39
theorem wok_api_Rounds : WOk Try.prog 61 (.agg (((List.replicate 72 (0 : Int)).map (Value.int .u32)) : List Value).toArray) := WOk.agg zg_api_Rounds (by kernel_rfl) Try.underlying61 rfl (by kernel_rfl)

theorem own : ownKnob Try.prog.godebug = none := by kernel_rfl
theorem laidOut : laidOutB Try.prog = true := by kernel_rfl

theorem lifted (os : Os) (started : os.Started) (H : Type) (enc : TypeId × Value → H) :
    ReturnsInHanded {} Try.checked os 10 .any (Rows.shaTwiceSpec.pre6 enc Try.prog Try.f10 Rows.shaTwiceRow.domain false) (Rows.shaTwiceSpec.post enc Try.prog Try.f10 false true false false) := by
  refine returnsInHanded_of_change (C := Try.checked) own started (by kernel_rfl) Try.func10
    (witness_flat (enc := enc) (C := Try.checked) #[.agg (((List.replicate 72 (0 : Int)).map (Value.int .u32)) : List Value).toArray, .slice none 0 0, .slice none 0 0, .slice none 0 0] (by as_aux_lemma => kernel_rfl) (by as_aux_lemma => kernel_rfl) (by kernel_rfl) Try.func10 (by kernel_rfl) (by kernel_rfl) (by kernel_rfl)
      (by rw [Try.params10]; exact ⟨wok_api_Rounds, ⟨WOk.slice Try.underlying28, ⟨WOk.slice Try.underlying28, ⟨WOk.slice Try.underlying28, trivial⟩⟩⟩⟩) rfl rfl (by kernel_rfl) (by kernel_rfl)) ?_
  intro W base args ds gs before hval0 hW hcnd _
  have hval : ∀ (j : Nat) t v, Try.f10.params[j]? = some t → args[j]? = some v → Value.okWide Try.prog W .any base t v := hval0
  have hW' := hW
  obtain ⟨p, q, hA0, hV, rfl, hfz, hnd⟩ := hW
  have hA : DataW.TrodAll enc Try.prog W 0 (fun _ => true) true Try.f10.params.toList args.toList ds p := hA0
  rw [Try.params10] at hA hval
  obtain ⟨v0, vs0, d0, ds0, p0, q0, hargs, rfl, rfl, h0, r0⟩ := trodAll_cons hA
  obtain ⟨v1, vs1, d1, ds1, p1, q1, rfl, rfl, rfl, h1, r1⟩ := trodAll_cons r0
  obtain ⟨v2, vs2, d2, ds2, p2, q2, rfl, rfl, rfl, h2, r2⟩ := trodAll_cons r1
  obtain ⟨v3, vs3, d3, ds3, p3, q3, rfl, rfl, rfl, h3, r3⟩ := trodAll_cons r2
  obtain ⟨rfl, rfl, rfl⟩ := trodAll_nil r3
  obtain rfl : args = #[v0, v1, v2, v3] := by cases args; simp_all
  obtain ⟨rfl, rfl⟩ := trodVars_none hV
  have k0 := h0
  have lt0 : ∀ x ∈ p0, x.block < W.heap.size := by obtain ⟨m, hm⟩ := k0; exact DataW.trod_lt m _ _ _ hm
  obtain ⟨x0, rfl, R0⟩ := open_agg op_api_Rounds (by kernel_rfl) Try.underlying61 rfl (by kernel_rfl) (hval 0 61 v0 rfl rfl) h0 lt0
  have k1 := h1
  have lt1 : ∀ x ∈ p1, x.block < W.heap.size := by obtain ⟨m, hm⟩ := k1; exact DataW.trod_lt m _ _ _ hm
  obtain ⟨x1, sl1, wf1⟩ := open_row Try.underlying28 Try.underlying5 (by kernel_rfl) (hval 1 28 v1 rfl rfl) h1 lt1
  have k2 := h2
  have lt2 : ∀ x ∈ p2, x.block < W.heap.size := by obtain ⟨m, hm⟩ := k2; exact DataW.trod_lt m _ _ _ hm
  obtain ⟨x2, sl2, wf2⟩ := open_row Try.underlying28 Try.underlying5 (by kernel_rfl) (hval 2 28 v2 rfl rfl) h2 lt2
  have k3 := h3
  have lt3 : ∀ x ∈ p3, x.block < W.heap.size := by obtain ⟨m, hm⟩ := k3; exact DataW.trod_lt m _ _ _ hm
  obtain ⟨x3, sl3, wf3⟩ := open_row Try.underlying28 Try.underlying5 (by kernel_rfl) (hval 3 28 v3 rfl rfl) h3 lt3
  clear hA0 hval0
  refine (shaTwice_any W x0 R0 v1 x1 sl1 (wf_bounds_u8 wf1) v2 x2 sl2 (wf_bounds_u8 wf2) v3 x3 sl3 (wf_bounds_u8 wf3)).mono fun e W' ⟨he, bel⟩ => ?_
  subst he
  exact ⟨_, rfl, _, _, _, [], _, [], hW', trodAll_mk1 (shut_bool Try.underlying4 _), (trodAll_cons_mk (Below.trod laidOut (by kernel_rfl) (of_decide_eq_true (by kernel_rfl)) k0 bel lt0) (trodAll_cons_mk (Below.trod laidOut (by kernel_rfl) (of_decide_eq_true (by kernel_rfl)) k1 bel lt1) (trodAll_cons_mk (Below.trod laidOut (by kernel_rfl) (of_decide_eq_true (by kernel_rfl)) k2 bel lt2) (trodAll_cons_mk (Below.trod laidOut (by kernel_rfl) (of_decide_eq_true (by kernel_rfl)) k3 bel lt3) trodAll_mk0)))), rfl, bel.frame _, fun h => by cases h⟩

theorem over : Rows.shaTwiceRow.holds Try.pinned (OpenSpec.ofChange Rows.shaTwiceSpec) :=
  OpenClaim.holds_of_wide 10 Try.f10 rfl rfl rfl rfl rfl rfl rfl ⟨rfl, rfl, rfl, rfl, rfl⟩ rfl rfl rfl rfl rfl (by kernel_rfl) Try.func10 (by kernel_rfl)
    (of_decide_eq_true (by kernel_rfl)) (by unfold Func.isWrapper; first | (rw [if_pos (by decide +kernel)]; kernel_rfl) | (rw [if_neg (by decide +kernel)]; exact ⟨rfl, rfl⟩))
    (fun os started H enc _ => lifted os started H enc)
end Go.Proofs.Ytoeaekamoejhcaa.shaTwice
namespace Go.Proofs.Ytoeaekamoejhcaa
/-- THE STATEMENT. -/
theorem shaTwice_holds : Rows.ShaTwiceSaid := shaTwice.over
#print axioms shaTwice_holds
end Go.Proofs.Ytoeaekamoejhcaa
