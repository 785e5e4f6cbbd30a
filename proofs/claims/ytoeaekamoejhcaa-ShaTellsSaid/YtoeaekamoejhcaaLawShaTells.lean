/-
  ShaTells: for any tables, hashers, blocks and bytes all calls answer as the document defines; what is handed in stays (at most 500 bytes; hashers of at most 100).
-/
import Derived.Test.YtoeaekamoejhcaaRows
import Derived.Test.YtoeaekamoejhcaaOpenG
import Derived.Test.YtoeaekamoejhcaaShaTeA
namespace Go.Proofs.Ytoeaekamoejhcaa.shaTells
open Go.ChangeShapes Go.WideShapes Go.ChangeAt Go.RowKit
set_option linter.unusedVariables false
set_option linter.unusedSimpArgs false
set_option maxRecDepth 100000

theorem ai_uint32 : AllInts Try.prog .u32 39 1 := AllInts.int Try.underlying39
theorem ai__8_uint32 : AllInts Try.prog .u32 58 8 := AllInts.array Try.underlying58 ai_uint32 (by kernel_rfl) (by kernel_rfl) (by rfl)
theorem ai__64_uint32 : AllInts Try.prog .u32 59 64 := AllInts.array Try.underlying59 ai_uint32 (by kernel_rfl) (by kernel_rfl) (by rfl)
theorem ai_api_Rounds : AllInts Try.prog .u32 61 72 := AllInts.struct2 Try.underlying61 ai__8_uint32 ai__64_uint32 rfl rfl (by kernel_rfl) (by kernel_rfl) (by kernel_rfl) (by rfl)
theorem op_api_Rounds : Opens Try.prog 61 (List.replicate 72 39) (RInts .u32 72) := Opens.flat ai_api_Rounds
theorem zr_uint32 : ZR Try.prog .u32 39 1 1 := ZR.int Try.underlying39 (by decide)
theorem zr__8_uint32 : ZR Try.prog .u32 58 8 2 := ZR.array Try.underlying58 zr_uint32 (by kernel_rfl) (by kernel_rfl) (by rfl)
theorem zr__64_uint32 : ZR Try.prog .u32 59 64 2 := ZR.array Try.underlying59 zr_uint32 (by kernel_rfl) (by kernel_rfl) (by rfl)
theorem zr_api_Rounds : ZR Try.prog .u32 61 72 3 := ZR.struct2 Try.underlying61 zr__8_uint32 zr__64_uint32 rfl rfl (by kernel_rfl) (by kernel_rfl) (by kernel_rfl) (by rfl)
theorem zg_api_Rounds : ZG Try.prog 61 (List.replicate 72 39) ((List.replicate 72 (0 : Int)).map (Value.int .u32)) 3 := ZG.flat zr_api_Rounds Try.underlying39
theorem wok_api_Rounds : WOk Try.prog 61 (.agg (((List.replicate 72 (0 : Int)).map (Value.int .u32)) : List Value).toArray) := WOk.agg zg_api_Rounds (by kernel_rfl) Try.underlying61 rfl (by kernel_rfl)
theorem op_int : Opens Try.prog 3 [3] (RInt .i64) := Opens.int Try.underlying3
theorem op__uint8 : Opens Try.prog 28 [28] (RRow .u8) := Opens.row Try.underlying28 Try.underlying5 (by kernel_rfl)
theorem op__8_uint32 : Opens Try.prog 58 (List.replicate 8 39) (RInts .u32 8) := Opens.flat ai__8_uint32
theorem op_api_Hasher : Opens Try.prog 66 ((List.replicate 8 39) ++ ([28] ++ ([3] ++ []))) (RFields [(8, RInts .u32 8), (1, RRow .u8), (1, RInt .i64)]) := Opens.struct Try.underlying66 (OFields.cons rfl (by kernel_rfl) (by rfl) op__8_uint32 (OFields.cons rfl (by kernel_rfl) (by rfl) op__uint8 (OFields.cons rfl (by kernel_rfl) (by rfl) op_int (OFields.nil _))))
theorem zg__8_uint32 : ZG Try.prog 58 (List.replicate 8 39) ((List.replicate 8 (0 : Int)).map (Value.int .u32)) 2 := ZG.flat zr__8_uint32 Try.underlying39
theorem zg__uint8 : ZG Try.prog 28 [28] [.slice none 0 0] 1 := ZG.slice Try.underlying28
theorem zg_int : ZG Try.prog 3 [3] [.int .i64 0] 1 := ZG.int Try.underlying3 (by decide)
theorem zg_api_Hasher : ZG Try.prog 66 ((List.replicate 8 39) ++ ([28] ++ ([3] ++ []))) (((List.replicate 8 (0 : Int)).map (Value.int .u32)) ++ ([.slice none 0 0] ++ ([.int .i64 0] ++ []))) 3 := ZG.struct Try.underlying66 (by kernel_rfl) (ZFields.cons rfl (by kernel_rfl) (by rfl) zg__8_uint32 (ZFields.cons rfl (by kernel_rfl) (by rfl) ⟨zg__uint8.1, zg__uint8.2.1, fun H enc w f h => zg__uint8.2.2 H enc w f (by omega)⟩ (ZFields.cons rfl (by kernel_rfl) (by rfl) ⟨zg_int.1, zg_int.2.1, fun H enc w f h => zg_int.2.2 H enc w f (by omega)⟩ (ZFields.nil _))))
theorem wok_api_Hasher : WOk Try.prog 66 (.agg ((((List.replicate 8 (0 : Int)).map (Value.int .u32)) ++ ([.slice none 0 0] ++ ([.int .i64 0] ++ []))) : List Value).toArray) := WOk.agg zg_api_Hasher (by kernel_rfl) Try.underlying66 rfl (by kernel_rfl)
theorem ai_uint8 : AllInts Try.prog .u8 5 1 := AllInts.int Try.underlying5
theorem ai__64_uint8 : AllInts Try.prog .u8 74 64 := AllInts.array Try.underlying74 ai_uint8 (by kernel_rfl) (by kernel_rfl) (by rfl)
theorem op__64_uint8 : Opens Try.prog 74 (List.replicate 64 5) (RInts .u8 64) := Opens.flat ai__64_uint8
theorem zr_uint8 : ZR Try.prog .u8 5 1 1 := ZR.int Try.underlying5 (by decide)
theorem zr__64_uint8 : ZR Try.prog .u8 74 64 2 := ZR.array Try.underlying74 zr_uint8 (by kernel_rfl) (by kernel_rfl) (by rfl)
theorem zg__64_uint8 : ZG Try.prog 74 (List.replicate 64 5) ((List.replicate 64 (0 : Int)).map (Value.int .u8)) 2 := ZG.flat zr__64_uint8 Try.underlying5
theorem wok__64_uint8 : WOk Try.prog 74 (.agg (((List.replicate 64 (0 : Int)).map (Value.int .u8)) : List Value).toArray) := WOk.agg zg__64_uint8 (by kernel_rfl) Try.underlying74 rfl (by kernel_rfl)

theorem own : ownKnob Try.prog.godebug = none := by kernel_rfl
theorem laidOut : laidOutB Try.prog = true := by kernel_rfl

theorem lifted (os : Os) (started : os.Started) (H : Type) (enc : TypeId × Value → H) :
    ReturnsInHanded {} Try.checked os 8 .any (Rows.shaTellsSpec.pre6 enc Try.prog Try.f8 Rows.shaTellsRow.domain false) (Rows.shaTellsSpec.post enc Try.prog Try.f8 false true false false) := by
  refine returnsInHanded_of_change (C := Try.checked) own started (by kernel_rfl) Try.func8
    (witness_flat (enc := enc) (C := Try.checked) #[.agg (((List.replicate 72 (0 : Int)).map (Value.int .u32)) : List Value).toArray, .agg ((((List.replicate 8 (0 : Int)).map (Value.int .u32)) ++ ([.slice none 0 0] ++ ([.int .i64 0] ++ []))) : List Value).toArray, .slice none 0 0, .agg (((List.replicate 64 (0 : Int)).map (Value.int .u8)) : List Value).toArray, .int .i64 0] (by as_aux_lemma => kernel_rfl) (by as_aux_lemma => kernel_rfl) (by kernel_rfl) Try.func8 (by kernel_rfl) (by kernel_rfl) (by kernel_rfl)
      (by rw [Try.params8]; exact ⟨wok_api_Rounds, ⟨wok_api_Hasher, ⟨WOk.slice Try.underlying28, ⟨wok__64_uint8, ⟨WOk.int Try.underlying3 (by decide), trivial⟩⟩⟩⟩⟩) rfl rfl (by kernel_rfl) (by kernel_rfl)) ?_
  intro W base args ds gs before hval0 hW hcnd _
  have hval : ∀ (j : Nat) t v, Try.f8.params[j]? = some t → args[j]? = some v → Value.okWide Try.prog W .any base t v := hval0
  have hW' := hW
  obtain ⟨p, q, hA0, hV, rfl, hfz, hnd⟩ := hW
  have hA : DataW.TrodAll enc Try.prog W 0 (fun _ => true) true Try.f8.params.toList args.toList ds p := hA0
  rw [Try.params8] at hA hval
  obtain ⟨v0, vs0, d0, ds0, p0, q0, hargs, rfl, rfl, h0, r0⟩ := trodAll_cons hA
  obtain ⟨v1, vs1, d1, ds1, p1, q1, rfl, rfl, rfl, h1, r1⟩ := trodAll_cons r0
  obtain ⟨v2, vs2, d2, ds2, p2, q2, rfl, rfl, rfl, h2, r2⟩ := trodAll_cons r1
  obtain ⟨v3, vs3, d3, ds3, p3, q3, rfl, rfl, rfl, h3, r3⟩ := trodAll_cons r2
  obtain ⟨v4, vs4, d4, ds4, p4, q4, rfl, rfl, rfl, h4, r4⟩ := trodAll_cons r3
  obtain ⟨rfl, rfl, rfl⟩ := trodAll_nil r4
  obtain rfl : args = #[v0, v1, v2, v3, v4] := by cases args; simp_all
  obtain ⟨rfl, rfl⟩ := trodVars_none hV
  have k0 := h0
  have lt0 : ∀ x ∈ p0, x.block < W.heap.size := by obtain ⟨m, hm⟩ := k0; exact DataW.trod_lt m _ _ _ hm
  obtain ⟨x0, rfl, R0⟩ := open_agg op_api_Rounds (by kernel_rfl) Try.underlying61 rfl (by kernel_rfl) (hval 0 61 v0 rfl rfl) h0 lt0
  have k1 := h1
  have lt1 : ∀ x ∈ p1, x.block < W.heap.size := by obtain ⟨m, hm⟩ := k1; exact DataW.trod_lt m _ _ _ hm
  obtain ⟨x1, rfl, R1⟩ := open_agg op_api_Hasher (by kernel_rfl) Try.underlying66 rfl (by kernel_rfl) (hval 1 66 v1 rfl rfl) h1 lt1
  have k2 := h2
  have lt2 : ∀ x ∈ p2, x.block < W.heap.size := by obtain ⟨m, hm⟩ := k2; exact DataW.trod_lt m _ _ _ hm
  obtain ⟨x2, sl2, wf2⟩ := open_row Try.underlying28 Try.underlying5 (by kernel_rfl) (hval 2 28 v2 rfl rfl) h2 lt2
  have k3 := h3
  have lt3 : ∀ x ∈ p3, x.block < W.heap.size := by obtain ⟨m, hm⟩ := k3; exact DataW.trod_lt m _ _ _ hm
  obtain ⟨x3, rfl, R3⟩ := open_agg op__64_uint8 (by kernel_rfl) Try.underlying74 rfl (by kernel_rfl) (hval 3 74 v3 rfl rfl) h3 lt3
  have k4 := h4
  have lt4 : ∀ x ∈ p4, x.block < W.heap.size := by obtain ⟨m, hm⟩ := k4; exact DataW.trod_lt m _ _ _ hm
  obtain ⟨x4, rfl, rfl, rfl, wf4⟩ := open_int Try.underlying3 (hval 4 3 v4 rfl rfl) h4
  clear hA0 hval0
  refine (shaTells_any W x0 R0 x1 R1 v2 x2 sl2 (wf_bounds_u8 wf2) x3 R3 x4 (bounds_i64 wf4)).mono fun e W' ⟨he, bel⟩ => ?_
  subst he
  exact ⟨_, rfl, _, _, _, [], _, [], hW', trodAll_mk1 (shut_bool Try.underlying4 _), (trodAll_cons_mk (Below.trod laidOut (by kernel_rfl) (of_decide_eq_true (by kernel_rfl)) k0 bel lt0) (trodAll_cons_mk (Below.trod laidOut (by kernel_rfl) (of_decide_eq_true (by kernel_rfl)) k1 bel lt1) (trodAll_cons_mk (Below.trod laidOut (by kernel_rfl) (of_decide_eq_true (by kernel_rfl)) k2 bel lt2) (trodAll_cons_mk (Below.trod laidOut (by kernel_rfl) (of_decide_eq_true (by kernel_rfl)) k3 bel lt3) (trodAll_cons_mk (Below.trod laidOut (by kernel_rfl) (of_decide_eq_true (by kernel_rfl)) k4 bel lt4) trodAll_mk0))))), rfl, bel.frame _, fun h => by cases h⟩

theorem over : Rows.shaTellsRow.holds Try.pinned (OpenSpec.ofChange Rows.shaTellsSpec) :=
  OpenClaim.holds_of_wide 8 Try.f8 rfl rfl rfl rfl rfl rfl rfl ⟨rfl, rfl, rfl, rfl, rfl⟩ rfl rfl rfl rfl rfl (by kernel_rfl) Try.func8 (by kernel_rfl)
    (of_decide_eq_true (by kernel_rfl)) (by unfold Func.isWrapper; first | (rw [if_pos (by decide +kernel)]; kernel_rfl) | (rw [if_neg (by decide +kernel)]; exact ⟨rfl, rfl⟩))
    (fun os started H enc _ => lifted os started H enc)
end Go.Proofs.Ytoeaekamoejhcaa.shaTells
namespace Go.Proofs.Ytoeaekamoejhcaa
/-- THE STATEMENT. -/
theorem shaTells_holds : Rows.ShaTellsSaid := shaTells.over
#print axioms shaTells_holds
end Go.Proofs.Ytoeaekamoejhcaa
