/-
  MerkleTells: for any tables, leaves, paths and digests all calls answer as the document defines; what is handed in stays. (At most 40 leaves; paths of at most 20.)
-/
import Derived.Test.YteaijjefbadnbaaRows
import Derived.Test.YteaijjefbadnbaaPk2
import Derived.Test.YteaijjefbadnbaaMerkTe
namespace Go.Proofs.Yteaijjefbadnbaa.merkleTells
open Go.ChangeShapes Go.WideShapes Go.ChangeAt Go.RowKit
set_option linter.unusedVariables false
set_option linter.unusedSimpArgs false
set_option maxRecDepth 100000

theorem ai_uint32 : AllInts Try.prog .u32 22 1 := AllInts.int Try.underlying22
theorem ai__8_uint32 : AllInts Try.prog .u32 23 8 := AllInts.array Try.underlying23 ai_uint32 (by kernel_rfl) (by kernel_rfl) (by rfl)
theorem ai__64_uint32 : AllInts Try.prog .u32 24 64 := AllInts.array Try.underlying24 ai_uint32 (by kernel_rfl) (by kernel_rfl) (by rfl)
theorem ai_api_Rounds : AllInts Try.prog .u32 26 72 := AllInts.struct2 Try.underlying26 ai__8_uint32 ai__64_uint32 rfl rfl (by kernel_rfl) (by kernel_rfl) (by kernel_rfl) (by rfl)
theorem op_api_Rounds : Opens Try.prog 26 (List.replicate 72 22) (RInts .u32 72) := Opens.flat ai_api_Rounds
theorem zr_uint32 : ZR Try.prog .u32 22 1 1 := ZR.int Try.underlying22 (by decide)
theorem zr__8_uint32 : ZR Try.prog .u32 23 8 2 := ZR.array Try.underlying23 zr_uint32 (by kernel_rfl) (by kernel_rfl) (by rfl)
theorem zr__64_uint32 : ZR Try.prog .u32 24 64 2 := ZR.array Try.underlying24 zr_uint32 (by kernel_rfl) (by kernel_rfl) (by rfl)
theorem zr_api_Rounds : ZR Try.prog .u32 26 72 3 := ZR.struct2 Try.underlying26 zr__8_uint32 zr__64_uint32 rfl rfl (by kernel_rfl) (by kernel_rfl) (by kernel_rfl) (by rfl)
theorem zg_api_Rounds : ZG Try.prog 26 (List.replicate 72 22) ((List.replicate 72 (0 : Int)).map (Value.int .u32)) 3 := ZG.flat zr_api_Rounds Try.underlying22
theorem wok_api_Rounds : WOk Try.prog 26 (.agg (((List.replicate 72 (0 : Int)).map (Value.int .u32)) : List Value).toArray) := WOk.agg zg_api_Rounds (by kernel_rfl) Try.underlying26 rfl (by kernel_rfl)
theorem ai_uint8 : AllInts Try.prog .u8 5 1 := AllInts.int Try.underlying5
theorem ai_api_Digest : AllInts Try.prog .u8 37 32 := AllInts.array Try.underlying37 ai_uint8 (by kernel_rfl) (by kernel_rfl) (by rfl)
theorem op__api_Digest : Opens Try.prog 63 [63] (RElems .u8 32) := Opens.elems Try.underlying63 ai_api_Digest (by kernel_rfl)
theorem op_int : Opens Try.prog 3 [3] (RInt .i64) := Opens.int Try.underlying3
theorem op_api_Path : Opens Try.prog 66 ([3] ++ ([63] ++ [])) (RFields [(1, RInt .i64), (1, RElems .u8 32)]) := Opens.struct Try.underlying66 (OFields.cons rfl (by kernel_rfl) (by rfl) op_int (OFields.cons rfl (by kernel_rfl) (by rfl) op__api_Digest (OFields.nil _)))
theorem zg_int : ZG Try.prog 3 [3] [.int .i64 0] 1 := ZG.int Try.underlying3 (by decide)
theorem zg__api_Digest : ZG Try.prog 63 [63] [.slice none 0 0] 1 := ZG.slice Try.underlying63
theorem zg_api_Path : ZG Try.prog 66 ([3] ++ ([63] ++ [])) ([.int .i64 0] ++ ([.slice none 0 0] ++ [])) 2 := ZG.struct Try.underlying66 (by kernel_rfl) (ZFields.cons rfl (by kernel_rfl) (by rfl) zg_int (ZFields.cons rfl (by kernel_rfl) (by rfl) zg__api_Digest (ZFields.nil _)))
theorem wok_api_Path : WOk Try.prog 66 (.agg (([.int .i64 0] ++ ([.slice none 0 0] ++ [])) : List Value).toArray) := WOk.agg zg_api_Path (by kernel_rfl) Try.underlying66 rfl (by kernel_rfl)
theorem op_api_Digest : Opens Try.prog 37 (List.replicate 32 5) (RInts .u8 32) := Opens.flat ai_api_Digest
theorem zr_uint8 : ZR Try.prog .u8 5 1 1 := ZR.int Try.underlying5 (by decide)
theorem zr_api_Digest : ZR Try.prog .u8 37 32 2 := ZR.array Try.underlying37 zr_uint8 (by kernel_rfl) (by kernel_rfl) (by rfl)
theorem zg_api_Digest : ZG Try.prog 37 (List.replicate 32 5) ((List.replicate 32 (0 : Int)).map (Value.int .u8)) 2 := ZG.flat zr_api_Digest Try.underlying5
theorem wok_api_Digest : WOk Try.prog 37 (.agg (((List.replicate 32 (0 : Int)).map (Value.int .u8)) : List Value).toArray) := WOk.agg zg_api_Digest (by kernel_rfl) Try.underlying37 rfl (by kernel_rfl)

theorem own : ownKnob Try.prog.godebug = none := by kernel_rfl
theorem laidOut : laidOutB Try.prog = true := by kernel_rfl

theorem lifted (os : Os) (started : os.Started) (H : Type) (enc : TypeId × Value → H) :
    ReturnsInHanded {} Try.checked os 11 .any (Rows.merkleTellsSpec.pre6 enc Try.prog Try.f11 Rows.merkleTellsRow.domain false) (Rows.merkleTellsSpec.post enc Try.prog Try.f11 false true false false) := by
  refine returnsInHanded_of_change (C := Try.checked) own started (by kernel_rfl) Try.func11
    (witness_flat (enc := enc) (C := Try.checked) #[.agg (((List.replicate 72 (0 : Int)).map (Value.int .u32)) : List Value).toArray, .slice none 0 0, .int .i64 0, .agg (([.int .i64 0] ++ ([.slice none 0 0] ++ [])) : List Value).toArray, .agg (((List.replicate 32 (0 : Int)).map (Value.int .u8)) : List Value).toArray] (by as_aux_lemma => kernel_rfl) (by as_aux_lemma => kernel_rfl) (by kernel_rfl) Try.func11 (by kernel_rfl) (by kernel_rfl) (by kernel_rfl)
      (by rw [Try.params11]; exact ⟨wok_api_Rounds, ⟨WOk.slice Try.underlying63, ⟨WOk.int Try.underlying3 (by decide), ⟨wok_api_Path, ⟨wok_api_Digest, trivial⟩⟩⟩⟩⟩) rfl rfl (by kernel_rfl) (by kernel_rfl)) ?_
  intro W base args ds gs before hval0 hW hcnd _
  have hval : ∀ (j : Nat) t v, Try.f11.params[j]? = some t → args[j]? = some v → Value.okWide Try.prog W .any base t v := hval0
  have hW' := hW
  obtain ⟨p, q, hA0, hV, rfl, hfz, hnd⟩ := hW
  have hA : DataW.TrodAll enc Try.prog W 0 (fun _ => true) true Try.f11.params.toList args.toList ds p := hA0
  rw [Try.params11] at hA hval
  obtain ⟨v0, vs0, d0, ds0, p0, q0, hargs, rfl, rfl, h0, r0⟩ := trodAll_cons hA
  obtain ⟨v1, vs1, d1, ds1, p1, q1, rfl, rfl, rfl, h1, r1⟩ := trodAll_cons r0
  obtain ⟨v2, vs2, d2, ds2, p2, q2, rfl, rfl, rfl, h2, r2⟩ := trodAll_cons r1
  obtain ⟨v3, vs3, d3, ds3, p3, q3, rfl, rfl, rfl, h3, r3⟩ := trodAll_cons r2
  obtain ⟨v4, vs4, d4, ds4, p4, q4, rfl, rfl, rfl, h4, r4⟩ := trodAll_cons r3
  obtain ⟨rfl, rfl, rfl⟩ := trodAll_nil r4
  obtain rfl : args = #[v0, v1, v2, v3, v4] := by cases args; simp_all
  obtain ⟨rfl, rfl⟩ := trodVars_none hV
  have k0 := h0
  have lt0 : ∀ x ∈ p0, x.block < W.heap.size := by obtain ⟨m, hm⟩ := k0; exact DataW.trod_lt m _ _ _ hm
  obtain ⟨x0, rfl, R0⟩ := open_agg op_api_Rounds (by kernel_rfl) Try.underlying26 rfl (by kernel_rfl) (hval 0 26 v0 rfl rfl) h0 lt0
  have k1 := h1
  have lt1 : ∀ x ∈ p1, x.block < W.heap.size := by obtain ⟨m, hm⟩ := k1; exact DataW.trod_lt m _ _ _ hm
  obtain ⟨x1, sl1, wf1⟩ := open_elems Try.underlying63 ai_api_Digest (by kernel_rfl) (hval 1 63 v1 rfl rfl) h1
  have k2 := h2
  have lt2 : ∀ x ∈ p2, x.block < W.heap.size := by obtain ⟨m, hm⟩ := k2; exact DataW.trod_lt m _ _ _ hm
  obtain ⟨x2, rfl, rfl, rfl, wf2⟩ := open_int Try.underlying3 (hval 2 3 v2 rfl rfl) h2
  have k3 := h3
  have lt3 : ∀ x ∈ p3, x.block < W.heap.size := by obtain ⟨m, hm⟩ := k3; exact DataW.trod_lt m _ _ _ hm
  obtain ⟨x3, rfl, R3⟩ := open_agg op_api_Path (by kernel_rfl) Try.underlying66 rfl (by kernel_rfl) (hval 3 66 v3 rfl rfl) h3 lt3
  have k4 := h4
  have lt4 : ∀ x ∈ p4, x.block < W.heap.size := by obtain ⟨m, hm⟩ := k4; exact DataW.trod_lt m _ _ _ hm
  obtain ⟨x4, rfl, R4⟩ := open_agg op_api_Digest (by kernel_rfl) Try.underlying37 rfl (by kernel_rfl) (hval 4 37 v4 rfl rfl) h4 lt4
  clear hA0 hval0
  refine (merkleTells_any W x0 R0 v1 x1 sl1 wf1 x2 (bounds_i64 wf2) x3 R3 x4 R4).mono fun e W' ⟨he, bel⟩ => ?_
  subst he
  exact ⟨_, rfl, _, _, _, [], _, [], hW', trodAll_mk1 (shut_bool Try.underlying4 _), (trodAll_cons_mk (Below.trod laidOut (by kernel_rfl) (of_decide_eq_true (by kernel_rfl)) k0 bel lt0) (trodAll_cons_mk (Below.trod laidOut (by kernel_rfl) (of_decide_eq_true (by kernel_rfl)) k1 bel lt1) (trodAll_cons_mk (Below.trod laidOut (by kernel_rfl) (of_decide_eq_true (by kernel_rfl)) k2 bel lt2) (trodAll_cons_mk (Below.trod laidOut (by kernel_rfl) (of_decide_eq_true (by kernel_rfl)) k3 bel lt3) (trodAll_cons_mk (Below.trod laidOut (by kernel_rfl) (of_decide_eq_true (by kernel_rfl)) k4 bel lt4) trodAll_mk0))))), rfl, bel.frame _, fun h => by cases h⟩

theorem over : Rows.merkleTellsRow.holds Try.pinned (OpenSpec.ofChange Rows.merkleTellsSpec) :=
  OpenClaim.holds_of_wide 11 Try.f11 rfl rfl rfl rfl rfl rfl rfl ⟨rfl, rfl, rfl, rfl, rfl⟩ rfl rfl rfl rfl rfl (by kernel_rfl) Try.func11 (by kernel_rfl)
    (of_decide_eq_true (by kernel_rfl)) (by unfold Func.isWrapper; first | (rw [if_pos (by decide +kernel)]; kernel_rfl) | (rw [if_neg (by decide +kernel)]; exact ⟨rfl, rfl⟩))
    (fun os started H enc _ => lifted os started H enc)
end Go.Proofs.Yteaijjefbadnbaa.merkleTells
namespace Go.Proofs.Yteaijjefbadnbaa
/-- THE STATEMENT. -/
theorem merkleTells_holds : Rows.MerkleTellsSaid := merkleTells.over
#print axioms merkleTells_holds
end Go.Proofs.Yteaijjefbadnbaa
