/-
  LamportTells: for any tables, seeds, numbers, digests and signatures all calls answer as the document defines.
-/
import Derived.Test.YtoeaekamoejhcaaRows
import Derived.Test.YtoeaekamoejhcaaOpenG
import Derived.Test.YtoeaekamoejhcaaLamTeA
namespace Go.Proofs.Ytoeaekamoejhcaa.lamportTells
open Go.ChangeShapes Go.WideShapes Go.ChangeAt Go.RowKit
set_option linter.unusedVariables false
set_option linter.unusedSimpArgs false
set_option maxRecDepth 100000

theorem ai_uint32 : AllInts Try.prog .u32 39 1 := AllInts.int Try.underlying39
theorem ai__8_uint32 : AllInts Try.prog .u32 58 8 := AllInts.array Try.underlying58 ai_uint32 (by kernel_rfl) (by kernel_rfl) (by rfl)
theorem ai__64_uint32 : AllInts Try.prog .u32 59 64 := AllInts.array Try.underlying59 ai_uint32 (by kernel_rfl) (by kernel_rfl) (by rfl)
theorem ai_api_Rounds : AllInts Try.prog .u32 61 72 := AllInts.struct2 Try.underlying61 ai__8_uint32 ai__64_uint32 rfl rfl (by kernel_rfl) (by kernel_rfl) (by kernel_rfl) (by rfl)
theorem op_api_Rounds : Opens Try.prog 61 (List.replicate 72 39) (RInts .u32 72) := Opens.flat ai_api_Rounds
theorem zr_uint32 : ZR Try.prog .u32 39 1 1 := ZR.int Try.underlying39 (by decide)
theorem zr__8_uint32 : ZR Try.prog .u32 58 8 2 := ZR.array Try.underlying58 zr_uint32 (by kernel_rfl) (by kernel_rfl) (by rfl)
theorem zr__64_uint32 : ZR Try.prog .u32 59 64 2 := ZR.array Try.underlying59 zr_uint32 (by kernel_rfl) (by kernel_rfl) (by rfl)
theorem zr_api_Rounds : ZR Try.prog .u32 61 72 3 := ZR.struct2 Try.underlying61 zr__8_uint32 zr__64_uint32 rfl rfl (by kernel_rfl) (by kernel_rfl) (by kernel_rfl) (by rfl)
theorem zg_api_Rounds : ZG Try.prog 61 (List.replicate 72 39) ((List.replicate 72 (0 : Int)).map (Value.int .u32)) 3 := ZG.flat zr_api_Rounds Try.underlying39
theorem wok_api_Rounds : WOk Try.prog 61 (.agg (((List.replicate 72 (0 : Int)).map (Value.int .u32)) : List Value).toArray) := WOk.agg zg_api_Rounds (by kernel_rfl) Try.underlying61 rfl (by kernel_rfl)
theorem ai_uint8 : AllInts Try.prog .u8 5 1 := AllInts.int Try.underlying5
theorem ai__32_uint8 : AllInts Try.prog .u8 22 32 := AllInts.array Try.underlying22 ai_uint8 (by kernel_rfl) (by kernel_rfl) (by rfl)
theorem op__32_uint8 : Opens Try.prog 22 (List.replicate 32 5) (RInts .u8 32) := Opens.flat ai__32_uint8
theorem zr_uint8 : ZR Try.prog .u8 5 1 1 := ZR.int Try.underlying5 (by decide)
theorem zr__32_uint8 : ZR Try.prog .u8 22 32 2 := ZR.array Try.underlying22 zr_uint8 (by kernel_rfl) (by kernel_rfl) (by rfl)
theorem zg__32_uint8 : ZG Try.prog 22 (List.replicate 32 5) ((List.replicate 32 (0 : Int)).map (Value.int .u8)) 2 := ZG.flat zr__32_uint8 Try.underlying5
theorem wok__32_uint8 : WOk Try.prog 22 (.agg (((List.replicate 32 (0 : Int)).map (Value.int .u8)) : List Value).toArray) := WOk.agg zg__32_uint8 (by kernel_rfl) Try.underlying22 rfl (by kernel_rfl)
theorem ai_api_Digest : AllInts Try.prog .u8 23 32 := AllInts.array Try.underlying23 ai_uint8 (by kernel_rfl) (by kernel_rfl) (by rfl)
theorem op_api_Digest : Opens Try.prog 23 (List.replicate 32 5) (RInts .u8 32) := Opens.flat ai_api_Digest
theorem zr_api_Digest : ZR Try.prog .u8 23 32 2 := ZR.array Try.underlying23 zr_uint8 (by kernel_rfl) (by kernel_rfl) (by rfl)
theorem zg_api_Digest : ZG Try.prog 23 (List.replicate 32 5) ((List.replicate 32 (0 : Int)).map (Value.int .u8)) 2 := ZG.flat zr_api_Digest Try.underlying5
theorem wok_api_Digest : WOk Try.prog 23 (.agg (((List.replicate 32 (0 : Int)).map (Value.int .u8)) : List Value).toArray) := WOk.agg zg_api_Digest (by kernel_rfl) Try.underlying23 rfl (by kernel_rfl)
theorem ai__256_32_uint8 : AllInts Try.prog .u8 24 8192 := AllInts.array Try.underlying24 ai__32_uint8 (by kernel_rfl) (by kernel_rfl) (by rfl)
theorem ai__256_api_Digest : AllInts Try.prog .u8 25 8192 := AllInts.array Try.underlying25 ai_api_Digest (by kernel_rfl) (by kernel_rfl) (by rfl)
theorem ai_api_Lamport : AllInts Try.prog .u8 27 16384 := AllInts.struct2 Try.underlying27 ai__256_32_uint8 ai__256_api_Digest rfl rfl (by kernel_rfl) (by kernel_rfl) (by kernel_rfl) (by rfl)
theorem op_api_Lamport : Opens Try.prog 27 (List.replicate 16384 5) (RInts .u8 16384) := Opens.flat ai_api_Lamport
theorem zr__256_32_uint8 : ZR Try.prog .u8 24 8192 3 := ZR.array Try.underlying24 zr__32_uint8 (by kernel_rfl) (by kernel_rfl) (by rfl)
theorem zr__256_api_Digest : ZR Try.prog .u8 25 8192 3 := ZR.array Try.underlying25 zr_api_Digest (by kernel_rfl) (by kernel_rfl) (by rfl)
theorem zr_api_Lamport : ZR Try.prog .u8 27 16384 4 := ZR.struct2 Try.underlying27 zr__256_32_uint8 zr__256_api_Digest rfl rfl (by kernel_rfl) (by kernel_rfl) (by kernel_rfl) (by rfl)
theorem zg_api_Lamport : ZG Try.prog 27 (List.replicate 16384 5) ((List.replicate 16384 (0 : Int)).map (Value.int .u8)) 4 := ZG.flat zr_api_Lamport Try.underlying5
theorem wok_api_Lamport : WOk Try.prog 27 (.agg (((List.replicate 16384 (0 : Int)).map (Value.int .u8)) : List Value).toArray) := WOk.agg zg_api_Lamport (by kernel_rfl) Try.underlying27 rfl (by kernel_rfl)

theorem own : ownKnob Try.prog.godebug = none := by kernel_rfl
theorem laidOut : laidOutB Try.prog = true := by kernel_rfl

theorem lifted (os : Os) (started : os.Started) (H : Type) (enc : TypeId × Value → H) :
    ReturnsInHanded {} Try.checked os 14 .any (Rows.lamportTellsSpec.pre6 enc Try.prog Try.f14 Rows.lamportTellsRow.domain false) (Rows.lamportTellsSpec.post enc Try.prog Try.f14 false true false false) := by
  refine returnsInHanded_of_change (C := Try.checked) own started (by kernel_rfl) Try.func14
    (witness_flat (enc := enc) (C := Try.checked) #[.agg (((List.replicate 72 (0 : Int)).map (Value.int .u32)) : List Value).toArray, .agg (((List.replicate 32 (0 : Int)).map (Value.int .u8)) : List Value).toArray, .int .i64 0, .int .i64 0, .int .i64 0, .agg (((List.replicate 32 (0 : Int)).map (Value.int .u8)) : List Value).toArray, .agg (((List.replicate 16384 (0 : Int)).map (Value.int .u8)) : List Value).toArray] (by as_aux_lemma => kernel_rfl) (by as_aux_lemma => kernel_rfl) (by kernel_rfl) Try.func14 (by kernel_rfl) (by kernel_rfl) (by kernel_rfl)
      (by rw [Try.params14]; exact ⟨wok_api_Rounds, ⟨wok__32_uint8, ⟨WOk.int Try.underlying3 (by decide), ⟨WOk.int Try.underlying3 (by decide), ⟨WOk.int Try.underlying3 (by decide), ⟨wok_api_Digest, ⟨wok_api_Lamport, trivial⟩⟩⟩⟩⟩⟩⟩) rfl rfl (by kernel_rfl) (by kernel_rfl)) ?_
  intro W base args ds gs before hval0 hW hcnd _
  have hval : ∀ (j : Nat) t v, Try.f14.params[j]? = some t → args[j]? = some v → Value.okWide Try.prog W .any base t v := hval0
  have hW' := hW
  obtain ⟨p, q, hA0, hV, rfl, hfz, hnd⟩ := hW
  have hA : DataW.TrodAll enc Try.prog W 0 (fun _ => true) true Try.f14.params.toList args.toList ds p := hA0
  rw [Try.params14] at hA hval
  obtain ⟨v0, vs0, d0, ds0, p0, q0, hargs, rfl, rfl, h0, r0⟩ := trodAll_cons hA
  obtain ⟨v1, vs1, d1, ds1, p1, q1, rfl, rfl, rfl, h1, r1⟩ := trodAll_cons r0
  obtain ⟨v2, vs2, d2, ds2, p2, q2, rfl, rfl, rfl, h2, r2⟩ := trodAll_cons r1
  obtain ⟨v3, vs3, d3, ds3, p3, q3, rfl, rfl, rfl, h3, r3⟩ := trodAll_cons r2
  obtain ⟨v4, vs4, d4, ds4, p4, q4, rfl, rfl, rfl, h4, r4⟩ := trodAll_cons r3
  obtain ⟨v5, vs5, d5, ds5, p5, q5, rfl, rfl, rfl, h5, r5⟩ := trodAll_cons r4
  obtain ⟨v6, vs6, d6, ds6, p6, q6, rfl, rfl, rfl, h6, r6⟩ := trodAll_cons r5
  obtain ⟨rfl, rfl, rfl⟩ := trodAll_nil r6
  obtain rfl : args = #[v0, v1, v2, v3, v4, v5, v6] := by cases args; simp_all
  obtain ⟨rfl, rfl⟩ := trodVars_none hV
  have k0 := h0
  have lt0 : ∀ x ∈ p0, x.block < W.heap.size := by obtain ⟨m, hm⟩ := k0; exact DataW.trod_lt m _ _ _ hm
  obtain ⟨x0, rfl, R0⟩ := open_agg op_api_Rounds (by kernel_rfl) Try.underlying61 rfl (by kernel_rfl) (hval 0 61 v0 rfl rfl) h0 lt0
  have k1 := h1
  have lt1 : ∀ x ∈ p1, x.block < W.heap.size := by obtain ⟨m, hm⟩ := k1; exact DataW.trod_lt m _ _ _ hm
  obtain ⟨x1, rfl, R1⟩ := open_agg op__32_uint8 (by kernel_rfl) Try.underlying22 rfl (by kernel_rfl) (hval 1 22 v1 rfl rfl) h1 lt1
  have k2 := h2
  have lt2 : ∀ x ∈ p2, x.block < W.heap.size := by obtain ⟨m, hm⟩ := k2; exact DataW.trod_lt m _ _ _ hm
  obtain ⟨x2, rfl, rfl, rfl, wf2⟩ := open_int Try.underlying3 (hval 2 3 v2 rfl rfl) h2
  have k3 := h3
  have lt3 : ∀ x ∈ p3, x.block < W.heap.size := by obtain ⟨m, hm⟩ := k3; exact DataW.trod_lt m _ _ _ hm
  obtain ⟨x3, rfl, rfl, rfl, wf3⟩ := open_int Try.underlying3 (hval 3 3 v3 rfl rfl) h3
  have k4 := h4
  have lt4 : ∀ x ∈ p4, x.block < W.heap.size := by obtain ⟨m, hm⟩ := k4; exact DataW.trod_lt m _ _ _ hm
  obtain ⟨x4, rfl, rfl, rfl, wf4⟩ := open_int Try.underlying3 (hval 4 3 v4 rfl rfl) h4
  have k5 := h5
  have lt5 : ∀ x ∈ p5, x.block < W.heap.size := by obtain ⟨m, hm⟩ := k5; exact DataW.trod_lt m _ _ _ hm
  obtain ⟨x5, rfl, R5⟩ := open_agg op_api_Digest (by kernel_rfl) Try.underlying23 rfl (by kernel_rfl) (hval 5 23 v5 rfl rfl) h5 lt5
  have k6 := h6
  have lt6 : ∀ x ∈ p6, x.block < W.heap.size := by obtain ⟨m, hm⟩ := k6; exact DataW.trod_lt m _ _ _ hm
  obtain ⟨x6, rfl, R6⟩ := open_agg op_api_Lamport (by kernel_rfl) Try.underlying27 rfl (by kernel_rfl) (hval 6 27 v6 rfl rfl) h6 lt6
  clear hA0 hval0
  refine (lamportTells_any W x0 R0 x1 R1 x2 (bounds_i64 wf2) x3 (bounds_i64 wf3) x4 (bounds_i64 wf4) x5 R5 x6 R6).mono fun e W' ⟨he, bel⟩ => ?_
  subst he
  exact ⟨_, rfl, _, _, _, [], _, [], hW', trodAll_mk1 (shut_bool Try.underlying4 _), (trodAll_cons_mk (Below.trod laidOut (by kernel_rfl) (of_decide_eq_true (by kernel_rfl)) k0 bel lt0) (trodAll_cons_mk (Below.trod laidOut (by kernel_rfl) (of_decide_eq_true (by kernel_rfl)) k1 bel lt1) (trodAll_cons_mk (Below.trod laidOut (by kernel_rfl) (of_decide_eq_true (by kernel_rfl)) k2 bel lt2) (trodAll_cons_mk (Below.trod laidOut (by kernel_rfl) (of_decide_eq_true (by kernel_rfl)) k3 bel lt3) (trodAll_cons_mk (Below.trod laidOut (by kernel_rfl) (of_decide_eq_true (by kernel_rfl)) k4 bel lt4) (trodAll_cons_mk (Below.trod laidOut (by kernel_rfl) (of_decide_eq_true (by kernel_rfl)) k5 bel lt5) (trodAll_cons_mk (Below.trod laidOut (by kernel_rfl) (of_decide_eq_true (by kernel_rfl)) k6 bel lt6) trodAll_mk0))))))), rfl, bel.frame _, fun h => by cases h⟩

theorem over : Rows.lamportTellsRow.holds Try.pinned (OpenSpec.ofChange Rows.lamportTellsSpec) :=
  OpenClaim.holds_of_wide 14 Try.f14 rfl rfl rfl rfl rfl rfl rfl ⟨rfl, rfl, rfl, rfl, rfl⟩ rfl rfl rfl rfl rfl (by kernel_rfl) Try.func14 (by kernel_rfl)
    (of_decide_eq_true (by kernel_rfl)) (by unfold Func.isWrapper; first | (rw [if_pos (by decide +kernel)]; kernel_rfl) | (rw [if_neg (by decide +kernel)]; exact ⟨rfl, rfl⟩))
    (fun os started H enc _ => lifted os started H enc)
end Go.Proofs.Ytoeaekamoejhcaa.lamportTells
namespace Go.Proofs.Ytoeaekamoejhcaa
/-- THE STATEMENT. -/
theorem lamportTells_holds : Rows.LamportTellsSaid := lamportTells.over
#print axioms lamportTells_holds
end Go.Proofs.Ytoeaekamoejhcaa
