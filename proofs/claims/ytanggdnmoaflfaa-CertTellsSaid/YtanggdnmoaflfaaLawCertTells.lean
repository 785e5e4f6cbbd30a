/-
  Which certificates and lists are right, their bytes and digests, what is read of any bytes, and which keys a list has, are exactly as the document's answer says.
-/
import Derived.Test.YtanggdnmoaflfaaRows
import Derived.Test.YtanggdnmoaflfaaPk1
import Derived.Test.YtanggdnmoaflfaaCertTe
namespace Go.Proofs.Ytanggdnmoaflfaa.certTells
open Go.ChangeShapes Go.WideShapes Go.ChangeAt Go.RowKit
set_option linter.unusedVariables false
set_option linter.unusedSimpArgs false
set_option maxRecDepth 100000

theorem op_int : Opens Try.prog 3 [3] (RInt .i64) := Opens.int Try.underlying3
theorem ai_uint8 : AllInts Try.prog .u8 5 1 := AllInts.int Try.underlying5
theorem ai_api_Digest : AllInts Try.prog .u8 23 32 := AllInts.array Try.underlying23 ai_uint8 (by kernel_rfl) (by kernel_rfl) (by rfl)
theorem op_api_Digest : Opens Try.prog 23 (List.replicate 32 5) (RInts .u8 32) := Opens.flat ai_api_Digest
theorem op_api_Cert : Opens Try.prog 25 ([3] ++ ((List.replicate 32 5) ++ ([3] ++ []))) (RFields [(1, RInt .i64), (32, RInts .u8 32), (1, RInt .i64)]) := Opens.struct Try.underlying25 (OFields.cons rfl (by kernel_rfl) (by rfl) op_int (OFields.cons rfl (by kernel_rfl) (by rfl) op_api_Digest (OFields.cons rfl (by kernel_rfl) (by rfl) op_int (OFields.nil _))))
theorem zg_int : ZG Try.prog 3 [3] [.int .i64 0] 1 := ZG.int Try.underlying3 (by decide)
theorem zr_uint8 : ZR Try.prog .u8 5 1 1 := ZR.int Try.underlying5 (by decide)
theorem zr_api_Digest : ZR Try.prog .u8 23 32 2 := ZR.array Try.underlying23 zr_uint8 (by kernel_rfl) (by kernel_rfl) (by rfl)
theorem zg_api_Digest : ZG Try.prog 23 (List.replicate 32 5) ((List.replicate 32 (0 : Int)).map (Value.int .u8)) 2 := ZG.flat zr_api_Digest Try.underlying5
theorem zg_api_Cert : ZG Try.prog 25 ([3] ++ ((List.replicate 32 5) ++ ([3] ++ []))) ([.int .i64 0] ++ (((List.replicate 32 (0 : Int)).map (Value.int .u8)) ++ ([.int .i64 0] ++ []))) 3 := ZG.struct Try.underlying25 (by kernel_rfl) (ZFields.cons rfl (by kernel_rfl) (by rfl) ⟨zg_int.1, zg_int.2.1, fun H enc w f h => zg_int.2.2 H enc w f (by omega)⟩ (ZFields.cons rfl (by kernel_rfl) (by rfl) zg_api_Digest (ZFields.cons rfl (by kernel_rfl) (by rfl) ⟨zg_int.1, zg_int.2.1, fun H enc w f h => zg_int.2.2 H enc w f (by omega)⟩ (ZFields.nil _))))
theorem wok_api_Cert : WOk Try.prog 25 (.agg (([.int .i64 0] ++ (((List.replicate 32 (0 : Int)).map (Value.int .u8)) ++ ([.int .i64 0] ++ []))) : List Value).toArray) := WOk.agg zg_api_Cert (by kernel_rfl) Try.underlying25 rfl (by kernel_rfl)
theorem op__int : Opens Try.prog 26 [26] (RRow .i64) := Opens.row Try.underlying26 Try.underlying3 (by kernel_rfl)
theorem op_api_Revoked : Opens Try.prog 28 ([3] ++ ([26] ++ [])) (RFields [(1, RInt .i64), (1, RRow .i64)]) := Opens.struct Try.underlying28 (OFields.cons rfl (by kernel_rfl) (by rfl) op_int (OFields.cons rfl (by kernel_rfl) (by rfl) op__int (OFields.nil _)))
theorem zg__int : ZG Try.prog 26 [26] [.slice none 0 0] 1 := ZG.slice Try.underlying26
theorem zg_api_Revoked : ZG Try.prog 28 ([3] ++ ([26] ++ [])) ([.int .i64 0] ++ ([.slice none 0 0] ++ [])) 2 := ZG.struct Try.underlying28 (by kernel_rfl) (ZFields.cons rfl (by kernel_rfl) (by rfl) zg_int (ZFields.cons rfl (by kernel_rfl) (by rfl) zg__int (ZFields.nil _)))
theorem wok_api_Revoked : WOk Try.prog 28 (.agg (([.int .i64 0] ++ ([.slice none 0 0] ++ [])) : List Value).toArray) := WOk.agg zg_api_Revoked (by kernel_rfl) Try.underlying28 rfl (by kernel_rfl)

theorem own : ownKnob Try.prog.godebug = none := by kernel_rfl
theorem laidOut : laidOutB Try.prog = true := by kernel_rfl

theorem lifted (os : Os) (started : os.Started) (H : Type) (enc : TypeId × Value → H) :
    ReturnsInHanded {} Try.checked os 3 .any (Rows.certTellsSpec.pre6 enc Try.prog Try.f3 Rows.certTellsRow.domain false) (Rows.certTellsSpec.post enc Try.prog Try.f3 false true false false) := by
  refine returnsInHanded_of_change (C := Try.checked) own started (by kernel_rfl) Try.func3
    (witness_flat (enc := enc) (C := Try.checked) #[.agg (([.int .i64 0] ++ (((List.replicate 32 (0 : Int)).map (Value.int .u8)) ++ ([.int .i64 0] ++ []))) : List Value).toArray, .agg (([.int .i64 0] ++ ([.slice none 0 0] ++ [])) : List Value).toArray, .slice none 0 0, .int .i64 0] (by as_aux_lemma => kernel_rfl) (by as_aux_lemma => kernel_rfl) (by kernel_rfl) Try.func3 (by kernel_rfl) (by kernel_rfl) (by kernel_rfl)
      (by rw [Try.params3]; exact ⟨wok_api_Cert, ⟨wok_api_Revoked, ⟨WOk.slice Try.underlying29, ⟨WOk.int Try.underlying3 (by decide), trivial⟩⟩⟩⟩) rfl rfl (by kernel_rfl) (by kernel_rfl)) ?_
  intro W base args ds gs before hval0 hW hcnd _
  have hval : ∀ (j : Nat) t v, Try.f3.params[j]? = some t → args[j]? = some v → Value.okWide Try.prog W .any base t v := hval0
  have hW' := hW
  obtain ⟨p, q, hA0, hV, rfl, hfz, hnd⟩ := hW
  have hA : DataW.TrodAll enc Try.prog W 0 (fun _ => true) true Try.f3.params.toList args.toList ds p := hA0
  rw [Try.params3] at hA hval
  obtain ⟨v0, vs0, d0, ds0, p0, q0, hargs, rfl, rfl, h0, r0⟩ := trodAll_cons hA
  obtain ⟨v1, vs1, d1, ds1, p1, q1, rfl, rfl, rfl, h1, r1⟩ := trodAll_cons r0
  obtain ⟨v2, vs2, d2, ds2, p2, q2, rfl, rfl, rfl, h2, r2⟩ := trodAll_cons r1
  obtain ⟨v3, vs3, d3, ds3, p3, q3, rfl, rfl, rfl, h3, r3⟩ := trodAll_cons r2
  obtain ⟨rfl, rfl, rfl⟩ := trodAll_nil r3
  obtain rfl : args = #[v0, v1, v2, v3] := by cases args; simp_all
  obtain ⟨rfl, rfl⟩ := trodVars_none hV
  have k0 := h0
  have lt0 : ∀ x ∈ p0, x.block < W.heap.size := by obtain ⟨m, hm⟩ := k0; exact DataW.trod_lt m _ _ _ hm
  obtain ⟨x0, rfl, R0⟩ := open_agg op_api_Cert (by kernel_rfl) Try.underlying25 rfl (by kernel_rfl) (hval 0 25 v0 rfl rfl) h0 lt0
  have k1 := h1
  have lt1 : ∀ x ∈ p1, x.block < W.heap.size := by obtain ⟨m, hm⟩ := k1; exact DataW.trod_lt m _ _ _ hm
  obtain ⟨x1, rfl, R1⟩ := open_agg op_api_Revoked (by kernel_rfl) Try.underlying28 rfl (by kernel_rfl) (hval 1 28 v1 rfl rfl) h1 lt1
  have k2 := h2
  have lt2 : ∀ x ∈ p2, x.block < W.heap.size := by obtain ⟨m, hm⟩ := k2; exact DataW.trod_lt m _ _ _ hm
  obtain ⟨x2, sl2, wf2⟩ := open_row Try.underlying29 Try.underlying5 (by kernel_rfl) (hval 2 29 v2 rfl rfl) h2 lt2
  have k3 := h3
  have lt3 : ∀ x ∈ p3, x.block < W.heap.size := by obtain ⟨m, hm⟩ := k3; exact DataW.trod_lt m _ _ _ hm
  obtain ⟨x3, rfl, rfl, rfl, wf3⟩ := open_int Try.underlying3 (hval 3 3 v3 rfl rfl) h3
  clear hA0 hval0
  refine (certTells_any W x0 R0 x1 R1 v2 x2 sl2 (wf_bounds_u8 wf2) x3 (bounds_i64 wf3)).mono fun e W' ⟨he, bel⟩ => ?_
  subst he
  exact ⟨_, rfl, _, _, _, [], _, [], hW', trodAll_mk1 (shut_bool Try.underlying4 _), (trodAll_cons_mk (Below.trod laidOut (by kernel_rfl) (of_decide_eq_true (by kernel_rfl)) k0 bel lt0) (trodAll_cons_mk (Below.trod laidOut (by kernel_rfl) (of_decide_eq_true (by kernel_rfl)) k1 bel lt1) (trodAll_cons_mk (Below.trod laidOut (by kernel_rfl) (of_decide_eq_true (by kernel_rfl)) k2 bel lt2) (trodAll_cons_mk (Below.trod laidOut (by kernel_rfl) (of_decide_eq_true (by kernel_rfl)) k3 bel lt3) trodAll_mk0)))), rfl, bel.frame _, fun h => by cases h⟩

theorem over : Rows.certTellsRow.holds Try.pinned (OpenSpec.ofChange Rows.certTellsSpec) :=
  OpenClaim.holds_of_wide 3 Try.f3 rfl rfl rfl rfl rfl rfl rfl ⟨rfl, rfl, rfl, rfl, rfl⟩ rfl rfl rfl rfl rfl (by kernel_rfl) Try.func3 (by kernel_rfl)
    (of_decide_eq_true (by kernel_rfl)) (by unfold Func.isWrapper; first | (rw [if_pos (by decide +kernel)]; kernel_rfl) | (rw [if_neg (by decide +kernel)]; exact ⟨rfl, rfl⟩))
    (fun os started H enc _ => lifted os started H enc)
end Go.Proofs.Ytanggdnmoaflfaa.certTells
namespace Go.Proofs.Ytanggdnmoaflfaa
/-- THE STATEMENT. -/
theorem certTells_holds : Rows.CertTellsSaid := certTells.over
#print axioms certTells_holds
end Go.Proofs.Ytanggdnmoaflfaa
