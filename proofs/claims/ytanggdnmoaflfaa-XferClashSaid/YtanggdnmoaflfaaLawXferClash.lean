/-
  A piece that says otherwise, in one byte that is there, is refused, and changes nothing; in bytes that are not there it is taken.
-/
import Derived.Test.YtanggdnmoaflfaaRows
import Derived.Test.YtanggdnmoaflfaaPk1
import Derived.Test.YtanggdnmoaflfaaXferCl
namespace Go.Proofs.Ytanggdnmoaflfaa.xferClash
open Go.ChangeShapes Go.WideShapes Go.ChangeAt Go.RowKit
set_option linter.unusedVariables false
set_option linter.unusedSimpArgs false
set_option maxRecDepth 100000

theorem ai_int : AllInts Try.prog .i64 3 1 := AllInts.int Try.underlying3
theorem ai__2_int : AllInts Try.prog .i64 65 2 := AllInts.array Try.underlying65 ai_int (by kernel_rfl) (by kernel_rfl) (by rfl)
theorem op__2_int : Opens Try.prog 65 (List.replicate 2 3) (RInts .i64 2) := Opens.flat ai__2_int
theorem zr_int : ZR Try.prog .i64 3 1 1 := ZR.int Try.underlying3 (by decide)
theorem zr__2_int : ZR Try.prog .i64 65 2 2 := ZR.array Try.underlying65 zr_int (by kernel_rfl) (by kernel_rfl) (by rfl)
theorem zg__2_int : ZG Try.prog 65 (List.replicate 2 3) ((List.replicate 2 (0 : Int)).map (Value.int .i64)) 2 := ZG.flat zr__2_int Try.underlying3
theorem wok__2_int : WOk Try.prog 65 (.agg (((List.replicate 2 (0 : Int)).map (Value.int .i64)) : List Value).toArray) := WOk.agg zg__2_int (by kernel_rfl) Try.underlying65 rfl (by kernel_rfl)

theorem own : ownKnob Try.prog.godebug = none := by kernel_rfl
theorem laidOut : laidOutB Try.prog = true := by kernel_rfl

theorem lifted (os : Os) (started : os.Started) (H : Type) (enc : TypeId × Value → H) :
    ReturnsInHanded {} Try.checked os 6 .any (Rows.xferClashSpec.pre6 enc Try.prog Try.f6 Rows.xferClashRow.domain false) (Rows.xferClashSpec.post enc Try.prog Try.f6 false true false false) := by
  refine returnsInHanded_of_change (C := Try.checked) own started (by kernel_rfl) Try.func6
    (witness_flat (enc := enc) (C := Try.checked) #[.slice none 0 0, .slice none 0 0, .agg (((List.replicate 2 (0 : Int)).map (Value.int .i64)) : List Value).toArray, .int .u16 0] (by as_aux_lemma => kernel_rfl) (by as_aux_lemma => kernel_rfl) (by kernel_rfl) Try.func6 (by kernel_rfl) (by kernel_rfl) (by kernel_rfl)
      (by rw [Try.params6]; exact ⟨WOk.slice Try.underlying29, ⟨WOk.slice Try.underlying62, ⟨wok__2_int, ⟨WOk.int Try.underlying68 (by decide), trivial⟩⟩⟩⟩) rfl rfl (by kernel_rfl) (by kernel_rfl)) ?_
  intro W base args ds gs before hval0 hW hcnd _
  have hval : ∀ (j : Nat) t v, Try.f6.params[j]? = some t → args[j]? = some v → Value.okWide Try.prog W .any base t v := hval0
  have hW' := hW
  obtain ⟨p, q, hA0, hV, rfl, hfz, hnd⟩ := hW
  have hA : DataW.TrodAll enc Try.prog W 0 (fun _ => true) true Try.f6.params.toList args.toList ds p := hA0
  rw [Try.params6] at hA hval
  obtain ⟨v0, vs0, d0, ds0, p0, q0, hargs, rfl, rfl, h0, r0⟩ := trodAll_cons hA
  obtain ⟨v1, vs1, d1, ds1, p1, q1, rfl, rfl, rfl, h1, r1⟩ := trodAll_cons r0
  obtain ⟨v2, vs2, d2, ds2, p2, q2, rfl, rfl, rfl, h2, r2⟩ := trodAll_cons r1
  obtain ⟨v3, vs3, d3, ds3, p3, q3, rfl, rfl, rfl, h3, r3⟩ := trodAll_cons r2
  obtain ⟨rfl, rfl, rfl⟩ := trodAll_nil r3
  obtain rfl : args = #[v0, v1, v2, v3] := by cases args; simp_all
  obtain ⟨rfl, rfl⟩ := trodVars_none hV
  have k0 := h0
  have lt0 : ∀ x ∈ p0, x.block < W.heap.size := by obtain ⟨m, hm⟩ := k0; exact DataW.trod_lt m _ _ _ hm
  obtain ⟨x0, sl0, wf0⟩ := open_row Try.underlying29 Try.underlying5 (by kernel_rfl) (hval 0 29 v0 rfl rfl) h0 lt0
  have k1 := h1
  have lt1 : ∀ x ∈ p1, x.block < W.heap.size := by obtain ⟨m, hm⟩ := k1; exact DataW.trod_lt m _ _ _ hm
  obtain ⟨x1, sl1, wf1⟩ := open_elems Try.underlying62 ai__2_int (by kernel_rfl) (hval 1 62 v1 rfl rfl) h1
  have k2 := h2
  have lt2 : ∀ x ∈ p2, x.block < W.heap.size := by obtain ⟨m, hm⟩ := k2; exact DataW.trod_lt m _ _ _ hm
  obtain ⟨x2, rfl, R2⟩ := open_agg op__2_int (by kernel_rfl) Try.underlying65 rfl (by kernel_rfl) (hval 2 65 v2 rfl rfl) h2 lt2
  have k3 := h3
  have lt3 : ∀ x ∈ p3, x.block < W.heap.size := by obtain ⟨m, hm⟩ := k3; exact DataW.trod_lt m _ _ _ hm
  obtain ⟨x3, rfl, rfl, rfl, wf3⟩ := open_int Try.underlying68 (hval 3 68 v3 rfl rfl) h3
  clear hA0 hval0
  refine (xferClash_any W v0 x0 sl0 (wf_bounds_u8 wf0) v1 x1 sl1 wf1 x2 R2 x3 (bounds_u16 wf3)).mono fun e W' ⟨he, bel⟩ => ?_
  subst he
  exact ⟨_, rfl, _, _, _, [], _, [], hW', trodAll_mk1 (shut_bool Try.underlying4 _), (trodAll_cons_mk (Below.trod laidOut (by kernel_rfl) (of_decide_eq_true (by kernel_rfl)) k0 bel lt0) (trodAll_cons_mk (Below.trod laidOut (by kernel_rfl) (of_decide_eq_true (by kernel_rfl)) k1 bel lt1) (trodAll_cons_mk (Below.trod laidOut (by kernel_rfl) (of_decide_eq_true (by kernel_rfl)) k2 bel lt2) (trodAll_cons_mk (Below.trod laidOut (by kernel_rfl) (of_decide_eq_true (by kernel_rfl)) k3 bel lt3) trodAll_mk0)))), rfl, bel.frame _, fun h => by cases h⟩

theorem over : Rows.xferClashRow.holds Try.pinned (OpenSpec.ofChange Rows.xferClashSpec) :=
  OpenClaim.holds_of_wide 6 Try.f6 rfl rfl rfl rfl rfl rfl rfl ⟨rfl, rfl, rfl, rfl, rfl⟩ rfl rfl rfl rfl rfl (by kernel_rfl) Try.func6 (by kernel_rfl)
    (of_decide_eq_true (by kernel_rfl)) (by unfold Func.isWrapper; first | (rw [if_pos (by decide +kernel)]; kernel_rfl) | (rw [if_neg (by decide +kernel)]; exact ⟨rfl, rfl⟩))
    (fun os started H enc _ => lifted os started H enc)
end Go.Proofs.Ytanggdnmoaflfaa.xferClash
namespace Go.Proofs.Ytanggdnmoaflfaa
/-- THE STATEMENT. -/
theorem xferClash_holds : Rows.XferClashSaid := xferClash.over
#print axioms xferClash_holds
end Go.Proofs.Ytanggdnmoaflfaa
