/-
  LamportSigns, LamportTold, as the frame asks them.
-/
import Derived.Test.YtlmadkldiidkaaaLamK
import Derived.Test.YtlmadkldiidkaaaNnOf
namespace Go.Proofs.Ytlmadkldiidkaaa
open Go.RowKit
set_option maxRecDepth 100000
theorem rints_nnB {n : Nat} {w : World} {cs : List Value} (h : RInts .u8 n w cs) : ∃ ns : List Nat, ns.length = n ∧ Value.agg cs.toArray = .agg (cellsOf .u8 (nn ns)) ∧ Bytes (nn ns) := by
  obtain ⟨xs, rfl, hl, hw⟩ := h
  obtain ⟨ns, rfl, hn⟩ := nn_of fun x hx => wf_nonneg rfl (hw x hx)
  exact ⟨ns, by omega, rfl, wf_bounds_u8 hw⟩
theorem lamportSigns_any (w : World) (x0 : List Value) (R0 : RInts .u32 72 w x0) (x1 : List Value) (R1 : RInts .u8 32 w x1) (leaf : Int) (hb : -9223372036854775808 ≤ leaf ∧ leaf ≤ 9223372036854775807) (x3 : List Value) (R3 : RInts .u8 32 w x3) (x4 : List Value) (R4 : RInts .u8 32 w x4) :
    Calls Try.prog 4 #[.agg x0.toArray, .agg x1.toArray, .int .i64 leaf, .agg x3.toArray, .agg x4.toArray] w fun e w' => e = .returned (.bool true) ∧ Below w.heap.size w w' := by
  obtain ⟨tab, ht, e0⟩ := R0.nn rfl
  obtain ⟨seed, hs, e1⟩ := R1.nn rfl
  obtain ⟨dl, hd, e3, hdb⟩ := rints_nnB R3
  obtain ⟨el, he, e4, heb⟩ := rints_nnB R4
  rw [e0, e1, e3, e4]
  exact lamportSigns_walk tab ht w seed hs leaf hb.2 dl el hd he hdb heb
theorem lamportTold_any (w : World) (x0 : List Value) (R0 : RInts .u32 72 w x0) (x1 : List Value) (R1 : RInts .u8 32 w x1) (leaf : Int) (hb : -9223372036854775808 ≤ leaf ∧ leaf ≤ 9223372036854775807) (x3 : List Value) (R3 : RInts .u8 32 w x3) (x4 : List Value) (R4 : RInts .u8 32 w x4) :
    Calls Try.prog 3 #[.agg x0.toArray, .agg x1.toArray, .int .i64 leaf, .agg x3.toArray, .agg x4.toArray] w fun e w' => e = .returned (.bool true) ∧ Below w.heap.size w w' := by
  obtain ⟨tab, ht, e0⟩ := R0.nn rfl
  obtain ⟨seed, hs, e1⟩ := R1.nn rfl
  obtain ⟨dl, hd, e3, hdb⟩ := rints_nnB R3
  obtain ⟨el, he, e4, heb⟩ := rints_nnB R4
  rw [e0, e1, e3, e4]
  exact lamportTold_walk tab ht w seed hs leaf hb.2 dl el hd he hdb heb
end Go.Proofs.Ytlmadkldiidkaaa
