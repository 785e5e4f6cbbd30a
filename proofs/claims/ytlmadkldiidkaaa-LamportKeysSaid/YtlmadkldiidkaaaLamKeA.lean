/-
  LamportKeys, as the frame asks it.
-/
import Derived.Test.YtlmadkldiidkaaaLamKe
import Derived.Test.YtlmadkldiidkaaaNnB
namespace Go.Proofs.Ytlmadkldiidkaaa
open Go.RowKit
set_option maxRecDepth 100000
set_option linter.unusedVariables false
theorem lamportKeys_any (w : World) (x0 : List Value) (R0 : RInts .u32 72 w x0) (x1 : List Value) (R1 : RInts .u8 32 w x1) (leaf : Int) (h1 : -9223372036854775808 ≤ leaf ∧ leaf ≤ 9223372036854775807) (x3 : List Value) (R3 : RInts .u8 32 w x3) :
    Calls Try.prog 13 #[.agg x0.toArray, .agg x1.toArray, .int .i64 leaf, .agg x3.toArray] w fun e w' => e = .returned (.bool true) ∧ Below w.heap.size w w' := by
  obtain ⟨tab, ht, rfl, h32⟩ := rints32 R0
  obtain ⟨seed, hs, rfl, hs8⟩ := rints8 R1
  obtain ⟨dl, hdl, rfl, hd8⟩ := rints8 R3
  exact lamportKeys_walk tab ht h32 w seed hs hs8 leaf h1.2 dl hdl (bytes_nn hd8)
end Go.Proofs.Ytlmadkldiidkaaa
