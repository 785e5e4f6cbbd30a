/-
  LamportTells, as the frame asks it.
-/
import Derived.Test.YtoeaekamoejhcaaLamTe
import Derived.Test.YtoeaekamoejhcaaNnB
namespace Go.Proofs.Ytoeaekamoejhcaa
open Go.RowKit
set_option maxRecDepth 100000
set_option linter.unusedVariables false
theorem lamportTells_any (w : World) (x0 : List Value) (R0 : RInts .u32 72 w x0) (x1 : List Value) (R1 : RInts .u8 32 w x1) (leaf : Int) (h1 : -9223372036854775808 ≤ leaf ∧ leaf ≤ 9223372036854775807) (bit : Int) (h2 : -9223372036854775808 ≤ bit ∧ bit ≤ 9223372036854775807) (val : Int) (h3 : -9223372036854775808 ≤ val ∧ val ≤ 9223372036854775807) (x5 : List Value) (R5 : RInts .u8 32 w x5) (x6 : List Value) (R6 : RInts .u8 16384 w x6) :
    Calls Try.prog 14 #[.agg x0.toArray, .agg x1.toArray, .int .i64 leaf, .int .i64 bit, .int .i64 val, .agg x5.toArray, .agg x6.toArray] w fun e w' => e = .returned (.bool true) ∧ Below w.heap.size w w' := by
  obtain ⟨tab, ht, rfl, h32⟩ := rints32 R0
  obtain ⟨seed, hs, rfl, hs8⟩ := rints8 R1
  obtain ⟨dl, hdl, rfl, hd8⟩ := rints8 R5
  obtain ⟨sg, hsg, rfl, hsg8⟩ := rints8 R6
  have e : sg = sg.take 8192 ++ sg.drop 8192 := (List.take_append_drop 8192 sg).symm
  rw [e]
  exact lamportTells_walk tab ht h32 w seed hs hs8 leaf bit val h1.2 h2.2 h3.2 dl (sg.take 8192) (sg.drop 8192) hdl (bytes_nn hd8) (by rw [List.length_take]; omega) (by rw [List.length_drop]; omega) (fun x hx => hsg8 x (List.mem_of_mem_take hx)) (fun x hx => hsg8 x (List.mem_of_mem_drop hx))
end Go.Proofs.Ytoeaekamoejhcaa
