/-
  How the arguments' types of chapter 9 are made of whole numbers.
-/
import Derived.Test.YtoeaekamoejhcaaRows
import Derived.Test.YtoeaekamoejhcaaOpen
namespace Go.Proofs.Ytoeaekamoejhcaa
set_option maxRecDepth 100000
theorem ai_u8 : AllInts Try.prog .u8 5 1 := AllInts.int Try.underlying5
theorem ai_dg : AllInts Try.prog .u8 23 32 := AllInts.array Try.underlying23 ai_u8 (by kernel_rfl) (by kernel_rfl) (by rfl)
end Go.Proofs.Ytoeaekamoejhcaa
