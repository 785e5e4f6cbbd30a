/-
  How the arguments' types of chapter 9 are made of whole numbers.
-/
import Derived.Test.YtoeaekamoejhcaaRows
import Derived.Test.YtoeaekamoejhcaaOpen
import Derived.Test.YtoeaekamoejhcaaWit
namespace Go.Proofs.Ytoeaekamoejhcaa
set_option maxRecDepth 100000
theorem ai_u8 : AllInts Try.prog .u8 5 1 := AllInts.int Try.underlying5
theorem ai_dg : AllInts Try.prog .u8 23 32 := AllInts.array Try.underlying23 ai_u8 (by kernel_rfl) (by kernel_rfl) (by rfl)
theorem zr_u8 : ZR Try.prog .u8 5 1 1 := ZR.int Try.underlying5 (by decide)
theorem zr_dg : ZR Try.prog .u8 23 32 2 := ZR.array Try.underlying23 zr_u8 (by kernel_rfl) (by kernel_rfl) (by rfl)
theorem wok_dg : WOk Try.prog 23 (.agg (cellsOf .u8 (List.replicate 32 0))) := WOk.flat zr_dg Try.underlying23 rfl (by kernel_rfl) (e := 5) (by kernel_rfl) Try.underlying5 (by decide)
theorem zr_b32 : ZR Try.prog .u8 22 32 2 := ZR.array Try.underlying22 zr_u8 (by kernel_rfl) (by kernel_rfl) (by rfl)
theorem zr_b256 : ZR Try.prog .u8 24 8192 3 := ZR.array Try.underlying24 zr_b32 (by kernel_rfl) (by kernel_rfl) (by rfl)
theorem zr_dg256 : ZR Try.prog .u8 25 8192 3 := ZR.array Try.underlying25 zr_dg (by kernel_rfl) (by kernel_rfl) (by rfl)
theorem zr_lam : ZR Try.prog .u8 27 16384 4 := ZR.struct2 Try.underlying27 zr_b256 zr_dg256 rfl rfl (by kernel_rfl) (by kernel_rfl) (by kernel_rfl) (by rfl)
theorem wok_lam : WOk Try.prog 27 (.agg (cellsOf .u8 (List.replicate 16384 0))) := WOk.flat zr_lam Try.underlying27 rfl (by kernel_rfl) (e := 5) (by kernel_rfl) Try.underlying5 (by decide)
theorem ai_b32 : AllInts Try.prog .u8 22 32 := AllInts.array Try.underlying22 ai_u8 (by kernel_rfl) (by kernel_rfl) (by rfl)
theorem ai_b256 : AllInts Try.prog .u8 24 8192 := AllInts.array Try.underlying24 ai_b32 (by kernel_rfl) (by kernel_rfl) (by rfl)
theorem ai_dg256 : AllInts Try.prog .u8 25 8192 := AllInts.array Try.underlying25 ai_dg (by kernel_rfl) (by kernel_rfl) (by rfl)
theorem ai_lam : AllInts Try.prog .u8 27 16384 := AllInts.struct2 Try.underlying27 ai_b256 ai_dg256 rfl rfl (by kernel_rfl) (by kernel_rfl) (by kernel_rfl) (by rfl)
end Go.Proofs.Ytoeaekamoejhcaa
