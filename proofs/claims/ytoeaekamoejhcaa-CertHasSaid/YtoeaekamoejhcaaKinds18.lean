/-
  How the arguments' types of chapter 18 are made.
-/
import Derived.Test.YtoeaekamoejhcaaRows
import Derived.Test.YtoeaekamoejhcaaOpenS
namespace Go.Proofs.Ytoeaekamoejhcaa
set_option maxRecDepth 100000
theorem nr_rev : ∃ f0 f1, NumRow Try.prog 38 .i64 .i64 f0 f1 3 :=
  ⟨_, _, ⟨Try.underlying38, Try.underlying3, Try.underlying36, Try.underlying3, by kernel_rfl, rfl, rfl, by kernel_rfl, by kernel_rfl, by kernel_rfl, by kernel_rfl⟩⟩
theorem wok_rev : WOk Try.prog 38 (.agg #[.int .i64 0, .slice none 0 0]) := WOk.numrow nr_rev.choose_spec.choose_spec (by decide)
end Go.Proofs.Ytoeaekamoejhcaa
