-- Written by a program of this workplace (pprint.py) out of the translation.
import Derived.Test.YtilgfhiomcfmhaaPZx0
namespace Go.Proofs.Ytilgfhiomcfmhaa.PZ
open Go.Proofs.Ytilgfhiomcfmhaa.Hand Go.RowKit Go.Proofs.YtilgfhiomcfmhaaW.PrintWords Go.Proofs.YtilgfhiomcfmhaaW.PrintLast
set_option linter.unusedVariables false
set_option linter.unusedSimpArgs false

theorem eqA55 (d : Nat) (w : World) (x0 y0 : Int) :
    (Op.equalIn (d + 2) 55 (.agg #[.int .u16 x0]) (.agg #[.int .u16 y0])).run Try.prog w = .ok (x0 == y0) w := by
  refine eqA_of Try.underlying55 (by kernel_rfl) ?_
  exact eqf_last (by rfl) (by go_simp; rfl) (by go_simp; rfl) (by go_simp)
end Go.Proofs.Ytilgfhiomcfmhaa.PZ
