/- Every number's name and every name's number in package wire's tables are those of the document, for every table, number and name. -/
import Derived.Test.YtilgfhiomcfmhaaPTx2
import Derived.Test.YtilgfhiomcfmhaaPureTab
namespace Go.Proofs.Ytilgfhiomcfmhaa.Pure
open Go.RowKit Go.Proofs.Ytilgfhiomcfmhaa.PT Go.Proofs.YtilgfhiomcfmhaaW.PrintWords Go.Proofs.YtilgfhiomcfmhaaW.PrintLast

theorem WireTables : spindlelaw08_WireTables.Pure := by
  intro a0 a1 a2 _ _ _
  refine ⟨2000, ?_⟩
  unfold spindlelaw08_WireTables.f
  rw [wnum_is _ (by omega), rnum_is _ (by omega), wnam_is _ (by omega), rnam_is _ (by omega), alive_is]
  simp only [Option.bind_some, if_true, beq_self_eq_true]
end Go.Proofs.Ytilgfhiomcfmhaa.Pure
