/- Package api names the errors, magics and sizes of heads as the document gives them, without condition. -/
import Derived.Test.YtilgfhiomcfmhaaPWireNamesx1
namespace Go.Proofs.Ytilgfhiomcfmhaa.Pure
open Go.RowKit Go.Proofs.Ytilgfhiomcfmhaa.PWireNames Go.Proofs.YtilgfhiomcfmhaaW.PrintWords Go.Proofs.YtilgfhiomcfmhaaW.PrintLast

/-- YOURS: ∃ k, spindlelaw08_WireNames.f k  = some true
What it reaches (each with k first where it has rounds; `.mono`: more rounds tell the same; `.l0`, ..: its loops, with `.mono_l`): spindlelaw08_num.f, spindlelaw08_WireNames.f -/
theorem WireNames : spindlelaw08_WireNames.Pure := by
  exact ⟨1000, by decide +kernel⟩

end Go.Proofs.Ytilgfhiomcfmhaa.Pure
