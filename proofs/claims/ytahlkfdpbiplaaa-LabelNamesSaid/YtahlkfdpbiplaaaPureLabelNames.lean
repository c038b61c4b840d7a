/- Package api names the label errors by their numbers and the label sizes as the document gives them, without condition. -/
import Derived.Test.YtahlkfdpbiplaaaPLabelNamesx1
namespace Go.Proofs.Ytahlkfdpbiplaaa.Pure
open Go.RowKit Go.Proofs.Ytahlkfdpbiplaaa.PLabelNames Go.Proofs.YtahlkfdpbiplaaaW.PrintWords Go.Proofs.YtahlkfdpbiplaaaW.PrintLast

/-- YOURS: spindlelaw06_LabelNames.f  = some true
What it reaches (each with k first where it has rounds; `.mono`: more rounds tell the same; `.l0`, ..: its loops, with `.mono_l`): spindlelaw06_num.f, spindlelaw06_LabelNames.f -/
theorem LabelNames : spindlelaw06_LabelNames.Pure := by
  unfold spindlelaw06_LabelNames.Pure
  first | decide | rfl | (simp [spindlelaw06_LabelNames.f]; done)

end Go.Proofs.Ytahlkfdpbiplaaa.Pure
