/- Package api names the errors, flags and chunk types of answers as the document gives them, without condition. -/
import Derived.Test.YtahlkfdpbiplaaaPReplyNamesx1
namespace Go.Proofs.Ytahlkfdpbiplaaa.Pure
open Go.RowKit Go.Proofs.Ytahlkfdpbiplaaa.PReplyNames Go.Proofs.YtahlkfdpbiplaaaW.PrintWords Go.Proofs.YtahlkfdpbiplaaaW.PrintLast

/-- YOURS: spindlelaw12_ReplyNames.f  = some true
What it reaches (each with k first where it has rounds; `.mono`: more rounds tell the same; `.l0`, ..: its loops, with `.mono_l`): spindlelaw12_num.f, spindlelaw12_ReplyNames.f -/
theorem ReplyNames : spindlelaw12_ReplyNames.Pure := by
  unfold spindlelaw12_ReplyNames.Pure
  first | decide | rfl | (simp [spindlelaw12_ReplyNames.f]; done)

end Go.Proofs.Ytahlkfdpbiplaaa.Pure
