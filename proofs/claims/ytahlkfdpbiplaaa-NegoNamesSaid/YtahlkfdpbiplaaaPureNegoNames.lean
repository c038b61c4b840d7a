/- Package api names the errors, kinds and flags of the negotiation as the document gives them, without condition. -/
import Derived.Test.YtahlkfdpbiplaaaPNegoNamesx1
namespace Go.Proofs.Ytahlkfdpbiplaaa.Pure
open Go.RowKit Go.Proofs.Ytahlkfdpbiplaaa.PNegoNames Go.Proofs.YtahlkfdpbiplaaaW.PrintWords Go.Proofs.YtahlkfdpbiplaaaW.PrintLast

/-- YOURS: ∃ k, spindlelaw10_NegoNames.f k  = some true
What it reaches (each with k first where it has rounds; `.mono`: more rounds tell the same; `.l0`, ..: its loops, with `.mono_l`): spindlelaw10_num.f, spindlelaw10_NegoNames.f -/
theorem NegoNames : spindlelaw10_NegoNames.Pure := by
  unfold spindlelaw10_NegoNames.Pure
  exact ⟨1000, by decide +kernel⟩

end Go.Proofs.Ytahlkfdpbiplaaa.Pure
