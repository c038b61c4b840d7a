/-
  No cell of these rows narrows 'for every input' (looked for: loops, veiled, ifaces, maps, wideKeys, modest, calm, conditions, laid).
  DERIVED. THE GIVEN ROWS OF THIS SEAT. 3 by the template 'for every input the law returns true; each argument reads behind the call as it read before'; 0 by the template 'total and deterministic' (their statements: YtahlkfdpbiplaaaTotals.lean).
  GIVEN WITH THE SEED: the statements are not yours to turn. If you find one false, say at which input.
  Laid BY PROGRAM, IN A SANDBOX (cutbox-rows.mjs): the forced cells as the released guide's own fill.sh prints them over the translation 8300b0dd54eeccec… (all of the seat's roots in one cut). By AI agents, Wed Nov 11 2026. No macro, syntax, notation, axiom, sorry.
-/
import Derived.Test.YtahlkfdpbiplaaaChecked
import GoSem.Claim
import GoSem.ClaimJoined
import GoSem.ClaimMapViews
import Derived.JoinedTies
import Derived.KernelRfl
namespace Go.Proofs.Ytahlkfdpbiplaaa
/- THE CELL 'sum', in the pinned program and in every row, IS THE sha256 OF THE DUMP (.gsa) THAT YtahlkfdpbiplaaaProg.lean LOADS. Nothing in Lean hashes anything: it is a label: what it is worth is what the hold of that sum in a sandbox is worth. -/
noncomputable def Try.pinned : Pinned := { name := "ytahlkfdpbiplaaa", sum := "8300b0dd54eeccec3518b934774093dbcf9758389565001e33a6893543987f55", checked := Try.checked }
namespace Rows
def none {H : Type} : Left H := { results := [], args := [] }

/-- 'spindlelaw06.LabelNames': WHATEVER THE INPUT: true; the input reads as it did. -/
def labelNamesSpec : ChangeSpec := { name := "labelNames", fn := fun _ => fun
  | [] => { results := [.lit (.bool true)], args := [] }
  | _ => none }
def labelNamesRow : OpenClaim := { program := "ytahlkfdpbiplaaa", sum := "8300b0dd54eeccec3518b934774093dbcf9758389565001e33a6893543987f55", func := "spindle/spindlelaw06.LabelNames", spec := "labelNames", apart := false }
def LabelNamesSaid : Prop := labelNamesRow.holds Try.pinned (OpenSpec.ofChange labelNamesSpec)

/-- ITS FALSE NEIGHBOUR: 'it returns false'. Refute it at one input. -/
def labelNamesWrong : ChangeSpec := { name := "labelNames", fn := fun _ => fun
  | [] => { results := [.lit (.bool false)], args := [] }
  | _ => none }
def LabelNamesWrongFalsely : Prop := labelNamesRow.holds Try.pinned (OpenSpec.ofChange labelNamesWrong)

/-- 'spindlelaw12.ReplyNames': WHATEVER THE INPUT: true; the input reads as it did. -/
def replyNamesSpec : ChangeSpec := { name := "replyNames", fn := fun _ => fun
  | [] => { results := [.lit (.bool true)], args := [] }
  | _ => none }
def replyNamesRow : OpenClaim := { program := "ytahlkfdpbiplaaa", sum := "8300b0dd54eeccec3518b934774093dbcf9758389565001e33a6893543987f55", func := "spindle/spindlelaw12.ReplyNames", spec := "replyNames", apart := false }
def ReplyNamesSaid : Prop := replyNamesRow.holds Try.pinned (OpenSpec.ofChange replyNamesSpec)

/-- ITS FALSE NEIGHBOUR: 'it returns false'. Refute it at one input. -/
def replyNamesWrong : ChangeSpec := { name := "replyNames", fn := fun _ => fun
  | [] => { results := [.lit (.bool false)], args := [] }
  | _ => none }
def ReplyNamesWrongFalsely : Prop := replyNamesRow.holds Try.pinned (OpenSpec.ofChange replyNamesWrong)

/-- 'spindlelaw10.NegoNames': WHATEVER THE INPUT: true; the input reads as it did. -/
def negoNamesSpec : ChangeSpec := { name := "negoNames", fn := fun _ => fun
  | [] => { results := [.lit (.bool true)], args := [] }
  | _ => none }
def negoNamesRow : OpenClaim := { program := "ytahlkfdpbiplaaa", sum := "8300b0dd54eeccec3518b934774093dbcf9758389565001e33a6893543987f55", func := "spindle/spindlelaw10.NegoNames", spec := "negoNames", apart := false }
def NegoNamesSaid : Prop := negoNamesRow.holds Try.pinned (OpenSpec.ofChange negoNamesSpec)

/-- ITS FALSE NEIGHBOUR: 'it returns false'. Refute it at one input. -/
def negoNamesWrong : ChangeSpec := { name := "negoNames", fn := fun _ => fun
  | [] => { results := [.lit (.bool false)], args := [] }
  | _ => none }
def NegoNamesWrongFalsely : Prop := negoNamesRow.holds Try.pinned (OpenSpec.ofChange negoNamesWrong)

/- THE SECOND FORM. 'bulk': how many values and letters a reading holds, each counted each time it is reached (what is shared counts as often as it is met; a slice's spare places count too). A statement '..UptoSaid' is the law's where the arguments, and the package variables that the reading takes, are together of bulk at most 1048576: NARROWER than '..Said'. Prove '..Said' where nothing that the law and all that it calls make is longer than what came in: it says more and counts as full. Else prove '..UptoSaid'. A law counts once. -/
mutual
def uptoBulk {H : Type} : DataW H → Nat
  | .lit (.string bytes) => bytes.length + 1
  | .lit _ => 1
  | .nil => 1
  | .ptr d => uptoBulk d + 1
  | .slice elems spare => uptoBulkAll elems + uptoBulkAll spare + 1
  | .agg parts => uptoBulkAll parts + 1
  | .iface _ d => uptoBulk d + 1
  | .map entries => uptoBulkEntries entries + 1
  | .held _ => 1
def uptoBulkAll {H : Type} : List (DataW H) → Nat
  | [] => 0
  | d :: r => uptoBulk d + uptoBulkAll r
def uptoBulkEntries {H : Type} : List (Lit × DataW H) → Nat
  | [] => 0
  | x :: r => uptoBulkEntry x + uptoBulkEntries r
def uptoBulkEntry {H : Type} : Lit × DataW H → Nat
  | (.string bytes, d) => bytes.length + uptoBulk d + 1
  | (_, d) => uptoBulk d + 1
 end
def uptoSmall : (H : Type) → List (DataW H) → Bool := fun _ ds => decide (uptoBulkAll ds ≤ 1048576)
def OpenSpec.upto (s : _root_.Go.ChangeSpec) : _root_.Go.OpenSpec := { _root_.Go.OpenSpec.ofChange s with cond := some uptoSmall }

/-- 'spindlelaw06.LabelNames', WHERE WHAT IT READS IS OF BULK AT MOST 1048576: true; the input reads as it did. -/
def labelNamesUptoRow : OpenClaim := { program := "ytahlkfdpbiplaaa", sum := "8300b0dd54eeccec3518b934774093dbcf9758389565001e33a6893543987f55", func := "spindle/spindlelaw06.LabelNames", spec := "labelNames", apart := false, narrowed := true }
def LabelNamesUptoSaid : Prop := labelNamesUptoRow.holds Try.pinned (OpenSpec.upto labelNamesSpec)

/-- 'spindlelaw12.ReplyNames', WHERE WHAT IT READS IS OF BULK AT MOST 1048576: true; the input reads as it did. -/
def replyNamesUptoRow : OpenClaim := { program := "ytahlkfdpbiplaaa", sum := "8300b0dd54eeccec3518b934774093dbcf9758389565001e33a6893543987f55", func := "spindle/spindlelaw12.ReplyNames", spec := "replyNames", apart := false, narrowed := true }
def ReplyNamesUptoSaid : Prop := replyNamesUptoRow.holds Try.pinned (OpenSpec.upto replyNamesSpec)

/-- 'spindlelaw10.NegoNames', WHERE WHAT IT READS IS OF BULK AT MOST 1048576: true; the input reads as it did. -/
def negoNamesUptoRow : OpenClaim := { program := "ytahlkfdpbiplaaa", sum := "8300b0dd54eeccec3518b934774093dbcf9758389565001e33a6893543987f55", func := "spindle/spindlelaw10.NegoNames", spec := "negoNames", apart := false, narrowed := true }
def NegoNamesUptoSaid : Prop := negoNamesUptoRow.holds Try.pinned (OpenSpec.upto negoNamesSpec)

end Rows
end Go.Proofs.Ytahlkfdpbiplaaa
