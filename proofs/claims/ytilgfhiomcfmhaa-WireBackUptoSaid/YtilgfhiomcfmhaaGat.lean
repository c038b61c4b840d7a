/- Two looks ahead for the printed walks: is the next operation a call of this function? has the world been drawn? -/
import Derived.Test.YtilgfhiomcfmhaaWWords
namespace Go.Proofs.Ytilgfhiomcfmhaa.Hand
theorem gate_callee {P : Program} {W : World} {A : Act} {R : Exit → Act → World → Prop} {region : Array Oper} {later : List Oper} {next : Oper} {f : FuncId} {xs : Array Operand} {us : Array TypeId}
    (_is : next.op = .call { callee := .value (.func f), args := xs, argTypes := us }) (goal : wpList P region R (next :: later) A W) : wpList P region R (next :: later) A W := goal
theorem gate_builtin {P : Program} {W : World} {A : Act} {R : Exit → Act → World → Prop} {region : Array Oper} {later : List Oper} {next : Oper} {b : Builtin} {xs : Array Operand} {us : Array TypeId}
    (_is : next.op = .call { callee := .builtin b, args := xs, argTypes := us }) (goal : wpList P region R (next :: later) A W) : wpList P region R (next :: later) A W := goal
theorem drewN_self (W : World) (k : Nat) : W.drewN k = W.drewN k := rfl
end Go.Proofs.Ytilgfhiomcfmhaa.Hand
