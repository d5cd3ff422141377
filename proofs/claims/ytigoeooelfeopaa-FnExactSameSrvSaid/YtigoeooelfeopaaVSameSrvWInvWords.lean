-- cut out of the printed words: what this claim asks for
import Derived.Test.YtigoeooelfeopaaVSameSrvWInv
import Derived.Test.YtigoeooelfeopaaVSameSrvWFootNe
namespace Go.Proofs.YtigoeooelfeopaaW.PrintWords
open Go.RowKit
end Go.Proofs.YtigoeooelfeopaaW.PrintWords
namespace Go.Proofs.YtigoeooelfeopaaW.PrintLast
section
variable {ops : Array Oper} {a : Act} {o og : Oper} {g : Nat} {t : Tmp} {u : Bool}
end
end Go.Proofs.YtigoeooelfeopaaW.PrintLast
