-- cut out of the printed words: what this claim asks for
import Derived.Test.YtigoeooelfeopaaGreatDoorVFnIfsWInv
import Derived.Test.YtigoeooelfeopaaGreatDoorVFnIfsWFootNe
namespace Go.Proofs.YtigoeooelfeopaaGreatDoorW.PrintWords
open Go.RowKit
end Go.Proofs.YtigoeooelfeopaaGreatDoorW.PrintWords
namespace Go.Proofs.YtigoeooelfeopaaGreatDoorW.PrintLast
section
variable {ops : Array Oper} {a : Act} {o og : Oper} {g : Nat} {t : Tmp} {u : Bool}
end
end Go.Proofs.YtigoeooelfeopaaGreatDoorW.PrintLast
