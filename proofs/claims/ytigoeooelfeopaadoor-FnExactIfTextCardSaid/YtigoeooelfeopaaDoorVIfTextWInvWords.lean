-- cut out of the printed words: what this claim asks for
import Derived.Test.YtigoeooelfeopaaDoorVIfTextWInv
import Derived.Test.YtigoeooelfeopaaDoorVIfTextWFootNe
namespace Go.Proofs.YtigoeooelfeopaaDoorW.PrintWords
open Go.RowKit
end Go.Proofs.YtigoeooelfeopaaDoorW.PrintWords
namespace Go.Proofs.YtigoeooelfeopaaDoorW.PrintLast
section
variable {ops : Array Oper} {a : Act} {o og : Oper} {g : Nat} {t : Tmp} {u : Bool}
end
end Go.Proofs.YtigoeooelfeopaaDoorW.PrintLast
