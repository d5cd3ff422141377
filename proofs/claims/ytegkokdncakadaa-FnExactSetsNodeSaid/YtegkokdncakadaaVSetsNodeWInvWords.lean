-- cut out of the printed words: what this claim asks for
import Derived.Test.YtegkokdncakadaaVSetsNodeWInv
import Derived.Test.YtegkokdncakadaaVSetsNodeWFootNe
namespace Go.Proofs.YtegkokdncakadaaW.PrintWords
open Go.RowKit
end Go.Proofs.YtegkokdncakadaaW.PrintWords
namespace Go.Proofs.YtegkokdncakadaaW.PrintLast
section
variable {ops : Array Oper} {a : Act} {o og : Oper} {g : Nat} {t : Tmp} {u : Bool}
end
end Go.Proofs.YtegkokdncakadaaW.PrintLast
