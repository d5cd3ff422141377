-- cut out of the printed words: what this claim asks for
import Derived.Test.YtegkokdncakadaaGreatDoorVParseNodeWInv
import Derived.Test.YtegkokdncakadaaGreatDoorVParseNodeWFootNe
namespace Go.Proofs.YtegkokdncakadaaGreatDoorW.PrintWords
open Go.RowKit
end Go.Proofs.YtegkokdncakadaaGreatDoorW.PrintWords
namespace Go.Proofs.YtegkokdncakadaaGreatDoorW.PrintLast
section
variable {ops : Array Oper} {a : Act} {o og : Oper} {g : Nat} {t : Tmp} {u : Bool}
end
end Go.Proofs.YtegkokdncakadaaGreatDoorW.PrintLast
