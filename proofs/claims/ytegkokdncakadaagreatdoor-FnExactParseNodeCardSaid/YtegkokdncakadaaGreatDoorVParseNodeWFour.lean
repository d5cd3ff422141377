-- cut out of the printed words: what this claim asks for
import Derived.Test.YtegkokdncakadaaGreatDoorVParseNodeWTab
namespace Go.Proofs.YtegkokdncakadaaGreatDoorW.PrintLast
section
variable {P : Program} {ops : Array Oper} {Q : Exit → Act → World → Prop} {md : Region.Mode} {S : World → Prop} {ds : List Nat} {T : Bool × List (List Nat × List Nat)}
end
end Go.Proofs.YtegkokdncakadaaGreatDoorW.PrintLast
