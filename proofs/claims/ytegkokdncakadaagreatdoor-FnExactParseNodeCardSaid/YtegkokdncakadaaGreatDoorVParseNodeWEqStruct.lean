-- cut out of the printed words: what this claim asks for
import Derived.Test.YtegkokdncakadaaGreatDoorVParseNodeWWords
import Derived.Laws.StructEq
namespace Go.Proofs.YtegkokdncakadaaGreatDoorW.PrintWords
open Go.RowKit
section
variable {P : Program} {d : Nat} {xs ys : Array Value} {f : Field} {fs : List Field} {a b : Value} {r s : Bool} {w : World}
end
end Go.Proofs.YtegkokdncakadaaGreatDoorW.PrintWords
