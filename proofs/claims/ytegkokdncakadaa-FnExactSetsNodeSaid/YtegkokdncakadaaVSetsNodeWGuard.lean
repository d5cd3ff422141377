-- cut out of the printed words: what this claim asks for
import Derived.Test.YtegkokdncakadaaVSetsNodeWWords
namespace Go.Proofs.YtegkokdncakadaaW.PrintWords
open Go.RowKit
section
variable {P : Program} {ops : Array Oper} {rest : List Oper} {o : Oper} {a : Act} {Q : Exit -> Act -> World -> Prop} {W : World}
end
end Go.Proofs.YtegkokdncakadaaW.PrintWords
