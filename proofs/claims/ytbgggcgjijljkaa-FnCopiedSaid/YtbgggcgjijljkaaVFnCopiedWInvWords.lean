-- cut out of the printed words: what this claim asks for
import Derived.Test.YtbgggcgjijljkaaVFnCopiedWInv
import Derived.Test.YtbgggcgjijljkaaVFnCopiedWFootNe
namespace Go.Proofs.YtbgggcgjijljkaaW.PrintWords
open Go.RowKit
end Go.Proofs.YtbgggcgjijljkaaW.PrintWords
namespace Go.Proofs.YtbgggcgjijljkaaW.PrintLast
section
variable {ops : Array Oper} {a : Act} {o og : Oper} {g : Nat} {t : Tmp} {u : Bool}
end
end Go.Proofs.YtbgggcgjijljkaaW.PrintLast
