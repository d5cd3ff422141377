-- cut out of the printed words: what this claim asks for
import Derived.Test.YtiddgglidkbipaaVFnLocksBentWInv
import Derived.Test.YtiddgglidkbipaaVFnLocksBentWFootNe
namespace Go.Proofs.YtiddgglidkbipaaW.PrintWords
open Go.RowKit
end Go.Proofs.YtiddgglidkbipaaW.PrintWords
namespace Go.Proofs.YtiddgglidkbipaaW.PrintLast
section
variable {ops : Array Oper} {a : Act} {o og : Oper} {g : Nat} {t : Tmp} {u : Bool}
end
end Go.Proofs.YtiddgglidkbipaaW.PrintLast
