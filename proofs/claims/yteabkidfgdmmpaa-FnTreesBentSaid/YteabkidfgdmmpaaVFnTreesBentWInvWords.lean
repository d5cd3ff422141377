-- cut out of the printed words: what this claim asks for
import Derived.Test.YteabkidfgdmmpaaVFnTreesBentWInv
import Derived.Test.YteabkidfgdmmpaaVFnTreesBentWFootNe
namespace Go.Proofs.YteabkidfgdmmpaaW.PrintWords
open Go.RowKit
end Go.Proofs.YteabkidfgdmmpaaW.PrintWords
namespace Go.Proofs.YteabkidfgdmmpaaW.PrintLast
section
variable {ops : Array Oper} {a : Act} {o og : Oper} {g : Nat} {t : Tmp} {u : Bool}
end
end Go.Proofs.YteabkidfgdmmpaaW.PrintLast
