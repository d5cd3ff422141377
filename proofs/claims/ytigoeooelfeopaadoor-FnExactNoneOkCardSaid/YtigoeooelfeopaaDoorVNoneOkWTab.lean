-- cut out of the printed words: what this claim asks for
import Derived.Test.YtigoeooelfeopaaDoorVNoneOkWLast
import Derived.Test.YtigoeooelfeopaaDoorVNoneOkWWords
namespace Go.Proofs.YtigoeooelfeopaaDoorW.PrintLast
open Go.Proofs.YtigoeooelfeopaaDoorW.PrintWords (Aside0)
section
variable {md : Region.Mode} {ops : Array Oper} {T : Bool × List (List Nat × List Nat)} {l l' li lj lk : Array Bool} {ds : List Nat} {i j k : Nat}
end
end Go.Proofs.YtigoeooelfeopaaDoorW.PrintLast
