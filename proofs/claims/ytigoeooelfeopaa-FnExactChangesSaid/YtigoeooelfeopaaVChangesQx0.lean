-- PRINTED by print.py (a twelfth state) out of the translation. Not trusted: Lean checks it.
import Derived.Test.YtigoeooelfeopaaProg
import Derived.Below
import Derived.Deep.Draws
import Derived.Deep.AppendLies
import Derived.Maps.AppendAt
import Derived.OwnWalk
import Derived.Laws.BytesArg
import Derived.Laws.MakeOwn
import Derived.Laws.OwnMore
import Derived.Deep.OwnRows
import Derived.Tactics
import Derived.Lib.ConvBytes
import Derived.Laws.Slices
import Derived.WalkKit
import Derived.KernelRfl
import Derived.RowKit3
import Derived.Deep.LoopGhost
import Derived.Deep.QuietTactic
import Derived.BigQuiet
import Derived.WideLaws
import Derived.Deep.DeepCutAuto
import Derived.Deep.CutBlock
import Derived.Deep.RegionHeld3
import Derived.Laws.Rows
import Derived.Lib.AppendStr
import Derived.ArgAppend
import Derived.Laws.IdiomCopy
import Derived.OrdersHeld
import Derived.Laws.BitsLemmas
import Derived.RowKit
import Derived.Test.YtigoeooelfeopaaWWords
import Derived.Test.YtigoeooelfeopaaWLast
import Derived.Test.YtigoeooelfeopaaWTab
import Derived.Test.YtigoeooelfeopaaWFour
import Derived.Test.YtigoeooelfeopaaWQPut
import Derived.Test.YtigoeooelfeopaaWApart
import Derived.Test.YtigoeooelfeopaaWArr
import Derived.Test.YtigoeooelfeopaaWZeros
import Derived.Test.YtigoeooelfeopaaWFoot
import Derived.Test.YtigoeooelfeopaaWKept
import Derived.Test.YtigoeooelfeopaaWShare
import Derived.Test.YtigoeooelfeopaaWN
import Derived.Test.YtigoeooelfeopaaWFootNe
import Derived.Test.YtigoeooelfeopaaWAt
import Derived.Test.YtigoeooelfeopaaWEqStruct
import Derived.Test.YtigoeooelfeopaaWRepsOne
import Derived.Test.YtigoeooelfeopaaWInv
import Derived.Test.YtigoeooelfeopaaWInvWords
import Derived.Test.YtigoeooelfeopaaWGuard
import Derived.Test.YtigoeooelfeopaaWNEv
import Derived.Test.YtigoeooelfeopaaWMore
namespace Go.Proofs.Ytigoeooelfeopaa.Q
open Go.RowKit Go.Proofs.YtigoeooelfeopaaW.PrintWords Go.Proofs.YtigoeooelfeopaaW.PrintLast Go.Proofs.YtigoeooelfeopaaW.PrintMore
attribute [local go_sem] max2_int min2_int max_two min_two max_three min_three max_four min_four   -- for this text's walks alone
set_option linter.unusedVariables false
set_option linter.unusedSimpArgs false



def errW : Option Int → Value
  | none => .nilIface
  | some c => .iface 0 (.int .i64 c)
theorem errW_none : errW none = .nilIface := rfl
theorem errW_some (c : Int) : errW (some c) = .iface 0 (.int .i64 c) := rfl

end Go.Proofs.Ytigoeooelfeopaa.Q
