/- Is a path under another one; as the program and the reference have it. No condition. -/
import Derived.Test.YtiddgglidkbipaaVLocksOkQx1
import Derived.Test.YtiddgglidkbipaaVLocksOkLPath
set_option linter.unusedSimpArgs false
set_option linter.unusedVariables false
namespace Go.Proofs.Ytiddgglidkbipaa.L
open Go.RowKit Go.Proofs.YtiddgglidkbipaaW.PrintWords Go.Proofs.YtiddgglidkbipaaW.PrintLast Go.Proofs.Ytiddgglidkbipaa.Q
def under (p head : List ByteArray) : Bool := decide (head.length < p.length) && decide (p.take head.length = head)
theorem specUnder {p head : List ByteArray} (hl : p.length ≤ 1048576) : Ev (fun k => spec_Under.f k p head) (under p head) := by
  unfold spec_Under.f under
  by_cases e : (p.length : Int) > (head.length : Int)
  · simp only [if_pos e, if_pos (nonneg_at _), if_pos (show (head.length : Int) ≤ p.length by omega), Int.toNat_natCast, show head.length < p.length by omega, decide_true, Bool.true_and]
    exact Ev.bind (specSame (by rw [maxLen_eq]; simp; omega)) (Ev.now _)
  · simp only [if_neg e, show ¬ head.length < p.length by omega, decide_false, Bool.false_and]
    exact Ev.now _
theorem implUnder {p head : List ByteArray} (hl : p.length ≤ 1048576) : Ev (fun k => impl_Under.f k p head) (under p head) := by
  unfold impl_Under.f under
  by_cases e : (p.length : Int) > (head.length : Int)
  · simp only [if_pos e, if_pos (nonneg_at _), if_pos (show (head.length : Int) ≤ p.length by omega), Int.toNat_natCast, show head.length < p.length by omega, decide_true, Bool.true_and]
    exact Ev.bind (implSame (by rw [maxLen_eq]; simp; omega)) (Ev.now _)
  · simp only [if_neg e, show ¬ head.length < p.length by omega, decide_false, Bool.false_and]
    exact Ev.now _
end Go.Proofs.Ytiddgglidkbipaa.L
