/- The law FnExactLocksOk computes true: the program and the reference say the same. No condition. -/
import Derived.Test.YtiddgglidkbipaaVLocksOkQx0
import Derived.Test.YtiddgglidkbipaaVLocksOkQx15
import Derived.Test.YtiddgglidkbipaaVLocksOkGood
import Derived.Test.YtiddgglidkbipaaVLocksOkLLocksOk
set_option linter.unusedSimpArgs false
set_option linter.unusedVariables false
namespace Go.Proofs.Ytiddgglidkbipaa.Pure
open Go.RowKit Go.Proofs.YtiddgglidkbipaaW.PrintWords Go.Proofs.YtiddgglidkbipaaW.PrintLast Go.Proofs.Ytiddgglidkbipaa.Q Go.Proofs.Ytiddgglidkbipaa.L
theorem FnExactLocksOk : ∀ (x0 : List (S24)), (fun l : List (S24) => l.length ≤ maxLen ∧ ∀ a ∈ l, G24 a) x0 → ∃ k, laws_FnExactLocksOk.f k x0 = some true := by
  intro x0 g0
  apply Ev.rounds
  unfold laws_FnExactLocksOk.f
  refine Sz.ev (szLockS g0.1 g0.2 (n := 1048576) (by omega) (by omega)) (by simp only [show (-1 : Int) < 0 by omega, if_true]; exact Ev.now _) (fun m0 a0 b0 s0 => ?_)
  simp only [if_neg (show ¬ m0 < 0 by omega)]
  refine Ev.bind (toLockS s0) ?_
  refine Ev.bind (specLocksOk s0) ?_
  refine Ev.bind (toLockS s0) ?_
  refine Ev.bind (implLocksOk s0) ?_
  simp only [eq_self, if_true, bne_self_eq_false, Bool.false_eq_true, if_false, decide_true]
  refine Ev.bind (toLockS s0) ?_
  refine Ev.bind (eqLockS s0) ?_
  simp only [eq_self, if_true, bne_self_eq_false, Bool.false_eq_true, if_false, decide_true]
  exact Ev.now _
end Go.Proofs.Ytiddgglidkbipaa.Pure
