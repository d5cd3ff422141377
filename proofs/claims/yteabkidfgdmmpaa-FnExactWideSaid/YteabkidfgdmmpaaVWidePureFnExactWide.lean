/- The law FnExactWide computes true: the program and the reference say the same. No condition. -/
import Derived.Test.YteabkidfgdmmpaaVWideQx0
import Derived.Test.YteabkidfgdmmpaaVWideQx11
import Derived.Test.YteabkidfgdmmpaaVWideGood
import Derived.Test.YteabkidfgdmmpaaVWideLWide
set_option linter.unusedSimpArgs false
set_option linter.unusedVariables false
namespace Go.Proofs.Yteabkidfgdmmpaa.Pure
open Go.RowKit Go.Proofs.YteabkidfgdmmpaaW.PrintWords Go.Proofs.YteabkidfgdmmpaaW.PrintLast Go.Proofs.Yteabkidfgdmmpaa.Q Go.Proofs.Yteabkidfgdmmpaa.L
theorem FnExactWide : ∀ (x0 : List (S77)), (fun l : List (S77) => l.length ≤ maxLen ∧ ∀ a ∈ l, G77 a) x0 → ∃ k, laws_FnExactWide.f k x0 = some true := by
  intro x0 g0
  apply Ev.rounds
  unfold laws_FnExactWide.f
  refine Sz.ev (szResS g0.1 g0.2 (n := 1048576) (by omega) (by omega)) (by simp only [show (-1 : Int) < 0 by omega, if_true]; exact Ev.now _) (fun m0 a0 b0 s0 => ?_)
  simp only [if_neg (show ¬ m0 < 0 by omega)]
  refine Ev.bind (toResS s0) ?_
  refine Ev.bind (specWide s0) ?_
  refine Ev.bind (toResS s0) ?_
  refine Ev.bind (implWide s0) ?_
  simp only [eq_self, if_true, bne_self_eq_false, Bool.false_eq_true, if_false, decide_true]
  refine Ev.bind (toResS s0) ?_
  refine Ev.bind (eqResS s0) ?_
  simp only [eq_self, if_true, bne_self_eq_false, Bool.false_eq_true, if_false, decide_true]
  exact Ev.now _
end Go.Proofs.Yteabkidfgdmmpaa.Pure
