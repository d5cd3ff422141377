/- The law FnExactEvalIf computes true: the program and the reference say the same. No condition. -/
import Derived.Test.YtigoeooelfeopaaVEvalIfQx0
import Derived.Test.YtigoeooelfeopaaVEvalIfQx5
import Derived.Test.YtigoeooelfeopaaVEvalIfGood
import Derived.Test.YtigoeooelfeopaaVEvalIfLEvalIf
set_option linter.unusedSimpArgs false
set_option linter.unusedVariables false
namespace Go.Proofs.Ytigoeooelfeopaa.Pure
open Go.RowKit Go.Proofs.YtigoeooelfeopaaW.PrintWords Go.Proofs.YtigoeooelfeopaaW.PrintLast Go.Proofs.Ytigoeooelfeopaa.Q Go.Proofs.Ytigoeooelfeopaa.L
theorem FnExactEvalIf : ∀ (x0 : List (List (S72))) (x1 : List Int) (x2 : ByteArray), (fun l : List (List (S72)) => l.length ≤ maxLen ∧ ∀ a ∈ l, (fun l : List (S72) => l.length ≤ maxLen ∧ ∀ a ∈ l, G72 a) a) x0 → (fun l : List Int => l.length ≤ maxLen ∧ ∀ a ∈ l, (fun x : Int => (Lit.int .i64 x).wf = true) a) x1 → (fun s : ByteArray => s.size ≤ maxLen) x2 → ∃ k, laws_FnExactEvalIf.f k x0 x1 x2 = some true := by
  intro x0 x1 x2 g0 g1 g2
  apply Ev.rounds
  unfold laws_FnExactEvalIf.f
  by_cases c1 : (x1.length : Int) > 1048576
  · simp only [if_pos c1]; exact Ev.now _
  simp only [if_neg c1]
  have s1 : x1.length ≤ 1048576 := by omega
  by_cases c2 : (x2.size : Int) > 1048576
  · simp only [if_pos c2]; exact Ev.now _
  simp only [if_neg c2]
  have s2 : x2.size ≤ 1048576 := by omega
  refine Sz.ev (szCondSS g0.1 g0.2 (n := 1048576) (by omega) (by omega)) (by simp only [show (-1 : Int) < 0 by omega, if_true]; exact Ev.now _) (fun m0 a0 b0 s0 => ?_)
  simp only [if_neg (show ¬ m0 < 0 by omega)]
  refine Ev.bind (toCondSS s0) ?_
  refine Ev.bind (toInts (by omega)) ?_
  refine Ev.bind (specEvalIf s0 g1.1) ?_
  refine Ev.bind (toCondSS s0) ?_
  refine Ev.bind (toInts (by omega)) ?_
  refine Ev.bind (implEvalIf s0 g1.1) ?_
  simp only [eq_self, if_true, bne_self_eq_false, Bool.false_eq_true, if_false, decide_true]
  refine Ev.bind (toCondSS s0) ?_
  refine Ev.bind (eqCondSS s0) ?_
  simp only [eq_self, if_true, bne_self_eq_false, Bool.false_eq_true, if_false, decide_true]
  refine Ev.bind (toInts (by omega)) ?_
  refine Ev.bind (eqInts g1.1) ?_
  simp only [eq_self, if_true, bne_self_eq_false, Bool.false_eq_true, if_false, decide_true]
  exact Ev.now _
end Go.Proofs.Ytigoeooelfeopaa.Pure
