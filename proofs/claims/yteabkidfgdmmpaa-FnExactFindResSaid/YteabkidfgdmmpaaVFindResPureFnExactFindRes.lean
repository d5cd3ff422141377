/- The law FnExactFindRes computes true: the program and the reference say the same. No condition. -/
import Derived.Test.YteabkidfgdmmpaaVFindResQx0
import Derived.Test.YteabkidfgdmmpaaVFindResQx12
import Derived.Test.YteabkidfgdmmpaaVFindResGood
import Derived.Test.YteabkidfgdmmpaaVFindResLFind
import Derived.Test.YteabkidfgdmmpaaVFindResLStrS
set_option linter.unusedSimpArgs false
set_option linter.unusedVariables false
namespace Go.Proofs.Yteabkidfgdmmpaa.Pure
open Go.RowKit Go.Proofs.YteabkidfgdmmpaaW.PrintWords Go.Proofs.YteabkidfgdmmpaaW.PrintLast Go.Proofs.Yteabkidfgdmmpaa.Q Go.Proofs.Yteabkidfgdmmpaa.L
theorem FnExactFindRes : ∀ (x0 : List (S77)) (x1 : List ByteArray), (fun l : List (S77) => l.length ≤ maxLen ∧ ∀ a ∈ l, G77 a) x0 → (fun l : List ByteArray => l.length ≤ maxLen ∧ ∀ a ∈ l, (fun s : ByteArray => s.size ≤ maxLen) a) x1 → ∃ k, laws_FnExactFindRes.f k x0 x1 = some true := by
  intro x0 x1 g0 g1
  apply Ev.rounds
  unfold laws_FnExactFindRes.f
  refine Sz.ev (szResS g0.1 g0.2 (n := 1048576) (by omega) (by omega)) (by simp only [show (-1 : Int) < 0 by omega, if_true]; exact Ev.now _) (fun m0 a0 b0 s0 => ?_)
  simp only [if_neg (show ¬ m0 < 0 by omega)]
  refine Sz.ev (szS g1.1 g1.2 (n := m0) (by omega) (by omega)) (by simp only [show (-1 : Int) < 0 by omega, if_true]; exact Ev.now _) (fun m1 a1 b1 s1 => ?_)
  simp only [if_neg (show ¬ m1 < 0 by omega)]
  refine Ev.bind (toResS s0) ?_
  refine Ev.bind (toS (by have := s1.1; omega)) ?_
  refine Ev.bind (specFind s0) ?_
  refine Ev.bind (toResS s0) ?_
  refine Ev.bind (toS (by have := s1.1; omega)) ?_
  refine Ev.bind (implFind s0) ?_
  simp only [eq_self, if_true, bne_self_eq_false, Bool.false_eq_true, if_false, decide_true]
  refine Ev.bind (toResS s0) ?_
  refine Ev.bind (eqResS s0) ?_
  simp only [eq_self, if_true, bne_self_eq_false, Bool.false_eq_true, if_false, decide_true]
  refine Ev.bind (toS (by have := s1.1; omega)) ?_
  refine Ev.bind (eqS g1.1) ?_
  simp only [eq_self, if_true, bne_self_eq_false, Bool.false_eq_true, if_false, decide_true]
  exact Ev.now _
end Go.Proofs.Yteabkidfgdmmpaa.Pure
