/- The law FnExactMayTurn computes true: the program and the reference say the same. No condition. -/
import Derived.Test.YtiddgglidkbipaaVMayTurnQx0
import Derived.Test.YtiddgglidkbipaaVMayTurnQx7
import Derived.Test.YtiddgglidkbipaaVMayTurnGood
import Derived.Test.YtiddgglidkbipaaVMayTurnLMayTurn
set_option linter.unusedSimpArgs false
set_option linter.unusedVariables false
namespace Go.Proofs.Ytiddgglidkbipaa.Pure
open Go.RowKit Go.Proofs.YtiddgglidkbipaaW.PrintWords Go.Proofs.YtiddgglidkbipaaW.PrintLast Go.Proofs.Ytiddgglidkbipaa.Q Go.Proofs.Ytiddgglidkbipaa.L
theorem FnExactMayTurn : ∀ (x0 : List (S24)) (x1 : List ByteArray) (x2 : Bool) (x3 : List Int), (fun l : List (S24) => l.length ≤ maxLen ∧ ∀ a ∈ l, G24 a) x0 → (fun l : List ByteArray => l.length ≤ maxLen ∧ ∀ a ∈ l, (fun s : ByteArray => s.size ≤ maxLen) a) x1 → (fun l : List Int => l.length ≤ maxLen ∧ ∀ a ∈ l, (fun x : Int => (Lit.int .i64 x).wf = true) a) x3 → ∃ k, laws_FnExactMayTurn.f k x0 x1 x2 x3 = some true := by
  intro x0 x1 x2 x3 g0 g1 g3
  apply Ev.rounds
  unfold laws_FnExactMayTurn.f
  by_cases c3 : (x3.length : Int) > 1048576
  · simp only [if_pos c3]; exact Ev.now _
  simp only [if_neg c3]
  have s3 : x3.length ≤ 1048576 := by omega
  refine Sz.ev (szLockS g0.1 g0.2 (n := 1048576) (by omega) (by omega)) (by simp only [show (-1 : Int) < 0 by omega, if_true]; exact Ev.now _) (fun m0 a0 b0 s0 => ?_)
  simp only [if_neg (show ¬ m0 < 0 by omega)]
  refine Sz.ev (szS g1.1 g1.2 (n := m0) (by omega) (by omega)) (by simp only [show (-1 : Int) < 0 by omega, if_true]; exact Ev.now _) (fun m1 a1 b1 s1 => ?_)
  simp only [if_neg (show ¬ m1 < 0 by omega)]
  refine Ev.bind (toLockS s0) ?_
  refine Ev.bind (toS (by have := s1.1; omega)) ?_
  refine Ev.bind (toInts (by omega)) ?_
  refine Ev.bind (specMayTurn s0 s1.1 g3.1) ?_
  refine Ev.bind (toLockS s0) ?_
  refine Ev.bind (toS (by have := s1.1; omega)) ?_
  refine Ev.bind (toInts (by omega)) ?_
  refine Ev.bind (implMayTurn s0 s1.1 g3.1) ?_
  simp only [eq_self, if_true, bne_self_eq_false, Bool.false_eq_true, if_false, decide_true]
  refine Ev.bind (toLockS s0) ?_
  refine Ev.bind (eqLockS s0) ?_
  simp only [eq_self, if_true, bne_self_eq_false, Bool.false_eq_true, if_false, decide_true]
  refine Ev.bind (toS (by have := s1.1; omega)) ?_
  refine Ev.bind (eqS g1.1) ?_
  simp only [eq_self, if_true, bne_self_eq_false, Bool.false_eq_true, if_false, decide_true]
  refine Ev.bind (toInts (by omega)) ?_
  refine Ev.bind (eqInts g3.1) ?_
  simp only [eq_self, if_true, bne_self_eq_false, Bool.false_eq_true, if_false, decide_true]
  exact Ev.now _
end Go.Proofs.Ytiddgglidkbipaa.Pure
