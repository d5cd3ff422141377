/- What the law on LessPath computes is true: program and reference say the same. No condition. -/
import Derived.Test.YteabkidfgdmmpaaQx3
import Derived.Test.YteabkidfgdmmpaaGood
import Derived.Test.YteabkidfgdmmpaaLStrS
import Derived.Test.YteabkidfgdmmpaaLLess
set_option linter.unusedSimpArgs false
set_option linter.unusedVariables false
namespace Go.Proofs.Yteabkidfgdmmpaa.Pure
open Go.RowKit Go.Proofs.YteabkidfgdmmpaaW.PrintWords Go.Proofs.YteabkidfgdmmpaaW.PrintLast Go.Proofs.Yteabkidfgdmmpaa.Q Go.Proofs.Yteabkidfgdmmpaa.L
theorem FnExactLessPath : ∀ (x0 : List ByteArray) (x1 : List ByteArray), (fun l : List ByteArray => l.length ≤ maxLen ∧ ∀ a ∈ l, (fun s : ByteArray => s.size ≤ maxLen) a) x0 → (fun l : List ByteArray => l.length ≤ maxLen ∧ ∀ a ∈ l, (fun s : ByteArray => s.size ≤ maxLen) a) x1 → ∃ k, laws_FnExactLessPath.f k x0 x1 = some true := by
  intro x0 x1 h0 h1
  apply Ev.rounds
  unfold laws_FnExactLessPath.f
  rcases szS h0.1 h0.2 (n := 1048576) (by omega) (by omega) with h | ⟨m, hm0, hm1, h, hl, _⟩
  · refine Ev.bind h ?_
    simp only [show (-1 : Int) < 0 by omega, if_true]
    exact Ev.now _
  refine Ev.bind h ?_
  simp only [show ¬ m < 0 by omega, if_false]
  rcases szS h1.1 h1.2 (n := m) (by omega) (by omega) with h | ⟨m', hm0', hm1', h, hl', _⟩
  · refine Ev.bind h ?_
    simp only [show (-1 : Int) < 0 by omega, if_true]
    exact Ev.now _
  refine Ev.bind h ?_
  simp only [show ¬ m' < 0 by omega, if_false]
  refine Ev.bind (toS (by omega)) ?_
  refine Ev.bind (toS (by omega)) ?_
  refine Ev.bind (specLess h0.1) ?_
  refine Ev.bind (toS (by omega)) ?_
  refine Ev.bind (toS (by omega)) ?_
  refine Ev.bind (implLess h0.1) ?_
  simp only [bne_self_eq_false, Bool.false_eq_true, if_false]
  refine Ev.bind (toS (by omega)) ?_
  refine Ev.bind (eqS h0.1) ?_
  simp only [decide_true, if_true]
  refine Ev.bind (toS (by omega)) ?_
  refine Ev.bind (eqS h1.1) ?_
  simp only [decide_true, if_true]
  exact Ev.now _
end Go.Proofs.Yteabkidfgdmmpaa.Pure
