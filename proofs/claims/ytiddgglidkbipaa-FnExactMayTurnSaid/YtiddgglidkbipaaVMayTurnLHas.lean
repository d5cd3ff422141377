/- Is a number in a list; as the program and the reference have it. No condition. -/
import Derived.Test.YtiddgglidkbipaaVMayTurnQx4
import Derived.Test.YtiddgglidkbipaaVMayTurnQx5
import Derived.Test.YtiddgglidkbipaaVMayTurnLInts
set_option linter.unusedSimpArgs false
set_option linter.unusedVariables false
namespace Go.Proofs.Ytiddgglidkbipaa.L
open Go.RowKit Go.Proofs.YtiddgglidkbipaaW.PrintWords Go.Proofs.YtiddgglidkbipaaW.PrintLast Go.Proofs.Ytiddgglidkbipaa.Q
theorem specHas {l : List Int} {n : Int} (hl : l.length ≤ maxLen) : Ev (fun k => spec_l13Has.f k l n) (decide (n ∈ l)) := by
  have key : ∀ (suf pre : List Int), l = pre ++ suf → Ev (fun k => spec_l13Has.l0 k l n pre.length) (decide (n ∈ suf)) := by
    intro suf
    induction suf with
    | nil =>
      intro pre h
      refine Ev.step (fun k => spec_l13Has.l0.eq_2 ..) ?_
      simp only [if_neg (end_at h), List.not_mem_nil, decide_false]
      exact Ev.now _
    | cons a suf ih =>
      intro pre h
      refine Ev.step (fun k => spec_l13Has.l0.eq_2 ..) ?_
      simp only [if_pos (lt_at h), if_pos (nonneg_at _), rd_int h, next_at h hl, List.mem_cons]
      by_cases e : a = n
      · simp only [e, if_true, true_or, decide_true]; exact Ev.now _
      · have e' : ¬ n = a := fun h => e h.symm
        simp only [e, e', if_false, false_or]; exact ih (pre ++ [a]) (snoc_at h)
  exact key l [] rfl
theorem implHas {l : List Int} {n : Int} (hl : l.length ≤ maxLen) : Ev (fun k => impl_hasInt.f k l n) (decide (n ∈ l)) := by
  have key : ∀ (suf pre : List Int), l = pre ++ suf → Ev (fun k => impl_hasInt.l0 k n l (l.length : Int) pre.length) (decide (n ∈ suf)) := by
    intro suf
    induction suf with
    | nil =>
      intro pre h
      refine Ev.step (fun k => impl_hasInt.l0.eq_2 ..) ?_
      simp only [if_neg (end_at h), List.not_mem_nil, decide_false]
      exact Ev.now _
    | cons a suf ih =>
      intro pre h
      refine Ev.step (fun k => impl_hasInt.l0.eq_2 ..) ?_
      simp only [if_pos (lt_at h), if_pos (nonneg_at _), rd_int h, next_at h hl, List.mem_cons]
      by_cases e : a = n
      · simp only [e, if_true, true_or, decide_true]; exact Ev.now _
      · have e' : ¬ n = a := fun h => e h.symm
        simp only [e, e', if_false, false_or]; exact ih (pre ++ [a]) (snoc_at h)
  exact key l [] rfl
end Go.Proofs.Ytiddgglidkbipaa.L
