/- The law FnExactChanges computes true: the program and the reference say the same. No condition. -/
import Derived.Test.YtigoeooelfeopaaVChangesQx2
import Derived.Test.YtigoeooelfeopaaVChangesLBase
set_option linter.unusedSimpArgs false
set_option linter.unusedVariables false
namespace Go.Proofs.Ytigoeooelfeopaa.Pure
open Go.RowKit Go.Proofs.YtigoeooelfeopaaW.PrintWords Go.Proofs.YtigoeooelfeopaaW.PrintLast Go.Proofs.Ytigoeooelfeopaa.Q Go.Proofs.Ytigoeooelfeopaa.L
theorem specL9Has {l : List ByteArray} {s : ByteArray} (hl : l.length ≤ maxLen) : Ev (fun k => spec_l9Has.f k l s) (l.any (fun a => decide (a = s))) := by
  have key : ∀ (suf pre : List ByteArray), l = pre ++ suf → Ev (fun k => spec_l9Has.l0 k l s pre.length) (suf.any (fun a => decide (a = s))) := by
    intro suf
    induction suf with
    | nil =>
      intro pre h
      refine Ev.step (fun k => spec_l9Has.l0.eq_2 ..) ?_
      simp only [if_neg (end_at h), List.any_nil]
      exact Ev.now _
    | cons a suf ih =>
      intro pre h
      refine Ev.step (fun k => spec_l9Has.l0.eq_2 ..) ?_
      simp only [if_pos (lt_at h), if_pos (nonneg_at _), rd_at _ h, ba_eq, next_at h hl, List.any_cons]
      by_cases e : a = s
      · simp only [e, if_true, decide_true, Bool.true_or]; exact Ev.now _
      · simp only [e, if_false, decide_false, Bool.false_or]; exact ih (pre ++ [a]) (snoc_at h)
  exact key l [] rfl
theorem FnExactChanges : laws_FnExactChanges.Pure := by
  intro x0 g0
  apply Ev.rounds
  unfold laws_FnExactChanges.f
  by_cases c0 : (x0.size : Int) > 1048576
  · simp only [if_pos c0]; exact Ev.now _
  simp only [if_neg c0]
  unfold spec_Changes.f
  refine Ev.bind (Ev.bind (specL9Has (by decide)) (Ev.now _)) ?_
  unfold impl_Changes.f
  have e : ∀ l : List UInt8, (x0.toList = l) = (x0 = ⟨l.toArray⟩) := fun l => by
    rw [← ba_eq, ba_toList ⟨l.toArray⟩]
  simp only [e, List.any_cons, List.any_nil, Bool.or_false, eq_comm (b := x0)]
  by_cases h0 : x0 = ⟨#[80, 85, 84]⟩
  · simp only [h0, if_true, if_false, decide_true, decide_false, Bool.true_or, Bool.or_true, Bool.false_or, bne_self_eq_false, Bool.false_eq_true]; exact Ev.now _
  by_cases h1 : x0 = ⟨#[77, 75, 67, 79, 76]⟩
  · simp only [h0, h1, if_true, if_false, decide_true, decide_false, Bool.true_or, Bool.or_true, Bool.false_or, bne_self_eq_false, Bool.false_eq_true]; exact Ev.now _
  by_cases h2 : x0 = ⟨#[68, 69, 76, 69, 84, 69]⟩
  · simp only [h0, h1, h2, if_true, if_false, decide_true, decide_false, Bool.true_or, Bool.or_true, Bool.false_or, bne_self_eq_false, Bool.false_eq_true]; exact Ev.now _
  by_cases h3 : x0 = ⟨#[67, 79, 80, 89]⟩
  · simp only [h0, h1, h2, h3, if_true, if_false, decide_true, decide_false, Bool.true_or, Bool.or_true, Bool.false_or, bne_self_eq_false, Bool.false_eq_true]; exact Ev.now _
  by_cases h4 : x0 = ⟨#[77, 79, 86, 69]⟩
  · simp only [h0, h1, h2, h3, h4, if_true, if_false, decide_true, decide_false, Bool.true_or, Bool.or_true, Bool.false_or, bne_self_eq_false, Bool.false_eq_true]; exact Ev.now _
  by_cases h5 : x0 = ⟨#[80, 82, 79, 80, 80, 65, 84, 67, 72]⟩
  · simp only [h0, h1, h2, h3, h4, h5, if_true, if_false, decide_true, decide_false, Bool.true_or, Bool.or_true, Bool.false_or, bne_self_eq_false, Bool.false_eq_true]; exact Ev.now _
  by_cases h6 : x0 = ⟨#[76, 79, 67, 75]⟩
  · simp only [h0, h1, h2, h3, h4, h5, h6, if_true, if_false, decide_true, decide_false, Bool.true_or, Bool.or_true, Bool.false_or, bne_self_eq_false, Bool.false_eq_true]; exact Ev.now _
  by_cases h7 : x0 = ⟨#[85, 78, 76, 79, 67, 75]⟩
  · simp only [h0, h1, h2, h3, h4, h5, h6, h7, if_true, if_false, decide_true, decide_false, Bool.true_or, Bool.or_true, Bool.false_or, bne_self_eq_false, Bool.false_eq_true]; exact Ev.now _
  simp only [h0, h1, h2, h3, h4, h5, h6, h7, if_true, if_false, decide_true, decide_false, Bool.false_or, bne_self_eq_false, Bool.false_eq_true]; exact Ev.now _
end Go.Proofs.Ytigoeooelfeopaa.Pure
