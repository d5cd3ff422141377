/- The law FnProps computes true: what is set is told, what is taken is not; in all, or not at all. No condition. -/
import Derived.Test.YtbgggcgjijljkaaVFnPropsG22
import Derived.Test.YtbgggcgjijljkaaVFnPropsG23
import Derived.Test.YtbgggcgjijljkaaVFnPropsG25
import Derived.Test.YtbgggcgjijljkaaVFnPropsG26
import Derived.Test.YtbgggcgjijljkaaVFnPropsG27
set_option linter.unusedSimpArgs false
set_option linter.unusedVariables false
namespace Go.Proofs.Ytbgggcgjijljkaa.Pure
open Go.RowKit Go.Proofs.YtbgggcgjijljkaaW.PrintWords Go.Proofs.YtbgggcgjijljkaaW.PrintLast Go.Proofs.Ytbgggcgjijljkaa.Q Go.Proofs.Ytbgggcgjijljkaa.L
theorem propOf_setS (s : S74) : ∀ (l : List S72) (d : Bool), propOf s.f1.f0 s.f1.f1 (setS s d l) = if d = true then (⟨#[]⟩, false) else (s.f1.f2, true)
  | [], d => by cases d <;> simp [setS, propOf]
  | a :: l, d => by
    have ih := propOf_setS s l
    have key : ∀ d, propOf s.f1.f0 s.f1.f1 ((if a.f0 = s.f1.f0 ∧ a.f1 = s.f1.f1 then [] else [a]) ++ setS s d l) = propOf s.f1.f0 s.f1.f1 (setS s d l) := by
      intro d
      by_cases c : a.f0 = s.f1.f0 ∧ a.f1 = s.f1.f1
      · rw [if_pos c]; rfl
      · rw [if_neg c]
        show (if a.f0 = s.f1.f0 ∧ a.f1 = s.f1.f1 then (a.f2, true) else propOf s.f1.f0 s.f1.f1 (setS s d l)) = _
        rw [if_neg c]
    unfold setS
    cases d
    · by_cases c : lessProp a s.f1 = true
      · simp only [Bool.false_eq_true, if_false, c, if_true, List.nil_append, Bool.not_true, Bool.or_false, key, ih]
      · rw [Bool.not_eq_true] at c
        simp [c, propOf]
    · simp only [if_true, List.nil_append, Bool.true_or, key, ih]
theorem setAll_last (l0 : List S72) (s : S74) : ∀ (sets : List S74) (out : List S72), (setAll l0 out (sets ++ [s])).2 = true → ∃ o, (setAll l0 out (sets ++ [s])).1 = setS s s.f0 o
  | [], out, h => by
    simp only [List.nil_append, setAll] at h ⊢
    by_cases c : propOk s.f1 = true
    · simp only [if_pos c] at h ⊢
      by_cases c2 : propsOk (setS s s.f0 out) = true
      · simp only [if_pos c2]; exact ⟨out, rfl⟩
      · simp only [if_neg c2] at h; cases h
    · simp only [if_neg c] at h; cases h
  | t :: sets, out, h => by
    simp only [List.cons_append, setAll] at h ⊢
    by_cases c : propOk t.f1 = true
    · simp only [if_pos c] at h ⊢
      exact setAll_last l0 s sets _ h
    · simp only [if_neg c] at h; cases h
theorem FnProps : ∀ (x0 : List Int), (fun l : List Int => l.length ≤ maxLen ∧ ∀ a ∈ l, (fun x : Int => (Lit.int .u8 x).wf = true) a) x0 → ∃ k, laws_FnProps.f k x0 = some true := by
  intro code h0
  apply Ev.rounds
  unfold laws_FnProps.f laws_big.f
  simp only [Option.bind_some]
  by_cases c : ((code.length : Int) > 1048576)
  · simp only [decide_eq_true c, if_true]; exact Ev.now _
  simp only [decide_eq_false c, Bool.false_eq_true, if_false]
  have hc : code.length ≤ 1048576 := by omega
  obtain ⟨l, sets, e1, hl, hs⟩ := drawSetPropsD hc
  obtain ⟨a, ns, name, e2, ha⟩ := drawPropOfD hc
  refine Ev.bind e1 ?_
  refine Ev.bind (implSetAll hl.sm hs.sm) ?_
  refine Ev.bind (specSetAll hl.sm hs.sm) ?_
  refine Ev.bind e2 ?_
  refine Ev.bind (implPropOf ha) ?_
  refine Ev.bind (specPropOf ha) ?_
  have hx := setAll_few (n := 8) (by omega) (l0 := l) hl sets l hs.2 hl.2
  simp only [bne_self_eq_false, Bool.false_eq_true, if_false]
  refine Ev.bind (samePropsD _ (by omega)) ?_
  simp only [if_true]
  refine Ev.step (fun k => laws_FnProps.j0.eq_2 ..) ?_
  simp only [Bool.false_eq_true, if_false]
  by_cases cok : (setAll l l sets).2 = true
  · simp only [if_pos cok]
    have hok := setAll_ok l sets l cok
    have hpo : Ev (fun k => impl_PropsOk.f k (setAll l l sets).1) true := ev_cast (implPropsOk ⟨by omega, hx.2⟩) hok
    rcases List.eq_nil_or_concat sets with e | ⟨pre, s, e⟩
    · subst e
      simp only [List.length_nil, show ¬ ((0 : Nat) : Int) > 0 by decide, if_false]
      exact Ev.bind hpo (Ev.now _)
    · rw [List.concat_eq_append] at e
      have e' : sets = pre ++ s :: [] := e
      have hlen : sets.length = pre.length + 1 := by rw [e]; simp
      have hs8 := hs.1
      have hi : wrap64 ((sets.length : Int) - 1) = (pre.length : Int) := by rw [wrap_id (by omega) (by omega)]; omega
      obtain ⟨o, ho⟩ : ∃ o, (setAll l l sets).1 = setS s s.f0 o := by
        rw [e] at cok ⊢; exact setAll_last l s pre l cok
      simp only [if_pos (show (sets.length : Int) > 0 by omega), hi, if_pos (nonneg_at _), if_pos (lt_at e'), rd_implSet e']
      refine Ev.bind (implPropOf ⟨by omega, hx.2⟩) ?_
      have hp : propOf s.f1.f0 s.f1.f1 (setAll l l sets).1 = if s.f0 = true then (⟨#[]⟩, false) else (s.f1.f2, true) := by rw [ho]; exact propOf_setS s o s.f0
      rw [hp]
      by_cases cd : s.f0 = true
      · simp only [cd, if_true, Bool.false_eq_true, if_false, show (false == true) = false from rfl]
        exact Ev.bind hpo (Ev.now _)
      · rw [Bool.not_eq_true] at cd
        simp only [cd, Bool.false_eq_true, if_false, show (true == false) = false from rfl, if_true]
        exact Ev.bind hpo (Ev.now _)
  · simp only [if_neg cok, setAll_no l sets l cok]
    exact Ev.bind (samePropsD l (by have := hl.1; omega)) (Ev.now _)
end Go.Proofs.Ytbgggcgjijljkaa.Pure
