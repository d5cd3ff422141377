/- Does one of the lists hold; as the program and the reference have it. No condition. -/
import Derived.Test.YtigoeooelfeopaaVEvalIfQx0
import Derived.Test.YtigoeooelfeopaaVEvalIfQx3
import Derived.Test.YtigoeooelfeopaaVEvalIfQx4
import Derived.Test.YtigoeooelfeopaaVEvalIfLCondSS
import Derived.Test.YtigoeooelfeopaaVEvalIfLHas
set_option linter.unusedSimpArgs false
set_option linter.unusedVariables false
namespace Go.Proofs.Ytigoeooelfeopaa.L
open Go.RowKit Go.Proofs.YtigoeooelfeopaaW.PrintWords Go.Proofs.YtigoeooelfeopaaW.PrintLast Go.Proofs.Ytigoeooelfeopaa.Q
def condIs (toks : List Int) (tag : ByteArray) (c : S58) : Bool := (if c.f1 = 0 then (c.f2.toList == tag.toList) else decide (c.f1 ∈ toks)) != c.f0
def evalL (toks : List Int) (tag : ByteArray) (l : List (List S58)) : Bool := l.any (fun s => s.all (condIs toks tag))
theorem specEvalIf {t : List (List S58)} {toks : List Int} {tag : ByteArray} (ht : SmCondss t) (hk : toks.length ≤ maxLen) : Ev (fun k => spec_EvalIf.f k t toks tag) (evalL toks tag t) := by
  have hl : t.length ≤ maxLen := by have := ht.1; rw [maxLen_eq]; omega
  have inner : ∀ (a : List S58) (suf pre : List (List S58)) (R : Bool), t = pre ++ a :: suf → Ev (fun k => spec_EvalIf.l0 k t toks tag (wrap64 ((pre.length : Int) + 1))) R → ∀ (su pr : List S58) (all : Bool), a = pr ++ su → Ev (fun k => spec_EvalIf.l1 k t toks tag pre.length all pr.length) ((all && su.all (condIs toks tag)) || R) := by
    intro a suf pre R h hR su
    have hal : a.length ≤ maxLen := by have := (ht.2 a (by rw [h]; simp)).1; rw [maxLen_eq]; omega
    induction su with
    | nil =>
      intro pr all hp
      refine Ev.step (fun k => spec_EvalIf.l1.eq_2 ..) ?_
      simp only [if_pos (lt_at h), if_pos (nonneg_at _), rd_implCondL h, if_neg (end_at hp), List.all_nil, Bool.and_true]
      cases all
      · simp only [Bool.false_eq_true, if_false, Bool.false_or]; exact hR
      · simp only [if_true, Bool.true_or]; exact Ev.now _
    | cons c su ih =>
      intro pr all hp
      have hn : ∀ b, Ev (fun k => spec_EvalIf.l1 k t toks tag pre.length b (wrap64 ((pr.length : Int) + 1))) ((b && su.all (condIs toks tag)) || R) := fun b => by
        have := ih (pr ++ [c]) b (snoc_at hp); rwa [← next_at hp hal] at this
      refine Ev.step (fun k => spec_EvalIf.l1.eq_2 ..) ?_
      simp only [if_pos (lt_at h), if_pos (nonneg_at _), rd_implCondL h, if_pos (lt_at hp), rd_implCond hp, List.all_cons, condIs]
      by_cases c0 : c.f1 = 0
      · simp only [if_pos c0]
        cases all
        · simp only [Bool.false_eq_true, if_false, Bool.false_and]; exact ev_cast (hn false) (by simp)
        · simp only [if_true, Bool.true_and]; exact hn _
      · simp only [if_neg c0]
        refine Ev.bind (specHas hk) ?_
        cases all
        · simp only [Bool.false_eq_true, if_false, Bool.false_and]; exact ev_cast (hn false) (by simp)
        · simp only [if_true, Bool.true_and]; exact hn _
  have key : ∀ (suf pre : List (List S58)), t = pre ++ suf → Ev (fun k => spec_EvalIf.l0 k t toks tag pre.length) (evalL toks tag suf) := by
    intro suf
    induction suf with
    | nil =>
      intro pre h
      refine Ev.step (fun k => spec_EvalIf.l0.eq_2 ..) ?_
      simp only [if_neg (end_at h), evalL, List.any_nil]
      exact Ev.now _
    | cons a suf ih =>
      intro pre h
      have hn := ih (pre ++ [a]) (snoc_at h)
      rw [← next_at h hl] at hn
      refine Ev.step (fun k => spec_EvalIf.l0.eq_2 ..) ?_
      simp only [if_pos (lt_at h), evalL, List.any_cons]
      exact ev_cast (inner a suf pre _ h hn a [] true rfl) (by simp [evalL])
  exact key t [] rfl
theorem implEvalIf {t : List (List S58)} {toks : List Int} {tag : ByteArray} (ht : SmCondss t) (hk : toks.length ≤ maxLen) : Ev (fun k => impl_EvalIf.f k t toks tag) (evalL toks tag t) := by
  have hl : t.length ≤ maxLen := by have := ht.1; rw [maxLen_eq]; omega
  have inner : ∀ (a : List S58) (suf pre : List (List S58)) (R : Bool), t = pre ++ a :: suf → Ev (fun k => impl_EvalIf.l0 k toks tag t (t.length : Int) (wrap64 ((pre.length : Int) + 1))) R → ∀ (su pr : List S58) (all : Bool), a = pr ++ su → Ev (fun k => impl_EvalIf.l1 k toks tag all t (t.length : Int) pre.length a (a.length : Int) pr.length) ((all && su.all (condIs toks tag)) || R) := by
    intro a suf pre R h hR su
    have hal : a.length ≤ maxLen := by have := (ht.2 a (by rw [h]; simp)).1; rw [maxLen_eq]; omega
    induction su with
    | nil =>
      intro pr all hp
      refine Ev.step (fun k => impl_EvalIf.l1.eq_2 ..) ?_
      simp only [if_neg (end_at hp), List.all_nil, Bool.and_true]
      cases all
      · simp only [Bool.false_eq_true, if_false, Bool.false_or]; exact hR
      · simp only [if_true, Bool.true_or]; exact Ev.now _
    | cons c su ih =>
      intro pr all hp
      have hn : ∀ b, Ev (fun k => impl_EvalIf.l1 k toks tag b t (t.length : Int) pre.length a (a.length : Int) (wrap64 ((pr.length : Int) + 1))) ((b && su.all (condIs toks tag)) || R) := fun b => by
        have := ih (pr ++ [c]) b (snoc_at hp); rwa [← next_at hp hal] at this
      refine Ev.step (fun k => impl_EvalIf.l1.eq_2 ..) ?_
      simp only [if_pos (lt_at hp), if_pos (nonneg_at _), rd_implCond hp, List.all_cons, condIs]
      by_cases c0 : c.f1 = 0
      · simp only [if_pos c0]
        cases all
        · simp only [Bool.false_eq_true, if_false, Bool.false_and]; exact ev_cast (hn false) (by simp)
        · simp only [if_true, Bool.true_and]; exact hn _
      · simp only [if_neg c0]
        refine Ev.bind (implHas hk) ?_
        cases all
        · simp only [Bool.false_eq_true, if_false, Bool.false_and]; exact ev_cast (hn false) (by simp)
        · simp only [if_true, Bool.true_and]; exact hn _
  have key : ∀ (suf pre : List (List S58)), t = pre ++ suf → Ev (fun k => impl_EvalIf.l0 k toks tag t (t.length : Int) pre.length) (evalL toks tag suf) := by
    intro suf
    induction suf with
    | nil =>
      intro pre h
      refine Ev.step (fun k => impl_EvalIf.l0.eq_2 ..) ?_
      simp only [if_neg (end_at h), evalL, List.any_nil]
      exact Ev.now _
    | cons a suf ih =>
      intro pre h
      have hn := ih (pre ++ [a]) (snoc_at h)
      rw [← next_at h hl] at hn
      refine Ev.step (fun k => impl_EvalIf.l0.eq_2 ..) ?_
      simp only [if_pos (lt_at h), if_pos (nonneg_at _), rd_implCondL h, evalL, List.any_cons]
      exact ev_cast (inner a suf pre _ h hn a [] true rfl) (by simp [evalL])
  exact key t [] rfl
end Go.Proofs.Ytigoeooelfeopaa.L
