/- Paths, one ahead of the other: what the program and the reference say. No condition. -/
import Derived.Test.YteabkidfgdmmpaaQx2
import Derived.Test.YteabkidfgdmmpaaLBase
set_option linter.unusedSimpArgs false
set_option linter.unusedVariables false
namespace Go.Proofs.Yteabkidfgdmmpaa.L
open Go.RowKit Go.Proofs.YteabkidfgdmmpaaW.PrintWords Go.Proofs.YteabkidfgdmmpaaW.PrintLast Go.Proofs.Yteabkidfgdmmpaa.Q

/-- Name by name, a beginning ahead. -/
def lessP : List ByteArray → List ByteArray → Bool
  | [], [] => false
  | [], _ :: _ => true
  | _ :: _, [] => false
  | x :: a, y :: b => if x = y then lessP a b else Op.bytesLess x.toList y.toList
theorem len_lt {α : Type} {l m pu pv su sv : List α} (h : l = pu ++ su) (h' : m = pv ++ sv) (hp : pu.length = pv.length) : ((l.length : Int) < (m.length : Int)) = (su.length < sv.length) := by
  subst h; subst h'; simp [hp]
theorem implLess_loop {a b : List ByteArray} (hl : a.length ≤ maxLen) : ∀ (su sv pu pv : List ByteArray), a = pu ++ su → b = pv ++ sv → pu.length = pv.length → Ev (fun k => impl_LessPath.l0 k a b pu.length) (lessP su sv) := by
  intro su
  induction su with
  | nil =>
    intro sv pu pv h h' hp
    refine Ev.step (fun k => impl_LessPath.l0.eq_2 ..) ?_
    simp only [if_neg (end_at h)]
    refine Ev.step (fun k => impl_LessPath.j1.eq_2 ..) ?_
    simp only [Bool.false_eq_true, if_false, len_lt h h' hp]
    cases sv <;> simp only [lessP] <;> exact Ev.now _
  | cons x su ih =>
    intro sv pu pv h h' hp
    refine Ev.step (fun k => impl_LessPath.l0.eq_2 ..) ?_
    simp only [if_pos (lt_at h)]
    refine Ev.step (fun k => impl_LessPath.j1.eq_2 ..) ?_
    cases sv with
    | nil =>
      have h4 := end_at h'
      rw [← hp] at h4
      simp only [h4, decide_false, Bool.false_eq_true, if_false, len_lt h h' hp, lessP]
      exact Ev.now _
    | cons y sv =>
      have h3 := rd_at ByteArray.empty h'
      have h4 := lt_at h'
      rw [← hp] at h3 h4
      by_cases e : x = y
      · subst e
        simp only [h4, decide_true, if_true, if_pos (lt_at h), if_pos (nonneg_at _), rd_at _ h, h3, next_at h hl, lessP]
        exact ih sv (pu ++ [x]) (pv ++ [x]) (snoc_at h) (snoc_at h') (by simp [hp])
      · simp only [h4, decide_true, if_true, if_pos (lt_at h), if_pos (nonneg_at _), rd_at _ h, h3, ba_eq, if_neg e, lessP]
        exact Ev.now _
theorem implLess {a b : List ByteArray} (hl : a.length ≤ maxLen) : Ev (fun k => impl_LessPath.f k a b) (lessP a b) := implLess_loop hl a b [] [] rfl rfl rfl
theorem specLess_loop {a b : List ByteArray} (hl : a.length ≤ maxLen) : ∀ (su sv pu pv : List ByteArray), a = pu ++ su → b = pv ++ sv → pu.length = pv.length → Ev (fun k => spec_LessPath.l0 k a b pu.length) (lessP su sv) := by
  intro su
  induction su with
  | nil =>
    intro sv pu pv h h' hp
    refine Ev.step (fun k => spec_LessPath.l0.eq_2 ..) ?_
    simp only [if_neg (end_at h)]
    refine Ev.step (fun k => spec_LessPath.j1.eq_2 ..) ?_
    simp only [Bool.false_eq_true, if_false, len_lt h h' hp]
    cases sv <;> simp only [lessP] <;> exact Ev.now _
  | cons x su ih =>
    intro sv pu pv h h' hp
    refine Ev.step (fun k => spec_LessPath.l0.eq_2 ..) ?_
    simp only [if_pos (lt_at h)]
    refine Ev.step (fun k => spec_LessPath.j1.eq_2 ..) ?_
    cases sv with
    | nil =>
      have h4 := end_at h'
      rw [← hp] at h4
      simp only [h4, decide_false, Bool.false_eq_true, if_false, len_lt h h' hp, lessP]
      exact Ev.now _
    | cons y sv =>
      have h3 := rd_at ByteArray.empty h'
      have h4 := lt_at h'
      rw [← hp] at h3 h4
      by_cases e : x = y
      · subst e
        simp only [h4, decide_true, if_true, if_pos (lt_at h), if_pos (nonneg_at _), rd_at _ h, h3, next_at h hl, lessP]
        exact ih sv (pu ++ [x]) (pv ++ [x]) (snoc_at h) (snoc_at h') (by simp [hp])
      · simp only [h4, decide_true, if_true, if_pos (lt_at h), if_pos (nonneg_at _), rd_at _ h, h3, ba_eq, if_neg e, lessP]
        exact Ev.now _
theorem specLess {a b : List ByteArray} (hl : a.length ≤ maxLen) : Ev (fun k => spec_LessPath.f k a b) (lessP a b) := specLess_loop hl a b [] [] rfl rfl rfl
end Go.Proofs.Yteabkidfgdmmpaa.L
