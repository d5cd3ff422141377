/- Properties: are they right, and which one is of a space and a name; as the program and the reference have it. No condition. -/
import Derived.Test.YteabkidfgdmmpaaVTreeOkG22
import Derived.Test.YteabkidfgdmmpaaVTreeOkG23
import Derived.Test.YteabkidfgdmmpaaVTreeOkG24
import Derived.Test.YteabkidfgdmmpaaVTreeOkG25
import Derived.Test.YteabkidfgdmmpaaVTreeOkG26
import Derived.Test.YteabkidfgdmmpaaVTreeOkG27
import Derived.Test.YteabkidfgdmmpaaVTreeOkG33
import Derived.Test.YteabkidfgdmmpaaVTreeOkG29
import Derived.Test.YteabkidfgdmmpaaVTreeOkG30
import Derived.Test.YteabkidfgdmmpaaVTreeOkG31
import Derived.Test.YteabkidfgdmmpaaVTreeOkG32
set_option linter.unusedSimpArgs false
set_option linter.unusedVariables false
namespace Go.Proofs.Yteabkidfgdmmpaa.L
open Go.RowKit Go.Proofs.YteabkidfgdmmpaaW.PrintWords Go.Proofs.YteabkidfgdmmpaaW.PrintLast Go.Proofs.Yteabkidfgdmmpaa.Q
def propOk (p : S71) : Bool := decide ((p.f0.size : Int) ≤ 20) && plainL (bl p.f0) && smallName p.f1 && decide ((p.f2.size : Int) ≤ 20) && plainL (bl p.f2)
def lessProp (p q : S71) : Bool := if p.f0 = q.f0 then Op.bytesLess p.f1.toList q.f1.toList else Op.bytesLess p.f0.toList q.f0.toList
theorem bytesLess_irrefl : ∀ l : List UInt8, Op.bytesLess l l = false
  | [] => rfl
  | a :: l => by simp [Op.bytesLess, bytesLess_irrefl l]
theorem specPropOk {p : S71} (hp : SmProp p) : Ev (fun k => spec_l10Prop.f k p.f0 p.f1 p.f2) (propOk p) := by
  obtain ⟨g0, g1, g2⟩ := hp
  have h : ∀ s : ByteArray, s.size ≤ 1048576 → s.size ≤ maxLen := fun s h => by rw [maxLen_eq]; omega
  unfold spec_l10Prop.f propOk
  by_cases c0 : (p.f0.size : Int) ≤ 20
  · simp only [if_pos c0, c0, decide_true, Bool.true_and]
    refine Ev.bind (specPlain (h _ g0)) ?_
    by_cases c1 : plainL (bl p.f0) = true
    · simp only [c1, if_true, Bool.true_and]
      refine Ev.bind (specSmall (h _ g1)) ?_
      by_cases c2 : smallName p.f1 = true
      · simp only [c2, if_true, Bool.true_and]
        by_cases c3 : (p.f2.size : Int) ≤ 20
        · simp only [if_pos c3, c3, decide_true, Bool.true_and]
          exact Ev.bind (specPlain (h _ g2)) (Ev.now _)
        · simp only [if_neg c3, c3, decide_false, Bool.false_and]
          exact Ev.now _
      · simp only [c2, Bool.false_eq_true, if_false, Bool.false_and]
        exact Ev.now _
    · simp only [c1, Bool.false_eq_true, if_false, Bool.false_and]
      exact Ev.now _
  · simp only [if_neg c0, c0, decide_false, Bool.false_and]
    exact Ev.now _
theorem implPropOk {p : S71} (hp : SmProp p) : Ev (fun k => impl_propOk.f k p.f0 p.f1 p.f2) (propOk p) := by
  obtain ⟨g0, g1, g2⟩ := hp
  have h : ∀ s : ByteArray, s.size ≤ 1048576 → s.size ≤ maxLen := fun s h => by rw [maxLen_eq]; omega
  unfold impl_propOk.f propOk
  by_cases c0 : (p.f0.size : Int) ≤ 20
  · simp only [if_pos c0, c0, decide_true, Bool.true_and]
    refine Ev.bind (implPlain (h _ g0)) ?_
    by_cases c1 : plainL (bl p.f0) = true
    · simp only [c1, if_true, Bool.true_and]
      refine Ev.bind (implSmall (h _ g1)) ?_
      by_cases c2 : smallName p.f1 = true
      · simp only [c2, if_true, Bool.true_and]
        by_cases c3 : (p.f2.size : Int) ≤ 20
        · simp only [if_pos c3, c3, decide_true, Bool.true_and]
          exact Ev.bind (implPlain (h _ g2)) (Ev.now _)
        · simp only [if_neg c3, c3, decide_false, Bool.false_and]
          exact Ev.now _
      · simp only [c2, Bool.false_eq_true, if_false, Bool.false_and]
        exact Ev.now _
    · simp only [c1, Bool.false_eq_true, if_false, Bool.false_and]
      exact Ev.now _
  · simp only [if_neg c0, c0, decide_false, Bool.false_and]
    exact Ev.now _
theorem specLessProp (p q : S71) : spec_l10LessProp.f p.f0 p.f1 p.f2 q.f0 q.f1 q.f2 = some (lessProp p q) := by
  unfold spec_l10LessProp.f lessProp
  simp only [ba_eq]
  by_cases e : p.f0 = q.f0 <;> simp [e]
theorem implLessProp (p q : S71) : impl_lessProp.f p.f0 p.f1 p.f2 q.f0 q.f1 q.f2 = some (lessProp p q) := by
  unfold impl_lessProp.f lessProp
  simp only [ba_eq]
  by_cases e : p.f0 = q.f0
  · simp [e, bytesLess_irrefl]
  · simp only [if_neg e]
    cases Op.bytesLess p.f0.toList q.f0.toList <;> simp
def propsL : Option S71 → List S71 → Bool
  | _, [] => true
  | last, p :: l => propOk p && (match last with | none => true | some q => lessProp q p) && propsL (some p) l
def propsOk (l : List S71) : Bool := propsL none l && decide ((l.length : Int) ≤ 4)
theorem pred_at {α : Type} {l pre suf : List α} {a b : α} (h : l = pre ++ [b] ++ a :: suf) (hl : l.length ≤ maxLen) : wrap64 (((pre ++ [b]).length : Int) - 1) = (pre.length : Int) := by
  have : l.length = pre.length + 1 + (suf.length + 1) := by rw [h]; simp; omega
  rw [maxLen_eq] at hl
  have e : ((pre ++ [b]).length : Int) = pre.length + 1 := by simp
  rw [e, wrap_id (by omega) (by omega)]
  omega
theorem specPropsOk {l : List S71} (hs : SmProps l) : Ev (fun k => spec_PropsOk.f k l) (propsOk l) := by
  have hl : l.length ≤ maxLen := by have := hs.1; rw [maxLen_eq]; omega
  have key : ∀ (suf pre : List S71), l = pre ++ suf → Ev (fun k => spec_PropsOk.l0 k l pre.length) (propsL pre.getLast? suf && decide ((l.length : Int) ≤ 4)) := by
    intro suf
    induction suf with
    | nil =>
      intro pre h
      refine Ev.step (fun k => spec_PropsOk.l0.eq_2 ..) ?_
      simp only [if_neg (end_at h), propsL, Bool.true_and]
      exact Ev.now _
    | cons a suf ih =>
      intro pre h
      have hn := ih (pre ++ [a]) (snoc_at h)
      rw [List.getLast?_append] at hn
      simp only [List.getLast?_singleton, Option.some_or] at hn
      refine Ev.step (fun k => spec_PropsOk.l0.eq_2 ..) ?_
      simp only [if_pos (lt_at h), if_pos (nonneg_at _), rd_implProp h]
      refine Ev.bind (specPropOk (hs.2 a (by rw [h]; simp))) ?_
      simp only [propsL]
      by_cases c0 : propOk a = true
      · simp only [c0, if_true, Bool.true_and]
        rcases List.eq_nil_or_concat pre with rfl | ⟨pre', b, rfl⟩
        · simp only [List.length_nil, Int.natCast_zero, show ¬ (0 : Int) > 0 by omega, if_false, List.getLast?_nil, Bool.true_and]
          have := next_at h hl
          simp only [List.length_nil, Int.natCast_zero] at this
          rw [this]
          exact hn
        · rw [List.concat_eq_append] at h hn ⊢
          have hp := pred_at h hl
          have h2 : l = pre' ++ b :: (a :: suf) := by rw [h]; simp
          simp only [show (((pre' ++ [b]).length : Nat) : Int) > 0 by first | (simp; done) | (simp; omega), if_true, hp, if_pos (nonneg_at _), if_pos (lt_at h2), rd_implProp h2, specLessProp, Option.bind_some, List.getLast?_append, List.getLast?_singleton, Option.some_or, next_at h hl]
          by_cases c1 : lessProp b a = true
          · simp only [c1, if_true, Bool.true_and]
            exact hn
          · simp only [c1, Bool.false_eq_true, if_false, Bool.false_and]
            exact Ev.now _
      · simp only [c0, Bool.false_eq_true, if_false, Bool.false_and]
        exact Ev.now _
  exact key l [] rfl
theorem implPropsOk {l : List S71} (hs : SmProps l) : Ev (fun k => impl_PropsOk.f k l) (propsOk l) := by
  have hl : l.length ≤ maxLen := by have := hs.1; rw [maxLen_eq]; omega
  have key : ∀ (suf pre : List S71), l = pre ++ suf → Ev (fun k => impl_PropsOk.l0 k l l (l.length : Int) pre.length) (propsL pre.getLast? suf && decide ((l.length : Int) ≤ 4)) := by
    intro suf
    induction suf with
    | nil =>
      intro pre h
      refine Ev.step (fun k => impl_PropsOk.l0.eq_2 ..) ?_
      simp only [if_neg (end_at h), propsL, Bool.true_and]
      exact Ev.now _
    | cons a suf ih =>
      intro pre h
      have hn := ih (pre ++ [a]) (snoc_at h)
      rw [List.getLast?_append] at hn
      simp only [List.getLast?_singleton, Option.some_or] at hn
      refine Ev.step (fun k => impl_PropsOk.l0.eq_2 ..) ?_
      simp only [if_pos (lt_at h), if_pos (nonneg_at _), rd_implProp h]
      refine Ev.bind (implPropOk (hs.2 a (by rw [h]; simp))) ?_
      simp only [propsL]
      by_cases c0 : propOk a = true
      · simp only [c0, if_true, Bool.true_and]
        rcases List.eq_nil_or_concat pre with rfl | ⟨pre', b, rfl⟩
        · simp only [List.length_nil, Int.natCast_zero, show ¬ (0 : Int) > 0 by omega, if_false, List.getLast?_nil, Bool.true_and]
          have := next_at h hl
          simp only [List.length_nil, Int.natCast_zero] at this
          rw [this]
          exact hn
        · rw [List.concat_eq_append] at h hn ⊢
          have hp := pred_at h hl
          have h2 : l = pre' ++ b :: (a :: suf) := by rw [h]; simp
          simp only [show (((pre' ++ [b]).length : Nat) : Int) > 0 by first | (simp; done) | (simp; omega), if_true, hp, if_pos (nonneg_at _), if_pos (lt_at h2), rd_implProp h2, implLessProp, Option.bind_some, List.getLast?_append, List.getLast?_singleton, Option.some_or, next_at h hl]
          by_cases c1 : lessProp b a = true
          · simp only [c1, if_true, Bool.true_and]
            exact hn
          · simp only [c1, Bool.false_eq_true, if_false, Bool.false_and]
            exact Ev.now _
      · simp only [c0, Bool.false_eq_true, if_false, Bool.false_and]
        exact Ev.now _
  exact key l [] rfl
end Go.Proofs.Yteabkidfgdmmpaa.L

/- Paths, one ahead of the other: what the program and the reference say. No condition. -/
set_option linter.unusedSimpArgs false
set_option linter.unusedVariables false
namespace Go.Proofs.Yteabkidfgdmmpaa.L
open Go.RowKit Go.Proofs.YteabkidfgdmmpaaW.PrintWords Go.Proofs.YteabkidfgdmmpaaW.PrintLast Go.Proofs.Yteabkidfgdmmpaa.Q
def lessP : List ByteArray → List ByteArray → Bool
  | [], [] => false
  | [], _ :: _ => true
  | _ :: _, [] => false
  | x :: a, y :: b => if x = y then lessP a b else Op.bytesLess x.toList y.toList
theorem len_lt {α : Type} {l m pu pv su sv : List α} (h : l = pu ++ su) (h' : m = pv ++ sv) (hp : pu.length = pv.length) : ((l.length : Int) < (m.length : Int)) = (su.length < sv.length) := by
  subst h; subst h'; simp [hp]
theorem implLess_loop {a b : List ByteArray} (hl : a.length ≤ maxLen) : ∀ (su sv pu pv : List ByteArray), a = pu ++ su → b = pv ++ sv → pu.length = pv.length → Ev (fun k => impl_LessPath.l0 k a b pu.length) (lessP su sv) := by
  intro su
  induction su with
  | nil =>
    intro sv pu pv h h' hp
    refine Ev.step (fun k => impl_LessPath.l0.eq_2 ..) ?_
    simp only [if_neg (end_at h)]
    refine Ev.step (fun k => impl_LessPath.j1.eq_2 ..) ?_
    simp only [Bool.false_eq_true, if_false, len_lt h h' hp]
    cases sv <;> simp only [lessP] <;> exact Ev.now _
  | cons x su ih =>
    intro sv pu pv h h' hp
    refine Ev.step (fun k => impl_LessPath.l0.eq_2 ..) ?_
    simp only [if_pos (lt_at h)]
    refine Ev.step (fun k => impl_LessPath.j1.eq_2 ..) ?_
    cases sv with
    | nil =>
      have h4 := end_at h'
      rw [← hp] at h4
      simp only [h4, decide_false, Bool.false_eq_true, if_false, len_lt h h' hp, lessP]
      exact Ev.now _
    | cons y sv =>
      have h3 := rd_at ByteArray.empty h'
      have h4 := lt_at h'
      rw [← hp] at h3 h4
      by_cases e : x = y
      · subst e
        simp only [h4, decide_true, if_true, if_pos (lt_at h), if_pos (nonneg_at _), rd_at _ h, h3, next_at h hl, lessP]
        exact ih sv (pu ++ [x]) (pv ++ [x]) (snoc_at h) (snoc_at h') (by simp [hp])
      · simp only [h4, decide_true, if_true, if_pos (lt_at h), if_pos (nonneg_at _), rd_at _ h, h3, ba_eq, if_neg e, lessP]
        exact Ev.now _
theorem implLess {a b : List ByteArray} (hl : a.length ≤ maxLen) : Ev (fun k => impl_LessPath.f k a b) (lessP a b) := implLess_loop hl a b [] [] rfl rfl rfl
theorem specLess_loop {a b : List ByteArray} (hl : a.length ≤ maxLen) : ∀ (su sv pu pv : List ByteArray), a = pu ++ su → b = pv ++ sv → pu.length = pv.length → Ev (fun k => spec_LessPath.l0 k a b pu.length) (lessP su sv) := by
  intro su
  induction su with
  | nil =>
    intro sv pu pv h h' hp
    refine Ev.step (fun k => spec_LessPath.l0.eq_2 ..) ?_
    simp only [if_neg (end_at h)]
    refine Ev.step (fun k => spec_LessPath.j1.eq_2 ..) ?_
    simp only [Bool.false_eq_true, if_false, len_lt h h' hp]
    cases sv <;> simp only [lessP] <;> exact Ev.now _
  | cons x su ih =>
    intro sv pu pv h h' hp
    refine Ev.step (fun k => spec_LessPath.l0.eq_2 ..) ?_
    simp only [if_pos (lt_at h)]
    refine Ev.step (fun k => spec_LessPath.j1.eq_2 ..) ?_
    cases sv with
    | nil =>
      have h4 := end_at h'
      rw [← hp] at h4
      simp only [h4, decide_false, Bool.false_eq_true, if_false, len_lt h h' hp, lessP]
      exact Ev.now _
    | cons y sv =>
      have h3 := rd_at ByteArray.empty h'
      have h4 := lt_at h'
      rw [← hp] at h3 h4
      by_cases e : x = y
      · subst e
        simp only [h4, decide_true, if_true, if_pos (lt_at h), if_pos (nonneg_at _), rd_at _ h, h3, next_at h hl, lessP]
        exact ih sv (pu ++ [x]) (pv ++ [x]) (snoc_at h) (snoc_at h') (by simp [hp])
      · simp only [h4, decide_true, if_true, if_pos (lt_at h), if_pos (nonneg_at _), rd_at _ h, h3, ba_eq, if_neg e, lessP]
        exact Ev.now _
theorem specLess {a b : List ByteArray} (hl : a.length ≤ maxLen) : Ev (fun k => spec_LessPath.f k a b) (lessP a b) := specLess_loop hl a b [] [] rfl rfl rfl
end Go.Proofs.Yteabkidfgdmmpaa.L

/- Shelves: are they right; as the program and the reference have it. No condition. -/
set_option linter.unusedSimpArgs false
set_option linter.unusedVariables false
namespace Go.Proofs.Yteabkidfgdmmpaa.L
open Go.RowKit Go.Proofs.YteabkidfgdmmpaaW.PrintWords Go.Proofs.YteabkidfgdmmpaaW.PrintLast Go.Proofs.Yteabkidfgdmmpaa.Q
theorem size0 (s : ByteArray) : (s.toList = ([] : List UInt8)) = (bl s = []) := by rw [ba_toList]
def resOk (r : S59) : Bool := decide (r.f0 ≠ []) && (pathOk r.f0 && (decide (r.f1 = true → bl r.f2 = []) && (decide ((r.f2.size : Int) ≤ 200) && (decide (0 ≤ r.f3 ∧ r.f3 ≤ 99999) && propsOk r.f4))))
theorem implResOk {r : S59} (hr : SmRes r) : Ev (fun k => impl_resOk.f k r.f0 r.f1 r.f2 r.f3 r.f4) (resOk r) := by
  obtain ⟨g0, _, g2, g3, g4⟩ := hr
  unfold impl_resOk.f resOk
  by_cases c0 : r.f0 = []
  · simp only [c0, List.length_nil, Int.natCast_zero, gt_iff_lt, Int.lt_irrefl, if_false, ne_eq, not_true_eq_false, decide_false, Bool.false_and]
    exact Ev.now _
  have h0 : (r.f0.length : Int) > 0 := by have := List.length_pos_iff.2 c0; omega
  simp only [if_pos h0, ne_eq, c0, not_false_eq_true, decide_true, Bool.true_and]
  refine Ev.bind (implPathOk g0) ?_
  by_cases c1 : pathOk r.f0 = true
  rotate_left
  · simp only [c1, Bool.false_eq_true, if_false, Bool.false_and]; exact Ev.now _
  simp only [c1, if_true, Bool.true_and, size0, implIn, Option.bind_some, decide_eq_true_eq]
  have tail : Ev (fun n => if (r.f2.size : Int) ≤ 200 then (if 0 ≤ r.f3 ∧ r.f3 ≤ 99999 then ((impl_PropsOk.f n r.f4).bind fun t609 => some t609) else some false) else some false) (decide ((r.f2.size : Int) ≤ 200) && (decide (0 ≤ r.f3 ∧ r.f3 ≤ 99999) && propsOk r.f4)) := by
    by_cases c2 : (r.f2.size : Int) ≤ 200
    · simp only [c2, if_true, decide_true, Bool.true_and]
      by_cases c3 : 0 ≤ r.f3 ∧ r.f3 ≤ 99999
      · simp only [c3, and_self, if_true, decide_true, Bool.true_and]
        exact Ev.bind (implPropsOk g4) (Ev.now _)
      · simp only [c3, if_false, decide_false, Bool.false_and]
        exact Ev.now _
    · simp only [c2, if_false, decide_false, Bool.false_and]
      exact Ev.now _
  by_cases c4 : r.f1 = true
  · simp only [c4, if_true, true_imp_iff]
    by_cases c5 : bl r.f2 = []
    · simp only [c5, if_true, decide_true, Bool.true_and]
      exact tail
    · simp only [c5, if_false, decide_false, Bool.false_and]
      exact Ev.now _
  · simp only [c4, Bool.false_eq_true, if_false, false_imp_iff, decide_true, Bool.true_and]
    exact tail
def treeL (t : List S59) : Option S59 → List S59 → Bool
  | _, [] => true
  | last, r :: l => resOk r && ((match last with | none => true | some q => lessP q.f0 r.f0) && (isColl t (above r.f0) && treeL t (some r) l))
def treeOk (t : List S59) : Bool := treeL t none t && decide ((t.length : Int) ≤ 12)
theorem specTreeOk {t : List S59} (ht : SmRess t) : Ev (fun k => spec_TreeOk.f k t) (treeOk t) := by
  have hl : t.length ≤ maxLen := by have := ht.1; rw [maxLen_eq]; omega
  have key : ∀ (suf pre : List S59), t = pre ++ suf → Ev (fun k => spec_TreeOk.l0 k t pre.length) (treeL t pre.getLast? suf && decide ((t.length : Int) ≤ 12)) := by
    intro suf
    induction suf with
    | nil =>
      intro pre h
      refine Ev.step (fun k => spec_TreeOk.l0.eq_2 ..) ?_
      simp only [if_neg (end_at h), treeL, Bool.true_and]
      exact Ev.now _
    | cons a suf ih =>
      intro pre h
      have hn := ih (pre ++ [a]) (snoc_at h)
      rw [List.getLast?_append] at hn
      simp only [List.getLast?_singleton, Option.some_or] at hn
      have ha := ht.2 a (by rw [h]; simp)
      obtain ⟨g0, _, g2, g3, g4⟩ := ha
      have hla : a.f0.length ≤ maxLen := by have := g0.1; rw [maxLen_eq]; omega
      have join : ∀ b : Bool, b = (!resOk a) → Ev (fun k => spec_TreeOk.j1 k t pre.length b a.f0 a.f1 a.f2 a.f3 a.f4) (treeL t pre.getLast? (a :: suf) && decide ((t.length : Int) ≤ 12)) := by
        intro b hb
        refine Ev.step (fun k => spec_TreeOk.j1.eq_2 ..) ?_
        simp only [treeL, hb]
        by_cases c0 : resOk a = true
        rotate_left
        · simp only [c0, Bool.not_false, if_true, Bool.false_and]; exact Ev.now _
        simp only [c0, Bool.not_true, Bool.false_eq_true, if_false, Bool.true_and]
        have fin : Ev (fun n => (spec_Above.f a.f0).bind fun t593 => (spec_IsColl.f n t t593).bind fun t596 => if t596 = true then spec_TreeOk.l0 n t (wrap64 ((pre.length : Int) + 1)) else some false) (isColl t (above a.f0) && treeL t (some a) suf && decide ((t.length : Int) ≤ 12)) := by
          simp only [specAbove g0.1, Option.bind_some]
          refine Ev.bind (specIsColl ht) ?_
          by_cases c2 : isColl t (above a.f0) = true
          · simp only [c2, if_true, Bool.true_and, next_at h hl]; exact hn
          · simp only [c2, Bool.false_eq_true, if_false, Bool.false_and]; exact Ev.now _
        rcases List.eq_nil_or_concat pre with rfl | ⟨pre', b', rfl⟩
        · simp only [List.length_nil, Int.natCast_zero, show ¬ (0 : Int) > 0 by omega, if_false, List.getLast?_nil, Bool.true_and]
          exact fin
        · rw [List.concat_eq_append] at h hn fin ⊢
          have hp := pred_at h hl
          have h2 : t = pre' ++ b' :: (a :: suf) := by rw [h]; simp
          have hb' := (ht.2 b' (by rw [h]; simp)).1.1
          simp only [show (((pre' ++ [b']).length : Nat) : Int) > 0 by first | (simp; done) | (simp; omega), if_true, hp, if_pos (nonneg_at _), if_pos (lt_at h2), rd_implRes h2, List.getLast?_append, List.getLast?_singleton, Option.some_or]
          refine Ev.bind (specLess (by rw [maxLen_eq]; omega)) ?_
          by_cases c1 : lessP b'.f0 a.f0 = true
          · simp only [c1, if_true, Bool.true_and]
            exact fin
          · simp only [c1, Bool.false_eq_true, if_false, Bool.false_and]
            exact Ev.now _
      refine Ev.step (fun k => spec_TreeOk.l0.eq_2 ..) ?_
      simp only [if_pos (lt_at h), if_pos (nonneg_at _), rd_implRes h, nil_len, size0, specIn, Option.bind_some, decide_eq_true_eq]
      unfold resOk at join
      by_cases c0 : a.f0 = []
      · simp only [if_pos c0]
        exact join true (by simp [c0])
      simp only [if_neg c0]
      refine Ev.bind (specPathOk g0) ?_
      by_cases c1 : pathOk a.f0 = true
      rotate_left
      · simp only [c1, Bool.false_eq_true, if_false]
        exact join true (by simp [c1])
      simp only [c1, if_true]
      by_cases c2 : (a.f2.size : Int) > 200
      · simp only [if_pos c2]
        exact join true (by simp [show ¬ (a.f2.size : Int) ≤ 200 by omega])
      simp only [if_neg c2]
      have c2' : (a.f2.size : Int) ≤ 200 := by omega
      have tail : (a.f1 = true → bl a.f2 = []) → Ev (fun n => if 0 ≤ a.f3 ∧ a.f3 ≤ 99999 then ((spec_PropsOk.f n a.f4).bind fun t588 => spec_TreeOk.j1 n t (pre.length : Int) (!t588) a.f0 a.f1 a.f2 a.f3 a.f4) else spec_TreeOk.j1 n t (pre.length : Int) true a.f0 a.f1 a.f2 a.f3 a.f4) (treeL t pre.getLast? (a :: suf) && decide ((t.length : Int) ≤ 12)) := by
        intro c5
        by_cases c3 : 0 ≤ a.f3 ∧ a.f3 ≤ 99999
        · simp only [if_pos c3]
          refine Ev.bind (specPropsOk g4) ?_
          refine join _ ?_
          simp only [ne_eq, c0, not_false_eq_true, decide_true, c1, c2', c3, and_self, Bool.true_and, decide_eq_true c5]
        · simp only [if_neg c3]
          exact join true (by simp only [c3, decide_false, Bool.false_and, Bool.and_false, Bool.not_false])
      by_cases c4 : a.f1 = true
      · simp only [c4, if_true] at tail join ⊢
        by_cases c5 : bl a.f2 = []
        · simp only [if_pos c5]
          exact tail (fun _ => c5)
        · simp only [if_neg c5]
          exact join true (by simp [c5])
      · simp only [c4, Bool.false_eq_true, if_false] at tail join ⊢
        exact tail (fun h => h.elim)
  exact key t [] rfl
theorem implTreeOk {t : List S59} (ht : SmRess t) : Ev (fun k => impl_TreeOk.f k t) (treeOk t) := by
  have hl : t.length ≤ maxLen := by have := ht.1; rw [maxLen_eq]; omega
  have key : ∀ (suf pre : List S59), t = pre ++ suf → Ev (fun k => impl_TreeOk.l0 k t t (t.length : Int) pre.length) (treeL t pre.getLast? suf && decide ((t.length : Int) ≤ 12)) := by
    intro suf
    induction suf with
    | nil =>
      intro pre h
      refine Ev.step (fun k => impl_TreeOk.l0.eq_2 ..) ?_
      simp only [if_neg (end_at h), treeL, Bool.true_and]
      exact Ev.now _
    | cons a suf ih =>
      intro pre h
      have hn := ih (pre ++ [a]) (snoc_at h)
      rw [List.getLast?_append] at hn
      simp only [List.getLast?_singleton, Option.some_or] at hn
      have ha := ht.2 a (by rw [h]; simp)
      have g0 := ha.1
      refine Ev.step (fun k => impl_TreeOk.l0.eq_2 ..) ?_
      simp only [if_pos (lt_at h), if_pos (nonneg_at _), rd_implRes h]
      refine Ev.bind (implResOk ha) ?_
      simp only [treeL]
      by_cases c0 : resOk a = true
      rotate_left
      · simp only [c0, Bool.false_eq_true, if_false, Bool.false_and]; exact Ev.now _
      simp only [c0, if_true, Bool.true_and]
      have fin : Ev (fun n => (impl_Above.f a.f0).bind fun t593 => (impl_IsColl.f n t t593).bind fun t596 => if t596 = true then impl_TreeOk.l0 n t t (t.length : Int) (wrap64 ((pre.length : Int) + 1)) else some false) (isColl t (above a.f0) && treeL t (some a) suf && decide ((t.length : Int) ≤ 12)) := by
        simp only [implAbove g0.1, Option.bind_some]
        refine Ev.bind (implIsColl ht) ?_
        by_cases c2 : isColl t (above a.f0) = true
        · simp only [c2, if_true, Bool.true_and, next_at h hl]; exact hn
        · simp only [c2, Bool.false_eq_true, if_false, Bool.false_and]; exact Ev.now _
      rcases List.eq_nil_or_concat pre with rfl | ⟨pre', b', rfl⟩
      · simp only [List.length_nil, Int.natCast_zero, show ¬ (0 : Int) > 0 by omega, if_false, List.getLast?_nil, Bool.true_and]
        exact fin
      · rw [List.concat_eq_append] at h hn fin ⊢
        have hp := pred_at h hl
        have h2 : t = pre' ++ b' :: (a :: suf) := by rw [h]; simp
        have hb' := (ht.2 b' (by rw [h]; simp)).1.1
        simp only [show (((pre' ++ [b']).length : Nat) : Int) > 0 by first | (simp; done) | (simp; omega), if_true, hp, if_pos (nonneg_at _), if_pos (lt_at h2), rd_implRes h2, List.getLast?_append, List.getLast?_singleton, Option.some_or]
        refine Ev.bind (implLess (by rw [maxLen_eq]; omega)) ?_
        by_cases c1 : lessP b'.f0 a.f0 = true
        · simp only [c1, if_true, Bool.true_and]
          exact fin
        · simp only [c1, Bool.false_eq_true, if_false, Bool.false_and]
          exact Ev.now _
  exact key t [] rfl
end Go.Proofs.Yteabkidfgdmmpaa.L

/- The law FnExactTreeOk computes true: the program and the reference say the same. No condition. -/
set_option linter.unusedSimpArgs false
set_option linter.unusedVariables false
namespace Go.Proofs.Yteabkidfgdmmpaa.Pure
open Go.RowKit Go.Proofs.YteabkidfgdmmpaaW.PrintWords Go.Proofs.YteabkidfgdmmpaaW.PrintLast Go.Proofs.Yteabkidfgdmmpaa.Q Go.Proofs.Yteabkidfgdmmpaa.L
theorem FnExactTreeOk : ∀ (x0 : List (S77)), (fun l : List (S77) => l.length ≤ maxLen ∧ ∀ a ∈ l, G77 a) x0 → ∃ k, laws_FnExactTreeOk.f k x0 = some true := by
  intro x0 g0
  apply Ev.rounds
  unfold laws_FnExactTreeOk.f
  refine Sz.ev (szResS g0.1 g0.2 (n := 1048576) (by omega) (by omega)) (by simp only [show (-1 : Int) < 0 by omega, if_true]; exact Ev.now _) (fun m0 a0 b0 s0 => ?_)
  simp only [if_neg (show ¬ m0 < 0 by omega)]
  refine Ev.bind (toResS s0) ?_
  refine Ev.bind (specTreeOk s0) ?_
  refine Ev.bind (toResS s0) ?_
  refine Ev.bind (implTreeOk s0) ?_
  simp only [eq_self, if_true, bne_self_eq_false, Bool.false_eq_true, if_false, decide_true]
  refine Ev.bind (toResS s0) ?_
  refine Ev.bind (eqResS s0) ?_
  simp only [eq_self, if_true, bne_self_eq_false, Bool.false_eq_true, if_false, decide_true]
  exact Ev.now _
end Go.Proofs.Yteabkidfgdmmpaa.Pure
