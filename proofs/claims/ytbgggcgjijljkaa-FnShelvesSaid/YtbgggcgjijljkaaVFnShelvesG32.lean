/- Properties: are they right, and which one is of a space and a name; as the program and the reference have it. No condition. -/
import Derived.Test.YtbgggcgjijljkaaVFnShelvesG22
import Derived.Test.YtbgggcgjijljkaaVFnShelvesG25
import Derived.Test.YtbgggcgjijljkaaVFnShelvesG23
import Derived.Test.YtbgggcgjijljkaaVFnShelvesG24
import Derived.Test.YtbgggcgjijljkaaVFnShelvesG31
import Derived.Test.YtbgggcgjijljkaaVFnShelvesG26
import Derived.Test.YtbgggcgjijljkaaVFnShelvesG27
import Derived.Test.YtbgggcgjijljkaaVFnShelvesG28
import Derived.Test.YtbgggcgjijljkaaVFnShelvesG30
import Derived.Test.YtbgggcgjijljkaaVFnShelvesG29
set_option linter.unusedSimpArgs false
set_option linter.unusedVariables false
namespace Go.Proofs.Ytbgggcgjijljkaa.L
open Go.RowKit Go.Proofs.YtbgggcgjijljkaaW.PrintWords Go.Proofs.YtbgggcgjijljkaaW.PrintLast Go.Proofs.Ytbgggcgjijljkaa.Q
def propOk (p : S72) : Bool := decide ((p.f0.size : Int) ≤ 20) && plainL (bl p.f0) && smallName p.f1 && decide ((p.f2.size : Int) ≤ 20) && plainL (bl p.f2)
def lessProp (p q : S72) : Bool := if p.f0 = q.f0 then Op.bytesLess p.f1.toList q.f1.toList else Op.bytesLess p.f0.toList q.f0.toList
theorem bytesLess_irrefl : ∀ l : List UInt8, Op.bytesLess l l = false
  | [] => rfl
  | a :: l => by simp [Op.bytesLess, bytesLess_irrefl l]
theorem specPropOk {p : S72} (hp : SmProp p) : Ev (fun k => spec_l10Prop.f k p.f0 p.f1 p.f2) (propOk p) := by
  obtain ⟨g0, g1, g2⟩ := hp
  have h : ∀ s : ByteArray, s.size ≤ 1048576 → s.size ≤ maxLen := fun s h => by rw [maxLen_eq]; omega
  unfold spec_l10Prop.f propOk
  by_cases c0 : (p.f0.size : Int) ≤ 20
  · simp only [if_pos c0, c0, decide_true, Bool.true_and]
    refine Ev.bind (specPlain (h _ g0)) ?_
    by_cases c1 : plainL (bl p.f0) = true
    · simp only [c1, if_true, Bool.true_and]
      refine Ev.bind (specSmall (h _ g1)) ?_
      by_cases c2 : smallName p.f1 = true
      · simp only [c2, if_true, Bool.true_and]
        by_cases c3 : (p.f2.size : Int) ≤ 20
        · simp only [if_pos c3, c3, decide_true, Bool.true_and]
          exact Ev.bind (specPlain (h _ g2)) (Ev.now _)
        · simp only [if_neg c3, c3, decide_false, Bool.false_and]
          exact Ev.now _
      · simp only [c2, Bool.false_eq_true, if_false, Bool.false_and]
        exact Ev.now _
    · simp only [c1, Bool.false_eq_true, if_false, Bool.false_and]
      exact Ev.now _
  · simp only [if_neg c0, c0, decide_false, Bool.false_and]
    exact Ev.now _
theorem implPropOk {p : S72} (hp : SmProp p) : Ev (fun k => impl_propOk.f k p.f0 p.f1 p.f2) (propOk p) := by
  obtain ⟨g0, g1, g2⟩ := hp
  have h : ∀ s : ByteArray, s.size ≤ 1048576 → s.size ≤ maxLen := fun s h => by rw [maxLen_eq]; omega
  unfold impl_propOk.f propOk
  by_cases c0 : (p.f0.size : Int) ≤ 20
  · simp only [if_pos c0, c0, decide_true, Bool.true_and]
    refine Ev.bind (implPlain (h _ g0)) ?_
    by_cases c1 : plainL (bl p.f0) = true
    · simp only [c1, if_true, Bool.true_and]
      refine Ev.bind (implSmall (h _ g1)) ?_
      by_cases c2 : smallName p.f1 = true
      · simp only [c2, if_true, Bool.true_and]
        by_cases c3 : (p.f2.size : Int) ≤ 20
        · simp only [if_pos c3, c3, decide_true, Bool.true_and]
          exact Ev.bind (implPlain (h _ g2)) (Ev.now _)
        · simp only [if_neg c3, c3, decide_false, Bool.false_and]
          exact Ev.now _
      · simp only [c2, Bool.false_eq_true, if_false, Bool.false_and]
        exact Ev.now _
    · simp only [c1, Bool.false_eq_true, if_false, Bool.false_and]
      exact Ev.now _
  · simp only [if_neg c0, c0, decide_false, Bool.false_and]
    exact Ev.now _
theorem specLessProp (p q : S72) : spec_l10LessProp.f p.f0 p.f1 p.f2 q.f0 q.f1 q.f2 = some (lessProp p q) := by
  unfold spec_l10LessProp.f lessProp
  simp only [ba_eq]
  by_cases e : p.f0 = q.f0 <;> simp [e]
theorem implLessProp (p q : S72) : impl_lessProp.f p.f0 p.f1 p.f2 q.f0 q.f1 q.f2 = some (lessProp p q) := by
  unfold impl_lessProp.f lessProp
  simp only [ba_eq]
  by_cases e : p.f0 = q.f0
  · simp [e, bytesLess_irrefl]
  · simp only [if_neg e]
    cases Op.bytesLess p.f0.toList q.f0.toList <;> simp
def propsL : Option S72 → List S72 → Bool
  | _, [] => true
  | last, p :: l => propOk p && (match last with | none => true | some q => lessProp q p) && propsL (some p) l
def propsOk (l : List S72) : Bool := propsL none l && decide ((l.length : Int) ≤ 4)
theorem pred_at {α : Type} {l pre suf : List α} {a b : α} (h : l = pre ++ [b] ++ a :: suf) (hl : l.length ≤ maxLen) : wrap64 (((pre ++ [b]).length : Int) - 1) = (pre.length : Int) := by
  have : l.length = pre.length + 1 + (suf.length + 1) := by rw [h]; simp; omega
  rw [maxLen_eq] at hl
  have e : ((pre ++ [b]).length : Int) = pre.length + 1 := by simp
  rw [e, wrap_id (by omega) (by omega)]
  omega
theorem specPropsOkB {l : List S72} (hl : l.length ≤ maxLen) (hs : ∀ p ∈ l, SmProp p) : Ev (fun k => spec_PropsOk.f k l) (propsOk l) := by
  have key : ∀ (suf pre : List S72), l = pre ++ suf → Ev (fun k => spec_PropsOk.l0 k l pre.length) (propsL pre.getLast? suf && decide ((l.length : Int) ≤ 4)) := by
    intro suf
    induction suf with
    | nil =>
      intro pre h
      refine Ev.step (fun k => spec_PropsOk.l0.eq_2 ..) ?_
      simp only [if_neg (end_at h), propsL, Bool.true_and]
      exact Ev.now _
    | cons a suf ih =>
      intro pre h
      have hn := ih (pre ++ [a]) (snoc_at h)
      rw [List.getLast?_append] at hn
      simp only [List.getLast?_singleton, Option.some_or] at hn
      refine Ev.step (fun k => spec_PropsOk.l0.eq_2 ..) ?_
      simp only [if_pos (lt_at h), if_pos (nonneg_at _), rd_implProp h]
      refine Ev.bind (specPropOk (hs a (by rw [h]; simp))) ?_
      simp only [propsL]
      by_cases c0 : propOk a = true
      · simp only [c0, if_true, Bool.true_and]
        rcases List.eq_nil_or_concat pre with rfl | ⟨pre', b, rfl⟩
        · simp only [List.length_nil, Int.natCast_zero, show ¬ (0 : Int) > 0 by omega, if_false, List.getLast?_nil, Bool.true_and]
          have := next_at h hl
          simp only [List.length_nil, Int.natCast_zero] at this
          rw [this]
          exact hn
        · rw [List.concat_eq_append] at h hn ⊢
          have hp := pred_at h hl
          have h2 : l = pre' ++ b :: (a :: suf) := by rw [h]; simp
          simp only [show (((pre' ++ [b]).length : Nat) : Int) > 0 by first | (simp; done) | (simp; omega), if_true, hp, if_pos (nonneg_at _), if_pos (lt_at h2), rd_implProp h2, specLessProp, Option.bind_some, List.getLast?_append, List.getLast?_singleton, Option.some_or, next_at h hl]
          by_cases c1 : lessProp b a = true
          · simp only [c1, if_true, Bool.true_and]
            exact hn
          · simp only [c1, Bool.false_eq_true, if_false, Bool.false_and]
            exact Ev.now _
      · simp only [c0, Bool.false_eq_true, if_false, Bool.false_and]
        exact Ev.now _
  exact key l [] rfl
theorem implPropsOkB {l : List S72} (hl : l.length ≤ maxLen) (hs : ∀ p ∈ l, SmProp p) : Ev (fun k => impl_PropsOk.f k l) (propsOk l) := by
  have key : ∀ (suf pre : List S72), l = pre ++ suf → Ev (fun k => impl_PropsOk.l0 k l l (l.length : Int) pre.length) (propsL pre.getLast? suf && decide ((l.length : Int) ≤ 4)) := by
    intro suf
    induction suf with
    | nil =>
      intro pre h
      refine Ev.step (fun k => impl_PropsOk.l0.eq_2 ..) ?_
      simp only [if_neg (end_at h), propsL, Bool.true_and]
      exact Ev.now _
    | cons a suf ih =>
      intro pre h
      have hn := ih (pre ++ [a]) (snoc_at h)
      rw [List.getLast?_append] at hn
      simp only [List.getLast?_singleton, Option.some_or] at hn
      refine Ev.step (fun k => impl_PropsOk.l0.eq_2 ..) ?_
      simp only [if_pos (lt_at h), if_pos (nonneg_at _), rd_implProp h]
      refine Ev.bind (implPropOk (hs a (by rw [h]; simp))) ?_
      simp only [propsL]
      by_cases c0 : propOk a = true
      · simp only [c0, if_true, Bool.true_and]
        rcases List.eq_nil_or_concat pre with rfl | ⟨pre', b, rfl⟩
        · simp only [List.length_nil, Int.natCast_zero, show ¬ (0 : Int) > 0 by omega, if_false, List.getLast?_nil, Bool.true_and]
          have := next_at h hl
          simp only [List.length_nil, Int.natCast_zero] at this
          rw [this]
          exact hn
        · rw [List.concat_eq_append] at h hn ⊢
          have hp := pred_at h hl
          have h2 : l = pre' ++ b :: (a :: suf) := by rw [h]; simp
          simp only [show (((pre' ++ [b]).length : Nat) : Int) > 0 by first | (simp; done) | (simp; omega), if_true, hp, if_pos (nonneg_at _), if_pos (lt_at h2), rd_implProp h2, implLessProp, Option.bind_some, List.getLast?_append, List.getLast?_singleton, Option.some_or, next_at h hl]
          by_cases c1 : lessProp b a = true
          · simp only [c1, if_true, Bool.true_and]
            exact hn
          · simp only [c1, Bool.false_eq_true, if_false, Bool.false_and]
            exact Ev.now _
      · simp only [c0, Bool.false_eq_true, if_false, Bool.false_and]
        exact Ev.now _
  exact key l [] rfl
theorem specPropsOk {l : List S72} (hs : SmProps l) : Ev (fun k => spec_PropsOk.f k l) (propsOk l) := specPropsOkB (by have := hs.1; rw [maxLen_eq]; omega) hs.2
theorem implPropsOk {l : List S72} (hs : SmProps l) : Ev (fun k => impl_PropsOk.f k l) (propsOk l) := implPropsOkB (by have := hs.1; rw [maxLen_eq]; omega) hs.2
end Go.Proofs.Ytbgggcgjijljkaa.L

/- Paths, one ahead of the other: what the program and the reference say. No condition. -/
set_option linter.unusedSimpArgs false
set_option linter.unusedVariables false
namespace Go.Proofs.Ytbgggcgjijljkaa.L
open Go.RowKit Go.Proofs.YtbgggcgjijljkaaW.PrintWords Go.Proofs.YtbgggcgjijljkaaW.PrintLast Go.Proofs.Ytbgggcgjijljkaa.Q
def lessP : List ByteArray → List ByteArray → Bool
  | [], [] => false
  | [], _ :: _ => true
  | _ :: _, [] => false
  | x :: a, y :: b => if x = y then lessP a b else Op.bytesLess x.toList y.toList
theorem len_lt {α : Type} {l m pu pv su sv : List α} (h : l = pu ++ su) (h' : m = pv ++ sv) (hp : pu.length = pv.length) : ((l.length : Int) < (m.length : Int)) = (su.length < sv.length) := by
  subst h; subst h'; simp [hp]
theorem implLess_loop {a b : List ByteArray} (hl : a.length ≤ maxLen) : ∀ (su sv pu pv : List ByteArray), a = pu ++ su → b = pv ++ sv → pu.length = pv.length → Ev (fun k => impl_LessPath.l0 k a b pu.length) (lessP su sv) := by
  intro su
  induction su with
  | nil =>
    intro sv pu pv h h' hp
    refine Ev.step (fun k => impl_LessPath.l0.eq_2 ..) ?_
    simp only [if_neg (end_at h)]
    refine Ev.step (fun k => impl_LessPath.j1.eq_2 ..) ?_
    simp only [Bool.false_eq_true, if_false, len_lt h h' hp]
    cases sv <;> simp only [lessP] <;> exact Ev.now _
  | cons x su ih =>
    intro sv pu pv h h' hp
    refine Ev.step (fun k => impl_LessPath.l0.eq_2 ..) ?_
    simp only [if_pos (lt_at h)]
    refine Ev.step (fun k => impl_LessPath.j1.eq_2 ..) ?_
    cases sv with
    | nil =>
      have h4 := end_at h'
      rw [← hp] at h4
      simp only [h4, decide_false, Bool.false_eq_true, if_false, len_lt h h' hp, lessP]
      exact Ev.now _
    | cons y sv =>
      have h3 := rd_at ByteArray.empty h'
      have h4 := lt_at h'
      rw [← hp] at h3 h4
      by_cases e : x = y
      · subst e
        simp only [h4, decide_true, if_true, if_pos (lt_at h), if_pos (nonneg_at _), rd_at _ h, h3, next_at h hl, lessP]
        exact ih sv (pu ++ [x]) (pv ++ [x]) (snoc_at h) (snoc_at h') (by simp [hp])
      · simp only [h4, decide_true, if_true, if_pos (lt_at h), if_pos (nonneg_at _), rd_at _ h, h3, ba_eq, if_neg e, lessP]
        exact Ev.now _
theorem implLess {a b : List ByteArray} (hl : a.length ≤ maxLen) : Ev (fun k => impl_LessPath.f k a b) (lessP a b) := implLess_loop hl a b [] [] rfl rfl rfl
theorem specLess_loop {a b : List ByteArray} (hl : a.length ≤ maxLen) : ∀ (su sv pu pv : List ByteArray), a = pu ++ su → b = pv ++ sv → pu.length = pv.length → Ev (fun k => spec_LessPath.l0 k a b pu.length) (lessP su sv) := by
  intro su
  induction su with
  | nil =>
    intro sv pu pv h h' hp
    refine Ev.step (fun k => spec_LessPath.l0.eq_2 ..) ?_
    simp only [if_neg (end_at h)]
    refine Ev.step (fun k => spec_LessPath.j1.eq_2 ..) ?_
    simp only [Bool.false_eq_true, if_false, len_lt h h' hp]
    cases sv <;> simp only [lessP] <;> exact Ev.now _
  | cons x su ih =>
    intro sv pu pv h h' hp
    refine Ev.step (fun k => spec_LessPath.l0.eq_2 ..) ?_
    simp only [if_pos (lt_at h)]
    refine Ev.step (fun k => spec_LessPath.j1.eq_2 ..) ?_
    cases sv with
    | nil =>
      have h4 := end_at h'
      rw [← hp] at h4
      simp only [h4, decide_false, Bool.false_eq_true, if_false, len_lt h h' hp, lessP]
      exact Ev.now _
    | cons y sv =>
      have h3 := rd_at ByteArray.empty h'
      have h4 := lt_at h'
      rw [← hp] at h3 h4
      by_cases e : x = y
      · subst e
        simp only [h4, decide_true, if_true, if_pos (lt_at h), if_pos (nonneg_at _), rd_at _ h, h3, next_at h hl, lessP]
        exact ih sv (pu ++ [x]) (pv ++ [x]) (snoc_at h) (snoc_at h') (by simp [hp])
      · simp only [h4, decide_true, if_true, if_pos (lt_at h), if_pos (nonneg_at _), rd_at _ h, h3, ba_eq, if_neg e, lessP]
        exact Ev.now _
theorem specLess {a b : List ByteArray} (hl : a.length ≤ maxLen) : Ev (fun k => spec_LessPath.f k a b) (lessP a b) := specLess_loop hl a b [] [] rfl rfl rfl
end Go.Proofs.Ytbgggcgjijljkaa.L

/- Shelves: are they right; as the program and the reference have it. No condition. -/
set_option linter.unusedSimpArgs false
set_option linter.unusedVariables false
namespace Go.Proofs.Ytbgggcgjijljkaa.L
open Go.RowKit Go.Proofs.YtbgggcgjijljkaaW.PrintWords Go.Proofs.YtbgggcgjijljkaaW.PrintLast Go.Proofs.Ytbgggcgjijljkaa.Q
theorem size0 (s : ByteArray) : (s.toList = ([] : List UInt8)) = (bl s = []) := by rw [ba_toList]
def resOk (r : S57) : Bool := decide (r.f0 ≠ []) && (pathOk r.f0 && (decide (r.f1 = true → bl r.f2 = []) && (decide ((r.f2.size : Int) ≤ 200) && (decide (0 ≤ r.f3 ∧ r.f3 ≤ 99999) && propsOk r.f4))))
theorem implResOk {r : S57} (hr : SmRes r) : Ev (fun k => impl_resOk.f k r.f0 r.f1 r.f2 r.f3 r.f4) (resOk r) := by
  obtain ⟨g0, _, g2, g3, g4⟩ := hr
  unfold impl_resOk.f resOk
  by_cases c0 : r.f0 = []
  · simp only [c0, List.length_nil, Int.natCast_zero, gt_iff_lt, Int.lt_irrefl, if_false, ne_eq, not_true_eq_false, decide_false, Bool.false_and]
    exact Ev.now _
  have h0 : (r.f0.length : Int) > 0 := by have := List.length_pos_iff.2 c0; omega
  simp only [if_pos h0, ne_eq, c0, not_false_eq_true, decide_true, Bool.true_and]
  refine Ev.bind (implPathOk g0) ?_
  by_cases c1 : pathOk r.f0 = true
  rotate_left
  · simp only [c1, Bool.false_eq_true, if_false, Bool.false_and]; exact Ev.now _
  simp only [c1, if_true, Bool.true_and, size0, implIn, Option.bind_some, decide_eq_true_eq]
  have tail : Ev (fun n => if (r.f2.size : Int) ≤ 200 then (if 0 ≤ r.f3 ∧ r.f3 ≤ 99999 then ((impl_PropsOk.f n r.f4).bind fun t609 => some t609) else some false) else some false) (decide ((r.f2.size : Int) ≤ 200) && (decide (0 ≤ r.f3 ∧ r.f3 ≤ 99999) && propsOk r.f4)) := by
    by_cases c2 : (r.f2.size : Int) ≤ 200
    · simp only [c2, if_true, decide_true, Bool.true_and]
      by_cases c3 : 0 ≤ r.f3 ∧ r.f3 ≤ 99999
      · simp only [c3, and_self, if_true, decide_true, Bool.true_and]
        exact Ev.bind (implPropsOk g4) (Ev.now _)
      · simp only [c3, if_false, decide_false, Bool.false_and]
        exact Ev.now _
    · simp only [c2, if_false, decide_false, Bool.false_and]
      exact Ev.now _
  by_cases c4 : r.f1 = true
  · simp only [c4, if_true, true_imp_iff]
    by_cases c5 : bl r.f2 = []
    · simp only [c5, if_true, decide_true, Bool.true_and]
      exact tail
    · simp only [c5, if_false, decide_false, Bool.false_and]
      exact Ev.now _
  · simp only [c4, Bool.false_eq_true, if_false, false_imp_iff, decide_true, Bool.true_and]
    exact tail
def treeL (t : List S57) : Option S57 → List S57 → Bool
  | _, [] => true
  | last, r :: l => resOk r && ((match last with | none => true | some q => lessP q.f0 r.f0) && (isColl t (above r.f0) && treeL t (some r) l))
def treeOk (t : List S57) : Bool := treeL t none t && decide ((t.length : Int) ≤ 12)
theorem specTreeOk {t : List S57} (ht : SmRess t) : Ev (fun k => spec_TreeOk.f k t) (treeOk t) := by
  have hl : t.length ≤ maxLen := by have := ht.1; rw [maxLen_eq]; omega
  have key : ∀ (suf pre : List S57), t = pre ++ suf → Ev (fun k => spec_TreeOk.l0 k t pre.length) (treeL t pre.getLast? suf && decide ((t.length : Int) ≤ 12)) := by
    intro suf
    induction suf with
    | nil =>
      intro pre h
      refine Ev.step (fun k => spec_TreeOk.l0.eq_2 ..) ?_
      simp only [if_neg (end_at h), treeL, Bool.true_and]
      exact Ev.now _
    | cons a suf ih =>
      intro pre h
      have hn := ih (pre ++ [a]) (snoc_at h)
      rw [List.getLast?_append] at hn
      simp only [List.getLast?_singleton, Option.some_or] at hn
      have ha := ht.2 a (by rw [h]; simp)
      obtain ⟨g0, _, g2, g3, g4⟩ := ha
      have hla : a.f0.length ≤ maxLen := by have := g0.1; rw [maxLen_eq]; omega
      have join : ∀ b : Bool, b = (!resOk a) → Ev (fun k => spec_TreeOk.j1 k t pre.length b a.f0 a.f1 a.f2 a.f3 a.f4) (treeL t pre.getLast? (a :: suf) && decide ((t.length : Int) ≤ 12)) := by
        intro b hb
        refine Ev.step (fun k => spec_TreeOk.j1.eq_2 ..) ?_
        simp only [treeL, hb]
        by_cases c0 : resOk a = true
        rotate_left
        · simp only [c0, Bool.not_false, if_true, Bool.false_and]; exact Ev.now _
        simp only [c0, Bool.not_true, Bool.false_eq_true, if_false, Bool.true_and]
        have fin : Ev (fun n => (spec_Above.f a.f0).bind fun t593 => (spec_IsColl.f n t t593).bind fun t596 => if t596 = true then spec_TreeOk.l0 n t (wrap64 ((pre.length : Int) + 1)) else some false) (isColl t (above a.f0) && treeL t (some a) suf && decide ((t.length : Int) ≤ 12)) := by
          simp only [specAbove g0.1, Option.bind_some]
          refine Ev.bind (specIsColl ht) ?_
          by_cases c2 : isColl t (above a.f0) = true
          · simp only [c2, if_true, Bool.true_and, next_at h hl]; exact hn
          · simp only [c2, Bool.false_eq_true, if_false, Bool.false_and]; exact Ev.now _
        rcases List.eq_nil_or_concat pre with rfl | ⟨pre', b', rfl⟩
        · simp only [List.length_nil, Int.natCast_zero, show ¬ (0 : Int) > 0 by omega, if_false, List.getLast?_nil, Bool.true_and]
          exact fin
        · rw [List.concat_eq_append] at h hn fin ⊢
          have hp := pred_at h hl
          have h2 : t = pre' ++ b' :: (a :: suf) := by rw [h]; simp
          have hb' := (ht.2 b' (by rw [h]; simp)).1.1
          simp only [show (((pre' ++ [b']).length : Nat) : Int) > 0 by first | (simp; done) | (simp; omega), if_true, hp, if_pos (nonneg_at _), if_pos (lt_at h2), rd_implRes h2, List.getLast?_append, List.getLast?_singleton, Option.some_or]
          refine Ev.bind (specLess (by rw [maxLen_eq]; omega)) ?_
          by_cases c1 : lessP b'.f0 a.f0 = true
          · simp only [c1, if_true, Bool.true_and]
            exact fin
          · simp only [c1, Bool.false_eq_true, if_false, Bool.false_and]
            exact Ev.now _
      refine Ev.step (fun k => spec_TreeOk.l0.eq_2 ..) ?_
      simp only [if_pos (lt_at h), if_pos (nonneg_at _), rd_implRes h, nil_len, size0, specIn, Option.bind_some, decide_eq_true_eq]
      unfold resOk at join
      by_cases c0 : a.f0 = []
      · simp only [if_pos c0]
        exact join true (by simp [c0])
      simp only [if_neg c0]
      refine Ev.bind (specPathOk g0) ?_
      by_cases c1 : pathOk a.f0 = true
      rotate_left
      · simp only [c1, Bool.false_eq_true, if_false]
        exact join true (by simp [c1])
      simp only [c1, if_true]
      by_cases c2 : (a.f2.size : Int) > 200
      · simp only [if_pos c2]
        exact join true (by simp [show ¬ (a.f2.size : Int) ≤ 200 by omega])
      simp only [if_neg c2]
      have c2' : (a.f2.size : Int) ≤ 200 := by omega
      have tail : (a.f1 = true → bl a.f2 = []) → Ev (fun n => if 0 ≤ a.f3 ∧ a.f3 ≤ 99999 then ((spec_PropsOk.f n a.f4).bind fun t588 => spec_TreeOk.j1 n t (pre.length : Int) (!t588) a.f0 a.f1 a.f2 a.f3 a.f4) else spec_TreeOk.j1 n t (pre.length : Int) true a.f0 a.f1 a.f2 a.f3 a.f4) (treeL t pre.getLast? (a :: suf) && decide ((t.length : Int) ≤ 12)) := by
        intro c5
        by_cases c3 : 0 ≤ a.f3 ∧ a.f3 ≤ 99999
        · simp only [if_pos c3]
          refine Ev.bind (specPropsOk g4) ?_
          refine join _ ?_
          simp only [ne_eq, c0, not_false_eq_true, decide_true, c1, c2', c3, and_self, Bool.true_and, decide_eq_true c5]
        · simp only [if_neg c3]
          exact join true (by simp only [c3, decide_false, Bool.false_and, Bool.and_false, Bool.not_false])
      by_cases c4 : a.f1 = true
      · simp only [c4, if_true] at tail join ⊢
        by_cases c5 : bl a.f2 = []
        · simp only [if_pos c5]
          exact tail (fun _ => c5)
        · simp only [if_neg c5]
          exact join true (by simp [c5])
      · simp only [c4, Bool.false_eq_true, if_false] at tail join ⊢
        exact tail (fun h => h.elim)
  exact key t [] rfl
theorem implTreeOk {t : List S57} (ht : SmRess t) : Ev (fun k => impl_TreeOk.f k t) (treeOk t) := by
  have hl : t.length ≤ maxLen := by have := ht.1; rw [maxLen_eq]; omega
  have key : ∀ (suf pre : List S57), t = pre ++ suf → Ev (fun k => impl_TreeOk.l0 k t t (t.length : Int) pre.length) (treeL t pre.getLast? suf && decide ((t.length : Int) ≤ 12)) := by
    intro suf
    induction suf with
    | nil =>
      intro pre h
      refine Ev.step (fun k => impl_TreeOk.l0.eq_2 ..) ?_
      simp only [if_neg (end_at h), treeL, Bool.true_and]
      exact Ev.now _
    | cons a suf ih =>
      intro pre h
      have hn := ih (pre ++ [a]) (snoc_at h)
      rw [List.getLast?_append] at hn
      simp only [List.getLast?_singleton, Option.some_or] at hn
      have ha := ht.2 a (by rw [h]; simp)
      have g0 := ha.1
      refine Ev.step (fun k => impl_TreeOk.l0.eq_2 ..) ?_
      simp only [if_pos (lt_at h), if_pos (nonneg_at _), rd_implRes h]
      refine Ev.bind (implResOk ha) ?_
      simp only [treeL]
      by_cases c0 : resOk a = true
      rotate_left
      · simp only [c0, Bool.false_eq_true, if_false, Bool.false_and]; exact Ev.now _
      simp only [c0, if_true, Bool.true_and]
      have fin : Ev (fun n => (impl_Above.f a.f0).bind fun t593 => (impl_IsColl.f n t t593).bind fun t596 => if t596 = true then impl_TreeOk.l0 n t t (t.length : Int) (wrap64 ((pre.length : Int) + 1)) else some false) (isColl t (above a.f0) && treeL t (some a) suf && decide ((t.length : Int) ≤ 12)) := by
        simp only [implAbove g0.1, Option.bind_some]
        refine Ev.bind (implIsColl ht) ?_
        by_cases c2 : isColl t (above a.f0) = true
        · simp only [c2, if_true, Bool.true_and, next_at h hl]; exact hn
        · simp only [c2, Bool.false_eq_true, if_false, Bool.false_and]; exact Ev.now _
      rcases List.eq_nil_or_concat pre with rfl | ⟨pre', b', rfl⟩
      · simp only [List.length_nil, Int.natCast_zero, show ¬ (0 : Int) > 0 by omega, if_false, List.getLast?_nil, Bool.true_and]
        exact fin
      · rw [List.concat_eq_append] at h hn fin ⊢
        have hp := pred_at h hl
        have h2 : t = pre' ++ b' :: (a :: suf) := by rw [h]; simp
        have hb' := (ht.2 b' (by rw [h]; simp)).1.1
        simp only [show (((pre' ++ [b']).length : Nat) : Int) > 0 by first | (simp; done) | (simp; omega), if_true, hp, if_pos (nonneg_at _), if_pos (lt_at h2), rd_implRes h2, List.getLast?_append, List.getLast?_singleton, Option.some_or]
        refine Ev.bind (implLess (by rw [maxLen_eq]; omega)) ?_
        by_cases c1 : lessP b'.f0 a.f0 = true
        · simp only [c1, if_true, Bool.true_and]
          exact fin
        · simp only [c1, Bool.false_eq_true, if_false, Bool.false_and]
          exact Ev.now _
  exact key t [] rfl
end Go.Proofs.Ytbgggcgjijljkaa.L

/- Is a path under another one; as the program and the reference have it. No condition. -/
set_option linter.unusedSimpArgs false
set_option linter.unusedVariables false
namespace Go.Proofs.Ytbgggcgjijljkaa.L
open Go.RowKit Go.Proofs.YtbgggcgjijljkaaW.PrintWords Go.Proofs.YtbgggcgjijljkaaW.PrintLast Go.Proofs.Ytbgggcgjijljkaa.Q
end Go.Proofs.Ytbgggcgjijljkaa.L

/- What turns shelves: copies, what is left without a thing, the first code, Remove; as the program and the reference have it. No condition. -/
set_option linter.unusedSimpArgs false
set_option linter.unusedVariables false
namespace Go.Proofs.Ytbgggcgjijljkaa.L
open Go.RowKit Go.Proofs.YtbgggcgjijljkaaW.PrintWords Go.Proofs.YtbgggcgjijljkaaW.PrintLast Go.Proofs.Ytbgggcgjijljkaa.Q
theorem implCopyRes {a : S57} (ha : SmRes a) : impl_copyRes.f a.f0 a.f1 a.f2 a.f3 a.f4 = some (a.f0, a.f1, a.f2, a.f3, a.f4) := by
  have ha0 := ha.1.1
  have ha4 := ha.2.2.2.2.1
  unfold impl_copyRes.f
  simp only [implCopyPath ha0, Option.bind_some, List.length_nil, Nat.zero_add, List.nil_append]
  rw [if_pos (by omega)]
theorem specCopyRes {a : S57} (ha : SmRes a) : spec_l10Copy.f a.f0 a.f1 a.f2 a.f3 a.f4 = some (a.f0, a.f1, a.f2, a.f3, a.f4) := by
  have ha0 := ha.1.1
  have ha4 := ha.2.2.2.2.1
  unfold spec_l10Copy.f
  simp only [Option.bind_some, List.length_nil, Nat.zero_add, List.nil_append]
  rw [if_pos (by omega), if_pos (by omega)]
theorem implCopyTree {t : List S57} (ht : SmRess t) : Ev (fun k => impl_copyTree.f k t) t := by
  have hl0 := ht.1
  have hl : t.length ≤ maxLen := by rw [maxLen_eq]; omega
  have key : ∀ (suf pre out : List S57), t = pre ++ suf → out.length ≤ pre.length → Ev (fun k => impl_copyTree.l0 k out t (t.length : Int) pre.length) (out ++ suf) := by
    intro suf
    induction suf with
    | nil =>
      intro pre out h ho
      refine Ev.step (fun k => impl_copyTree.l0.eq_2 ..) ?_
      simp only [if_neg (end_at h), List.append_nil]
      exact Ev.now _
    | cons a suf ih =>
      intro pre out h ho
      have hpl : pre.length ≤ 1048576 := by have : t.length = pre.length + (suf.length + 1) := by rw [h]; simp
                                            omega
      have ha := ht.2 a (by rw [h]; simp)
      refine Ev.step (fun k => impl_copyTree.l0.eq_2 ..) ?_
      simp only [if_pos (lt_at h), if_pos (nonneg_at _), rd_implRes h, next_at h hl, implCopyRes ha, Option.bind_some, show out.length < 1759218604441 by omega, if_true]
      exact ev_cast (ih (pre ++ [a]) _ (snoc_at h) (by simp; omega)) (by simp)
  exact key t [] [] rfl (by simp)
theorem specCopyAll {t : List S57} (ht : SmRess t) : Ev (fun k => spec_l10CopyAll.f k t) t := by
  have hl0 := ht.1
  have hl : t.length ≤ maxLen := by rw [maxLen_eq]; omega
  have key : ∀ (suf pre out : List S57), t = pre ++ suf → out.length ≤ pre.length → Ev (fun k => spec_l10CopyAll.l0 k t out pre.length) (out ++ suf) := by
    intro suf
    induction suf with
    | nil =>
      intro pre out h ho
      refine Ev.step (fun k => spec_l10CopyAll.l0.eq_2 ..) ?_
      simp only [if_neg (end_at h), List.append_nil]
      exact Ev.now _
    | cons a suf ih =>
      intro pre out h ho
      have hpl : pre.length ≤ 1048576 := by have : t.length = pre.length + (suf.length + 1) := by rw [h]; simp
                                            omega
      have ha := ht.2 a (by rw [h]; simp)
      refine Ev.step (fun k => spec_l10CopyAll.l0.eq_2 ..) ?_
      simp only [if_pos (lt_at h), if_pos (nonneg_at _), rd_implRes h, next_at h hl, specCopyRes ha, Option.bind_some, show out.length < 1759218604441 by omega, if_true]
      exact ev_cast (ih (pre ++ [a]) _ (snoc_at h) (by simp; omega)) (by simp)
  exact key t [] [] rfl (by simp)
def mayC (t : List S57) (ps : List (List ByteArray)) (ver : Int) : Int := if treeOk t = true then (if ps.all pathOk = true then (if 0 ≤ ver ∧ ver ≤ 99999 then 0 else 507) else 400) else 500
theorem specMay {t : List S57} {p : List ByteArray} {ver : Int} (ht : SmRess t) (hp : SmS p) : Ev (fun k => spec_l11May.f k t p ver) (mayC t [p] ver) := by
  unfold spec_l11May.f mayC
  refine Ev.bind (specTreeOk ht) ?_
  by_cases c0 : treeOk t = true
  · simp only [if_pos c0, List.all_cons, List.all_nil, Bool.and_true]
    refine Ev.bind (specPathOk hp) ?_
    by_cases c1 : pathOk p = true
    · simp only [if_pos c1, specIn, Option.bind_some, decide_eq_true_eq]
      by_cases c2 : 0 ≤ ver ∧ ver ≤ 99999
      · simp only [if_pos c2]; exact Ev.now _
      · simp only [if_neg c2]; exact Ev.now _
    · simp only [if_neg c1]; exact Ev.now _
  · simp only [if_neg c0]; exact Ev.now _
theorem implMay {t : List S57} {ps : List (List ByteArray)} {ver : Int} (ht : SmRess t) (hn : ps.length ≤ 2) (hp : ∀ p ∈ ps, SmS p) : Ev (fun k => impl_opForm.f k t ver ps) (mayC t ps ver) := by
  have hl : ps.length ≤ maxLen := by rw [maxLen_eq]; omega
  unfold impl_opForm.f mayC
  refine Ev.bind (implTreeOk ht) ?_
  by_cases c0 : treeOk t = true
  · simp only [if_pos c0]
    have key : ∀ (suf pre : List (List ByteArray)), ps = pre ++ suf → Ev (fun k => impl_opForm.l0 k ver ps (ps.length : Int) pre.length) (if suf.all pathOk = true then (if 0 ≤ ver ∧ ver ≤ 99999 then 0 else 507) else 400) := by
      intro suf
      induction suf with
      | nil =>
        intro pre h
        refine Ev.step (fun k => impl_opForm.l0.eq_2 ..) ?_
        simp only [if_neg (end_at h), List.all_nil, if_true, implIn, Option.bind_some, decide_eq_true_eq]
        by_cases c2 : 0 ≤ ver ∧ ver ≤ 99999
        · simp only [if_pos c2]; exact Ev.now _
        · simp only [if_neg c2]; exact Ev.now _
      | cons a suf ih =>
        intro pre h
        refine Ev.step (fun k => impl_opForm.l0.eq_2 ..) ?_
        simp only [if_pos (lt_at h), if_pos (nonneg_at _), show rd_L2 ps ((pre.length : Nat) : Int) = a from getD_at _ h, List.all_cons, next_at h hl]
        refine Ev.bind (implPathOk (hp a (by rw [h]; simp))) ?_
        by_cases c1 : pathOk a = true
        · simp only [c1, if_true, Bool.true_and]; exact ih (pre ++ [a]) (snoc_at h)
        · simp only [c1, Bool.false_eq_true, if_false, Bool.false_and]; exact Ev.now _
    exact key ps [] rfl
  · simp only [if_neg c0]; exact Ev.now _
end Go.Proofs.Ytbgggcgjijljkaa.L

/- The laws' own functions over a mirrored struct (Set): size, copy, equality. No condition. -/
set_option linter.unusedSimpArgs false
set_option linter.unusedVariables false
namespace Go.Proofs.Ytbgggcgjijljkaa.L
open Go.RowKit Go.Proofs.YtbgggcgjijljkaaW.PrintWords Go.Proofs.YtbgggcgjijljkaaW.PrintLast Go.Proofs.Ytbgggcgjijljkaa.Q
instance : DecidableEq S74 := fun a b => if h : a.f0 = b.f0 ∧ a.f1 = b.f1 then .isTrue (by cases a; cases b; simp_all) else .isFalse (fun e => h (by rw [e]; exact ⟨rfl, rfl⟩))
theorem rd_implSet {l pre suf : List S74} {a : S74} (h : l = pre ++ a :: suf) : rd_T74 l (pre.length : Int) = a := getD_at _ h
def SmSet (p : S74) : Prop := True ∧ SmProp p.f1
def SmSets (l : List S74) : Prop := l.length ≤ 1048576 ∧ ∀ p ∈ l, SmSet p
end Go.Proofs.Ytbgggcgjijljkaa.L

/- What is known of a thing set, all or none; as the program and the reference have it. No condition. -/
set_option linter.unusedSimpArgs false
set_option linter.unusedVariables false
namespace Go.Proofs.Ytbgggcgjijljkaa.L
open Go.RowKit Go.Proofs.YtbgggcgjijljkaaW.PrintWords Go.Proofs.YtbgggcgjijljkaaW.PrintLast Go.Proofs.Ytbgggcgjijljkaa.Q
def setS (s : S74) : Bool → List S72 → List S72
  | d, [] => if d = true then [] else [s.f1]
  | d, a :: l => (if d = true then [] else if lessProp a s.f1 = true then [] else [s.f1]) ++ (if a.f0 = s.f1.f0 ∧ a.f1 = s.f1.f1 then [] else [a]) ++ setS s (d || !lessProp a s.f1) l
theorem setS_length (s : S74) : ∀ (l : List S72) (d : Bool), (setS s d l).length ≤ l.length + (if d = true then 0 else 1)
  | [], d => by cases d <;> simp [setS]
  | a :: l, d => by
    have ih := setS_length s l
    unfold setS
    cases d
    · by_cases c : lessProp a s.f1 = true
      · have := ih false
        by_cases c2 : a.f0 = s.f1.f0 ∧ a.f1 = s.f1.f1 <;> simp [c, c2] at this ⊢ <;> omega
      · have := ih true
        by_cases c2 : a.f0 = s.f1.f0 ∧ a.f1 = s.f1.f1 <;> simp [c, c2] at this ⊢ <;> omega
    · have := ih true
      by_cases c2 : a.f0 = s.f1.f0 ∧ a.f1 = s.f1.f1 <;> simp [c2] at this ⊢ <;> omega
theorem setS_mem (s : S74) : ∀ (l : List S72) (d : Bool) (b : S72), b ∈ setS s d l → b = s.f1 ∨ b ∈ l
  | [], d, b, h => by cases d <;> simp [setS] at h; exact .inl h
  | a :: l, d, b, h => by
    unfold setS at h
    rcases List.mem_append.1 h with h | h
    · rcases List.mem_append.1 h with h | h
      · split at h
        · cases h
        · split at h
          · cases h
          · exact .inl (by simpa using h)
      · split at h
        · cases h
        · exact .inr (by simp at h; simp [h])
    · rcases setS_mem s l _ b h with h | h
      · exact .inl h
      · exact .inr (by simp [h])
theorem specOne {l : List S72} {s : S74} (hl0 : l.length ≤ 4194304) : Ev (fun k => spec_l12One.f k l s.f0 s.f1.f0 s.f1.f1 s.f1.f2) (setS s s.f0 l) := by
  have hl : l.length ≤ maxLen := by rw [maxLen_eq]; omega
  have key : ∀ (suf pre out : List S72) (d : Bool), l = pre ++ suf → out.length ≤ 2 * pre.length → Ev (fun k => spec_l12One.l0 k l out d pre.length s.f0 s.f1.f0 s.f1.f1 s.f1.f2) (out ++ setS s d suf) := by
    intro suf
    induction suf with
    | nil =>
      intro pre out d h ho
      have hp : pre.length = l.length := by rw [h]; simp
      refine Ev.step (fun k => spec_l12One.l0.eq_2 ..) ?_
      simp only [if_neg (end_at h), setS]
      by_cases c : d = true
      · simp only [if_pos c, List.append_nil]; exact Ev.now _
      · simp only [if_neg c, show out.length < 2932031007402 by omega, if_true]; exact Ev.now _
    | cons a suf ih =>
      intro pre out d h ho
      have hpl : l.length = pre.length + (suf.length + 1) := by rw [h]; simp
      have hj1 : ∀ b : Bool, Ev (fun k => spec_l12One.j1 k l out d pre.length b s.f0 s.f1.f0 s.f1.f1 s.f1.f2) (out ++ ((if b = true then [s.f1] else []) ++ ((if a.f0 = s.f1.f0 ∧ a.f1 = s.f1.f1 then [] else [a]) ++ setS s (d || b) suf))) := by
        intro b
        refine Ev.step (fun k => spec_l12One.j1.eq_2 ..) ?_
        by_cases c : b = true
        · subst c
          simp only [if_true, show out.length < 2932031007402 by omega, Option.bind_some, if_pos (nonneg_at _), if_pos (lt_at h), rd_implProp h, next_at h hl, ba_eq, Bool.or_true]
          by_cases c0 : a.f0 = s.f1.f0
          · by_cases c1 : a.f1 = s.f1.f1
            · simp only [if_pos c0, if_pos c1, if_pos (And.intro c0 c1)]
              exact ev_cast (ih (pre ++ [a]) (out ++ [s.f1]) true (snoc_at h) (by simp; omega)) (by simp)
            · simp only [if_pos c0, if_neg c1, if_neg (fun e : a.f0 = s.f1.f0 ∧ a.f1 = s.f1.f1 => c1 e.2), show ∀ x : S72, (out ++ [x]).length < 2932031007402 from fun x => (by simp; omega), if_true]
              exact ev_cast (ih (pre ++ [a]) (out ++ [s.f1] ++ [a]) true (snoc_at h) (by simp; omega)) (by simp)
          · simp only [if_neg c0, if_neg (fun e : a.f0 = s.f1.f0 ∧ a.f1 = s.f1.f1 => c0 e.1), show ∀ x : S72, (out ++ [x]).length < 2932031007402 from fun x => (by simp; omega), if_true]
            exact ev_cast (ih (pre ++ [a]) (out ++ [s.f1] ++ [a]) true (snoc_at h) (by simp; omega)) (by simp)
        · have c' : b = false := by simpa using c
          subst c'
          simp only [Bool.false_eq_true, if_false, if_pos (nonneg_at _), if_pos (lt_at h), rd_implProp h, next_at h hl, ba_eq, Bool.or_false, List.nil_append]
          by_cases c0 : a.f0 = s.f1.f0
          · by_cases c1 : a.f1 = s.f1.f1
            · simp only [if_pos c0, if_pos c1, if_pos (And.intro c0 c1), List.nil_append]
              exact ih (pre ++ [a]) out d (snoc_at h) (by simp; omega)
            · simp only [if_pos c0, if_neg c1, if_neg (fun e : a.f0 = s.f1.f0 ∧ a.f1 = s.f1.f1 => c1 e.2), show out.length < 2932031007402 by omega, if_true]
              exact ev_cast (ih (pre ++ [a]) (out ++ [a]) d (snoc_at h) (by simp; omega)) (by simp)
          · simp only [if_neg c0, if_neg (fun e : a.f0 = s.f1.f0 ∧ a.f1 = s.f1.f1 => c0 e.1), show out.length < 2932031007402 by omega, if_true]
            exact ev_cast (ih (pre ++ [a]) (out ++ [a]) d (snoc_at h) (by simp; omega)) (by simp)
      refine Ev.step (fun k => spec_l12One.l0.eq_2 ..) ?_
      simp only [if_pos (lt_at h), if_pos (nonneg_at _), rd_implProp h, setS, specLessProp, Option.bind_some]
      by_cases c : d = true
      · subst c
        simp only [if_true]
        exact ev_cast (hj1 false) (by simp)
      · have c' : d = false := by simpa using c
        subst c'
        simp only [Bool.false_eq_true, if_false]
        refine ev_cast (hj1 (!lessProp a s.f1)) ?_
        by_cases c2 : lessProp a s.f1 = true
        · simp [c2]
        · simp [c2]
  exact key l [] [] s.f0 rfl (by simp)
def setAll (l0 : List S72) : List S72 → List S74 → List S72 × Bool
  | out, [] => if propsOk out = true then (out, true) else (l0, false)
  | out, s :: sets => if propOk s.f1 = true then setAll l0 (setS s s.f0 out) sets else (l0, false)
theorem specSetAll {l : List S72} {sets : List S74} (hl : SmProps l) (hs : SmSets sets) : Ev (fun k => spec_SetProps.f k l sets) (setAll l l sets) := by
  have hl0 := hl.1
  have hs0 := hs.1
  have hsl : sets.length ≤ maxLen := by rw [maxLen_eq]; omega
  unfold spec_SetProps.f
  simp only [Option.bind_some, List.length_nil, Nat.zero_add, List.nil_append, show l.length < 2932031007402 by omega, if_true]
  have key : ∀ (suf pre : List S74) (out : List S72), sets = pre ++ suf → out.length ≤ l.length + pre.length → (∀ p ∈ out, SmProp p) → Ev (fun k => spec_SetProps.l0 k l sets out pre.length) (setAll l out suf) := by
    intro suf
    induction suf with
    | nil =>
      intro pre out h ho hm
      have hp : pre.length = sets.length := by rw [h]; simp
      refine Ev.step (fun k => spec_SetProps.l0.eq_2 ..) ?_
      simp only [if_neg (end_at h), setAll]
      refine Ev.bind (specPropsOkB (by rw [maxLen_eq]; omega) hm) ?_
      by_cases c : propsOk out = true
      · simp only [if_pos c]; exact Ev.now _
      · simp only [if_neg c, Option.bind_some, List.length_nil, Nat.zero_add, List.nil_append, show l.length < 2932031007402 by omega, if_true]; exact Ev.now _
    | cons s suf ih =>
      intro pre out h ho hm
      have hpl : sets.length = pre.length + (suf.length + 1) := by rw [h]; simp
      have hss := hs.2 s (by rw [h]; simp)
      refine Ev.step (fun k => spec_SetProps.l0.eq_2 ..) ?_
      simp only [if_pos (lt_at h), if_pos (nonneg_at _), rd_implSet h, setAll, next_at h hsl]
      refine Ev.bind (specPropOk hss.2) ?_
      by_cases c : propOk s.f1 = true
      · simp only [if_pos c]
        refine Ev.bind (specOne (by omega)) ?_
        refine ih (pre ++ [s]) _ (snoc_at h) ?_ (fun p hp => ?_)
        · have h2 := setS_length s out s.f0
          have h3 : (if s.f0 = true then 0 else 1) ≤ 1 := by split <;> omega
          simp; omega
        · rcases setS_mem s out _ p hp with rfl | hp
          · exact hss.2
          · exact hm p hp
      · simp only [if_neg c, Option.bind_some, List.length_nil, Nat.zero_add, List.nil_append, show l.length < 2932031007402 by omega, if_true]; exact Ev.now _
  exact key sets [] l rfl (by simp) hl.2
end Go.Proofs.Ytbgggcgjijljkaa.L

/- Draws of properties. No condition. -/
set_option linter.unusedSimpArgs false
set_option linter.unusedVariables false
namespace Go.Proofs.Ytbgggcgjijljkaa.L
open Go.RowKit Go.Proofs.YtbgggcgjijljkaaW.PrintWords Go.Proofs.YtbgggcgjijljkaaW.PrintLast Go.Proofs.Ytbgggcgjijljkaa.Q
theorem setAll_few {n : Nat} (hn : 4 ≤ n) {l0 : List S72} (h0 : l0.length ≤ n ∧ ∀ p ∈ l0, SmProp p) : ∀ (sets : List S74) (out : List S72), (∀ s ∈ sets, SmSet s) → (∀ p ∈ out, SmProp p) → (setAll l0 out sets).1.length ≤ n ∧ ∀ p ∈ (setAll l0 out sets).1, SmProp p
  | [], out, _, ho => by
    unfold setAll
    by_cases c : propsOk out = true
    · simp only [if_pos c]
      refine ⟨?_, ho⟩
      unfold propsOk at c
      have := of_decide_eq_true (Bool.and_eq_true_iff.1 c).2
      omega
    · simp only [if_neg c]; exact h0
  | s :: sets, out, hs, ho => by
    unfold setAll
    by_cases c : propOk s.f1 = true
    · simp only [if_pos c]
      refine setAll_few hn h0 sets _ (fun x hx => hs x (by simp [hx])) (fun p hp => ?_)
      rcases setS_mem s out _ p hp with rfl | hp
      · exact (hs s (by simp)).2
      · exact ho p hp
    · simp only [if_neg c]; exact h0
theorem mem_sz {v : ByteArray} {l : List ByteArray} (h : v ∈ l) (hl : l.all (fun x => decide (x.size ≤ 1048576)) = true) : v.size ≤ 1048576 := of_decide_eq_true (List.all_eq_true.1 hl v h)
theorem onePropD {b : List Int} {p : Int} (h : Cur b p) (s : Int) : ∃ x y z p' s', spec_l10OneProp.f b p s = some (x, y, z, p', s') ∧ SmProp (⟨x, y, z⟩ : S72) ∧ Cur b p' := by
  unfold spec_l10OneProp.f
  obtain ⟨v, p1, s1, e, m, h1⟩ := strD h s (l := [(⟨#[68, 65, 86, 58]⟩ : ByteArray), (⟨#[117, 58, 120]⟩ : ByteArray), (⟨#[]⟩ : ByteArray)]) (by simp)
  have m1 := mem_sz m (by decide)
  simp only [e, Option.bind_some]
  obtain ⟨v', p2, s2, e, m, h2⟩ := strD h1 s1 (l := [(⟨#[97]⟩ : ByteArray), (⟨#[99, 111, 108, 111, 114]⟩ : ByteArray), (⟨#[98]⟩ : ByteArray)]) (by simp)
  have m2 := mem_sz m (by decide)
  simp only [e, Option.bind_some]
  obtain ⟨v'', p3, s3, e, m, h3⟩ := strD h2 s2 (l := [(⟨#[]⟩ : ByteArray), (⟨#[114, 101, 100]⟩ : ByteArray), (⟨#[97, 60, 98]⟩ : ByteArray)]) (by simp)
  have m3 := mem_sz m (by decide)
  simp only [e, Option.bind_some]
  exact ⟨_, _, _, _, _, rfl, ⟨m1, m2, m3⟩, h3⟩
theorem setAll_ok (l0 : List S72) : ∀ (sets : List S74) (out : List S72), (setAll l0 out sets).2 = true → propsOk (setAll l0 out sets).1 = true
  | [], out, h => by
    unfold setAll at h ⊢
    by_cases c : propsOk out = true
    · simp only [if_pos c]; exact c
    · simp only [if_neg c] at h; cases h
  | t :: sets, out, h => by
    unfold setAll at h ⊢
    by_cases c : propOk t.f1 = true
    · simp only [if_pos c] at h ⊢
      exact setAll_ok l0 sets _ h
    · simp only [if_neg c] at h; cases h
theorem setAll_no (l0 : List S72) : ∀ (sets : List S74) (out : List S72), ¬ (setAll l0 out sets).2 = true → (setAll l0 out sets).1 = l0
  | [], out, h => by
    unfold setAll at h ⊢
    by_cases c : propsOk out = true
    · rw [if_pos c] at h; exact absurd rfl h
    · simp only [if_neg c]
  | t :: sets, out, h => by
    unfold setAll at h ⊢
    by_cases c : propOk t.f1 = true
    · simp only [if_pos c] at h ⊢
      exact setAll_no l0 sets _ h
    · simp only [if_neg c]
theorem propsD {b : List Int} {p : Int} (h : Cur b p) (s : Int) : ∃ l p' s', Ev (fun k => spec_l10Props.f k b p s) (l, p', s') ∧ (l.length ≤ 4 ∧ (∀ x ∈ l, SmProp x) ∧ propsOk l = true) ∧ Cur b p' := by
  unfold spec_l10Props.f
  obtain ⟨v, p1, s1, e, v0, v1, h1⟩ := belowD h s (n := 3) (by omega)
  simp only [e, Option.bind_some]
  have key : ∀ (n : Nat) (out : List S72) (q t : Int), n ≤ 1000 → (out.length ≤ 4 ∧ (∀ x ∈ out, SmProp x) ∧ propsOk out = true) → Cur b q → ∃ l p' s', Ev (fun k => spec_l10Props.l0 k out (n : Int) b q t) (l, p', s') ∧ (l.length ≤ 4 ∧ (∀ x ∈ l, SmProp x) ∧ propsOk l = true) ∧ Cur b p' := by
    intro n
    induction n with
    | zero =>
      intro out q t _ ho hq
      refine ⟨out, q, t, ?_, ho, hq⟩
      refine Ev.step (fun k => spec_l10Props.l0.eq_2 ..) ?_
      simp only [if_neg (show ¬ ((0 : Nat) : Int) > 0 by decide)]
      exact Ev.now _
    | succ n ih =>
      intro out q t hn ho hq
      obtain ⟨x, y, z, q1, t1, e, m, hq1⟩ := onePropD hq t
      have hset : SmSets [(⟨false, (⟨x, y, z⟩ : S72)⟩ : S74)] := ⟨by simp, by intro c hc; simp at hc; subst hc; exact ⟨trivial, m⟩⟩
      have hpo : propsOk (setAll out out [(⟨false, (⟨x, y, z⟩ : S72)⟩ : S74)]).1 = true := by
        by_cases c : (setAll out out [(⟨false, (⟨x, y, z⟩ : S72)⟩ : S74)]).2 = true
        · exact setAll_ok out _ out c
        · rw [setAll_no out _ out c]; exact ho.2.2
      obtain ⟨l, q2, t2, he, hl, hq2⟩ := ih (setAll out out [(⟨false, (⟨x, y, z⟩ : S72)⟩ : S74)]).1 q1 t1 (by omega) ⟨(setAll_few (Nat.le_refl 4) ⟨ho.1, ho.2.1⟩ _ _ hset.2 ho.2.1).1, (setAll_few (Nat.le_refl 4) ⟨ho.1, ho.2.1⟩ _ _ hset.2 ho.2.1).2, hpo⟩ hq1
      refine ⟨l, q2, t2, ?_, hl, hq2⟩
      refine Ev.step (fun k => spec_l10Props.l0.eq_2 ..) ?_
      simp only [if_pos (show ((n + 1 : Nat) : Int) > 0 by omega), e, Option.bind_some]
      refine Ev.bind (specSetAll ⟨by have := ho.1; omega, ho.2.1⟩ hset) ?_
      rw [show wrap64 (((n + 1 : Nat) : Int) - 1) = (n : Int) by rw [wrap_id (by omega) (by omega)]; omega]
      exact he
  obtain ⟨n, rfl⟩ := Int.eq_ofNat_of_zero_le v0
  exact key n [] p1 s1 (by omega) ⟨by simp, by simp, by decide⟩ h1
end Go.Proofs.Ytbgggcgjijljkaa.L
