/- Paths, one ahead of the other: what the program and the reference say. No condition. -/
import Derived.Test.YtbgggcgjijljkaaVFnRemovedG25
import Derived.Test.YtbgggcgjijljkaaVFnRemovedG22
import Derived.Test.YtbgggcgjijljkaaVFnRemovedG32
import Derived.Test.YtbgggcgjijljkaaVFnRemovedG26
import Derived.Test.YtbgggcgjijljkaaVFnRemovedG23
import Derived.Test.YtbgggcgjijljkaaVFnRemovedG24
import Derived.Test.YtbgggcgjijljkaaVFnRemovedG27
import Derived.Test.YtbgggcgjijljkaaVFnRemovedG29
import Derived.Test.YtbgggcgjijljkaaVFnRemovedG30
import Derived.Test.YtbgggcgjijljkaaVFnRemovedG31
import Derived.Test.YtbgggcgjijljkaaVFnRemovedG12
import Derived.Test.YtbgggcgjijljkaaVFnRemovedWFoot
import Derived.Test.YtbgggcgjijljkaaVFnRemovedWShare
set_option linter.unusedSimpArgs false
set_option linter.unusedVariables false
namespace Go.Proofs.Ytbgggcgjijljkaa.L
open Go.RowKit Go.Proofs.YtbgggcgjijljkaaW.PrintWords Go.Proofs.YtbgggcgjijljkaaW.PrintLast Go.Proofs.Ytbgggcgjijljkaa.Q
def lessP : List ByteArray → List ByteArray → Bool
  | [], [] => false
  | [], _ :: _ => true
  | _ :: _, [] => false
  | x :: a, y :: b => if x = y then lessP a b else Op.bytesLess x.toList y.toList
theorem len_lt {α : Type} {l m pu pv su sv : List α} (h : l = pu ++ su) (h' : m = pv ++ sv) (hp : pu.length = pv.length) : ((l.length : Int) < (m.length : Int)) = (su.length < sv.length) := by
  subst h; subst h'; simp [hp]
theorem implLess_loop {a b : List ByteArray} (hl : a.length ≤ maxLen) : ∀ (su sv pu pv : List ByteArray), a = pu ++ su → b = pv ++ sv → pu.length = pv.length → Ev (fun k => impl_LessPath.l0 k a b pu.length) (lessP su sv) := by
  intro su
  induction su with
  | nil =>
    intro sv pu pv h h' hp
    refine Ev.step (fun k => impl_LessPath.l0.eq_2 ..) ?_
    simp only [if_neg (end_at h)]
    refine Ev.step (fun k => impl_LessPath.j1.eq_2 ..) ?_
    simp only [Bool.false_eq_true, if_false, len_lt h h' hp]
    cases sv <;> simp only [lessP] <;> exact Ev.now _
  | cons x su ih =>
    intro sv pu pv h h' hp
    refine Ev.step (fun k => impl_LessPath.l0.eq_2 ..) ?_
    simp only [if_pos (lt_at h)]
    refine Ev.step (fun k => impl_LessPath.j1.eq_2 ..) ?_
    cases sv with
    | nil =>
      have h4 := end_at h'
      rw [← hp] at h4
      simp only [h4, decide_false, Bool.false_eq_true, if_false, len_lt h h' hp, lessP]
      exact Ev.now _
    | cons y sv =>
      have h3 := rd_at ByteArray.empty h'
      have h4 := lt_at h'
      rw [← hp] at h3 h4
      by_cases e : x = y
      · subst e
        simp only [h4, decide_true, if_true, if_pos (lt_at h), if_pos (nonneg_at _), rd_at _ h, h3, next_at h hl, lessP]
        exact ih sv (pu ++ [x]) (pv ++ [x]) (snoc_at h) (snoc_at h') (by simp [hp])
      · simp only [h4, decide_true, if_true, if_pos (lt_at h), if_pos (nonneg_at _), rd_at _ h, h3, ba_eq, if_neg e, lessP]
        exact Ev.now _
theorem implLess {a b : List ByteArray} (hl : a.length ≤ maxLen) : Ev (fun k => impl_LessPath.f k a b) (lessP a b) := implLess_loop hl a b [] [] rfl rfl rfl
theorem specLess_loop {a b : List ByteArray} (hl : a.length ≤ maxLen) : ∀ (su sv pu pv : List ByteArray), a = pu ++ su → b = pv ++ sv → pu.length = pv.length → Ev (fun k => spec_LessPath.l0 k a b pu.length) (lessP su sv) := by
  intro su
  induction su with
  | nil =>
    intro sv pu pv h h' hp
    refine Ev.step (fun k => spec_LessPath.l0.eq_2 ..) ?_
    simp only [if_neg (end_at h)]
    refine Ev.step (fun k => spec_LessPath.j1.eq_2 ..) ?_
    simp only [Bool.false_eq_true, if_false, len_lt h h' hp]
    cases sv <;> simp only [lessP] <;> exact Ev.now _
  | cons x su ih =>
    intro sv pu pv h h' hp
    refine Ev.step (fun k => spec_LessPath.l0.eq_2 ..) ?_
    simp only [if_pos (lt_at h)]
    refine Ev.step (fun k => spec_LessPath.j1.eq_2 ..) ?_
    cases sv with
    | nil =>
      have h4 := end_at h'
      rw [← hp] at h4
      simp only [h4, decide_false, Bool.false_eq_true, if_false, len_lt h h' hp, lessP]
      exact Ev.now _
    | cons y sv =>
      have h3 := rd_at ByteArray.empty h'
      have h4 := lt_at h'
      rw [← hp] at h3 h4
      by_cases e : x = y
      · subst e
        simp only [h4, decide_true, if_true, if_pos (lt_at h), if_pos (nonneg_at _), rd_at _ h, h3, next_at h hl, lessP]
        exact ih sv (pu ++ [x]) (pv ++ [x]) (snoc_at h) (snoc_at h') (by simp [hp])
      · simp only [h4, decide_true, if_true, if_pos (lt_at h), if_pos (nonneg_at _), rd_at _ h, h3, ba_eq, if_neg e, lessP]
        exact Ev.now _
theorem specLess {a b : List ByteArray} (hl : a.length ≤ maxLen) : Ev (fun k => spec_LessPath.f k a b) (lessP a b) := specLess_loop hl a b [] [] rfl rfl rfl
end Go.Proofs.Ytbgggcgjijljkaa.L

/- Shelves: are they right; as the program and the reference have it. No condition. -/
set_option linter.unusedSimpArgs false
set_option linter.unusedVariables false
namespace Go.Proofs.Ytbgggcgjijljkaa.L
open Go.RowKit Go.Proofs.YtbgggcgjijljkaaW.PrintWords Go.Proofs.YtbgggcgjijljkaaW.PrintLast Go.Proofs.Ytbgggcgjijljkaa.Q
theorem size0 (s : ByteArray) : (s.toList = ([] : List UInt8)) = (bl s = []) := by rw [ba_toList]
def resOk (r : S57) : Bool := decide (r.f0 ≠ []) && (pathOk r.f0 && (decide (r.f1 = true → bl r.f2 = []) && (decide ((r.f2.size : Int) ≤ 200) && (decide (0 ≤ r.f3 ∧ r.f3 ≤ 99999) && propsOk r.f4))))
theorem implResOk {r : S57} (hr : SmRes r) : Ev (fun k => impl_resOk.f k r.f0 r.f1 r.f2 r.f3 r.f4) (resOk r) := by
  obtain ⟨g0, _, g2, g3, g4⟩ := hr
  unfold impl_resOk.f resOk
  by_cases c0 : r.f0 = []
  · simp only [c0, List.length_nil, Int.natCast_zero, gt_iff_lt, Int.lt_irrefl, if_false, ne_eq, not_true_eq_false, decide_false, Bool.false_and]
    exact Ev.now _
  have h0 : (r.f0.length : Int) > 0 := by have := List.length_pos_iff.2 c0; omega
  simp only [if_pos h0, ne_eq, c0, not_false_eq_true, decide_true, Bool.true_and]
  refine Ev.bind (implPathOk g0) ?_
  by_cases c1 : pathOk r.f0 = true
  rotate_left
  · simp only [c1, Bool.false_eq_true, if_false, Bool.false_and]; exact Ev.now _
  simp only [c1, if_true, Bool.true_and, size0, implIn, Option.bind_some, decide_eq_true_eq]
  have tail : Ev (fun n => if (r.f2.size : Int) ≤ 200 then (if 0 ≤ r.f3 ∧ r.f3 ≤ 99999 then ((impl_PropsOk.f n r.f4).bind fun t609 => some t609) else some false) else some false) (decide ((r.f2.size : Int) ≤ 200) && (decide (0 ≤ r.f3 ∧ r.f3 ≤ 99999) && propsOk r.f4)) := by
    by_cases c2 : (r.f2.size : Int) ≤ 200
    · simp only [c2, if_true, decide_true, Bool.true_and]
      by_cases c3 : 0 ≤ r.f3 ∧ r.f3 ≤ 99999
      · simp only [c3, and_self, if_true, decide_true, Bool.true_and]
        exact Ev.bind (implPropsOk g4) (Ev.now _)
      · simp only [c3, if_false, decide_false, Bool.false_and]
        exact Ev.now _
    · simp only [c2, if_false, decide_false, Bool.false_and]
      exact Ev.now _
  by_cases c4 : r.f1 = true
  · simp only [c4, if_true, true_imp_iff]
    by_cases c5 : bl r.f2 = []
    · simp only [c5, if_true, decide_true, Bool.true_and]
      exact tail
    · simp only [c5, if_false, decide_false, Bool.false_and]
      exact Ev.now _
  · simp only [c4, Bool.false_eq_true, if_false, false_imp_iff, decide_true, Bool.true_and]
    exact tail
def treeL (t : List S57) : Option S57 → List S57 → Bool
  | _, [] => true
  | last, r :: l => resOk r && ((match last with | none => true | some q => lessP q.f0 r.f0) && (isColl t (above r.f0) && treeL t (some r) l))
def treeOk (t : List S57) : Bool := treeL t none t && decide ((t.length : Int) ≤ 12)
theorem specTreeOk {t : List S57} (ht : SmRess t) : Ev (fun k => spec_TreeOk.f k t) (treeOk t) := by
  have hl : t.length ≤ maxLen := by have := ht.1; rw [maxLen_eq]; omega
  have key : ∀ (suf pre : List S57), t = pre ++ suf → Ev (fun k => spec_TreeOk.l0 k t pre.length) (treeL t pre.getLast? suf && decide ((t.length : Int) ≤ 12)) := by
    intro suf
    induction suf with
    | nil =>
      intro pre h
      refine Ev.step (fun k => spec_TreeOk.l0.eq_2 ..) ?_
      simp only [if_neg (end_at h), treeL, Bool.true_and]
      exact Ev.now _
    | cons a suf ih =>
      intro pre h
      have hn := ih (pre ++ [a]) (snoc_at h)
      rw [List.getLast?_append] at hn
      simp only [List.getLast?_singleton, Option.some_or] at hn
      have ha := ht.2 a (by rw [h]; simp)
      obtain ⟨g0, _, g2, g3, g4⟩ := ha
      have hla : a.f0.length ≤ maxLen := by have := g0.1; rw [maxLen_eq]; omega
      have join : ∀ b : Bool, b = (!resOk a) → Ev (fun k => spec_TreeOk.j1 k t pre.length b a.f0 a.f1 a.f2 a.f3 a.f4) (treeL t pre.getLast? (a :: suf) && decide ((t.length : Int) ≤ 12)) := by
        intro b hb
        refine Ev.step (fun k => spec_TreeOk.j1.eq_2 ..) ?_
        simp only [treeL, hb]
        by_cases c0 : resOk a = true
        rotate_left
        · simp only [c0, Bool.not_false, if_true, Bool.false_and]; exact Ev.now _
        simp only [c0, Bool.not_true, Bool.false_eq_true, if_false, Bool.true_and]
        have fin : Ev (fun n => (spec_Above.f a.f0).bind fun t593 => (spec_IsColl.f n t t593).bind fun t596 => if t596 = true then spec_TreeOk.l0 n t (wrap64 ((pre.length : Int) + 1)) else some false) (isColl t (above a.f0) && treeL t (some a) suf && decide ((t.length : Int) ≤ 12)) := by
          simp only [specAbove g0.1, Option.bind_some]
          refine Ev.bind (specIsColl ht) ?_
          by_cases c2 : isColl t (above a.f0) = true
          · simp only [c2, if_true, Bool.true_and, next_at h hl]; exact hn
          · simp only [c2, Bool.false_eq_true, if_false, Bool.false_and]; exact Ev.now _
        rcases List.eq_nil_or_concat pre with rfl | ⟨pre', b', rfl⟩
        · simp only [List.length_nil, Int.natCast_zero, show ¬ (0 : Int) > 0 by omega, if_false, List.getLast?_nil, Bool.true_and]
          exact fin
        · rw [List.concat_eq_append] at h hn fin ⊢
          have hp := pred_at h hl
          have h2 : t = pre' ++ b' :: (a :: suf) := by rw [h]; simp
          have hb' := (ht.2 b' (by rw [h]; simp)).1.1
          simp only [show (((pre' ++ [b']).length : Nat) : Int) > 0 by first | (simp; done) | (simp; omega), if_true, hp, if_pos (nonneg_at _), if_pos (lt_at h2), rd_implRes h2, List.getLast?_append, List.getLast?_singleton, Option.some_or]
          refine Ev.bind (specLess (by rw [maxLen_eq]; omega)) ?_
          by_cases c1 : lessP b'.f0 a.f0 = true
          · simp only [c1, if_true, Bool.true_and]
            exact fin
          · simp only [c1, Bool.false_eq_true, if_false, Bool.false_and]
            exact Ev.now _
      refine Ev.step (fun k => spec_TreeOk.l0.eq_2 ..) ?_
      simp only [if_pos (lt_at h), if_pos (nonneg_at _), rd_implRes h, nil_len, size0, specIn, Option.bind_some, decide_eq_true_eq]
      unfold resOk at join
      by_cases c0 : a.f0 = []
      · simp only [if_pos c0]
        exact join true (by simp [c0])
      simp only [if_neg c0]
      refine Ev.bind (specPathOk g0) ?_
      by_cases c1 : pathOk a.f0 = true
      rotate_left
      · simp only [c1, Bool.false_eq_true, if_false]
        exact join true (by simp [c1])
      simp only [c1, if_true]
      by_cases c2 : (a.f2.size : Int) > 200
      · simp only [if_pos c2]
        exact join true (by simp [show ¬ (a.f2.size : Int) ≤ 200 by omega])
      simp only [if_neg c2]
      have c2' : (a.f2.size : Int) ≤ 200 := by omega
      have tail : (a.f1 = true → bl a.f2 = []) → Ev (fun n => if 0 ≤ a.f3 ∧ a.f3 ≤ 99999 then ((spec_PropsOk.f n a.f4).bind fun t588 => spec_TreeOk.j1 n t (pre.length : Int) (!t588) a.f0 a.f1 a.f2 a.f3 a.f4) else spec_TreeOk.j1 n t (pre.length : Int) true a.f0 a.f1 a.f2 a.f3 a.f4) (treeL t pre.getLast? (a :: suf) && decide ((t.length : Int) ≤ 12)) := by
        intro c5
        by_cases c3 : 0 ≤ a.f3 ∧ a.f3 ≤ 99999
        · simp only [if_pos c3]
          refine Ev.bind (specPropsOk g4) ?_
          refine join _ ?_
          simp only [ne_eq, c0, not_false_eq_true, decide_true, c1, c2', c3, and_self, Bool.true_and, decide_eq_true c5]
        · simp only [if_neg c3]
          exact join true (by simp only [c3, decide_false, Bool.false_and, Bool.and_false, Bool.not_false])
      by_cases c4 : a.f1 = true
      · simp only [c4, if_true] at tail join ⊢
        by_cases c5 : bl a.f2 = []
        · simp only [if_pos c5]
          exact tail (fun _ => c5)
        · simp only [if_neg c5]
          exact join true (by simp [c5])
      · simp only [c4, Bool.false_eq_true, if_false] at tail join ⊢
        exact tail (fun h => h.elim)
  exact key t [] rfl
theorem implTreeOk {t : List S57} (ht : SmRess t) : Ev (fun k => impl_TreeOk.f k t) (treeOk t) := by
  have hl : t.length ≤ maxLen := by have := ht.1; rw [maxLen_eq]; omega
  have key : ∀ (suf pre : List S57), t = pre ++ suf → Ev (fun k => impl_TreeOk.l0 k t t (t.length : Int) pre.length) (treeL t pre.getLast? suf && decide ((t.length : Int) ≤ 12)) := by
    intro suf
    induction suf with
    | nil =>
      intro pre h
      refine Ev.step (fun k => impl_TreeOk.l0.eq_2 ..) ?_
      simp only [if_neg (end_at h), treeL, Bool.true_and]
      exact Ev.now _
    | cons a suf ih =>
      intro pre h
      have hn := ih (pre ++ [a]) (snoc_at h)
      rw [List.getLast?_append] at hn
      simp only [List.getLast?_singleton, Option.some_or] at hn
      have ha := ht.2 a (by rw [h]; simp)
      have g0 := ha.1
      refine Ev.step (fun k => impl_TreeOk.l0.eq_2 ..) ?_
      simp only [if_pos (lt_at h), if_pos (nonneg_at _), rd_implRes h]
      refine Ev.bind (implResOk ha) ?_
      simp only [treeL]
      by_cases c0 : resOk a = true
      rotate_left
      · simp only [c0, Bool.false_eq_true, if_false, Bool.false_and]; exact Ev.now _
      simp only [c0, if_true, Bool.true_and]
      have fin : Ev (fun n => (impl_Above.f a.f0).bind fun t593 => (impl_IsColl.f n t t593).bind fun t596 => if t596 = true then impl_TreeOk.l0 n t t (t.length : Int) (wrap64 ((pre.length : Int) + 1)) else some false) (isColl t (above a.f0) && treeL t (some a) suf && decide ((t.length : Int) ≤ 12)) := by
        simp only [implAbove g0.1, Option.bind_some]
        refine Ev.bind (implIsColl ht) ?_
        by_cases c2 : isColl t (above a.f0) = true
        · simp only [c2, if_true, Bool.true_and, next_at h hl]; exact hn
        · simp only [c2, Bool.false_eq_true, if_false, Bool.false_and]; exact Ev.now _
      rcases List.eq_nil_or_concat pre with rfl | ⟨pre', b', rfl⟩
      · simp only [List.length_nil, Int.natCast_zero, show ¬ (0 : Int) > 0 by omega, if_false, List.getLast?_nil, Bool.true_and]
        exact fin
      · rw [List.concat_eq_append] at h hn fin ⊢
        have hp := pred_at h hl
        have h2 : t = pre' ++ b' :: (a :: suf) := by rw [h]; simp
        have hb' := (ht.2 b' (by rw [h]; simp)).1.1
        simp only [show (((pre' ++ [b']).length : Nat) : Int) > 0 by first | (simp; done) | (simp; omega), if_true, hp, if_pos (nonneg_at _), if_pos (lt_at h2), rd_implRes h2, List.getLast?_append, List.getLast?_singleton, Option.some_or]
        refine Ev.bind (implLess (by rw [maxLen_eq]; omega)) ?_
        by_cases c1 : lessP b'.f0 a.f0 = true
        · simp only [c1, if_true, Bool.true_and]
          exact fin
        · simp only [c1, Bool.false_eq_true, if_false, Bool.false_and]
          exact Ev.now _
  exact key t [] rfl
end Go.Proofs.Ytbgggcgjijljkaa.L

/- Is a path under another one; as the program and the reference have it. No condition. -/
set_option linter.unusedSimpArgs false
set_option linter.unusedVariables false
namespace Go.Proofs.Ytbgggcgjijljkaa.L
open Go.RowKit Go.Proofs.YtbgggcgjijljkaaW.PrintWords Go.Proofs.YtbgggcgjijljkaaW.PrintLast Go.Proofs.Ytbgggcgjijljkaa.Q
def under (p head : List ByteArray) : Bool := decide (head.length < p.length) && decide (p.take head.length = head)
theorem implUnder {p head : List ByteArray} (hl : p.length ≤ 1048576) : Ev (fun k => impl_Under.f k p head) (under p head) := by
  unfold impl_Under.f under
  by_cases e : (p.length : Int) > (head.length : Int)
  · simp only [if_pos e, if_pos (nonneg_at _), if_pos (show (head.length : Int) ≤ p.length by omega), Int.toNat_natCast, show head.length < p.length by omega, decide_true, Bool.true_and]
    exact Ev.bind (implSame (by rw [maxLen_eq]; simp; omega)) (Ev.now _)
  · simp only [if_neg e, show ¬ head.length < p.length by omega, decide_false, Bool.false_and]
    exact Ev.now _
end Go.Proofs.Ytbgggcgjijljkaa.L

/- What lies on a shelf, and all of it; as the program and the reference have it. No condition. -/
set_option linter.unusedSimpArgs false
set_option linter.unusedVariables false
namespace Go.Proofs.Ytbgggcgjijljkaa.L
open Go.RowKit Go.Proofs.YtbgggcgjijljkaaW.PrintWords Go.Proofs.YtbgggcgjijljkaaW.PrintLast Go.Proofs.Ytbgggcgjijljkaa.Q
def deepOf (p : List ByteArray) (t : List S57) : List S57 := t.filter (fun r => decide (r.f0 = p) || under r.f0 p)
theorem implDeep {t : List S57} {p : List ByteArray} (ht : SmRess t) (hp : p.length ≤ 1048576) : Ev (fun k => impl_DeepOf.f k t p) (deepOf p t) := by
  have hl0 := ht.1
  have hl : t.length ≤ maxLen := by rw [maxLen_eq]; omega
  have key : ∀ (suf pre out : List S57), t = pre ++ suf → out.length ≤ pre.length → Ev (fun k => impl_DeepOf.l0 k p out t (t.length : Int) pre.length) (out ++ deepOf p suf) := by
    intro suf
    induction suf with
    | nil =>
      intro pre out h ho
      refine Ev.step (fun k => impl_DeepOf.l0.eq_2 ..) ?_
      simp only [if_neg (end_at h), deepOf, List.filter_nil, List.append_nil]
      exact Ev.now _
    | cons a suf ih =>
      intro pre out h ho
      have hpl : pre.length ≤ 1048576 := by have : t.length = pre.length + (suf.length + 1) := by rw [h]; simp
                                            omega
      have ha := ht.2 a (by rw [h]; simp)
      have ha0 := ha.1.1
      have ha4 := ha.2.2.2.2.1
      have hc : impl_copyRes.f a.f0 a.f1 a.f2 a.f3 a.f4 = some (a.f0, a.f1, a.f2, a.f3, a.f4) := by
        unfold impl_copyRes.f
        simp only [implCopyPath ha0, Option.bind_some, List.length_nil, Nat.zero_add, List.nil_append]
        rw [if_pos (by omega)]
      have hat : Ev (fun k => impl_isAt.f k a.f0 p) (decide (a.f0 = p) || under a.f0 p) := by
        unfold impl_isAt.f
        refine Ev.bind (implSame (by rw [maxLen_eq]; omega)) ?_
        by_cases c0 : a.f0 = p
        · simp only [c0, decide_true, if_true, Bool.true_or]; exact Ev.now _
        · simp only [c0, decide_false, Bool.false_eq_true, if_false, Bool.false_or]; exact Ev.bind (implUnder (by omega)) (Ev.now _)
      refine Ev.step (fun k => impl_DeepOf.l0.eq_2 ..) ?_
      simp only [if_pos (lt_at h), if_pos (nonneg_at _), rd_implRes h, next_at h hl, hc, Option.bind_some]
      refine Ev.bind hat ?_
      by_cases c0 : (decide (a.f0 = p) || under a.f0 p) = true
      · simp only [c0, if_true]
        simp only [show out.length < 1759218604441 by omega, if_true]
        refine ev_cast (ih (pre ++ [a]) _ (snoc_at h) (by simp; omega)) ?_
        simp only [deepOf, List.filter_cons, c0, if_true, List.append_assoc, List.cons_append, List.nil_append]
      · simp only [c0, Bool.false_eq_true, if_false]
        refine ev_cast (ih (pre ++ [a]) _ (snoc_at h) (by simp; omega)) ?_
        simp only [deepOf, List.filter_cons, c0, Bool.false_eq_true, if_false]
  exact key t [] [] rfl (by simp)
end Go.Proofs.Ytbgggcgjijljkaa.L

/- What turns shelves: copies, what is left without a thing, the first code, Remove; as the program and the reference have it. No condition. -/
set_option linter.unusedSimpArgs false
set_option linter.unusedVariables false
namespace Go.Proofs.Ytbgggcgjijljkaa.L
open Go.RowKit Go.Proofs.YtbgggcgjijljkaaW.PrintWords Go.Proofs.YtbgggcgjijljkaaW.PrintLast Go.Proofs.Ytbgggcgjijljkaa.Q
theorem implCopyRes {a : S57} (ha : SmRes a) : impl_copyRes.f a.f0 a.f1 a.f2 a.f3 a.f4 = some (a.f0, a.f1, a.f2, a.f3, a.f4) := by
  have ha0 := ha.1.1
  have ha4 := ha.2.2.2.2.1
  unfold impl_copyRes.f
  simp only [implCopyPath ha0, Option.bind_some, List.length_nil, Nat.zero_add, List.nil_append]
  rw [if_pos (by omega)]
theorem specCopyRes {a : S57} (ha : SmRes a) : spec_l10Copy.f a.f0 a.f1 a.f2 a.f3 a.f4 = some (a.f0, a.f1, a.f2, a.f3, a.f4) := by
  have ha0 := ha.1.1
  have ha4 := ha.2.2.2.2.1
  unfold spec_l10Copy.f
  simp only [Option.bind_some, List.length_nil, Nat.zero_add, List.nil_append]
  rw [if_pos (by omega), if_pos (by omega)]
theorem implIsAt {a p : List ByteArray} (ha : a.length ≤ 1048576) : Ev (fun k => impl_isAt.f k a p) (decide (a = p) || under a p) := by
  unfold impl_isAt.f
  refine Ev.bind (implSame (by rw [maxLen_eq]; omega)) ?_
  by_cases c0 : a = p
  · simp only [c0, decide_true, if_true, Bool.true_or]; exact Ev.now _
  · simp only [c0, decide_false, Bool.false_eq_true, if_false, Bool.false_or]; exact Ev.bind (implUnder (by omega)) (Ev.now _)
theorem implCopyTree {t : List S57} (ht : SmRess t) : Ev (fun k => impl_copyTree.f k t) t := by
  have hl0 := ht.1
  have hl : t.length ≤ maxLen := by rw [maxLen_eq]; omega
  have key : ∀ (suf pre out : List S57), t = pre ++ suf → out.length ≤ pre.length → Ev (fun k => impl_copyTree.l0 k out t (t.length : Int) pre.length) (out ++ suf) := by
    intro suf
    induction suf with
    | nil =>
      intro pre out h ho
      refine Ev.step (fun k => impl_copyTree.l0.eq_2 ..) ?_
      simp only [if_neg (end_at h), List.append_nil]
      exact Ev.now _
    | cons a suf ih =>
      intro pre out h ho
      have hpl : pre.length ≤ 1048576 := by have : t.length = pre.length + (suf.length + 1) := by rw [h]; simp
                                            omega
      have ha := ht.2 a (by rw [h]; simp)
      refine Ev.step (fun k => impl_copyTree.l0.eq_2 ..) ?_
      simp only [if_pos (lt_at h), if_pos (nonneg_at _), rd_implRes h, next_at h hl, implCopyRes ha, Option.bind_some, show out.length < 1759218604441 by omega, if_true]
      exact ev_cast (ih (pre ++ [a]) _ (snoc_at h) (by simp; omega)) (by simp)
  exact key t [] [] rfl (by simp)
theorem specCopyAll {t : List S57} (ht : SmRess t) : Ev (fun k => spec_l10CopyAll.f k t) t := by
  have hl0 := ht.1
  have hl : t.length ≤ maxLen := by rw [maxLen_eq]; omega
  have key : ∀ (suf pre out : List S57), t = pre ++ suf → out.length ≤ pre.length → Ev (fun k => spec_l10CopyAll.l0 k t out pre.length) (out ++ suf) := by
    intro suf
    induction suf with
    | nil =>
      intro pre out h ho
      refine Ev.step (fun k => spec_l10CopyAll.l0.eq_2 ..) ?_
      simp only [if_neg (end_at h), List.append_nil]
      exact Ev.now _
    | cons a suf ih =>
      intro pre out h ho
      have hpl : pre.length ≤ 1048576 := by have : t.length = pre.length + (suf.length + 1) := by rw [h]; simp
                                            omega
      have ha := ht.2 a (by rw [h]; simp)
      refine Ev.step (fun k => spec_l10CopyAll.l0.eq_2 ..) ?_
      simp only [if_pos (lt_at h), if_pos (nonneg_at _), rd_implRes h, next_at h hl, specCopyRes ha, Option.bind_some, show out.length < 1759218604441 by omega, if_true]
      exact ev_cast (ih (pre ++ [a]) _ (snoc_at h) (by simp; omega)) (by simp)
  exact key t [] [] rfl (by simp)
def mayC (t : List S57) (ps : List (List ByteArray)) (ver : Int) : Int := if treeOk t = true then (if ps.all pathOk = true then (if 0 ≤ ver ∧ ver ≤ 99999 then 0 else 507) else 400) else 500
theorem specMay {t : List S57} {p : List ByteArray} {ver : Int} (ht : SmRess t) (hp : SmS p) : Ev (fun k => spec_l11May.f k t p ver) (mayC t [p] ver) := by
  unfold spec_l11May.f mayC
  refine Ev.bind (specTreeOk ht) ?_
  by_cases c0 : treeOk t = true
  · simp only [if_pos c0, List.all_cons, List.all_nil, Bool.and_true]
    refine Ev.bind (specPathOk hp) ?_
    by_cases c1 : pathOk p = true
    · simp only [if_pos c1, specIn, Option.bind_some, decide_eq_true_eq]
      by_cases c2 : 0 ≤ ver ∧ ver ≤ 99999
      · simp only [if_pos c2]; exact Ev.now _
      · simp only [if_neg c2]; exact Ev.now _
    · simp only [if_neg c1]; exact Ev.now _
  · simp only [if_neg c0]; exact Ev.now _
theorem implMay {t : List S57} {ps : List (List ByteArray)} {ver : Int} (ht : SmRess t) (hn : ps.length ≤ 2) (hp : ∀ p ∈ ps, SmS p) : Ev (fun k => impl_opForm.f k t ver ps) (mayC t ps ver) := by
  have hl : ps.length ≤ maxLen := by rw [maxLen_eq]; omega
  unfold impl_opForm.f mayC
  refine Ev.bind (implTreeOk ht) ?_
  by_cases c0 : treeOk t = true
  · simp only [if_pos c0]
    have key : ∀ (suf pre : List (List ByteArray)), ps = pre ++ suf → Ev (fun k => impl_opForm.l0 k ver ps (ps.length : Int) pre.length) (if suf.all pathOk = true then (if 0 ≤ ver ∧ ver ≤ 99999 then 0 else 507) else 400) := by
      intro suf
      induction suf with
      | nil =>
        intro pre h
        refine Ev.step (fun k => impl_opForm.l0.eq_2 ..) ?_
        simp only [if_neg (end_at h), List.all_nil, if_true, implIn, Option.bind_some, decide_eq_true_eq]
        by_cases c2 : 0 ≤ ver ∧ ver ≤ 99999
        · simp only [if_pos c2]; exact Ev.now _
        · simp only [if_neg c2]; exact Ev.now _
      | cons a suf ih =>
        intro pre h
        refine Ev.step (fun k => impl_opForm.l0.eq_2 ..) ?_
        simp only [if_pos (lt_at h), if_pos (nonneg_at _), show rd_L2 ps ((pre.length : Nat) : Int) = a from getD_at _ h, List.all_cons, next_at h hl]
        refine Ev.bind (implPathOk (hp a (by rw [h]; simp))) ?_
        by_cases c1 : pathOk a = true
        · simp only [c1, if_true, Bool.true_and]; exact ih (pre ++ [a]) (snoc_at h)
        · simp only [c1, Bool.false_eq_true, if_false, Bool.false_and]; exact Ev.now _
    exact key ps [] rfl
  · simp only [if_neg c0]; exact Ev.now _
def withoutP (p : List ByteArray) (t : List S57) : List S57 := t.filter (fun r => !(decide (r.f0 = p) || under r.f0 p))
theorem without_length (p : List ByteArray) (t : List S57) : (withoutP p t).length ≤ t.length := List.length_filter_le _ _
theorem without_sm {p : List ByteArray} {t : List S57} (ht : SmRess t) : SmRess (withoutP p t) := ⟨Nat.le_trans (without_length p t) ht.1, fun r hr => ht.2 r (List.mem_filter.1 hr).1⟩
theorem implWithout {t : List S57} {p : List ByteArray} (ht : SmRess t) (hp : p.length ≤ 1048576) : Ev (fun k => impl_without.f k t p) (withoutP p t) := by
  have hl0 := ht.1
  have hl : t.length ≤ maxLen := by rw [maxLen_eq]; omega
  have key : ∀ (suf pre out : List S57), t = pre ++ suf → out.length ≤ pre.length → Ev (fun k => impl_without.l0 k p out t (t.length : Int) pre.length) (out ++ withoutP p suf) := by
    intro suf
    induction suf with
    | nil =>
      intro pre out h ho
      refine Ev.step (fun k => impl_without.l0.eq_2 ..) ?_
      simp only [if_neg (end_at h), withoutP, List.filter_nil, List.append_nil]
      exact Ev.now _
    | cons a suf ih =>
      intro pre out h ho
      have hpl : pre.length ≤ 1048576 := by have : t.length = pre.length + (suf.length + 1) := by rw [h]; simp
                                            omega
      have ha := ht.2 a (by rw [h]; simp)
      have ha0 := ha.1.1
      refine Ev.step (fun k => impl_without.l0.eq_2 ..) ?_
      simp only [if_pos (lt_at h), if_pos (nonneg_at _), rd_implRes h, next_at h hl, implCopyRes ha, Option.bind_some]
      refine Ev.bind (implIsAt (by omega)) ?_
      by_cases c1 : (decide (a.f0 = p) || under a.f0 p) = true
      · simp only [c1, if_true]
        refine ev_cast (ih (pre ++ [a]) _ (snoc_at h) (by simp; omega)) (by unfold withoutP; rw [List.filter_cons, if_neg (by rw [c1]; simp)])
      · simp only [c1, Bool.false_eq_true, if_false, show out.length < 1759218604441 by omega, if_true]
        refine ev_cast (ih (pre ++ [a]) _ (snoc_at h) (by simp; omega)) (by unfold withoutP; rw [List.filter_cons, if_pos (by rw [Bool.eq_false_iff.mpr c1]; rfl)]; simp)
  exact key t [] [] rfl (by simp)
def removeR (t : List S57) (p : List ByteArray) : List S57 × Int :=
  if mayC t [p] 0 = 0 then (if p = [] then (t, 403) else if findR t p < 0 then (t, 404) else (withoutP p t, 204)) else (t, mayC t [p] 0)
theorem implRemove {t : List S57} {p : List ByteArray} (ht : SmRess t) (hp : SmS p) : Ev (fun k => impl_RemoveX.f k t p) (removeR t p) := by
  have hp0 := hp.1
  show Ev (fun k => impl_Remove.f k t p) _
  unfold impl_Remove.f removeR
  refine Ev.bind (implMay ht (by simp) (fun q hq => by rw [List.mem_singleton.1 hq]; exact hp)) ?_
  by_cases c0 : mayC t [p] 0 = 0
  · simp only [if_pos c0, nil_len]
    by_cases c1 : p = []
    · simp only [if_pos c1]; exact Ev.bind (implCopyTree ht) (Ev.now _)
    · simp only [if_neg c1]
      refine Ev.bind (implFind ht) ?_
      by_cases c2 : findR t p < 0
      · simp only [if_pos c2]; exact Ev.bind (implCopyTree ht) (Ev.now _)
      · simp only [if_neg c2]
        exact Ev.bind (implWithout ht (by omega)) (Ev.now _)
  · simp only [if_neg c0]; exact Ev.bind (implCopyTree ht) (Ev.now _)
end Go.Proofs.Ytbgggcgjijljkaa.L

/- The laws' own functions over a mirrored struct (Set): size, copy, equality. No condition. -/
set_option linter.unusedSimpArgs false
set_option linter.unusedVariables false
namespace Go.Proofs.Ytbgggcgjijljkaa.L
open Go.RowKit Go.Proofs.YtbgggcgjijljkaaW.PrintWords Go.Proofs.YtbgggcgjijljkaaW.PrintLast Go.Proofs.Ytbgggcgjijljkaa.Q
instance : DecidableEq S74 := fun a b => if h : a.f0 = b.f0 ∧ a.f1 = b.f1 then .isTrue (by cases a; cases b; simp_all) else .isFalse (fun e => h (by rw [e]; exact ⟨rfl, rfl⟩))
theorem rd_implSet {l pre suf : List S74} {a : S74} (h : l = pre ++ a :: suf) : rd_T74 l (pre.length : Int) = a := getD_at _ h
def SmSet (p : S74) : Prop := True ∧ SmProp p.f1
def SmSets (l : List S74) : Prop := l.length ≤ 1048576 ∧ ∀ p ∈ l, SmSet p
end Go.Proofs.Ytbgggcgjijljkaa.L

/- What is known of a thing set, all or none; as the program and the reference have it. No condition. -/
set_option linter.unusedSimpArgs false
set_option linter.unusedVariables false
namespace Go.Proofs.Ytbgggcgjijljkaa.L
open Go.RowKit Go.Proofs.YtbgggcgjijljkaaW.PrintWords Go.Proofs.YtbgggcgjijljkaaW.PrintLast Go.Proofs.Ytbgggcgjijljkaa.Q
def setS (s : S74) : Bool → List S72 → List S72
  | d, [] => if d = true then [] else [s.f1]
  | d, a :: l => (if d = true then [] else if lessProp a s.f1 = true then [] else [s.f1]) ++ (if a.f0 = s.f1.f0 ∧ a.f1 = s.f1.f1 then [] else [a]) ++ setS s (d || !lessProp a s.f1) l
theorem setS_length (s : S74) : ∀ (l : List S72) (d : Bool), (setS s d l).length ≤ l.length + (if d = true then 0 else 1)
  | [], d => by cases d <;> simp [setS]
  | a :: l, d => by
    have ih := setS_length s l
    unfold setS
    cases d
    · by_cases c : lessProp a s.f1 = true
      · have := ih false
        by_cases c2 : a.f0 = s.f1.f0 ∧ a.f1 = s.f1.f1 <;> simp [c, c2] at this ⊢ <;> omega
      · have := ih true
        by_cases c2 : a.f0 = s.f1.f0 ∧ a.f1 = s.f1.f1 <;> simp [c, c2] at this ⊢ <;> omega
    · have := ih true
      by_cases c2 : a.f0 = s.f1.f0 ∧ a.f1 = s.f1.f1 <;> simp [c2] at this ⊢ <;> omega
theorem setS_mem (s : S74) : ∀ (l : List S72) (d : Bool) (b : S72), b ∈ setS s d l → b = s.f1 ∨ b ∈ l
  | [], d, b, h => by cases d <;> simp [setS] at h; exact .inl h
  | a :: l, d, b, h => by
    unfold setS at h
    rcases List.mem_append.1 h with h | h
    · rcases List.mem_append.1 h with h | h
      · split at h
        · cases h
        · split at h
          · cases h
          · exact .inl (by simpa using h)
      · split at h
        · cases h
        · exact .inr (by simp at h; simp [h])
    · rcases setS_mem s l _ b h with h | h
      · exact .inl h
      · exact .inr (by simp [h])
theorem specOne {l : List S72} {s : S74} (hl0 : l.length ≤ 4194304) : Ev (fun k => spec_l12One.f k l s.f0 s.f1.f0 s.f1.f1 s.f1.f2) (setS s s.f0 l) := by
  have hl : l.length ≤ maxLen := by rw [maxLen_eq]; omega
  have key : ∀ (suf pre out : List S72) (d : Bool), l = pre ++ suf → out.length ≤ 2 * pre.length → Ev (fun k => spec_l12One.l0 k l out d pre.length s.f0 s.f1.f0 s.f1.f1 s.f1.f2) (out ++ setS s d suf) := by
    intro suf
    induction suf with
    | nil =>
      intro pre out d h ho
      have hp : pre.length = l.length := by rw [h]; simp
      refine Ev.step (fun k => spec_l12One.l0.eq_2 ..) ?_
      simp only [if_neg (end_at h), setS]
      by_cases c : d = true
      · simp only [if_pos c, List.append_nil]; exact Ev.now _
      · simp only [if_neg c, show out.length < 2932031007402 by omega, if_true]; exact Ev.now _
    | cons a suf ih =>
      intro pre out d h ho
      have hpl : l.length = pre.length + (suf.length + 1) := by rw [h]; simp
      have hj1 : ∀ b : Bool, Ev (fun k => spec_l12One.j1 k l out d pre.length b s.f0 s.f1.f0 s.f1.f1 s.f1.f2) (out ++ ((if b = true then [s.f1] else []) ++ ((if a.f0 = s.f1.f0 ∧ a.f1 = s.f1.f1 then [] else [a]) ++ setS s (d || b) suf))) := by
        intro b
        refine Ev.step (fun k => spec_l12One.j1.eq_2 ..) ?_
        by_cases c : b = true
        · subst c
          simp only [if_true, show out.length < 2932031007402 by omega, Option.bind_some, if_pos (nonneg_at _), if_pos (lt_at h), rd_implProp h, next_at h hl, ba_eq, Bool.or_true]
          by_cases c0 : a.f0 = s.f1.f0
          · by_cases c1 : a.f1 = s.f1.f1
            · simp only [if_pos c0, if_pos c1, if_pos (And.intro c0 c1)]
              exact ev_cast (ih (pre ++ [a]) (out ++ [s.f1]) true (snoc_at h) (by simp; omega)) (by simp)
            · simp only [if_pos c0, if_neg c1, if_neg (fun e : a.f0 = s.f1.f0 ∧ a.f1 = s.f1.f1 => c1 e.2), show ∀ x : S72, (out ++ [x]).length < 2932031007402 from fun x => (by simp; omega), if_true]
              exact ev_cast (ih (pre ++ [a]) (out ++ [s.f1] ++ [a]) true (snoc_at h) (by simp; omega)) (by simp)
          · simp only [if_neg c0, if_neg (fun e : a.f0 = s.f1.f0 ∧ a.f1 = s.f1.f1 => c0 e.1), show ∀ x : S72, (out ++ [x]).length < 2932031007402 from fun x => (by simp; omega), if_true]
            exact ev_cast (ih (pre ++ [a]) (out ++ [s.f1] ++ [a]) true (snoc_at h) (by simp; omega)) (by simp)
        · have c' : b = false := by simpa using c
          subst c'
          simp only [Bool.false_eq_true, if_false, if_pos (nonneg_at _), if_pos (lt_at h), rd_implProp h, next_at h hl, ba_eq, Bool.or_false, List.nil_append]
          by_cases c0 : a.f0 = s.f1.f0
          · by_cases c1 : a.f1 = s.f1.f1
            · simp only [if_pos c0, if_pos c1, if_pos (And.intro c0 c1), List.nil_append]
              exact ih (pre ++ [a]) out d (snoc_at h) (by simp; omega)
            · simp only [if_pos c0, if_neg c1, if_neg (fun e : a.f0 = s.f1.f0 ∧ a.f1 = s.f1.f1 => c1 e.2), show out.length < 2932031007402 by omega, if_true]
              exact ev_cast (ih (pre ++ [a]) (out ++ [a]) d (snoc_at h) (by simp; omega)) (by simp)
          · simp only [if_neg c0, if_neg (fun e : a.f0 = s.f1.f0 ∧ a.f1 = s.f1.f1 => c0 e.1), show out.length < 2932031007402 by omega, if_true]
            exact ev_cast (ih (pre ++ [a]) (out ++ [a]) d (snoc_at h) (by simp; omega)) (by simp)
      refine Ev.step (fun k => spec_l12One.l0.eq_2 ..) ?_
      simp only [if_pos (lt_at h), if_pos (nonneg_at _), rd_implProp h, setS, specLessProp, Option.bind_some]
      by_cases c : d = true
      · subst c
        simp only [if_true]
        exact ev_cast (hj1 false) (by simp)
      · have c' : d = false := by simpa using c
        subst c'
        simp only [Bool.false_eq_true, if_false]
        refine ev_cast (hj1 (!lessProp a s.f1)) ?_
        by_cases c2 : lessProp a s.f1 = true
        · simp [c2]
        · simp [c2]
  exact key l [] [] s.f0 rfl (by simp)
def setAll (l0 : List S72) : List S72 → List S74 → List S72 × Bool
  | out, [] => if propsOk out = true then (out, true) else (l0, false)
  | out, s :: sets => if propOk s.f1 = true then setAll l0 (setS s s.f0 out) sets else (l0, false)
theorem specSetAll {l : List S72} {sets : List S74} (hl : SmProps l) (hs : SmSets sets) : Ev (fun k => spec_SetProps.f k l sets) (setAll l l sets) := by
  have hl0 := hl.1
  have hs0 := hs.1
  have hsl : sets.length ≤ maxLen := by rw [maxLen_eq]; omega
  unfold spec_SetProps.f
  simp only [Option.bind_some, List.length_nil, Nat.zero_add, List.nil_append, show l.length < 2932031007402 by omega, if_true]
  have key : ∀ (suf pre : List S74) (out : List S72), sets = pre ++ suf → out.length ≤ l.length + pre.length → (∀ p ∈ out, SmProp p) → Ev (fun k => spec_SetProps.l0 k l sets out pre.length) (setAll l out suf) := by
    intro suf
    induction suf with
    | nil =>
      intro pre out h ho hm
      have hp : pre.length = sets.length := by rw [h]; simp
      refine Ev.step (fun k => spec_SetProps.l0.eq_2 ..) ?_
      simp only [if_neg (end_at h), setAll]
      refine Ev.bind (specPropsOkB (by rw [maxLen_eq]; omega) hm) ?_
      by_cases c : propsOk out = true
      · simp only [if_pos c]; exact Ev.now _
      · simp only [if_neg c, Option.bind_some, List.length_nil, Nat.zero_add, List.nil_append, show l.length < 2932031007402 by omega, if_true]; exact Ev.now _
    | cons s suf ih =>
      intro pre out h ho hm
      have hpl : sets.length = pre.length + (suf.length + 1) := by rw [h]; simp
      have hss := hs.2 s (by rw [h]; simp)
      refine Ev.step (fun k => spec_SetProps.l0.eq_2 ..) ?_
      simp only [if_pos (lt_at h), if_pos (nonneg_at _), rd_implSet h, setAll, next_at h hsl]
      refine Ev.bind (specPropOk hss.2) ?_
      by_cases c : propOk s.f1 = true
      · simp only [if_pos c]
        refine Ev.bind (specOne (by omega)) ?_
        refine ih (pre ++ [s]) _ (snoc_at h) ?_ (fun p hp => ?_)
        · have h2 := setS_length s out s.f0
          have h3 : (if s.f0 = true then 0 else 1) ≤ 1 := by split <;> omega
          simp; omega
        · rcases setS_mem s out _ p hp with rfl | hp
          · exact hss.2
          · exact hm p hp
      · simp only [if_neg c, Option.bind_some, List.length_nil, Nat.zero_add, List.nil_append, show l.length < 2932031007402 by omega, if_true]; exact Ev.now _
  exact key sets [] l rfl (by simp) hl.2
end Go.Proofs.Ytbgggcgjijljkaa.L

/- Draws of properties. No condition. -/
set_option linter.unusedSimpArgs false
set_option linter.unusedVariables false
namespace Go.Proofs.Ytbgggcgjijljkaa.L
open Go.RowKit Go.Proofs.YtbgggcgjijljkaaW.PrintWords Go.Proofs.YtbgggcgjijljkaaW.PrintLast Go.Proofs.Ytbgggcgjijljkaa.Q
theorem setAll_few {n : Nat} (hn : 4 ≤ n) {l0 : List S72} (h0 : l0.length ≤ n ∧ ∀ p ∈ l0, SmProp p) : ∀ (sets : List S74) (out : List S72), (∀ s ∈ sets, SmSet s) → (∀ p ∈ out, SmProp p) → (setAll l0 out sets).1.length ≤ n ∧ ∀ p ∈ (setAll l0 out sets).1, SmProp p
  | [], out, _, ho => by
    unfold setAll
    by_cases c : propsOk out = true
    · simp only [if_pos c]
      refine ⟨?_, ho⟩
      unfold propsOk at c
      have := of_decide_eq_true (Bool.and_eq_true_iff.1 c).2
      omega
    · simp only [if_neg c]; exact h0
  | s :: sets, out, hs, ho => by
    unfold setAll
    by_cases c : propOk s.f1 = true
    · simp only [if_pos c]
      refine setAll_few hn h0 sets _ (fun x hx => hs x (by simp [hx])) (fun p hp => ?_)
      rcases setS_mem s out _ p hp with rfl | hp
      · exact (hs s (by simp)).2
      · exact ho p hp
    · simp only [if_neg c]; exact h0
theorem mem_sz {v : ByteArray} {l : List ByteArray} (h : v ∈ l) (hl : l.all (fun x => decide (x.size ≤ 1048576)) = true) : v.size ≤ 1048576 := of_decide_eq_true (List.all_eq_true.1 hl v h)
theorem onePropD {b : List Int} {p : Int} (h : Cur b p) (s : Int) : ∃ x y z p' s', spec_l10OneProp.f b p s = some (x, y, z, p', s') ∧ SmProp (⟨x, y, z⟩ : S72) ∧ Cur b p' := by
  unfold spec_l10OneProp.f
  obtain ⟨v, p1, s1, e, m, h1⟩ := strD h s (l := [(⟨#[68, 65, 86, 58]⟩ : ByteArray), (⟨#[117, 58, 120]⟩ : ByteArray), (⟨#[]⟩ : ByteArray)]) (by simp)
  have m1 := mem_sz m (by decide)
  simp only [e, Option.bind_some]
  obtain ⟨v', p2, s2, e, m, h2⟩ := strD h1 s1 (l := [(⟨#[97]⟩ : ByteArray), (⟨#[99, 111, 108, 111, 114]⟩ : ByteArray), (⟨#[98]⟩ : ByteArray)]) (by simp)
  have m2 := mem_sz m (by decide)
  simp only [e, Option.bind_some]
  obtain ⟨v'', p3, s3, e, m, h3⟩ := strD h2 s2 (l := [(⟨#[]⟩ : ByteArray), (⟨#[114, 101, 100]⟩ : ByteArray), (⟨#[97, 60, 98]⟩ : ByteArray)]) (by simp)
  have m3 := mem_sz m (by decide)
  simp only [e, Option.bind_some]
  exact ⟨_, _, _, _, _, rfl, ⟨m1, m2, m3⟩, h3⟩
theorem setAll_ok (l0 : List S72) : ∀ (sets : List S74) (out : List S72), (setAll l0 out sets).2 = true → propsOk (setAll l0 out sets).1 = true
  | [], out, h => by
    unfold setAll at h ⊢
    by_cases c : propsOk out = true
    · simp only [if_pos c]; exact c
    · simp only [if_neg c] at h; cases h
  | t :: sets, out, h => by
    unfold setAll at h ⊢
    by_cases c : propOk t.f1 = true
    · simp only [if_pos c] at h ⊢
      exact setAll_ok l0 sets _ h
    · simp only [if_neg c] at h; cases h
theorem setAll_no (l0 : List S72) : ∀ (sets : List S74) (out : List S72), ¬ (setAll l0 out sets).2 = true → (setAll l0 out sets).1 = l0
  | [], out, h => by
    unfold setAll at h ⊢
    by_cases c : propsOk out = true
    · rw [if_pos c] at h; exact absurd rfl h
    · simp only [if_neg c]
  | t :: sets, out, h => by
    unfold setAll at h ⊢
    by_cases c : propOk t.f1 = true
    · simp only [if_pos c] at h ⊢
      exact setAll_no l0 sets _ h
    · simp only [if_neg c]
theorem propsD {b : List Int} {p : Int} (h : Cur b p) (s : Int) : ∃ l p' s', Ev (fun k => spec_l10Props.f k b p s) (l, p', s') ∧ (l.length ≤ 4 ∧ (∀ x ∈ l, SmProp x) ∧ propsOk l = true) ∧ Cur b p' := by
  unfold spec_l10Props.f
  obtain ⟨v, p1, s1, e, v0, v1, h1⟩ := belowD h s (n := 3) (by omega)
  simp only [e, Option.bind_some]
  have key : ∀ (n : Nat) (out : List S72) (q t : Int), n ≤ 1000 → (out.length ≤ 4 ∧ (∀ x ∈ out, SmProp x) ∧ propsOk out = true) → Cur b q → ∃ l p' s', Ev (fun k => spec_l10Props.l0 k out (n : Int) b q t) (l, p', s') ∧ (l.length ≤ 4 ∧ (∀ x ∈ l, SmProp x) ∧ propsOk l = true) ∧ Cur b p' := by
    intro n
    induction n with
    | zero =>
      intro out q t _ ho hq
      refine ⟨out, q, t, ?_, ho, hq⟩
      refine Ev.step (fun k => spec_l10Props.l0.eq_2 ..) ?_
      simp only [if_neg (show ¬ ((0 : Nat) : Int) > 0 by decide)]
      exact Ev.now _
    | succ n ih =>
      intro out q t hn ho hq
      obtain ⟨x, y, z, q1, t1, e, m, hq1⟩ := onePropD hq t
      have hset : SmSets [(⟨false, (⟨x, y, z⟩ : S72)⟩ : S74)] := ⟨by simp, by intro c hc; simp at hc; subst hc; exact ⟨trivial, m⟩⟩
      have hpo : propsOk (setAll out out [(⟨false, (⟨x, y, z⟩ : S72)⟩ : S74)]).1 = true := by
        by_cases c : (setAll out out [(⟨false, (⟨x, y, z⟩ : S72)⟩ : S74)]).2 = true
        · exact setAll_ok out _ out c
        · rw [setAll_no out _ out c]; exact ho.2.2
      obtain ⟨l, q2, t2, he, hl, hq2⟩ := ih (setAll out out [(⟨false, (⟨x, y, z⟩ : S72)⟩ : S74)]).1 q1 t1 (by omega) ⟨(setAll_few (Nat.le_refl 4) ⟨ho.1, ho.2.1⟩ _ _ hset.2 ho.2.1).1, (setAll_few (Nat.le_refl 4) ⟨ho.1, ho.2.1⟩ _ _ hset.2 ho.2.1).2, hpo⟩ hq1
      refine ⟨l, q2, t2, ?_, hl, hq2⟩
      refine Ev.step (fun k => spec_l10Props.l0.eq_2 ..) ?_
      simp only [if_pos (show ((n + 1 : Nat) : Int) > 0 by omega), e, Option.bind_some]
      refine Ev.bind (specSetAll ⟨by have := ho.1; omega, ho.2.1⟩ hset) ?_
      rw [show wrap64 (((n + 1 : Nat) : Int) - 1) = (n : Int) by rw [wrap_id (by omega) (by omega)]; omega]
      exact he
  obtain ⟨n, rfl⟩ := Int.eq_ofNat_of_zero_le v0
  exact key n [] p1 s1 (by omega) ⟨by simp, by simp, by decide⟩ h1
end Go.Proofs.Ytbgggcgjijljkaa.L

/- A printed walk's contract told more sharply: the result's elements' rows lie apart. No condition. -/
namespace Go.Proofs.Ytbgggcgjijljkaa.Q
open Go.RowKit Go.Proofs.YtbgggcgjijljkaaW.PrintWords Go.Proofs.YtbgggcgjijljkaaW.PrintLast Go.Proofs.YtbgggcgjijljkaaW.PrintMore
attribute [local go_sem] max2_int min2_int max_two min_two max_three min_three max_four min_four
set_option linter.unusedVariables false
set_option linter.unusedSimpArgs false
abbrev spec_PutFileX.f (k : Nat) (l0 : List (S57)) (l1 : List ByteArray) (a2 : ByteArray) (a3 : Int) : Option ((List (S57)) × Int) := spec_PutFile.f k l0 l1 a2 a3
theorem spec_PutFileX.isSome_set (W : World) (p : Addr) (u : Value) (a : Addr) : ((W.setCell p u).cell? a).isSome = (W.cell? a).isSome := by
 unfold World.cell? World.setCell
 simp only [Array.getElem?_modify]
 by_cases h : p.block = a.block
 · simp only [h, if_true]
   cases hb : W.heap[a.block]? with
   | none => simp
   | some o =>
    cases o with
    | cells c e f =>
     simp only [Option.map_some]
     by_cases hs : a.spot.isSome = true
     · simp [hs]
     · by_cases hp : p.spot.isSome = true
       · simp [hs, hp]
       · simp [hs, hp, Array.getElem?_setIfInBounds]
         split
         · rename_i he; rw [he]; by_cases hc : a.off < c.size <;> simp [hc]
         · rfl
    | _ => simp
 · simp only [h, if_false]
set_option maxHeartbeats 8000000 in
set_option maxRecDepth 100000 in
theorem spec_PutFileX.calls (k : Nat) (A0 : Option Addr) (c0 : Nat) (l0 : List (S57)) (A1 : Option Addr) (c1 : Nat) (l1 : List ByteArray) (a2 : ByteArray) (a3 : Int) (r1 : List (S57)) (r2 : Int) (w : World) (hr0 : Kd.C k57 w A0 l0.length l0) (hc0 : l0.length ≤ c0) (hr1 : Kd.C Kd.string w A1 l1.length l1) (hc1 : l1.length ≤ c1) (h : spec_PutFileX.f k l0 l1 a2 a3 = some (r1, r2)) :
 Calls Try.prog 26 #[.slice A0 l0.length c0, .slice A1 l1.length c1, .string a2, .int .i64 a3] w fun e w' => ∃ v0_ : Value, e = .returned (.tuple #[v0_, .int .i64 r2]) ∧ Kd.S k57 57 w' w.heap.size (fun _ => True) v0_ r1 ∧ Below w.heap.size w w' := by
 have hu57 := Try.underlying57
 have HR0 := Aside0.mk hr0
 have HC0 := Aside0.mk hc0
 clear hr0 hc0
 have HR1 := Aside0.mk hr1
 have HC1 := Aside0.mk hc1
 clear hr1 hc1
 have HB := Aside0.mk (Below.refl w.heap.size w)
 have H : ((spec_l11May.f k l0 l1 a3).bind fun t616 => ((spec_FindRes.f k l0 l1).bind fun t617 => (if t616 = 0 then ((spec_IsColl.f k l0 l1).bind fun t618 => (if t618 = true then (spec_PutFile.j0 k l0 l1 a2 a3 405 t617) else ((spec_Above.f l1).bind fun t619 => ((spec_IsColl.f k l0 t619).bind fun t622 => (if t622 = true then (if (a2.size : Int) > 200 then (spec_PutFile.j0 k l0 l1 a2 a3 413 t617) else (if t617 < 0 then (if (l0.length : Int) ≥ 12 then (spec_PutFile.j0 k l0 l1 a2 a3 507 t617) else (spec_PutFile.j0 k l0 l1 a2 a3 t616 t617)) else (spec_PutFile.j0 k l0 l1 a2 a3 t616 t617))) else (spec_PutFile.j0 k l0 l1 a2 a3 409 t617)))))) else (spec_PutFile.j0 k l0 l1 a2 a3 t616 t617)))) = some (r1, r2) := h
 clear h
 obtain ⟨t616, A5, H⟩ := bo_ H
 (try dsimp only at H)
 obtain ⟨t617, A6, H⟩ := bo_ H
 (try dsimp only at H)
 have HC7 := Aside0.mk H
 clear H
 go_enter Try.func26, Try.ntmps26
 have hss_ := spec_PutFileX.isSome_set
 go_upto_block 0 with (first | ((with_reducible refine gate_callee (f := 60) rfl ?_); refine gL_ (some 16) Try.func60 #[.slice A0 l0.length c0, .slice A1 l1.length c1, .int .i64 a3] ?_; (with_reducible refine (spec_l11May.calls k _ _ l0 _ _ l1 a3 t616 _ ?side1 ?side2 ?side3 ?side4 A5.out).mono ?_); (case side1 => exact cC_ HR0.out); (case side2 => exact HC0.out); (case side3 => exact cC_ HR1.out); (case side4 => exact HC1.out); rintro e w8 ⟨rfl, hb⟩; refine ⟨_, rfl, ?_⟩; have n0_ := Aside0.mk (below_step bB_ hb); clear HB; have HB := n0_; clear n0_; (try clear hb)) | ((with_reducible refine gate_callee (f := 61) rfl ?_); refine gL_ (some 19) Try.func61 #[.slice A0 l0.length c0, .slice A1 l1.length c1] ?_; (with_reducible refine (spec_FindRes.calls k _ _ l0 _ _ l1 t617 _ ?side1 ?side2 ?side3 ?side4 A6.out).mono ?_); (case side1 => exact cC_ (Kd.C_below HR0.out HB.out)); (case side2 => exact HC0.out); (case side3 => exact cC_ (Kd.C_below HR1.out HB.out)); (case side4 => exact HC1.out); rintro e w' ⟨rfl, ⟨nd, rfl⟩⟩; refine ⟨_, rfl, ?_⟩))
 (try simp only [Act.put, List.setIfInBounds_toArray, List.set_cons_zero, List.set_cons_succ])
 go_cut [10] (fun v10 wc => ∃ (kq : Nat) (x10_6 : Int), v10 = .int .i64 x10_6 ∧ Aside0 (spec_PutFile.j0 kq l0 l1 a2 a3 x10_6 t617 = some (r1, r2)) ∧ Aside0 (kq ≤ k) ∧ Aside0 (Below w.heap.size w wc))
 case first =>
  have H := HC7.out
  clear HC7
  by_cases c9 : t616 = 0
  rotate_left
  · rw [if_neg c9] at H
    have c9b0 : (t616 == 0) = false := beq_eq_false_iff_ne.mpr c9
    have c9b1 : (t616 != 0) = true := bne_iff_ne.mpr c9
    (first | rw [c9b0] | (simp only [i64_w, i32_w]; rw [c9b0]) | skip)
    have H' := Aside0.mk H
    clear H
    go_wp2
    go_meet
    case rel => exact ⟨_, (t616), rs_, H', ⟨by first | omega | exact Nat.le_refl _⟩, ⟨bB_⟩⟩
  rw [if_pos c9] at H
  have c9b0 : (t616 == 0) = true := beq_iff_eq.mpr c9
  have c9b1 : (t616 != 0) = false := bne_eq_false_iff_eq.mpr c9
  clear c9
  (first | rw [c9b0] | (simp only [i64_w, i32_w]; rw [c9b0]) | skip)
  obtain ⟨t618, A10, H⟩ := bo_ H
  (try dsimp only at H)
  by_cases c11 : t618 = true
  · subst c11
    rw [if_pos rfl] at H
    have H' := Aside0.mk H
    clear H
    go_wp2_with (first | ((with_reducible refine gate_callee (f := 73) rfl ?_); refine gL_ (some 26) Try.func73 #[.slice A0 l0.length c0, .slice A1 l1.length c1] ?_; (with_reducible refine (spec_IsColl.calls k _ _ l0 _ _ l1 true _ ?side1 ?side2 ?side3 ?side4 A10.out).mono ?_); (case side1 => exact cC_ (Kd.C_below HR0.out HB.out)); (case side2 => exact HC0.out); (case side3 => exact cC_ (Kd.C_below HR1.out HB.out)); (case side4 => exact HC1.out); rintro e w' ⟨rfl, ⟨nd, rfl⟩⟩; refine ⟨_, rfl, ?_⟩))
    go_meet
    case rel => exact ⟨_, (405), rs_, H', ⟨by first | omega | exact Nat.le_refl _⟩, ⟨bB_⟩⟩
  · replace c11 := Bool.eq_false_iff.mpr c11
    subst c11
    rw [if_neg (show ¬ (false = true) by decide)] at H
    obtain ⟨t619, A12, H⟩ := bo_ H
    (try dsimp only at H)
    obtain ⟨t622, A13, H⟩ := bo_ H
    (try dsimp only at H)
    by_cases c14 : t622 = true
    · subst c14
      rw [if_pos rfl] at H
      by_cases c15 : (a2.size : Int) > 200
      · rw [if_pos c15] at H
        have c15b0 : decide (200 < (a2.size : Int)) = true := decide_eq_true c15
        have c15b1 : decide (200 < a2.size) = true := decide_eq_true (by omega)
        clear c15
        have H' := Aside0.mk H
        clear H
        go_wp2_with (first | ((with_reducible refine gate_callee (f := 73) rfl ?_); refine gL_ (some 26) Try.func73 #[.slice A0 l0.length c0, .slice A1 l1.length c1] ?_; (with_reducible refine (spec_IsColl.calls k _ _ l0 _ _ l1 false _ ?side1 ?side2 ?side3 ?side4 A10.out).mono ?_); (case side1 => exact cC_ (Kd.C_below HR0.out HB.out)); (case side2 => exact HC0.out); (case side3 => exact cC_ (Kd.C_below HR1.out HB.out)); (case side4 => exact HC1.out); rintro e w' ⟨rfl, ⟨nd, rfl⟩⟩; refine ⟨_, rfl, ?_⟩) | ((with_reducible refine gate_callee (f := 74) rfl ?_); refine gL_ (some 30) Try.func74 #[.slice A1 l1.length c1] ?_; (with_reducible refine (spec_Above.calls _ _ l1 t619 _ ?side1 ?side2 A12.out).mono ?_); (case side1 => exact cC_ (Kd.C_below HR1.out bB_)); (case side2 => exact HC1.out); rintro e w16 ⟨v620, rfl, ho0, hb⟩; refine ⟨_, rfl, ?_⟩; have n0_ := Aside0.mk (Kd.R_lower ho0 (below_size bB_)); have n1_ := Aside0.mk (below_step bB_ hb); clear HB; have HO621 := n0_; have HB := n1_; clear n0_ n1_; (try clear hb); (try clear ho0); obtain ⟨Ao17, co17, eo17⟩ := Kd.R_slice HO621.out; subst eo17) | ((with_reducible refine gate_callee (f := 73) rfl ?_); refine gL_ (some 31) Try.func73 #[.slice A0 l0.length c0, .slice Ao17 t619.length co17] ?_; (with_reducible refine (spec_IsColl.calls k _ _ l0 _ _ t619 true _ ?side1 ?side2 ?side3 ?side4 A13.out).mono ?_); (case side1 => exact cC_ (Kd.C_below HR0.out HB.out)); (case side2 => exact HC0.out); (case side3 => exact cC_ (Kd.R_reads' HO621.out).2.2); (case side4 => exact (Kd.R_reads' HO621.out).2.1); rintro e w' ⟨rfl, ⟨nd, rfl⟩⟩; refine ⟨_, rfl, ?_⟩))
        go_meet
        case rel => exact ⟨_, (413), rs_, H', ⟨by first | omega | exact Nat.le_refl _⟩, ⟨bB_⟩⟩
      rw [if_neg c15] at H
      have c15b0 : decide (200 < (a2.size : Int)) = false := decide_eq_false c15
      have c15b1 : decide (200 < a2.size) = false := decide_eq_false (by omega)
      clear c15
      by_cases c18 : t617 < 0
      rotate_left
      · rw [if_neg c18] at H
        have c18b0 : decide (t617 < 0) = false := decide_eq_false c18
        clear c18
        have H' := Aside0.mk H
        clear H
        go_wp2_with (first | ((with_reducible refine gate_callee (f := 73) rfl ?_); refine gL_ (some 26) Try.func73 #[.slice A0 l0.length c0, .slice A1 l1.length c1] ?_; (with_reducible refine (spec_IsColl.calls k _ _ l0 _ _ l1 false _ ?side1 ?side2 ?side3 ?side4 A10.out).mono ?_); (case side1 => exact cC_ (Kd.C_below HR0.out HB.out)); (case side2 => exact HC0.out); (case side3 => exact cC_ (Kd.C_below HR1.out HB.out)); (case side4 => exact HC1.out); rintro e w' ⟨rfl, ⟨nd, rfl⟩⟩; refine ⟨_, rfl, ?_⟩) | ((with_reducible refine gate_callee (f := 74) rfl ?_); refine gL_ (some 30) Try.func74 #[.slice A1 l1.length c1] ?_; (with_reducible refine (spec_Above.calls _ _ l1 t619 _ ?side1 ?side2 A12.out).mono ?_); (case side1 => exact cC_ (Kd.C_below HR1.out bB_)); (case side2 => exact HC1.out); rintro e w24 ⟨v620, rfl, ho0, hb⟩; refine ⟨_, rfl, ?_⟩; have n0_ := Aside0.mk (Kd.R_lower ho0 (below_size bB_)); have n1_ := Aside0.mk (below_step bB_ hb); clear HB; have HO621 := n0_; have HB := n1_; clear n0_ n1_; (try clear hb); (try clear ho0); obtain ⟨Ao25, co25, eo25⟩ := Kd.R_slice HO621.out; subst eo25) | ((with_reducible refine gate_callee (f := 73) rfl ?_); refine gL_ (some 31) Try.func73 #[.slice A0 l0.length c0, .slice Ao25 t619.length co25] ?_; (with_reducible refine (spec_IsColl.calls k _ _ l0 _ _ t619 true _ ?side1 ?side2 ?side3 ?side4 A13.out).mono ?_); (case side1 => exact cC_ (Kd.C_below HR0.out HB.out)); (case side2 => exact HC0.out); (case side3 => exact cC_ (Kd.R_reads' HO621.out).2.2); (case side4 => exact (Kd.R_reads' HO621.out).2.1); rintro e w' ⟨rfl, ⟨nd, rfl⟩⟩; refine ⟨_, rfl, ?_⟩))
        go_meet
        case rel => exact ⟨_, (t616), rs_, H', ⟨by first | omega | exact Nat.le_refl _⟩, ⟨bB_⟩⟩
      rw [if_pos c18] at H
      have c18b0 : decide (t617 < 0) = true := decide_eq_true c18
      clear c18
      by_cases c19 : (l0.length : Int) ≥ 12
      · rw [if_pos c19] at H
        have c19b0 : decide (12 ≤ (l0.length : Int)) = true := decide_eq_true c19
        have c19b1 : decide (12 ≤ l0.length) = true := decide_eq_true (by omega)
        clear c19
        have H' := Aside0.mk H
        clear H
        go_wp2_with (first | ((with_reducible refine gate_callee (f := 73) rfl ?_); refine gL_ (some 26) Try.func73 #[.slice A0 l0.length c0, .slice A1 l1.length c1] ?_; (with_reducible refine (spec_IsColl.calls k _ _ l0 _ _ l1 false _ ?side1 ?side2 ?side3 ?side4 A10.out).mono ?_); (case side1 => exact cC_ (Kd.C_below HR0.out HB.out)); (case side2 => exact HC0.out); (case side3 => exact cC_ (Kd.C_below HR1.out HB.out)); (case side4 => exact HC1.out); rintro e w' ⟨rfl, ⟨nd, rfl⟩⟩; refine ⟨_, rfl, ?_⟩) | ((with_reducible refine gate_callee (f := 74) rfl ?_); refine gL_ (some 30) Try.func74 #[.slice A1 l1.length c1] ?_; (with_reducible refine (spec_Above.calls _ _ l1 t619 _ ?side1 ?side2 A12.out).mono ?_); (case side1 => exact cC_ (Kd.C_below HR1.out bB_)); (case side2 => exact HC1.out); rintro e w20 ⟨v620, rfl, ho0, hb⟩; refine ⟨_, rfl, ?_⟩; have n0_ := Aside0.mk (Kd.R_lower ho0 (below_size bB_)); have n1_ := Aside0.mk (below_step bB_ hb); clear HB; have HO621 := n0_; have HB := n1_; clear n0_ n1_; (try clear hb); (try clear ho0); obtain ⟨Ao21, co21, eo21⟩ := Kd.R_slice HO621.out; subst eo21) | ((with_reducible refine gate_callee (f := 73) rfl ?_); refine gL_ (some 31) Try.func73 #[.slice A0 l0.length c0, .slice Ao21 t619.length co21] ?_; (with_reducible refine (spec_IsColl.calls k _ _ l0 _ _ t619 true _ ?side1 ?side2 ?side3 ?side4 A13.out).mono ?_); (case side1 => exact cC_ (Kd.C_below HR0.out HB.out)); (case side2 => exact HC0.out); (case side3 => exact cC_ (Kd.R_reads' HO621.out).2.2); (case side4 => exact (Kd.R_reads' HO621.out).2.1); rintro e w' ⟨rfl, ⟨nd, rfl⟩⟩; refine ⟨_, rfl, ?_⟩))
        go_meet
        case rel => exact ⟨_, (507), rs_, H', ⟨by first | omega | exact Nat.le_refl _⟩, ⟨bB_⟩⟩
      rw [if_neg c19] at H
      have c19b0 : decide (12 ≤ (l0.length : Int)) = false := decide_eq_false c19
      have c19b1 : decide (12 ≤ l0.length) = false := decide_eq_false (by omega)
      clear c19
      have H' := Aside0.mk H
      clear H
      go_wp2_with (first | ((with_reducible refine gate_callee (f := 73) rfl ?_); refine gL_ (some 26) Try.func73 #[.slice A0 l0.length c0, .slice A1 l1.length c1] ?_; (with_reducible refine (spec_IsColl.calls k _ _ l0 _ _ l1 false _ ?side1 ?side2 ?side3 ?side4 A10.out).mono ?_); (case side1 => exact cC_ (Kd.C_below HR0.out HB.out)); (case side2 => exact HC0.out); (case side3 => exact cC_ (Kd.C_below HR1.out HB.out)); (case side4 => exact HC1.out); rintro e w' ⟨rfl, ⟨nd, rfl⟩⟩; refine ⟨_, rfl, ?_⟩) | ((with_reducible refine gate_callee (f := 74) rfl ?_); refine gL_ (some 30) Try.func74 #[.slice A1 l1.length c1] ?_; (with_reducible refine (spec_Above.calls _ _ l1 t619 _ ?side1 ?side2 A12.out).mono ?_); (case side1 => exact cC_ (Kd.C_below HR1.out bB_)); (case side2 => exact HC1.out); rintro e w22 ⟨v620, rfl, ho0, hb⟩; refine ⟨_, rfl, ?_⟩; have n0_ := Aside0.mk (Kd.R_lower ho0 (below_size bB_)); have n1_ := Aside0.mk (below_step bB_ hb); clear HB; have HO621 := n0_; have HB := n1_; clear n0_ n1_; (try clear hb); (try clear ho0); obtain ⟨Ao23, co23, eo23⟩ := Kd.R_slice HO621.out; subst eo23) | ((with_reducible refine gate_callee (f := 73) rfl ?_); refine gL_ (some 31) Try.func73 #[.slice A0 l0.length c0, .slice Ao23 t619.length co23] ?_; (with_reducible refine (spec_IsColl.calls k _ _ l0 _ _ t619 true _ ?side1 ?side2 ?side3 ?side4 A13.out).mono ?_); (case side1 => exact cC_ (Kd.C_below HR0.out HB.out)); (case side2 => exact HC0.out); (case side3 => exact cC_ (Kd.R_reads' HO621.out).2.2); (case side4 => exact (Kd.R_reads' HO621.out).2.1); rintro e w' ⟨rfl, ⟨nd, rfl⟩⟩; refine ⟨_, rfl, ?_⟩))
      go_meet
      case rel => exact ⟨_, (t616), rs_, H', ⟨by first | omega | exact Nat.le_refl _⟩, ⟨bB_⟩⟩
    · replace c14 := Bool.eq_false_iff.mpr c14
      subst c14
      rw [if_neg (show ¬ (false = true) by decide)] at H
      have H' := Aside0.mk H
      clear H
      go_wp2_with (first | ((with_reducible refine gate_callee (f := 73) rfl ?_); refine gL_ (some 26) Try.func73 #[.slice A0 l0.length c0, .slice A1 l1.length c1] ?_; (with_reducible refine (spec_IsColl.calls k _ _ l0 _ _ l1 false _ ?side1 ?side2 ?side3 ?side4 A10.out).mono ?_); (case side1 => exact cC_ (Kd.C_below HR0.out HB.out)); (case side2 => exact HC0.out); (case side3 => exact cC_ (Kd.C_below HR1.out HB.out)); (case side4 => exact HC1.out); rintro e w' ⟨rfl, ⟨nd, rfl⟩⟩; refine ⟨_, rfl, ?_⟩) | ((with_reducible refine gate_callee (f := 74) rfl ?_); refine gL_ (some 30) Try.func74 #[.slice A1 l1.length c1] ?_; (with_reducible refine (spec_Above.calls _ _ l1 t619 _ ?side1 ?side2 A12.out).mono ?_); (case side1 => exact cC_ (Kd.C_below HR1.out bB_)); (case side2 => exact HC1.out); rintro e w26 ⟨v620, rfl, ho0, hb⟩; refine ⟨_, rfl, ?_⟩; have n0_ := Aside0.mk (Kd.R_lower ho0 (below_size bB_)); have n1_ := Aside0.mk (below_step bB_ hb); clear HB; have HO621 := n0_; have HB := n1_; clear n0_ n1_; (try clear hb); (try clear ho0); obtain ⟨Ao27, co27, eo27⟩ := Kd.R_slice HO621.out; subst eo27) | ((with_reducible refine gate_callee (f := 73) rfl ?_); refine gL_ (some 31) Try.func73 #[.slice A0 l0.length c0, .slice Ao27 t619.length co27] ?_; (with_reducible refine (spec_IsColl.calls k _ _ l0 _ _ t619 false _ ?side1 ?side2 ?side3 ?side4 A13.out).mono ?_); (case side1 => exact cC_ (Kd.C_below HR0.out HB.out)); (case side2 => exact HC0.out); (case side3 => exact cC_ (Kd.R_reads' HO621.out).2.2); (case side4 => exact (Kd.R_reads' HO621.out).2.1); rintro e w' ⟨rfl, ⟨nd, rfl⟩⟩; refine ⟨_, rfl, ?_⟩))
      go_meet
      case rel => exact ⟨_, (409), rs_, H', ⟨by first | omega | exact Nat.le_refl _⟩, ⟨bB_⟩⟩
 case rest =>
  clear HC7
  try clear c1
  try clear c2
  try clear p2
  try clear c6
  try clear c7
  try clear c9
  try clear c9b0
  try clear c9b1
  try clear c11
  try clear c14
  try clear c15
  try clear c15b0
  try clear c15b1
  try clear c18
  try clear c18b0
  try clear c19
  try clear c19b0
  try clear c19b1
  try clear c26
  obtain ⟨kq, x10_6, rfl, HA, HJ6, HB⟩ := hcut
  cases kq with
  | zero => exact absurd HA.out (by simp [spec_PutFile.j0])
  | succ kj6 =>
   have H := HA.out
   clear HA
   simp only [spec_PutFile.j0] at H
   by_cases c28 : x10_6 = 0
   rotate_left
   · rw [if_neg c28] at H
     have c28b0 : (x10_6 == 0) = false := beq_eq_false_iff_ne.mpr c28
     have c28b1 : (x10_6 != 0) = true := bne_iff_ne.mpr c28
     obtain ⟨t623, A40, H⟩ := bo_ H
     (try dsimp only at H)
     simp only [Option.some.injEq, Prod.mk.injEq] at H
     obtain ⟨rfl, rfl⟩ := H
     go_wp2_with (first | ((with_reducible refine gate_callee (f := 62) rfl ?_); refine gL_ (some 48) Try.func62 #[.slice A0 l0.length c0] ?_; (with_reducible refine (spec_l10CopyAll.calls kj6 _ _ l0 t623 _ ?side1 ?side2 A40.out).mono ?_); (case side1 => exact cC_ (Kd.C_below HR0.out HB.out)); (case side2 => exact HC0.out); rintro e w41 ⟨v624, rfl, ho0, hb⟩; refine ⟨_, rfl, ?_⟩; have n0_ := Aside0.mk (Kd.S_lower ho0 (below_size bB_)); have n1_ := Aside0.mk (below_step bB_ hb); clear HB; have HO625 := n0_; have HB := n1_; clear n0_ n1_; (try clear hb); (try clear ho0)))
     go_ret2
     exact ⟨_, rr_, by (with_reducible repeat (first | apply Kd.S_alloc | apply Kd.S_drewN | apply Kd.S_drew)); exact HO625.out, bB_⟩
   rw [if_pos c28] at H
   have c28b0 : (x10_6 == 0) = true := beq_iff_eq.mpr c28
   have c28b1 : (x10_6 != 0) = false := bne_eq_false_iff_eq.mpr c28
   clear c28
   by_cases c29 : t617 < 0
   · rw [if_pos c29] at H
     have c29b0 : decide (t617 < 0) = true := decide_eq_true c29
     clear c29
     obtain ⟨t627, A30, H⟩ := bo_ H
     (try dsimp only at H)
     simp only [Option.some.injEq, Prod.mk.injEq] at H
     obtain ⟨rfl, rfl⟩ := H
     go_wp2_with (first | ((with_reducible refine gate_dst (N := 12) rfl ?_); (try (refine gate_guard (by rfl) ?_; dsimp only)); refine bx_ (N := 12) (cs := #[.slice none 0 0, .bool false, .string (⟨#[]⟩ : ByteArray), .int .i64 0, .slice none 0 0]) (t := 57) ?_; intro gb626 hg w31 hbox hb; have n0_ := Aside0.mk (below_step bB_ hb); have n1_ := Aside0.mk (hbox); have n2_ := Aside0.mk (ge_ hg bB_ : w.heap.size ≤ gb626); have n3_ := Aside0.mk (ge_ hg bB_ : w.heap.size ≤ gb626); clear HB; have HB := n0_; have BK626 := n1_; have GW626 := n2_; have GE626 := n3_; clear n0_ n1_ n2_ n3_; clear hb hbox hg; obtain ⟨hcz32_0, hcz32_1, hcz32_2, hcz32_3, hcz32_4, hfz32_0, hfz32_1, hfz32_2, hfz32_3, hfz32_4⟩ := cz5_ BK626.out) | ((with_reducible refine gate_callee (f := 75) rfl ?_); refine gL_ (some 58) Try.func75 #[.slice A0 l0.length c0, .agg #[.slice A1 l1.length c1, .bool false, .string a2, .int .i64 a3, .slice none 0 0]] ?_; (refine (spec_l11Put.calls kj6 _ _ l0 _ _ l1 false a2 a3 _ _ ([] : List (S72)) t627 _ ?side1 ?side2 ?side3 ?side4 ?side5 ?side6 A30.out).mono ?_); (case side1 => exact Kd.C_below HR0.out (bG_ GE626.out)); (case side2 => exact HC0.out); (case side3 => exact Kd.C_below HR1.out (bG_ GE626.out)); (case side4 => exact HC1.out); (case side5 => exact Kd.C_nil _ _); (case side6 => exact Nat.le_refl _); rintro e w33 ⟨v628, rfl, ho0, hb⟩; refine ⟨_, rfl, ?_⟩; have n0_ := Aside0.mk (Kd.S_lower (Kd.S_newB ho0 (g := gb626) (o := .cells #[.slice A1 l1.length c1, .bool false, .string a2, .int .i64 a3, .slice none 0 0] 57 (0, 0)) (by (with_reducible repeat (first | refine blk_drewN ?_ _ | refine blk_drew ?_ | refine blk_alloc ?_ _)); refine blk_put (cs := #[.slice A1 l1.length c1, .bool false, .string a2, .int .i64 a3, .slice none 0 0]) ?_ 4 _ rfl; (with_reducible repeat (first | refine blk_drewN ?_ _ | refine blk_drew ?_ | refine blk_alloc ?_ _)); refine blk_put (cs := #[.slice A1 l1.length c1, .bool false, .string a2, .int .i64 0, .slice none 0 0]) ?_ 3 _ rfl; (with_reducible repeat (first | refine blk_drewN ?_ _ | refine blk_drew ?_ | refine blk_alloc ?_ _)); refine blk_put (cs := #[.slice A1 l1.length c1, .bool false, .string (⟨#[]⟩ : ByteArray), .int .i64 0, .slice none 0 0]) ?_ 2 _ rfl; (with_reducible repeat (first | refine blk_drewN ?_ _ | refine blk_drew ?_ | refine blk_alloc ?_ _)); refine blk_put (cs := #[.slice A1 l1.length c1, .bool false, .string (⟨#[]⟩ : ByteArray), .int .i64 0, .slice none 0 0]) ?_ 1 _ rfl; (with_reducible repeat (first | refine blk_drewN ?_ _ | refine blk_drew ?_ | refine blk_alloc ?_ _)); refine blk_put (cs := #[.slice none 0 0, .bool false, .string (⟨#[]⟩ : ByteArray), .int .i64 0, .slice none 0 0]) ?_ 0 _ rfl; (with_reducible repeat (first | refine blk_drewN ?_ _ | refine blk_drew ?_ | refine blk_alloc ?_ _)); exact BK626.out)) (below_size (bG_ GE626.out))); have n1_ := Aside0.mk (blk_below (g := gb626) (o := .cells #[.slice A1 l1.length c1, .bool false, .string a2, .int .i64 a3, .slice none 0 0] 57 (0, 0)) (by (with_reducible repeat (first | refine blk_drewN ?_ _ | refine blk_drew ?_ | refine blk_alloc ?_ _)); refine blk_put (cs := #[.slice A1 l1.length c1, .bool false, .string a2, .int .i64 a3, .slice none 0 0]) ?_ 4 _ rfl; (with_reducible repeat (first | refine blk_drewN ?_ _ | refine blk_drew ?_ | refine blk_alloc ?_ _)); refine blk_put (cs := #[.slice A1 l1.length c1, .bool false, .string a2, .int .i64 0, .slice none 0 0]) ?_ 3 _ rfl; (with_reducible repeat (first | refine blk_drewN ?_ _ | refine blk_drew ?_ | refine blk_alloc ?_ _)); refine blk_put (cs := #[.slice A1 l1.length c1, .bool false, .string (⟨#[]⟩ : ByteArray), .int .i64 0, .slice none 0 0]) ?_ 2 _ rfl; (with_reducible repeat (first | refine blk_drewN ?_ _ | refine blk_drew ?_ | refine blk_alloc ?_ _)); refine blk_put (cs := #[.slice A1 l1.length c1, .bool false, .string (⟨#[]⟩ : ByteArray), .int .i64 0, .slice none 0 0]) ?_ 1 _ rfl; (with_reducible repeat (first | refine blk_drewN ?_ _ | refine blk_drew ?_ | refine blk_alloc ?_ _)); refine blk_put (cs := #[.slice none 0 0, .bool false, .string (⟨#[]⟩ : ByteArray), .int .i64 0, .slice none 0 0]) ?_ 0 _ rfl; (with_reducible repeat (first | refine blk_drewN ?_ _ | refine blk_drew ?_ | refine blk_alloc ?_ _)); exact BK626.out) hb); have n2_ := Aside0.mk (below_step (bG_ GE626.out) hb); clear BK626; clear HB; have HO629 := n0_; have BK626 := n1_; have HB := n2_; clear n0_ n1_ n2_; (try clear hb); (try clear ho0)))
     go_ret2
     exact ⟨_, rr_, by (with_reducible repeat (first | apply Kd.S_alloc | apply Kd.S_drewN | apply Kd.S_drew)); exact Kd.S_mono HO629.out (fun _ hk => trivial), bG_ GE626.out⟩
   rw [if_neg c29] at H
   have c29b0 : decide (t617 < 0) = false := decide_eq_false c29
   clear c29
   by_cases c34 : 0 ≤ t617
   rotate_left
   · exact absurd H (by rw [if_neg c34]; simp)
   rw [if_pos c34] at H
   have c34b0 : decide (0 ≤ t617) = true := decide_eq_true c34
   clear c34
   by_cases c35 : t617 < (l0.length : Int)
   rotate_left
   · exact absurd H (by rw [if_neg c35]; simp)
   rw [if_pos c35] at H
   have c35b0 : decide (t617 < (l0.length : Int)) = true := decide_eq_true c35
   clear c35
   obtain ⟨t631, A36, H⟩ := bo_ H
   (try dsimp only at H)
   simp only [Option.some.injEq, Prod.mk.injEq] at H
   obtain ⟨rfl, rfl⟩ := H
   go_wp2_with (first | ((with_reducible refine gate_dst (N := 12) rfl ?_); (try (refine gate_guard (by rfl) ?_; dsimp only)); refine bx_ (N := 12) (cs := #[.slice none 0 0, .bool false, .string (⟨#[]⟩ : ByteArray), .int .i64 0, .slice none 0 0]) (t := 57) ?_; intro gb626 hg w37 hbox hb; have n0_ := Aside0.mk (below_step bB_ hb); have n1_ := Aside0.mk (hbox); have n2_ := Aside0.mk (ge_ hg bB_ : w.heap.size ≤ gb626); have n3_ := Aside0.mk (ge_ hg bB_ : w.heap.size ≤ gb626); clear HB; have HB := n0_; have BK626 := n1_; have GW626 := n2_; have GE626 := n3_; clear n0_ n1_ n2_ n3_; clear hb hbox hg; obtain ⟨hcz38_0, hcz38_1, hcz38_2, hcz38_3, hcz38_4, hfz38_0, hfz38_1, hfz38_2, hfz38_3, hfz38_4⟩ := cz5_ BK626.out; have p630 : 0 ≤ (t617 : Int) := of_decide_eq_true as_; have q630 : t617 < (l0.length : Int) := of_decide_eq_true as_; obtain ⟨ad630, A630_0, c630_0, A630_4, c630_4, e630, hx630_0, hx630_1, hx630_2, hx630_3, hx630_4, hl630_0, hi630_0, hl630_4, hi630_4⟩ := at_T57 HR0.out t617 p630 q630; cases e630; have hn630_0 : ad630.block ≠ gb626 := Nat.ne_of_lt (Nat.lt_of_lt_of_le (by have := World.block_lt_of_cell? _ _ hx630_0; first | rwa [add_block] at this | exact this) GW626.out); have hn630_1 : ad630.block ≠ gb626 := Nat.ne_of_lt (Nat.lt_of_lt_of_le (by have := World.block_lt_of_cell? _ _ hx630_0; first | rwa [add_block] at this | exact this) GW626.out); have hn630_2 : ad630.block ≠ gb626 := Nat.ne_of_lt (Nat.lt_of_lt_of_le (by have := World.block_lt_of_cell? _ _ hx630_0; first | rwa [add_block] at this | exact this) GW626.out); have hn630_3 : ad630.block ≠ gb626 := Nat.ne_of_lt (Nat.lt_of_lt_of_le (by have := World.block_lt_of_cell? _ _ hx630_0; first | rwa [add_block] at this | exact this) GW626.out); have hn630_4 : ad630.block ≠ gb626 := Nat.ne_of_lt (Nat.lt_of_lt_of_le (by have := World.block_lt_of_cell? _ _ hx630_0; first | rwa [add_block] at this | exact this) GW626.out); have hbw_ : Below w.heap.size w (((((w37.setCell ⟨gb626, 0, none⟩ (.slice A1 l1.length c1)).setCell ⟨gb626, 1, none⟩ (.bool false)).setCell ⟨gb626, 2, none⟩ (.string a2)).setCell ⟨gb626, 3, none⟩ (.int .i64 a3)).setCell ⟨gb626, 4, none⟩ (.slice none 0 0)) := (by repeat (first | (with_reducible exact HB.out) | refine below_set ?_ GE626.out)); replace hx630_0 := (hbw_.cell (World.block_lt_of_cell? w _ hx630_0)).trans hx630_0; replace hx630_1 := (hbw_.cell (World.block_lt_of_cell? w _ hx630_1)).trans hx630_1; replace hx630_2 := (hbw_.cell (World.block_lt_of_cell? w _ hx630_2)).trans hx630_2; replace hx630_3 := (hbw_.cell (World.block_lt_of_cell? w _ hx630_3)).trans hx630_3; replace hx630_4 := (hbw_.cell (World.block_lt_of_cell? w _ hx630_4)).trans hx630_4; clear hbw_; have HR630_0 := Aside0.mk hi630_0; have HC630_0 := Aside0.mk hl630_0; clear hi630_0 hl630_0; have HR630_4 := Aside0.mk hi630_4; have HC630_4 := Aside0.mk hl630_4; clear hi630_4 hl630_4; clear hn630_0; clear hn630_1; clear hn630_2; clear hn630_3; clear hn630_4; replace p630 := eq_true p630; replace q630 := eq_true q630) | ((with_reducible refine gate_callee (f := 75) rfl ?_); refine gL_ (some 67) Try.func75 #[.slice (some ad630) l0.length c0, .agg #[.slice A1 l1.length c1, .bool false, .string a2, .int .i64 a3, .slice A630_4 ((rd_T57 l0 t617).f4).length c630_4]] ?_; (with_reducible refine (spec_l11Put.calls kj6 _ _ l0 _ _ l1 false a2 a3 _ _ ((rd_T57 l0 t617).f4) t631 _ ?side1 ?side2 ?side3 ?side4 ?side5 ?side6 A36.out).mono ?_); (case side1 => exact Kd.C_below HR0.out (bG_ GE626.out)); (case side2 => exact HC0.out); (case side3 => exact Kd.C_below HR1.out (bG_ GE626.out)); (case side4 => exact HC1.out); (case side5 => exact Kd.C_below HR630_4.out (bG_ GE626.out)); (case side6 => exact HC630_4.out); rintro e w39 ⟨v632, rfl, ho0, hb⟩; refine ⟨_, rfl, ?_⟩; have n0_ := Aside0.mk (Kd.S_lower ho0 (below_size (bG_ GE626.out))); have n2_ := Aside0.mk (below_step (bG_ GE626.out) hb); clear BK626; clear HB; have HO633 := n0_; have HB := n2_; clear n0_ n2_; (try clear hb); (try clear ho0)))
   go_ret2
   exact ⟨_, rr_, by (with_reducible repeat (first | apply Kd.S_alloc | apply Kd.S_drewN | apply Kd.S_drew)); exact Kd.S_mono HO633.out (fun _ hk => trivial), bG_ GE626.out⟩
end Go.Proofs.Ytbgggcgjijljkaa.Q

/- A printed walk's contract told more sharply: the result's elements' rows lie apart. No condition. -/
namespace Go.Proofs.Ytbgggcgjijljkaa.Q
open Go.RowKit Go.Proofs.YtbgggcgjijljkaaW.PrintWords Go.Proofs.YtbgggcgjijljkaaW.PrintLast Go.Proofs.YtbgggcgjijljkaaW.PrintMore
attribute [local go_sem] max2_int min2_int max_two min_two max_three min_three max_four min_four
set_option linter.unusedVariables false
set_option linter.unusedSimpArgs false
abbrev spec_MakeCollX.f (k : Nat) (l0 : List (S57)) (l1 : List ByteArray) (a2 : Int) : Option ((List (S57)) × Int) := spec_MakeColl.f k l0 l1 a2
end Go.Proofs.Ytbgggcgjijljkaa.Q

/- A thing put in its place, a shelf made; as the program and the reference have it. No condition. -/
set_option linter.unusedSimpArgs false
set_option linter.unusedVariables false
namespace Go.Proofs.Ytbgggcgjijljkaa.L
open Go.RowKit Go.Proofs.YtbgggcgjijljkaaW.PrintWords Go.Proofs.YtbgggcgjijljkaaW.PrintLast Go.Proofs.Ytbgggcgjijljkaa.Q
def putAt (x : S57) : List S57 → List S57
  | [] => [x]
  | a :: t => if lessP a.f0 x.f0 = true then a :: putAt x t else x :: a :: t
theorem putAt_length (x : S57) : ∀ t : List S57, (putAt x t).length = t.length + 1
  | [] => rfl
  | a :: t => by
    unfold putAt
    by_cases c : lessP a.f0 x.f0 = true
    · simp only [if_pos c, List.length_cons, putAt_length x t]
    · simp only [if_neg c, List.length_cons]
theorem putAt_mem (x : S57) : ∀ (t : List S57) (b : S57), b ∈ putAt x t → b = x ∨ b ∈ t
  | [], b, h => by simpa [putAt] using h
  | a :: t, b, h => by
    unfold putAt at h
    by_cases c : lessP a.f0 x.f0 = true
    · simp only [if_pos c, List.mem_cons] at h
      rcases h with rfl | h
      · exact .inr (by simp)
      · rcases putAt_mem x t b h with h | h
        · exact .inl h
        · exact .inr (by simp [h])
    · simp only [if_neg c, List.mem_cons] at h
      rcases h with h | h | h
      · exact .inl h
      · exact .inr (by simp [h])
      · exact .inr (by simp [h])
def putS (x : S57) : Bool → List S57 → List S57
  | d, [] => if d = true then [] else [x]
  | d, a :: t => (if d = true then [] else if lessP a.f0 x.f0 = true then [] else [x]) ++ (if a.f0 = x.f0 then [] else [a]) ++ putS x (d || !lessP a.f0 x.f0) t
theorem specPut {t : List S57} {x : S57} (ht : SmRess t) (hx : SmRes x) : Ev (fun k => spec_l11Put.f k t x.f0 x.f1 x.f2 x.f3 x.f4) (putS x false t) := by
  have hl0 := ht.1
  have hl : t.length ≤ maxLen := by rw [maxLen_eq]; omega
  have key : ∀ (suf pre out : List S57) (d : Bool), t = pre ++ suf → out.length ≤ 2 * pre.length → Ev (fun k => spec_l11Put.l0 k t out d pre.length x.f0 x.f1 x.f2 x.f3 x.f4) (out ++ putS x d suf) := by
    intro suf
    induction suf with
    | nil =>
      intro pre out d h ho
      have hp : pre.length = t.length := by rw [h]; simp
      refine Ev.step (fun k => spec_l11Put.l0.eq_2 ..) ?_
      simp only [if_neg (end_at h), putS]
      by_cases c : d = true
      · simp only [if_pos c, List.append_nil]; exact Ev.now _
      · simp only [if_neg c, specCopyRes hx, Option.bind_some, show out.length < 1759218604441 by omega, if_true]; exact Ev.now _
    | cons a suf ih =>
      intro pre out d h ho
      have hpl : t.length = pre.length + (suf.length + 1) := by rw [h]; simp
      have ha := ht.2 a (by rw [h]; simp)
      have ha0 := ha.1.1
      have hj2 : ∀ (o : List S57) (d' : Bool), o.length ≤ 2 * pre.length + 1 → Ev (fun k => spec_l11Put.j2 k t o d' pre.length x.f0 x.f1 x.f2 x.f3 x.f4) (o ++ ((if a.f0 = x.f0 then [] else [a]) ++ putS x d' suf)) := by
        intro o d' ho'
        refine Ev.step (fun k => spec_l11Put.j2.eq_2 ..) ?_
        simp only [if_pos (lt_at h), if_pos (nonneg_at _), rd_implRes h, next_at h hl, specCopyRes ha, Option.bind_some]
        refine Ev.bind (specSame (by rw [maxLen_eq]; omega)) ?_
        by_cases c : a.f0 = x.f0
        · simp only [c, decide_true, if_true, List.nil_append]
          exact ih (pre ++ [a]) o d' (snoc_at h) (by simp; omega)
        · simp only [c, decide_false, Bool.false_eq_true, if_false, show o.length < 1759218604441 by omega, if_true]
          exact ev_cast (ih (pre ++ [a]) (o ++ [a]) d' (snoc_at h) (by simp; omega)) (by simp)
      have hj1 : ∀ b : Bool, Ev (fun k => spec_l11Put.j1 k t out d pre.length b x.f0 x.f1 x.f2 x.f3 x.f4) (out ++ ((if b = true then [x] else []) ++ ((if a.f0 = x.f0 then [] else [a]) ++ putS x (d || b) suf))) := by
        intro b
        refine Ev.step (fun k => spec_l11Put.j1.eq_2 ..) ?_
        by_cases c : b = true
        · subst c
          simp only [if_true, specCopyRes hx, Option.bind_some, show out.length < 1759218604441 by omega, Bool.or_true]
          exact ev_cast (hj2 (out ++ [x]) true (by simp; omega)) (by simp)
        · have c' : b = false := by simpa using c
          subst c'
          simp only [Bool.false_eq_true, if_false, List.nil_append, Bool.or_false]
          exact hj2 out d (by omega)
      refine Ev.step (fun k => spec_l11Put.l0.eq_2 ..) ?_
      simp only [if_pos (lt_at h), if_pos (nonneg_at _), rd_implRes h, putS]
      by_cases c : d = true
      · subst c
        simp only [if_true]
        exact ev_cast (hj1 false) (by simp)
      · have c' : d = false := by simpa using c
        subst c'
        simp only [Bool.false_eq_true, if_false]
        refine Ev.bind (specLess (by rw [maxLen_eq]; omega)) ?_
        refine ev_cast (hj1 (!lessP a.f0 x.f0)) ?_
        by_cases c2 : lessP a.f0 x.f0 = true
        · simp [c2]
        · simp [c2]
  exact key t [] [] false rfl (by simp)
theorem putS_done {x : S57} : ∀ {t : List S57}, (∀ r ∈ t, r.f0 ≠ x.f0) → putS x true t = t
  | [], _ => by simp [putS]
  | a :: t, h => by
    have h0 := h a (by simp)
    have ih := putS_done (x := x) (t := t) (fun r hr => h r (by simp [hr]))
    simp [putS, h0, ih]
theorem putS_new {x : S57} : ∀ {t : List S57}, (∀ r ∈ t, r.f0 ≠ x.f0) → putS x false t = putAt x t
  | [], _ => by simp [putS, putAt]
  | a :: t, h => by
    have h0 := h a (by simp)
    have hr := fun r hr => h r (List.mem_cons_of_mem a hr)
    have ih := putS_new (x := x) (t := t) hr
    have id := putS_done (x := x) (t := t) hr
    by_cases c : lessP a.f0 x.f0 = true
    · simp [putS, putAt, h0, ih, c]
    · simp [putS, putAt, h0, id, c]
theorem find_none {t : List S57} {p : List ByteArray} (h : findR t p < 0) : ∀ r ∈ t, r.f0 ≠ p := by
  rcases findFrom_cases p t 0 with ⟨_, h2⟩ | ⟨j, r, h1, _⟩
  · exact h2
  · unfold findR at h; rw [h1] at h; omega
def newRes (p : List ByteArray) (ver : Int) : S57 := ⟨p, true, (⟨#[]⟩ : ByteArray), ver, []⟩
def makeR (t : List S57) (p : List ByteArray) (ver : Int) : List S57 × Int :=
  if mayC t [p] ver = 0 then (if p = [] then (t, 405) else if findR t p ≥ 0 then (t, 405) else if isColl t (above p) = true then (if (t.length : Int) ≥ 12 then (t, 507) else (putAt (newRes p ver) t, 201)) else (t, 409)) else (t, mayC t [p] ver)
theorem newRes_sm {p : List ByteArray} {ver : Int} (hp : SmS p) (hv : IntOk ver) : SmRes (newRes p ver) := ⟨hp, trivial, by show (0 : Nat) ≤ 1048576; omega, hv, by show (0 : Nat) ≤ 1048576; omega, fun _ h => by cases h⟩
theorem make_sm {p : List ByteArray} {t : List S57} {ver : Int} (ht : SmRess t) (hp : SmS p) (hv : IntOk ver) : SmRess (makeR t p ver).1 := by
  unfold makeR
  repeat' split
  all_goals first | exact ht | skip
  rename_i hn
  refine ⟨by rw [putAt_length]; omega, fun r hr => ?_⟩
  rcases putAt_mem _ _ _ hr with rfl | hr
  · exact newRes_sm hp hv
  · exact ht.2 r hr
theorem specMake {t : List S57} {p : List ByteArray} {ver : Int} (ht : SmRess t) (hp : SmS p) (hv : IntOk ver) : Ev (fun k => spec_MakeCollX.f k t p ver) (makeR t p ver) := by
  have hp0 := hp.1
  show Ev (fun k => spec_MakeColl.f k t p ver) _
  unfold spec_MakeColl.f makeR
  refine Ev.bind (specMay ht hp) ?_
  have hc : ∀ c : Int, c ≠ 0 → Ev (fun k => spec_MakeColl.j1 k t p ver c) (t, c) := fun c h => by
    refine Ev.step (fun k => spec_MakeColl.j1.eq_2 ..) ?_
    simp only [if_neg h]
    exact Ev.bind (specCopyAll ht) (Ev.now _)
  by_cases c0 : mayC t [p] ver = 0
  · simp only [c0, if_true, nil_len]
    by_cases c1 : p = []
    · simp only [if_pos c1]
      refine Ev.step (fun k => spec_MakeColl.j0.eq_2 ..) ?_
      simp only [if_true]
      exact hc 405 (by decide)
    · simp only [if_neg c1]
      refine Ev.bind (specFind ht) ?_
      refine Ev.step (fun k => spec_MakeColl.j0.eq_2 ..) ?_
      by_cases c2 : findR t p ≥ 0
      · simp only [c2, decide_true, if_true]; exact hc 405 (by decide)
      · simp only [c2, decide_false, Bool.false_eq_true, if_false, specAbove hp0, Option.bind_some]
        refine Ev.bind (specIsColl ht) ?_
        by_cases c3 : isColl t (above p) = true
        · simp only [if_pos c3]
          by_cases c4 : (t.length : Int) ≥ 12
          · simp only [if_pos c4]; exact hc 507 (by decide)
          · simp only [if_neg c4]
            refine Ev.step (fun k => spec_MakeColl.j1.eq_2 ..) ?_
            simp only [if_true]
            have h1 := specPut (x := newRes p ver) ht (newRes_sm hp hv)
            rw [putS_new (show ∀ r ∈ t, r.f0 ≠ (newRes p ver).f0 from find_none (p := p) (by omega))] at h1
            exact Ev.bind h1 (Ev.now _)
        · simp only [if_neg c3]; exact hc 409 (by decide)
  · simp only [if_neg c0]; exact hc _ c0
end Go.Proofs.Ytbgggcgjijljkaa.L

/- Paths, one ahead of the other: an order; right shelves stand in it. No condition. -/
set_option linter.unusedSimpArgs false
set_option linter.unusedVariables false
namespace Go.Proofs.Ytbgggcgjijljkaa.L
open Go.RowKit Go.Proofs.YtbgggcgjijljkaaW.PrintWords Go.Proofs.YtbgggcgjijljkaaW.PrintLast Go.Proofs.Ytbgggcgjijljkaa.Q
theorem bytesLess_trans : ∀ {x y z : List UInt8}, Op.bytesLess x y = true → Op.bytesLess y z = true → Op.bytesLess x z = true
  | _, _, [], _, h => by cases ‹List UInt8› <;> simp [Op.bytesLess] at h
  | [], _, _ :: _, _, _ => by simp [Op.bytesLess]
  | _ :: _, [], _ :: _, h, _ => by simp [Op.bytesLess] at h
  | a :: x, b :: y, c :: z, h, h' => by
    simp only [Op.bytesLess, Bool.or_eq_true, Bool.and_eq_true, decide_eq_true_eq, beq_iff_eq] at h h' ⊢
    rcases h with h | ⟨rfl, h⟩
    · rcases h' with h' | ⟨rfl, _⟩
      · exact .inl (UInt8.lt_trans h h')
      · exact .inl h
    · rcases h' with h' | ⟨rfl, h'⟩
      · exact .inl h'
      · exact .inr ⟨rfl, bytesLess_trans h h'⟩
theorem lessP_irrefl : ∀ a : List ByteArray, lessP a a = false
  | [] => rfl
  | x :: a => by simp [lessP, lessP_irrefl a]
theorem lessP_trans : ∀ {a b c : List ByteArray}, lessP a b = true → lessP b c = true → lessP a c = true
  | [], [], _, h, _ => by simp [lessP] at h
  | [], _ :: _, [], _, h => by simp [lessP] at h
  | [], _ :: _, _ :: _, _, _ => by simp [lessP]
  | _ :: _, [], _, h, _ => by simp [lessP] at h
  | _ :: _, _ :: _, [], _, h => by simp [lessP] at h
  | x :: a, y :: b, z :: c, h, h' => by
    simp only [lessP] at h h' ⊢
    by_cases e : x = y
    · subst e
      by_cases e' : x = z
      · subst e'
        simp only [if_true] at h h' ⊢
        exact lessP_trans h h'
      · rw [if_neg e'] at h' ⊢
        exact h'
    · rw [if_neg e] at h
      by_cases e' : y = z
      · subst e'
        rw [if_neg e]
        exact h
      · rw [if_neg e'] at h'
        have ht := bytesLess_trans h h'
        by_cases e2 : x = z
        · subst e2
          rw [bytesLess_irrefl] at ht
          cases ht
        · rw [if_neg e2]
          exact ht
theorem lessP_ne {a b : List ByteArray} (h : lessP a b = true) : a ≠ b := by
  intro e
  rw [e, lessP_irrefl] at h
  cases h
theorem treeL_pair (t : List S57) : ∀ (l : List S57) (q : Option S57), treeL t q l = true → (match q with | none => True | some q => ∀ r ∈ l, lessP q.f0 r.f0 = true) ∧ l.Pairwise (fun a b => lessP a.f0 b.f0 = true)
  | [], q, _ => by cases q <;> simp
  | r :: l, q, h => by
    simp only [treeL, Bool.and_eq_true] at h
    obtain ⟨_, h1, _, h2⟩ := h
    obtain ⟨h3, h4⟩ := treeL_pair t l (some r) h2
    simp only at h3
    refine ⟨?_, List.pairwise_cons.2 ⟨h3, h4⟩⟩
    cases q with
    | none => trivial
    | some q =>
      intro x hx
      simp only at h1
      rcases List.mem_cons.1 hx with rfl | hx
      · exact h1
      · exact lessP_trans h1 (h3 x hx)
theorem treeOk_pair {t : List S57} (h : treeOk t = true) : t.Pairwise (fun a b => lessP a.f0 b.f0 = true) := by
  unfold treeOk at h
  exact (treeL_pair t t none (Bool.and_eq_true_iff.1 h).1).2
theorem putS_at {x r : S57} (e : r.f0 = x.f0) {suf : List S57} : ∀ {pre : List S57}, (pre ++ r :: suf).Pairwise (fun a b => lessP a.f0 b.f0 = true) → putS x false (pre ++ r :: suf) = pre ++ x :: suf
  | [], h => by
    have h1 := (List.pairwise_cons.1 h).1
    have hd := putS_done (x := x) (t := suf) (fun a ha => by rw [← e]; exact (lessP_ne (h1 a ha)).symm)
    simp [putS, e, lessP_irrefl, hd]
  | a :: pre, h => by
    have h1 := (List.pairwise_cons.1 h).1
    have h2 : lessP a.f0 x.f0 = true := by rw [← e]; exact h1 r (by simp)
    have ih := putS_at (x := x) e (List.pairwise_cons.1 h).2
    simp [putS, h2, lessP_ne h2, ih]
end Go.Proofs.Ytbgggcgjijljkaa.L

/- A text put; as the program and the reference have it. No condition. -/
set_option linter.unusedSimpArgs false
set_option linter.unusedVariables false
namespace Go.Proofs.Ytbgggcgjijljkaa.L
open Go.RowKit Go.Proofs.YtbgggcgjijljkaaW.PrintWords Go.Proofs.YtbgggcgjijljkaaW.PrintLast Go.Proofs.Ytbgggcgjijljkaa.Q
theorem find_at {t : List S57} {p : List ByteArray} (h : ¬ findR t p < 0) : ∃ pre r suf, t = pre ++ r :: suf ∧ findR t p = (pre.length : Int) ∧ r.f0 = p := by
  rcases findFrom_cases p t 0 with ⟨h1, _⟩ | ⟨j, r, h1, h2, h3, _⟩
  · unfold findR at h; rw [h1] at h; exact absurd (by decide) h
  · refine ⟨t.take j, r, t.drop (j + 1), ?_, ?_, h3⟩
    · have hj := (List.getElem?_eq_some_iff.1 h2).1
      have he : t[j] = r := (List.getElem?_eq_some_iff.1 h2).2
      rw [← he, List.getElem_cons_drop, List.take_append_drop]
    · have hj := (List.getElem?_eq_some_iff.1 h2).1
      unfold findR; rw [h1, List.length_take]; omega
def newFile (p : List ByteArray) (body : ByteArray) (ver : Int) : S57 := ⟨p, false, body, ver, []⟩
def putFR (t : List S57) (p : List ByteArray) (body : ByteArray) (ver : Int) : List S57 × Int :=
  if mayC t [p] ver = 0 then (if isColl t p = true then (t, 405) else if isColl t (above p) = true then (if (body.size : Int) > 200 then (t, 413) else
    if findR t p < 0 then (if (t.length : Int) ≥ 12 then (t, 507) else (putAt (newFile p body ver) t, 201))
    else (t.set (findR t p).toNat ⟨(t.getD (findR t p).toNat z57).f0, (t.getD (findR t p).toNat z57).f1, body, ver, (t.getD (findR t p).toNat z57).f4⟩, 204)) else (t, 409)) else (t, mayC t [p] ver)
theorem newFile_sm {p : List ByteArray} {body : ByteArray} {ver : Int} (hp : SmS p) (hb : body.size ≤ 1048576) (hv : IntOk ver) : SmRes (newFile p body ver) := ⟨hp, trivial, hb, hv, by show (0 : Nat) ≤ 1048576; omega, fun _ h => by cases h⟩
theorem putF_sm {p : List ByteArray} {t : List S57} {body : ByteArray} {ver : Int} (ht : SmRess t) (hp : SmS p) (hb : body.size ≤ 1048576) (hv : IntOk ver) : SmRess (putFR t p body ver).1 := by
  unfold putFR
  repeat' split
  all_goals first | exact ht | skip
  · refine ⟨by rw [putAt_length]; omega, fun r hr => ?_⟩
    rcases putAt_mem _ _ _ hr with rfl | hr
    · exact newFile_sm hp hb hv
    · exact ht.2 r hr
  · rename_i hn
    obtain ⟨pre, r, suf, e, f, _⟩ := find_at hn
    have hg : t.getD (findR t p).toNat z57 = r := by rw [f]; exact getD_at _ e
    rw [hg, f, set_at e]
    have hr := ht.2 r (by rw [e]; simp)
    refine ⟨by have := ht.1; rw [e] at this; simpa using this, fun x hx => ?_⟩
    simp only [List.append_assoc, List.cons_append, List.nil_append, List.mem_append, List.mem_cons] at hx
    rcases hx with hx | rfl | hx
    · exact ht.2 x (by rw [e]; simp [hx])
    · exact ⟨hr.1, trivial, hb, hv, hr.2.2.2.2⟩
    · exact ht.2 x (by rw [e]; simp [hx])
theorem mayC_tree {t : List S57} {ps : List (List ByteArray)} {ver : Int} (h : mayC t ps ver = 0) : treeOk t = true := by
  unfold mayC at h
  by_cases c : treeOk t = true
  · exact c
  · rw [if_neg c] at h; omega
theorem specPutF {t : List S57} {p : List ByteArray} {body : ByteArray} {ver : Int} (ht : SmRess t) (hp : SmS p) (hb : body.size ≤ 1048576) (hv : IntOk ver) : Ev (fun k => spec_PutFileX.f k t p body ver) (putFR t p body ver) := by
  have hp0 := hp.1
  show Ev (fun k => spec_PutFile.f k t p body ver) _
  unfold spec_PutFile.f putFR
  refine Ev.bind (specMay ht hp) ?_
  refine Ev.bind (specFind ht) ?_
  have hc : ∀ c : Int, c ≠ 0 → Ev (fun k => spec_PutFile.j0 k t p body ver c (findR t p)) (t, c) := fun c h => by
    refine Ev.step (fun k => spec_PutFile.j0.eq_2 ..) ?_
    simp only [if_neg h]
    exact Ev.bind (specCopyAll ht) (Ev.now _)
  by_cases c0 : mayC t [p] ver = 0
  · simp only [c0, if_true]
    refine Ev.bind (specIsColl ht) ?_
    by_cases c1 : isColl t p = true
    · simp only [if_pos c1]; exact hc 405 (by decide)
    · simp only [if_neg c1, specAbove hp0, Option.bind_some]
      refine Ev.bind (specIsColl ht) ?_
      by_cases c3 : isColl t (above p) = true
      · simp only [if_pos c3]
        by_cases c4 : (body.size : Int) > 200
        · simp only [if_pos c4]; exact hc 413 (by decide)
        · simp only [if_neg c4]
          by_cases c5 : findR t p < 0
          · simp only [if_pos c5]
            by_cases c6 : (t.length : Int) ≥ 12
            · simp only [if_pos c6]; exact hc 507 (by decide)
            · simp only [if_neg c6]
              refine Ev.step (fun k => spec_PutFile.j0.eq_2 ..) ?_
              simp only [if_true, if_pos c5]
              have h1 := specPut (x := newFile p body ver) ht (newFile_sm hp hb hv)
              rw [putS_new (show ∀ r ∈ t, r.f0 ≠ (newFile p body ver).f0 from find_none (p := p) c5)] at h1
              exact Ev.bind h1 (Ev.now _)
          · simp only [if_neg c5]
            obtain ⟨pre, r, suf, e, f, hrp⟩ := find_at c5
            have hg : t.getD (findR t p).toNat z57 = r := by rw [f]; exact getD_at _ e
            have hr := ht.2 r (by rw [e]; simp)
            have hcoll : r.f1 = false := by
              have h2 : rd_T57 t (findR t p) = r := by rw [f]; exact rd_implRes e
              unfold isColl at c1
              rw [h2, decide_eq_true (show 0 ≤ findR t p by omega), Bool.true_and] at c1
              cases h3 : r.f1 with
              | false => rfl
              | true => rw [h3] at c1; simp at c1
            refine Ev.step (fun k => spec_PutFile.j0.eq_2 ..) ?_
            have h1 := specPut (x := (⟨p, false, body, ver, r.f4⟩ : S57)) ht ⟨hp, trivial, hb, hv, hr.2.2.2.2⟩
            have hord := treeOk_pair (mayC_tree c0)
            have h4 : putS (⟨p, false, body, ver, r.f4⟩ : S57) false t = (pre ++ [(⟨p, false, body, ver, r.f4⟩ : S57)]) ++ suf := by
              rw [e] at hord ⊢
              rw [putS_at (x := (⟨p, false, body, ver, r.f4⟩ : S57)) hrp hord]
              simp
            rw [h4] at h1
            simp only [if_true, if_neg c5, hg]
            rw [f]
            simp only [if_pos (nonneg_at _), if_pos (lt_at e), rd_implRes e, set_at e, hrp, hcoll]
            exact Ev.bind h1 (Ev.now _)
      · simp only [if_neg c3]; exact hc 409 (by decide)
  · simp only [if_neg c0]; exact hc _ c0
end Go.Proofs.Ytbgggcgjijljkaa.L

/- Right shelves stay right: a shelf made, a text put, a thing taken away, what is known set. No condition. -/
set_option linter.unusedSimpArgs false
set_option linter.unusedVariables false
namespace Go.Proofs.Ytbgggcgjijljkaa.L
open Go.RowKit Go.Proofs.YtbgggcgjijljkaaW.PrintWords Go.Proofs.YtbgggcgjijljkaaW.PrintLast Go.Proofs.Ytbgggcgjijljkaa.Q
def Ord (t : List S57) : Prop := t.Pairwise (fun a b => lessP a.f0 b.f0 = true)
theorem bytesLess_total : ∀ {x y : List UInt8}, x ≠ y → Op.bytesLess x y = true ∨ Op.bytesLess y x = true
  | [], [], h => absurd rfl h
  | [], _ :: _, _ => .inl (by simp [Op.bytesLess])
  | _ :: _, [], _ => .inr (by simp [Op.bytesLess])
  | a :: x, b :: y, h => by
    simp only [Op.bytesLess, Bool.or_eq_true, Bool.and_eq_true, decide_eq_true_eq, beq_iff_eq]
    by_cases e : a = b
    · subst e
      rcases bytesLess_total (show x ≠ y from fun e => h (by rw [e])) with h1 | h1
      · exact .inl (.inr ⟨rfl, h1⟩)
      · exact .inr (.inr ⟨rfl, h1⟩)
    · rcases UInt8.lt_or_lt_of_ne e with h1 | h1
      · exact .inl (.inl h1)
      · exact .inr (.inl h1)
theorem lessP_total : ∀ {a b : List ByteArray}, a ≠ b → lessP a b = true ∨ lessP b a = true
  | [], [], h => absurd rfl h
  | [], _ :: _, _ => .inl rfl
  | _ :: _, [], _ => .inr rfl
  | x :: a, y :: b, h => by
    simp only [lessP]
    by_cases e : x = y
    · subst e
      simp only [if_true]
      exact lessP_total (fun e => h (by rw [e]))
    · rw [if_neg e, if_neg (fun e' => e e'.symm)]
      exact bytesLess_total (fun e' => e (ba_inj e'))
theorem ord_uniq {t : List S57} (h : Ord t) {a b : S57} (ha : a ∈ t) (hb : b ∈ t) (e : a.f0 = b.f0) : a = b := by
  induction t with
  | nil => cases ha
  | cons r t ih =>
    have h1 := (List.pairwise_cons.1 h).1
    rcases List.mem_cons.1 ha with rfl | ha'
    · rcases List.mem_cons.1 hb with rfl | hb'
      · rfl
      · exact absurd e (lessP_ne (h1 b hb'))
    · rcases List.mem_cons.1 hb with rfl | hb'
      · exact absurd e.symm (lessP_ne (h1 a ha'))
      · exact ih (List.pairwise_cons.1 h).2 ha' hb'
theorem find_neg {t : List S57} {p : List ByteArray} : findR t p < 0 ↔ ∀ r ∈ t, r.f0 ≠ p := by
  constructor
  · exact find_none
  · intro h
    by_cases c : findR t p < 0
    · exact c
    · obtain ⟨pre, r, suf, e, _, hr⟩ := find_at c
      exact absurd hr (h r (by rw [e]; simp))
theorem isColl_iff {t : List S57} (ho : Ord t) {p : List ByteArray} : isColl t p = true ↔ p = [] ∨ ∃ r ∈ t, r.f0 = p ∧ r.f1 = true := by
  unfold isColl
  by_cases e : p = []
  · simp [e]
  · simp only [e, decide_false, Bool.false_or, false_or, Bool.and_eq_true, decide_eq_true_eq]
    constructor
    · rintro ⟨h1, h2⟩
      obtain ⟨pre, r, suf, et, f, hr⟩ := find_at (show ¬ findR t p < 0 by omega)
      rw [f, rd_implRes et] at h2
      exact ⟨r, by rw [et]; simp, hr, h2⟩
    · rintro ⟨r, hm, h1, h2⟩
      have hn : ¬ findR t p < 0 := fun h => find_none h r hm h1
      obtain ⟨pre, r', suf, et, f, hr⟩ := find_at hn
      have hu := ord_uniq ho (show r' ∈ t by rw [et]; simp) hm (by rw [hr, h1])
      refine ⟨by omega, ?_⟩
      rw [f, rd_implRes et, hu]
      exact h2
theorem treeL_iff (t : List S57) : ∀ (l : List S57) (q : Option S57), treeL t q l = true ↔ (∀ r ∈ l, resOk r = true ∧ isColl t (above r.f0) = true) ∧ (match q with | none => True | some q => ∀ r ∈ l, lessP q.f0 r.f0 = true) ∧ Ord l
  | [], q => by cases q <;> simp [treeL, Ord]
  | r :: l, q => by
    have ih := treeL_iff t l (some r)
    constructor
    · intro h
      obtain ⟨h3, h4⟩ := treeL_pair t (r :: l) q h
      simp only [treeL, Bool.and_eq_true] at h
      obtain ⟨h0, _, h1, h2⟩ := h
      refine ⟨fun x hx => ?_, ?_, h4⟩
      · rcases List.mem_cons.1 hx with rfl | hx
        · exact ⟨h0, h1⟩
        · exact (ih.1 h2).1 x hx
      · cases q with
        | none => trivial
        | some q => exact h3
    · rintro ⟨h1, h2, h3⟩
      simp only [treeL, Bool.and_eq_true]
      refine ⟨(h1 r (by simp)).1, ?_, (h1 r (by simp)).2, ih.2 ⟨fun x hx => h1 x (by simp [hx]), (List.pairwise_cons.1 h3).1, (List.pairwise_cons.1 h3).2⟩⟩
      cases q with
      | none => rfl
      | some q => exact h2 r (by simp)
theorem treeOk_iff {t : List S57} : treeOk t = true ↔ (∀ r ∈ t, resOk r = true ∧ isColl t (above r.f0) = true) ∧ Ord t ∧ t.length ≤ 12 := by
  unfold treeOk
  rw [Bool.and_eq_true, treeL_iff, decide_eq_true_eq]
  constructor
  · rintro ⟨⟨h1, _, h2⟩, h3⟩; exact ⟨h1, h2, by omega⟩
  · rintro ⟨h1, h2, h3⟩; exact ⟨⟨h1, trivial, h2⟩, by omega⟩
theorem mem_putAt (x : S57) : ∀ (t : List S57) (b : S57), b ∈ putAt x t ↔ b = x ∨ b ∈ t
  | [], b => by simp [putAt]
  | a :: t, b => by
    unfold putAt
    by_cases c : lessP a.f0 x.f0 = true
    · simp only [if_pos c, List.mem_cons, mem_putAt x t b]
      constructor
      · rintro (h | h | h)
        · exact .inr (.inl h)
        · exact .inl h
        · exact .inr (.inr h)
      · rintro (h | h | h)
        · exact .inr (.inl h)
        · exact .inl h
        · exact .inr (.inr h)
    · simp only [if_neg c, List.mem_cons]
theorem ord_putAt {x : S57} : ∀ {t : List S57}, Ord t → (∀ r ∈ t, r.f0 ≠ x.f0) → Ord (putAt x t)
  | [], _, _ => by simp [putAt, Ord]
  | a :: t, h, hn => by
    have h1 := (List.pairwise_cons.1 h).1
    have h2 := (List.pairwise_cons.1 h).2
    unfold putAt
    by_cases c : lessP a.f0 x.f0 = true
    · simp only [if_pos c]
      refine List.pairwise_cons.2 ⟨fun b hb => ?_, ord_putAt h2 (fun r hr => hn r (by simp [hr]))⟩
      rcases (mem_putAt x t b).1 hb with rfl | hb
      · exact c
      · exact h1 b hb
    · simp only [if_neg c]
      have hx : lessP x.f0 a.f0 = true := by
        rcases lessP_total (hn a (by simp)) with h3 | h3
        · exact absurd h3 c
        · exact h3
      refine List.pairwise_cons.2 ⟨fun b hb => ?_, h⟩
      rcases List.mem_cons.1 hb with rfl | hb
      · exact hx
      · exact lessP_trans hx (h1 b hb)
theorem putAt_ok {t : List S57} {x : S57} (h : treeOk t = true) (hx : resOk x = true) (hc : isColl t (above x.f0) = true) (hn : ∀ r ∈ t, r.f0 ≠ x.f0) (hl : t.length < 12) : treeOk (putAt x t) = true := by
  obtain ⟨h1, h2, h3⟩ := treeOk_iff.1 h
  have ho := ord_putAt (x := x) h2 hn
  have hmono : ∀ p, isColl t p = true → isColl (putAt x t) p = true := fun p hp => by
    rcases (isColl_iff h2).1 hp with e | ⟨r, hr, e⟩
    · exact (isColl_iff ho).2 (.inl e)
    · exact (isColl_iff ho).2 (.inr ⟨r, (mem_putAt x t r).2 (.inr hr), e⟩)
  refine treeOk_iff.2 ⟨fun r hr => ?_, ho, by rw [putAt_length]; omega⟩
  rcases (mem_putAt x t r).1 hr with rfl | hr
  · exact ⟨hx, hmono _ hc⟩
  · exact ⟨(h1 r hr).1, hmono _ (h1 r hr).2⟩
theorem ord_map {t u : List S57} (e : t.map (·.f0) = u.map (·.f0)) (h : Ord t) : Ord u := by
  have h1 : (t.map (·.f0)).Pairwise (fun a b => lessP a b = true) := List.pairwise_map.2 h
  rw [e] at h1
  exact List.pairwise_map.1 h1
theorem set_ok {pre suf : List S57} {r x : S57} (h : treeOk (pre ++ r :: suf) = true) (hx : resOk x = true) (e0 : x.f0 = r.f0) (e1 : x.f1 = r.f1) : treeOk (pre ++ x :: suf) = true := by
  obtain ⟨h1, h2, h3⟩ := treeOk_iff.1 h
  have ho : Ord (pre ++ x :: suf) := ord_map (by simp [e0]) h2
  have hmono : ∀ p, isColl (pre ++ r :: suf) p = true → isColl (pre ++ x :: suf) p = true := fun p hp => by
    rcases (isColl_iff h2).1 hp with e | ⟨q, hq, e⟩
    · exact (isColl_iff ho).2 (.inl e)
    · refine (isColl_iff ho).2 (.inr ?_)
      rcases List.mem_append.1 hq with hq | hq
      · exact ⟨q, by simp [hq], e⟩
      · rcases List.mem_cons.1 hq with rfl | hq
        · exact ⟨x, by simp, by rw [e0, e1]; exact e⟩
        · exact ⟨q, by simp [hq], e⟩
  refine treeOk_iff.2 ⟨fun q hq => ?_, ho, by simpa using h3⟩
  rcases List.mem_append.1 hq with hq | hq
  · exact ⟨(h1 q (by simp [hq])).1, hmono _ (h1 q (by simp [hq])).2⟩
  · rcases List.mem_cons.1 hq with rfl | hq
    · exact ⟨hx, by rw [e0]; exact hmono _ (h1 r (by simp)).2⟩
    · exact ⟨(h1 q (by simp [hq])).1, hmono _ (h1 q (by simp [hq])).2⟩
theorem above_under {p q : List ByteArray} (hp : p ≠ []) (h : above q = p ∨ under (above q) p = true) : under q p = true := by
  unfold under above at *
  have hlen : (q.take (q.length - 1)).length = q.length - 1 := by simp
  rcases h with h | h
  · have h1 : p.length = q.length - 1 := by rw [← h, hlen]
    have h2 : 0 < p.length := List.length_pos_iff.2 hp
    rw [Bool.and_eq_true, decide_eq_true_eq, decide_eq_true_eq]
    refine ⟨by omega, ?_⟩
    rw [h1, h]
  · rw [Bool.and_eq_true, decide_eq_true_eq, decide_eq_true_eq] at h ⊢
    obtain ⟨h1, h2⟩ := h
    rw [hlen] at h1
    refine ⟨by omega, ?_⟩
    rw [List.take_take, Nat.min_eq_left (by omega)] at h2
    exact h2
theorem without_ok {t : List S57} {p : List ByteArray} (h : treeOk t = true) (hp : p ≠ []) : treeOk (withoutP p t) = true := by
  obtain ⟨h1, h2, h3⟩ := treeOk_iff.1 h
  have ho : Ord (withoutP p t) := List.Pairwise.filter _ h2
  refine treeOk_iff.2 ⟨fun r hr => ?_, ho, Nat.le_trans (without_length p t) h3⟩
  obtain ⟨hm, hg⟩ := List.mem_filter.1 hr
  refine ⟨(h1 r hm).1, ?_⟩
  rcases (isColl_iff h2).1 (h1 r hm).2 with e | ⟨q, hq, e, e'⟩
  · exact (isColl_iff ho).2 (.inl e)
  · refine (isColl_iff ho).2 (.inr ⟨q, List.mem_filter.2 ⟨hq, ?_⟩, e, e'⟩)
    simp only [Bool.not_eq_true', Bool.or_eq_false_iff, decide_eq_false_iff_not] at hg ⊢
    have hn : ¬ (above r.f0 = p ∨ under (above r.f0) p = true) := fun hh => by
      have := above_under hp hh
      rw [hg.2] at this
      cases this
    rw [← e] at hn
    exact ⟨fun hh => hn (.inl hh), Bool.eq_false_iff.mpr (fun hh => hn (.inr hh))⟩
theorem mayC_zero {t : List S57} {p : List ByteArray} {ver : Int} (h : mayC t [p] ver = 0) : treeOk t = true ∧ pathOk p = true ∧ 0 ≤ ver ∧ ver ≤ 99999 := by
  unfold mayC at h
  by_cases c0 : treeOk t = true
  · rw [if_pos c0] at h
    by_cases c1 : [p].all pathOk = true
    · rw [if_pos c1] at h
      by_cases c2 : 0 ≤ ver ∧ ver ≤ 99999
      · exact ⟨c0, by simpa using c1, c2⟩
      · rw [if_neg c2] at h; omega
    · rw [if_neg c1] at h; omega
  · rw [if_neg c0] at h; omega
theorem make_ok {t : List S57} {p : List ByteArray} {ver : Int} (h : treeOk t = true) : treeOk (makeR t p ver).1 = true := by
  unfold makeR
  repeat' split
  all_goals first | exact h | skip
  rename_i c0 c1 c2 c3 c4
  obtain ⟨_, hp, hv⟩ := mayC_zero c0
  refine putAt_ok h ?_ c3 (find_neg.1 (show findR t p < 0 by omega)) (by omega)
  unfold resOk newRes
  simp [c1, hp, hv.1, hv.2, propsOk, propsL]
  decide
theorem putF_ok {t : List S57} {p : List ByteArray} {body : ByteArray} {ver : Int} (h : treeOk t = true) : treeOk (putFR t p body ver).1 = true := by
  unfold putFR
  repeat' split
  all_goals first | exact h | skip
  · rename_i c0 c1 c2 c3 c4 c5
    obtain ⟨_, hp, hv⟩ := mayC_zero c0
    have hne : p ≠ [] := fun e => c1 (by rw [e]; rfl)
    refine putAt_ok h ?_ c2 (find_neg.1 c4) (by omega)
    unfold resOk newFile
    simp [hne, hp, hv.1, hv.2, propsOk, propsL]
    omega
  · rename_i c0 c1 c2 c3 c4
    obtain ⟨_, hp, hv⟩ := mayC_zero c0
    obtain ⟨pre, r, suf, e, f, hr⟩ := find_at c4
    have hg : t.getD (findR t p).toNat z57 = r := by rw [f]; exact getD_at _ e
    rw [hg, f, set_at e]
    have hrok := ((treeOk_iff.1 h).1 r (by rw [e]; simp)).1
    have hf1 : r.f1 = false := by
      cases h3 : r.f1 with
      | false => rfl
      | true => exact absurd ((isColl_iff (treeOk_iff.1 h).2.1).2 (.inr ⟨r, by rw [e]; simp, hr, h3⟩)) c1
    rw [show pre ++ [(⟨r.f0, r.f1, body, ver, r.f4⟩ : S57)] ++ suf = pre ++ (⟨r.f0, r.f1, body, ver, r.f4⟩ : S57) :: suf by simp]
    refine set_ok (r := r) (by rw [← e]; exact h) ?_ rfl rfl
    unfold resOk at hrok ⊢
    simp only [Bool.and_eq_true, decide_eq_true_eq] at hrok ⊢
    exact ⟨hrok.1, hrok.2.1, fun hh => by rw [hf1] at hh; (cases hh), by omega, hv, hrok.2.2.2.2.2⟩
theorem nil_ok : treeOk ([] : List S57) = true := treeOk_iff.2 ⟨by simp, List.Pairwise.nil, by simp⟩
theorem pathOk_sm {p : List ByteArray} (h : pathOk p = true) : p.length ≤ 4 ∧ ∀ s ∈ p, s.size ≤ 8 := by
  unfold pathOk at h
  simp only [Bool.and_eq_true, decide_eq_true_eq, List.all_eq_true] at h
  refine ⟨by omega, fun s hs => ?_⟩
  have := h.1 s hs
  unfold nameOk at this
  simp only [Bool.and_eq_true, decide_eq_true_eq] at this
  omega
theorem tree_path {t : List S57} (h : treeOk t = true) {r : S57} (hr : r ∈ t) : r.f0 ≠ [] ∧ pathOk r.f0 = true := by
  have h1 := ((treeOk_iff.1 h).1 r hr).1
  unfold resOk at h1
  simp only [Bool.and_eq_true, decide_eq_true_eq] at h1
  exact ⟨h1.1, h1.2.1⟩
end Go.Proofs.Ytbgggcgjijljkaa.L
