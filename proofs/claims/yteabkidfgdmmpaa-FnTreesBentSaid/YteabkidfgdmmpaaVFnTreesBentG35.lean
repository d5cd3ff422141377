/- Paths, one ahead of the other: what the program and the reference say. No condition. -/
import Derived.Test.YteabkidfgdmmpaaVFnTreesBentG34
set_option linter.unusedSimpArgs false
set_option linter.unusedVariables false
namespace Go.Proofs.Yteabkidfgdmmpaa.L
open Go.RowKit Go.Proofs.YteabkidfgdmmpaaW.PrintWords Go.Proofs.YteabkidfgdmmpaaW.PrintLast Go.Proofs.Yteabkidfgdmmpaa.Q
def lessP : List ByteArray → List ByteArray → Bool
  | [], [] => false
  | [], _ :: _ => true
  | _ :: _, [] => false
  | x :: a, y :: b => if x = y then lessP a b else Op.bytesLess x.toList y.toList
theorem len_lt {α : Type} {l m pu pv su sv : List α} (h : l = pu ++ su) (h' : m = pv ++ sv) (hp : pu.length = pv.length) : ((l.length : Int) < (m.length : Int)) = (su.length < sv.length) := by
  subst h; subst h'; simp [hp]
theorem implLess_loop {a b : List ByteArray} (hl : a.length ≤ maxLen) : ∀ (su sv pu pv : List ByteArray), a = pu ++ su → b = pv ++ sv → pu.length = pv.length → Ev (fun k => impl_LessPath.l0 k a b pu.length) (lessP su sv) := by
  intro su
  induction su with
  | nil =>
    intro sv pu pv h h' hp
    refine Ev.step (fun k => impl_LessPath.l0.eq_2 ..) ?_
    simp only [if_neg (end_at h)]
    refine Ev.step (fun k => impl_LessPath.j1.eq_2 ..) ?_
    simp only [Bool.false_eq_true, if_false, len_lt h h' hp]
    cases sv <;> simp only [lessP] <;> exact Ev.now _
  | cons x su ih =>
    intro sv pu pv h h' hp
    refine Ev.step (fun k => impl_LessPath.l0.eq_2 ..) ?_
    simp only [if_pos (lt_at h)]
    refine Ev.step (fun k => impl_LessPath.j1.eq_2 ..) ?_
    cases sv with
    | nil =>
      have h4 := end_at h'
      rw [← hp] at h4
      simp only [h4, decide_false, Bool.false_eq_true, if_false, len_lt h h' hp, lessP]
      exact Ev.now _
    | cons y sv =>
      have h3 := rd_at ByteArray.empty h'
      have h4 := lt_at h'
      rw [← hp] at h3 h4
      by_cases e : x = y
      · subst e
        simp only [h4, decide_true, if_true, if_pos (lt_at h), if_pos (nonneg_at _), rd_at _ h, h3, next_at h hl, lessP]
        exact ih sv (pu ++ [x]) (pv ++ [x]) (snoc_at h) (snoc_at h') (by simp [hp])
      · simp only [h4, decide_true, if_true, if_pos (lt_at h), if_pos (nonneg_at _), rd_at _ h, h3, ba_eq, if_neg e, lessP]
        exact Ev.now _
theorem implLess {a b : List ByteArray} (hl : a.length ≤ maxLen) : Ev (fun k => impl_LessPath.f k a b) (lessP a b) := implLess_loop hl a b [] [] rfl rfl rfl
theorem specLess_loop {a b : List ByteArray} (hl : a.length ≤ maxLen) : ∀ (su sv pu pv : List ByteArray), a = pu ++ su → b = pv ++ sv → pu.length = pv.length → Ev (fun k => spec_LessPath.l0 k a b pu.length) (lessP su sv) := by
  intro su
  induction su with
  | nil =>
    intro sv pu pv h h' hp
    refine Ev.step (fun k => spec_LessPath.l0.eq_2 ..) ?_
    simp only [if_neg (end_at h)]
    refine Ev.step (fun k => spec_LessPath.j1.eq_2 ..) ?_
    simp only [Bool.false_eq_true, if_false, len_lt h h' hp]
    cases sv <;> simp only [lessP] <;> exact Ev.now _
  | cons x su ih =>
    intro sv pu pv h h' hp
    refine Ev.step (fun k => spec_LessPath.l0.eq_2 ..) ?_
    simp only [if_pos (lt_at h)]
    refine Ev.step (fun k => spec_LessPath.j1.eq_2 ..) ?_
    cases sv with
    | nil =>
      have h4 := end_at h'
      rw [← hp] at h4
      simp only [h4, decide_false, Bool.false_eq_true, if_false, len_lt h h' hp, lessP]
      exact Ev.now _
    | cons y sv =>
      have h3 := rd_at ByteArray.empty h'
      have h4 := lt_at h'
      rw [← hp] at h3 h4
      by_cases e : x = y
      · subst e
        simp only [h4, decide_true, if_true, if_pos (lt_at h), if_pos (nonneg_at _), rd_at _ h, h3, next_at h hl, lessP]
        exact ih sv (pu ++ [x]) (pv ++ [x]) (snoc_at h) (snoc_at h') (by simp [hp])
      · simp only [h4, decide_true, if_true, if_pos (lt_at h), if_pos (nonneg_at _), rd_at _ h, h3, ba_eq, if_neg e, lessP]
        exact Ev.now _
theorem specLess {a b : List ByteArray} (hl : a.length ≤ maxLen) : Ev (fun k => spec_LessPath.f k a b) (lessP a b) := specLess_loop hl a b [] [] rfl rfl rfl
end Go.Proofs.Yteabkidfgdmmpaa.L

/- Shelves: are they right; as the program and the reference have it. No condition. -/
set_option linter.unusedSimpArgs false
set_option linter.unusedVariables false
namespace Go.Proofs.Yteabkidfgdmmpaa.L
open Go.RowKit Go.Proofs.YteabkidfgdmmpaaW.PrintWords Go.Proofs.YteabkidfgdmmpaaW.PrintLast Go.Proofs.Yteabkidfgdmmpaa.Q
theorem size0 (s : ByteArray) : (s.toList = ([] : List UInt8)) = (bl s = []) := by rw [ba_toList]
def resOk (r : S59) : Bool := decide (r.f0 ≠ []) && (pathOk r.f0 && (decide (r.f1 = true → bl r.f2 = []) && (decide ((r.f2.size : Int) ≤ 200) && (decide (0 ≤ r.f3 ∧ r.f3 ≤ 99999) && propsOk r.f4))))
theorem implResOk {r : S59} (hr : SmRes r) : Ev (fun k => impl_resOk.f k r.f0 r.f1 r.f2 r.f3 r.f4) (resOk r) := by
  obtain ⟨g0, _, g2, g3, g4⟩ := hr
  unfold impl_resOk.f resOk
  by_cases c0 : r.f0 = []
  · simp only [c0, List.length_nil, Int.natCast_zero, gt_iff_lt, Int.lt_irrefl, if_false, ne_eq, not_true_eq_false, decide_false, Bool.false_and]
    exact Ev.now _
  have h0 : (r.f0.length : Int) > 0 := by have := List.length_pos_iff.2 c0; omega
  simp only [if_pos h0, ne_eq, c0, not_false_eq_true, decide_true, Bool.true_and]
  refine Ev.bind (implPathOk g0) ?_
  by_cases c1 : pathOk r.f0 = true
  rotate_left
  · simp only [c1, Bool.false_eq_true, if_false, Bool.false_and]; exact Ev.now _
  simp only [c1, if_true, Bool.true_and, size0, implIn, Option.bind_some, decide_eq_true_eq]
  have tail : Ev (fun n => if (r.f2.size : Int) ≤ 200 then (if 0 ≤ r.f3 ∧ r.f3 ≤ 99999 then ((impl_PropsOk.f n r.f4).bind fun t609 => some t609) else some false) else some false) (decide ((r.f2.size : Int) ≤ 200) && (decide (0 ≤ r.f3 ∧ r.f3 ≤ 99999) && propsOk r.f4)) := by
    by_cases c2 : (r.f2.size : Int) ≤ 200
    · simp only [c2, if_true, decide_true, Bool.true_and]
      by_cases c3 : 0 ≤ r.f3 ∧ r.f3 ≤ 99999
      · simp only [c3, and_self, if_true, decide_true, Bool.true_and]
        exact Ev.bind (implPropsOk g4) (Ev.now _)
      · simp only [c3, if_false, decide_false, Bool.false_and]
        exact Ev.now _
    · simp only [c2, if_false, decide_false, Bool.false_and]
      exact Ev.now _
  by_cases c4 : r.f1 = true
  · simp only [c4, if_true, true_imp_iff]
    by_cases c5 : bl r.f2 = []
    · simp only [c5, if_true, decide_true, Bool.true_and]
      exact tail
    · simp only [c5, if_false, decide_false, Bool.false_and]
      exact Ev.now _
  · simp only [c4, Bool.false_eq_true, if_false, false_imp_iff, decide_true, Bool.true_and]
    exact tail
def treeL (t : List S59) : Option S59 → List S59 → Bool
  | _, [] => true
  | last, r :: l => resOk r && ((match last with | none => true | some q => lessP q.f0 r.f0) && (isColl t (above r.f0) && treeL t (some r) l))
def treeOk (t : List S59) : Bool := treeL t none t && decide ((t.length : Int) ≤ 12)
theorem specTreeOk {t : List S59} (ht : SmRess t) : Ev (fun k => spec_TreeOk.f k t) (treeOk t) := by
  have hl : t.length ≤ maxLen := by have := ht.1; rw [maxLen_eq]; omega
  have key : ∀ (suf pre : List S59), t = pre ++ suf → Ev (fun k => spec_TreeOk.l0 k t pre.length) (treeL t pre.getLast? suf && decide ((t.length : Int) ≤ 12)) := by
    intro suf
    induction suf with
    | nil =>
      intro pre h
      refine Ev.step (fun k => spec_TreeOk.l0.eq_2 ..) ?_
      simp only [if_neg (end_at h), treeL, Bool.true_and]
      exact Ev.now _
    | cons a suf ih =>
      intro pre h
      have hn := ih (pre ++ [a]) (snoc_at h)
      rw [List.getLast?_append] at hn
      simp only [List.getLast?_singleton, Option.some_or] at hn
      have ha := ht.2 a (by rw [h]; simp)
      obtain ⟨g0, _, g2, g3, g4⟩ := ha
      have hla : a.f0.length ≤ maxLen := by have := g0.1; rw [maxLen_eq]; omega
      have join : ∀ b : Bool, b = (!resOk a) → Ev (fun k => spec_TreeOk.j1 k t pre.length b a.f0 a.f1 a.f2 a.f3 a.f4) (treeL t pre.getLast? (a :: suf) && decide ((t.length : Int) ≤ 12)) := by
        intro b hb
        refine Ev.step (fun k => spec_TreeOk.j1.eq_2 ..) ?_
        simp only [treeL, hb]
        by_cases c0 : resOk a = true
        rotate_left
        · simp only [c0, Bool.not_false, if_true, Bool.false_and]; exact Ev.now _
        simp only [c0, Bool.not_true, Bool.false_eq_true, if_false, Bool.true_and]
        have fin : Ev (fun n => (spec_Above.f a.f0).bind fun t593 => (spec_IsColl.f n t t593).bind fun t596 => if t596 = true then spec_TreeOk.l0 n t (wrap64 ((pre.length : Int) + 1)) else some false) (isColl t (above a.f0) && treeL t (some a) suf && decide ((t.length : Int) ≤ 12)) := by
          simp only [specAbove g0.1, Option.bind_some]
          refine Ev.bind (specIsColl ht) ?_
          by_cases c2 : isColl t (above a.f0) = true
          · simp only [c2, if_true, Bool.true_and, next_at h hl]; exact hn
          · simp only [c2, Bool.false_eq_true, if_false, Bool.false_and]; exact Ev.now _
        rcases List.eq_nil_or_concat pre with rfl | ⟨pre', b', rfl⟩
        · simp only [List.length_nil, Int.natCast_zero, show ¬ (0 : Int) > 0 by omega, if_false, List.getLast?_nil, Bool.true_and]
          exact fin
        · rw [List.concat_eq_append] at h hn fin ⊢
          have hp := pred_at h hl
          have h2 : t = pre' ++ b' :: (a :: suf) := by rw [h]; simp
          have hb' := (ht.2 b' (by rw [h]; simp)).1.1
          simp only [show (((pre' ++ [b']).length : Nat) : Int) > 0 by first | (simp; done) | (simp; omega), if_true, hp, if_pos (nonneg_at _), if_pos (lt_at h2), rd_implRes h2, List.getLast?_append, List.getLast?_singleton, Option.some_or]
          refine Ev.bind (specLess (by rw [maxLen_eq]; omega)) ?_
          by_cases c1 : lessP b'.f0 a.f0 = true
          · simp only [c1, if_true, Bool.true_and]
            exact fin
          · simp only [c1, Bool.false_eq_true, if_false, Bool.false_and]
            exact Ev.now _
      refine Ev.step (fun k => spec_TreeOk.l0.eq_2 ..) ?_
      simp only [if_pos (lt_at h), if_pos (nonneg_at _), rd_implRes h, nil_len, size0, specIn, Option.bind_some, decide_eq_true_eq]
      unfold resOk at join
      by_cases c0 : a.f0 = []
      · simp only [if_pos c0]
        exact join true (by simp [c0])
      simp only [if_neg c0]
      refine Ev.bind (specPathOk g0) ?_
      by_cases c1 : pathOk a.f0 = true
      rotate_left
      · simp only [c1, Bool.false_eq_true, if_false]
        exact join true (by simp [c1])
      simp only [c1, if_true]
      by_cases c2 : (a.f2.size : Int) > 200
      · simp only [if_pos c2]
        exact join true (by simp [show ¬ (a.f2.size : Int) ≤ 200 by omega])
      simp only [if_neg c2]
      have c2' : (a.f2.size : Int) ≤ 200 := by omega
      have tail : (a.f1 = true → bl a.f2 = []) → Ev (fun n => if 0 ≤ a.f3 ∧ a.f3 ≤ 99999 then ((spec_PropsOk.f n a.f4).bind fun t588 => spec_TreeOk.j1 n t (pre.length : Int) (!t588) a.f0 a.f1 a.f2 a.f3 a.f4) else spec_TreeOk.j1 n t (pre.length : Int) true a.f0 a.f1 a.f2 a.f3 a.f4) (treeL t pre.getLast? (a :: suf) && decide ((t.length : Int) ≤ 12)) := by
        intro c5
        by_cases c3 : 0 ≤ a.f3 ∧ a.f3 ≤ 99999
        · simp only [if_pos c3]
          refine Ev.bind (specPropsOk g4) ?_
          refine join _ ?_
          simp only [ne_eq, c0, not_false_eq_true, decide_true, c1, c2', c3, and_self, Bool.true_and, decide_eq_true c5]
        · simp only [if_neg c3]
          exact join true (by simp only [c3, decide_false, Bool.false_and, Bool.and_false, Bool.not_false])
      by_cases c4 : a.f1 = true
      · simp only [c4, if_true] at tail join ⊢
        by_cases c5 : bl a.f2 = []
        · simp only [if_pos c5]
          exact tail (fun _ => c5)
        · simp only [if_neg c5]
          exact join true (by simp [c5])
      · simp only [c4, Bool.false_eq_true, if_false] at tail join ⊢
        exact tail (fun h => h.elim)
  exact key t [] rfl
theorem implTreeOk {t : List S59} (ht : SmRess t) : Ev (fun k => impl_TreeOk.f k t) (treeOk t) := by
  have hl : t.length ≤ maxLen := by have := ht.1; rw [maxLen_eq]; omega
  have key : ∀ (suf pre : List S59), t = pre ++ suf → Ev (fun k => impl_TreeOk.l0 k t t (t.length : Int) pre.length) (treeL t pre.getLast? suf && decide ((t.length : Int) ≤ 12)) := by
    intro suf
    induction suf with
    | nil =>
      intro pre h
      refine Ev.step (fun k => impl_TreeOk.l0.eq_2 ..) ?_
      simp only [if_neg (end_at h), treeL, Bool.true_and]
      exact Ev.now _
    | cons a suf ih =>
      intro pre h
      have hn := ih (pre ++ [a]) (snoc_at h)
      rw [List.getLast?_append] at hn
      simp only [List.getLast?_singleton, Option.some_or] at hn
      have ha := ht.2 a (by rw [h]; simp)
      have g0 := ha.1
      refine Ev.step (fun k => impl_TreeOk.l0.eq_2 ..) ?_
      simp only [if_pos (lt_at h), if_pos (nonneg_at _), rd_implRes h]
      refine Ev.bind (implResOk ha) ?_
      simp only [treeL]
      by_cases c0 : resOk a = true
      rotate_left
      · simp only [c0, Bool.false_eq_true, if_false, Bool.false_and]; exact Ev.now _
      simp only [c0, if_true, Bool.true_and]
      have fin : Ev (fun n => (impl_Above.f a.f0).bind fun t593 => (impl_IsColl.f n t t593).bind fun t596 => if t596 = true then impl_TreeOk.l0 n t t (t.length : Int) (wrap64 ((pre.length : Int) + 1)) else some false) (isColl t (above a.f0) && treeL t (some a) suf && decide ((t.length : Int) ≤ 12)) := by
        simp only [implAbove g0.1, Option.bind_some]
        refine Ev.bind (implIsColl ht) ?_
        by_cases c2 : isColl t (above a.f0) = true
        · simp only [c2, if_true, Bool.true_and, next_at h hl]; exact hn
        · simp only [c2, Bool.false_eq_true, if_false, Bool.false_and]; exact Ev.now _
      rcases List.eq_nil_or_concat pre with rfl | ⟨pre', b', rfl⟩
      · simp only [List.length_nil, Int.natCast_zero, show ¬ (0 : Int) > 0 by omega, if_false, List.getLast?_nil, Bool.true_and]
        exact fin
      · rw [List.concat_eq_append] at h hn fin ⊢
        have hp := pred_at h hl
        have h2 : t = pre' ++ b' :: (a :: suf) := by rw [h]; simp
        have hb' := (ht.2 b' (by rw [h]; simp)).1.1
        simp only [show (((pre' ++ [b']).length : Nat) : Int) > 0 by first | (simp; done) | (simp; omega), if_true, hp, if_pos (nonneg_at _), if_pos (lt_at h2), rd_implRes h2, List.getLast?_append, List.getLast?_singleton, Option.some_or]
        refine Ev.bind (implLess (by rw [maxLen_eq]; omega)) ?_
        by_cases c1 : lessP b'.f0 a.f0 = true
        · simp only [c1, if_true, Bool.true_and]
          exact fin
        · simp only [c1, Bool.false_eq_true, if_false, Bool.false_and]
          exact Ev.now _
  exact key t [] rfl
end Go.Proofs.Yteabkidfgdmmpaa.L

/- Is a path under another one; as the program and the reference have it. No condition. -/
set_option linter.unusedSimpArgs false
set_option linter.unusedVariables false
namespace Go.Proofs.Yteabkidfgdmmpaa.L
open Go.RowKit Go.Proofs.YteabkidfgdmmpaaW.PrintWords Go.Proofs.YteabkidfgdmmpaaW.PrintLast Go.Proofs.Yteabkidfgdmmpaa.Q
def under (p head : List ByteArray) : Bool := decide (head.length < p.length) && decide (p.take head.length = head)
theorem specUnder {p head : List ByteArray} (hl : p.length ≤ 1048576) : Ev (fun k => spec_Under.f k p head) (under p head) := by
  unfold spec_Under.f under
  by_cases e : (p.length : Int) > (head.length : Int)
  · simp only [if_pos e, if_pos (nonneg_at _), if_pos (show (head.length : Int) ≤ p.length by omega), Int.toNat_natCast, show head.length < p.length by omega, decide_true, Bool.true_and]
    exact Ev.bind (specSame (by rw [maxLen_eq]; simp; omega)) (Ev.now _)
  · simp only [if_neg e, show ¬ head.length < p.length by omega, decide_false, Bool.false_and]
    exact Ev.now _
theorem implUnder {p head : List ByteArray} (hl : p.length ≤ 1048576) : Ev (fun k => impl_Under.f k p head) (under p head) := by
  unfold impl_Under.f under
  by_cases e : (p.length : Int) > (head.length : Int)
  · simp only [if_pos e, if_pos (nonneg_at _), if_pos (show (head.length : Int) ≤ p.length by omega), Int.toNat_natCast, show head.length < p.length by omega, decide_true, Bool.true_and]
    exact Ev.bind (implSame (by rw [maxLen_eq]; simp; omega)) (Ev.now _)
  · simp only [if_neg e, show ¬ head.length < p.length by omega, decide_false, Bool.false_and]
    exact Ev.now _
end Go.Proofs.Yteabkidfgdmmpaa.L

/- What lies on a shelf, and all of it; as the program and the reference have it. No condition. -/
set_option linter.unusedSimpArgs false
set_option linter.unusedVariables false
namespace Go.Proofs.Yteabkidfgdmmpaa.L
open Go.RowKit Go.Proofs.YteabkidfgdmmpaaW.PrintWords Go.Proofs.YteabkidfgdmmpaaW.PrintLast Go.Proofs.Yteabkidfgdmmpaa.Q
def isKid (p q : List ByteArray) : Bool := decide (q.length = p.length + 1) && under q p
def kidsOf (p : List ByteArray) (t : List S59) : List (List ByteArray) := (t.filter (fun r => isKid p r.f0)).map (fun r => r.f0)
theorem kids_cons (p : List ByteArray) (a : S59) (t : List S59) : kidsOf p (a :: t) = if isKid p a.f0 = true then a.f0 :: kidsOf p t else kidsOf p t := by
  unfold kidsOf
  by_cases c : isKid p a.f0 = true <;> simp [List.filter_cons, c]
theorem kids_length (p : List ByteArray) (t : List S59) : (kidsOf p t).length ≤ t.length := by
  unfold kidsOf; rw [List.length_map]; exact List.length_filter_le _ _
theorem specKids {t : List S59} {p : List ByteArray} (ht : SmRess t) (hp : p.length ≤ 1048576) : Ev (fun k => spec_KidsOf.f k t p) (kidsOf p t) := by
  have hl0 := ht.1
  have hl : t.length ≤ maxLen := by rw [maxLen_eq]; omega
  have hw : wrap64 ((p.length : Int) + 1) = p.length + 1 := wrap_id (by omega) (by omega)
  have key : ∀ (suf pre : List S59) (out : List (List ByteArray)), t = pre ++ suf → out.length ≤ pre.length → Ev (fun k => spec_KidsOf.l0 k t p out pre.length) (out ++ kidsOf p suf) := by
    intro suf
    induction suf with
    | nil =>
      intro pre out h ho
      refine Ev.step (fun k => spec_KidsOf.l0.eq_2 ..) ?_
      simp only [if_neg (end_at h), kidsOf, List.filter_nil, List.map_nil, List.append_nil]
      exact Ev.now _
    | cons a suf ih =>
      intro pre out h ho
      have hpl : pre.length ≤ 1048576 := by have : t.length = pre.length + (suf.length + 1) := by rw [h]; simp
                                            omega
      have ha := (ht.2 a (by rw [h]; simp)).1.1
      refine Ev.step (fun k => spec_KidsOf.l0.eq_2 ..) ?_
      simp only [if_pos (lt_at h), if_pos (nonneg_at _), rd_implRes h, hw, next_at h hl, kids_cons, isKid, Option.bind_some, List.length_nil, Nat.zero_add, List.nil_append]
      by_cases c0 : (a.f0.length : Int) = p.length + 1
      · have c0n : a.f0.length = p.length + 1 := by omega
        simp only [if_pos c0, decide_eq_true c0n, Bool.true_and]
        refine Ev.bind (specUnder (by omega)) ?_
        by_cases c1 : under a.f0 p = true
        · simp only [c1, if_true]
          simp only [show a.f0.length < 8796093022208 by omega, if_true, show out.length < 5864062014805 by omega]
          refine ev_cast (ih (pre ++ [a]) _ (snoc_at h) (by simp; omega)) (by simp)
        · simp only [c1, Bool.false_eq_true, if_false]
          exact ih (pre ++ [a]) _ (snoc_at h) (by simp; omega)
      · have c0n : ¬ a.f0.length = p.length + 1 := by omega
        simp only [if_neg c0, decide_eq_false c0n, Bool.false_and, Bool.false_eq_true, if_false]
        exact ih (pre ++ [a]) _ (snoc_at h) (by simp; omega)
  exact key t [] [] rfl (by simp)
theorem implKids {t : List S59} {p : List ByteArray} (ht : SmRess t) (hp : p.length ≤ 1048576) : Ev (fun k => impl_KidsOf.f k t p) (kidsOf p t) := by
  have hl0 := ht.1
  have hl : t.length ≤ maxLen := by rw [maxLen_eq]; omega
  have hw : wrap64 ((p.length : Int) + 1) = p.length + 1 := wrap_id (by omega) (by omega)
  have key : ∀ (suf pre : List S59) (out : List (List ByteArray)), t = pre ++ suf → out.length ≤ pre.length → Ev (fun k => impl_KidsOf.l0 k p out t (t.length : Int) pre.length) (out ++ kidsOf p suf) := by
    intro suf
    induction suf with
    | nil =>
      intro pre out h ho
      refine Ev.step (fun k => impl_KidsOf.l0.eq_2 ..) ?_
      simp only [if_neg (end_at h), kidsOf, List.filter_nil, List.map_nil, List.append_nil]
      exact Ev.now _
    | cons a suf ih =>
      intro pre out h ho
      have hpl : pre.length ≤ 1048576 := by have : t.length = pre.length + (suf.length + 1) := by rw [h]; simp
                                            omega
      have ha := (ht.2 a (by rw [h]; simp)).1.1
      refine Ev.step (fun k => impl_KidsOf.l0.eq_2 ..) ?_
      simp only [if_pos (lt_at h), if_pos (nonneg_at _), rd_implRes h, hw, next_at h hl, kids_cons, isKid, implCopyPath ha, Option.bind_some]
      by_cases c0 : (a.f0.length : Int) = p.length + 1
      · have c0n : a.f0.length = p.length + 1 := by omega
        simp only [if_pos c0, decide_eq_true c0n, Bool.true_and]
        refine Ev.bind (implUnder (by omega)) ?_
        by_cases c1 : under a.f0 p = true
        · simp only [c1, if_true]
          simp only [show out.length < 5864062014805 by omega, if_true]
          refine ev_cast (ih (pre ++ [a]) _ (snoc_at h) (by simp; omega)) (by simp)
        · simp only [c1, Bool.false_eq_true, if_false]
          exact ih (pre ++ [a]) _ (snoc_at h) (by simp; omega)
      · have c0n : ¬ a.f0.length = p.length + 1 := by omega
        simp only [if_neg c0, decide_eq_false c0n, Bool.false_and, Bool.false_eq_true, if_false]
        exact ih (pre ++ [a]) _ (snoc_at h) (by simp; omega)
  exact key t [] [] rfl (by simp)
def deepOf (p : List ByteArray) (t : List S59) : List S59 := t.filter (fun r => decide (r.f0 = p) || under r.f0 p)
theorem deep_length (p : List ByteArray) (t : List S59) : (deepOf p t).length ≤ t.length := List.length_filter_le _ _
theorem specDeep {t : List S59} {p : List ByteArray} (ht : SmRess t) (hp : p.length ≤ 1048576) : Ev (fun k => spec_DeepOf.f k t p) (deepOf p t) := by
  have hl0 := ht.1
  have hl : t.length ≤ maxLen := by rw [maxLen_eq]; omega
  have key : ∀ (suf pre out : List S59), t = pre ++ suf → out.length ≤ pre.length → Ev (fun k => spec_DeepOf.l0 k t p out pre.length) (out ++ deepOf p suf) := by
    intro suf
    induction suf with
    | nil =>
      intro pre out h ho
      refine Ev.step (fun k => spec_DeepOf.l0.eq_2 ..) ?_
      simp only [if_neg (end_at h), deepOf, List.filter_nil, List.append_nil]
      exact Ev.now _
    | cons a suf ih =>
      intro pre out h ho
      have hpl : pre.length ≤ 1048576 := by have : t.length = pre.length + (suf.length + 1) := by rw [h]; simp
                                            omega
      have ha := ht.2 a (by rw [h]; simp)
      have ha0 := ha.1.1
      have ha4 := ha.2.2.2.2.1
      have hc : spec_l10Copy.f a.f0 a.f1 a.f2 a.f3 a.f4 = some (a.f0, a.f1, a.f2, a.f3, a.f4) := by
        unfold spec_l10Copy.f
        simp only [Option.bind_some, List.length_nil, Nat.zero_add, List.nil_append]
        rw [if_pos (by omega), if_pos (by omega)]
      refine Ev.step (fun k => spec_DeepOf.l0.eq_2 ..) ?_
      simp only [if_pos (lt_at h), if_pos (nonneg_at _), rd_implRes h, next_at h hl, hc, Option.bind_some]
      refine Ev.bind (specSame (by rw [maxLen_eq]; omega)) ?_
      by_cases c0 : a.f0 = p
      · simp only [decide_eq_true c0, if_true]
        simp only [show out.length < 1759218604441 by omega, if_true]
        refine ev_cast (ih (pre ++ [a]) _ (snoc_at h) (by simp; omega)) ?_
        simp only [deepOf, List.filter_cons, decide_eq_true c0, Bool.true_or, if_true, List.append_assoc, List.cons_append, List.nil_append]
      · simp only [decide_eq_false c0, Bool.false_eq_true, if_false]
        refine Ev.bind (specUnder (by omega)) ?_
        by_cases c1 : under a.f0 p = true
        · simp only [c1, if_true]
          simp only [show out.length < 1759218604441 by omega, if_true]
          refine ev_cast (ih (pre ++ [a]) _ (snoc_at h) (by simp; omega)) (by simp [deepOf, List.filter_cons, c1])
        · simp only [c1, Bool.false_eq_true, if_false]
          refine ev_cast (ih (pre ++ [a]) _ (snoc_at h) (by simp; omega)) (by simp [deepOf, List.filter_cons, c0, c1])
  exact key t [] [] rfl (by simp)
theorem implDeep {t : List S59} {p : List ByteArray} (ht : SmRess t) (hp : p.length ≤ 1048576) : Ev (fun k => impl_DeepOf.f k t p) (deepOf p t) := by
  have hl0 := ht.1
  have hl : t.length ≤ maxLen := by rw [maxLen_eq]; omega
  have key : ∀ (suf pre out : List S59), t = pre ++ suf → out.length ≤ pre.length → Ev (fun k => impl_DeepOf.l0 k p out t (t.length : Int) pre.length) (out ++ deepOf p suf) := by
    intro suf
    induction suf with
    | nil =>
      intro pre out h ho
      refine Ev.step (fun k => impl_DeepOf.l0.eq_2 ..) ?_
      simp only [if_neg (end_at h), deepOf, List.filter_nil, List.append_nil]
      exact Ev.now _
    | cons a suf ih =>
      intro pre out h ho
      have hpl : pre.length ≤ 1048576 := by have : t.length = pre.length + (suf.length + 1) := by rw [h]; simp
                                            omega
      have ha := ht.2 a (by rw [h]; simp)
      have ha0 := ha.1.1
      have ha4 := ha.2.2.2.2.1
      have hc : impl_copyRes.f a.f0 a.f1 a.f2 a.f3 a.f4 = some (a.f0, a.f1, a.f2, a.f3, a.f4) := by
        unfold impl_copyRes.f
        simp only [implCopyPath ha0, Option.bind_some, List.length_nil, Nat.zero_add, List.nil_append]
        rw [if_pos (by omega)]
      have hat : Ev (fun k => impl_isAt.f k a.f0 p) (decide (a.f0 = p) || under a.f0 p) := by
        unfold impl_isAt.f
        refine Ev.bind (implSame (by rw [maxLen_eq]; omega)) ?_
        by_cases c0 : a.f0 = p
        · simp only [c0, decide_true, if_true, Bool.true_or]; exact Ev.now _
        · simp only [c0, decide_false, Bool.false_eq_true, if_false, Bool.false_or]; exact Ev.bind (implUnder (by omega)) (Ev.now _)
      refine Ev.step (fun k => impl_DeepOf.l0.eq_2 ..) ?_
      simp only [if_pos (lt_at h), if_pos (nonneg_at _), rd_implRes h, next_at h hl, hc, Option.bind_some]
      refine Ev.bind hat ?_
      by_cases c0 : (decide (a.f0 = p) || under a.f0 p) = true
      · simp only [c0, if_true]
        simp only [show out.length < 1759218604441 by omega, if_true]
        refine ev_cast (ih (pre ++ [a]) _ (snoc_at h) (by simp; omega)) ?_
        simp only [deepOf, List.filter_cons, c0, if_true, List.append_assoc, List.cons_append, List.nil_append]
      · simp only [c0, Bool.false_eq_true, if_false]
        refine ev_cast (ih (pre ++ [a]) _ (snoc_at h) (by simp; omega)) ?_
        simp only [deepOf, List.filter_cons, c0, Bool.false_eq_true, if_false]
  exact key t [] [] rfl (by simp)
end Go.Proofs.Yteabkidfgdmmpaa.L

/- What turns shelves: copies, what is left without a thing, the first code, Remove; as the program and the reference have it. No condition. -/
set_option linter.unusedSimpArgs false
set_option linter.unusedVariables false
namespace Go.Proofs.Yteabkidfgdmmpaa.L
open Go.RowKit Go.Proofs.YteabkidfgdmmpaaW.PrintWords Go.Proofs.YteabkidfgdmmpaaW.PrintLast Go.Proofs.Yteabkidfgdmmpaa.Q
theorem specCopyRes {a : S59} (ha : SmRes a) : spec_l10Copy.f a.f0 a.f1 a.f2 a.f3 a.f4 = some (a.f0, a.f1, a.f2, a.f3, a.f4) := by
  have ha0 := ha.1.1
  have ha4 := ha.2.2.2.2.1
  unfold spec_l10Copy.f
  simp only [Option.bind_some, List.length_nil, Nat.zero_add, List.nil_append]
  rw [if_pos (by omega), if_pos (by omega)]
theorem specCopyAll {t : List S59} (ht : SmRess t) : Ev (fun k => spec_l10CopyAll.f k t) t := by
  have hl0 := ht.1
  have hl : t.length ≤ maxLen := by rw [maxLen_eq]; omega
  have key : ∀ (suf pre out : List S59), t = pre ++ suf → out.length ≤ pre.length → Ev (fun k => spec_l10CopyAll.l0 k t out pre.length) (out ++ suf) := by
    intro suf
    induction suf with
    | nil =>
      intro pre out h ho
      refine Ev.step (fun k => spec_l10CopyAll.l0.eq_2 ..) ?_
      simp only [if_neg (end_at h), List.append_nil]
      exact Ev.now _
    | cons a suf ih =>
      intro pre out h ho
      have hpl : pre.length ≤ 1048576 := by have : t.length = pre.length + (suf.length + 1) := by rw [h]; simp
                                            omega
      have ha := ht.2 a (by rw [h]; simp)
      refine Ev.step (fun k => spec_l10CopyAll.l0.eq_2 ..) ?_
      simp only [if_pos (lt_at h), if_pos (nonneg_at _), rd_implRes h, next_at h hl, specCopyRes ha, Option.bind_some, show out.length < 1759218604441 by omega, if_true]
      exact ev_cast (ih (pre ++ [a]) _ (snoc_at h) (by simp; omega)) (by simp)
  exact key t [] [] rfl (by simp)
def mayC (t : List S59) (ps : List (List ByteArray)) (ver : Int) : Int := if treeOk t = true then (if ps.all pathOk = true then (if 0 ≤ ver ∧ ver ≤ 99999 then 0 else 507) else 400) else 500
theorem specMay {t : List S59} {p : List ByteArray} {ver : Int} (ht : SmRess t) (hp : SmS p) : Ev (fun k => spec_l11May.f k t p ver) (mayC t [p] ver) := by
  unfold spec_l11May.f mayC
  refine Ev.bind (specTreeOk ht) ?_
  by_cases c0 : treeOk t = true
  · simp only [if_pos c0, List.all_cons, List.all_nil, Bool.and_true]
    refine Ev.bind (specPathOk hp) ?_
    by_cases c1 : pathOk p = true
    · simp only [if_pos c1, specIn, Option.bind_some, decide_eq_true_eq]
      by_cases c2 : 0 ≤ ver ∧ ver ≤ 99999
      · simp only [if_pos c2]; exact Ev.now _
      · simp only [if_neg c2]; exact Ev.now _
    · simp only [if_neg c1]; exact Ev.now _
  · simp only [if_neg c0]; exact Ev.now _
end Go.Proofs.Yteabkidfgdmmpaa.L

/- Sets of what is known of a thing. No condition. -/
set_option linter.unusedSimpArgs false
set_option linter.unusedVariables false
namespace Go.Proofs.Yteabkidfgdmmpaa.L
open Go.RowKit Go.Proofs.YteabkidfgdmmpaaW.PrintWords Go.Proofs.YteabkidfgdmmpaaW.PrintLast Go.Proofs.Yteabkidfgdmmpaa.Q
theorem rd_implSet {l pre suf : List S106} {a : S106} (h : l = pre ++ a :: suf) : rd_T106 l (pre.length : Int) = a := getD_at _ h
def SmSet (p : S106) : Prop := True ∧ SmProp p.f1
def SmSets (l : List S106) : Prop := l.length ≤ 1048576 ∧ ∀ p ∈ l, SmSet p
end Go.Proofs.Yteabkidfgdmmpaa.L

/- What is known of a thing set, all or none; as the program and the reference have it. No condition. -/
set_option linter.unusedSimpArgs false
set_option linter.unusedVariables false
namespace Go.Proofs.Yteabkidfgdmmpaa.L
open Go.RowKit Go.Proofs.YteabkidfgdmmpaaW.PrintWords Go.Proofs.YteabkidfgdmmpaaW.PrintLast Go.Proofs.Yteabkidfgdmmpaa.Q
def setS (s : S106) : Bool → List S71 → List S71
  | d, [] => if d = true then [] else [s.f1]
  | d, a :: l => (if d = true then [] else if lessProp a s.f1 = true then [] else [s.f1]) ++ (if a.f0 = s.f1.f0 ∧ a.f1 = s.f1.f1 then [] else [a]) ++ setS s (d || !lessProp a s.f1) l
theorem setS_length (s : S106) : ∀ (l : List S71) (d : Bool), (setS s d l).length ≤ l.length + (if d = true then 0 else 1)
  | [], d => by cases d <;> simp [setS]
  | a :: l, d => by
    have ih := setS_length s l
    unfold setS
    cases d
    · by_cases c : lessProp a s.f1 = true
      · have := ih false
        by_cases c2 : a.f0 = s.f1.f0 ∧ a.f1 = s.f1.f1 <;> simp [c, c2] at this ⊢ <;> omega
      · have := ih true
        by_cases c2 : a.f0 = s.f1.f0 ∧ a.f1 = s.f1.f1 <;> simp [c, c2] at this ⊢ <;> omega
    · have := ih true
      by_cases c2 : a.f0 = s.f1.f0 ∧ a.f1 = s.f1.f1 <;> simp [c2] at this ⊢ <;> omega
theorem setS_mem (s : S106) : ∀ (l : List S71) (d : Bool) (b : S71), b ∈ setS s d l → b = s.f1 ∨ b ∈ l
  | [], d, b, h => by cases d <;> simp [setS] at h; exact .inl h
  | a :: l, d, b, h => by
    unfold setS at h
    rcases List.mem_append.1 h with h | h
    · rcases List.mem_append.1 h with h | h
      · split at h
        · cases h
        · split at h
          · cases h
          · exact .inl (by simpa using h)
      · split at h
        · cases h
        · exact .inr (by simp at h; simp [h])
    · rcases setS_mem s l _ b h with h | h
      · exact .inl h
      · exact .inr (by simp [h])
theorem specOne {l : List S71} {s : S106} (hl0 : l.length ≤ 4194304) : Ev (fun k => spec_l12One.f k l s.f0 s.f1.f0 s.f1.f1 s.f1.f2) (setS s s.f0 l) := by
  have hl : l.length ≤ maxLen := by rw [maxLen_eq]; omega
  have key : ∀ (suf pre out : List S71) (d : Bool), l = pre ++ suf → out.length ≤ 2 * pre.length → Ev (fun k => spec_l12One.l0 k l out d pre.length s.f0 s.f1.f0 s.f1.f1 s.f1.f2) (out ++ setS s d suf) := by
    intro suf
    induction suf with
    | nil =>
      intro pre out d h ho
      have hp : pre.length = l.length := by rw [h]; simp
      refine Ev.step (fun k => spec_l12One.l0.eq_2 ..) ?_
      simp only [if_neg (end_at h), setS]
      by_cases c : d = true
      · simp only [if_pos c, List.append_nil]; exact Ev.now _
      · simp only [if_neg c, show out.length < 2932031007402 by omega, if_true]; exact Ev.now _
    | cons a suf ih =>
      intro pre out d h ho
      have hpl : l.length = pre.length + (suf.length + 1) := by rw [h]; simp
      have hj1 : ∀ b : Bool, Ev (fun k => spec_l12One.j1 k l out d pre.length b s.f0 s.f1.f0 s.f1.f1 s.f1.f2) (out ++ ((if b = true then [s.f1] else []) ++ ((if a.f0 = s.f1.f0 ∧ a.f1 = s.f1.f1 then [] else [a]) ++ setS s (d || b) suf))) := by
        intro b
        refine Ev.step (fun k => spec_l12One.j1.eq_2 ..) ?_
        by_cases c : b = true
        · subst c
          simp only [if_true, show out.length < 2932031007402 by omega, Option.bind_some, if_pos (nonneg_at _), if_pos (lt_at h), rd_implProp h, next_at h hl, ba_eq, Bool.or_true]
          by_cases c0 : a.f0 = s.f1.f0
          · by_cases c1 : a.f1 = s.f1.f1
            · simp only [if_pos c0, if_pos c1, if_pos (And.intro c0 c1)]
              exact ev_cast (ih (pre ++ [a]) (out ++ [s.f1]) true (snoc_at h) (by simp; omega)) (by simp)
            · simp only [if_pos c0, if_neg c1, if_neg (fun e : a.f0 = s.f1.f0 ∧ a.f1 = s.f1.f1 => c1 e.2), show ∀ x : S71, (out ++ [x]).length < 2932031007402 from fun x => (by simp; omega), if_true]
              exact ev_cast (ih (pre ++ [a]) (out ++ [s.f1] ++ [a]) true (snoc_at h) (by simp; omega)) (by simp)
          · simp only [if_neg c0, if_neg (fun e : a.f0 = s.f1.f0 ∧ a.f1 = s.f1.f1 => c0 e.1), show ∀ x : S71, (out ++ [x]).length < 2932031007402 from fun x => (by simp; omega), if_true]
            exact ev_cast (ih (pre ++ [a]) (out ++ [s.f1] ++ [a]) true (snoc_at h) (by simp; omega)) (by simp)
        · have c' : b = false := by simpa using c
          subst c'
          simp only [Bool.false_eq_true, if_false, if_pos (nonneg_at _), if_pos (lt_at h), rd_implProp h, next_at h hl, ba_eq, Bool.or_false, List.nil_append]
          by_cases c0 : a.f0 = s.f1.f0
          · by_cases c1 : a.f1 = s.f1.f1
            · simp only [if_pos c0, if_pos c1, if_pos (And.intro c0 c1), List.nil_append]
              exact ih (pre ++ [a]) out d (snoc_at h) (by simp; omega)
            · simp only [if_pos c0, if_neg c1, if_neg (fun e : a.f0 = s.f1.f0 ∧ a.f1 = s.f1.f1 => c1 e.2), show out.length < 2932031007402 by omega, if_true]
              exact ev_cast (ih (pre ++ [a]) (out ++ [a]) d (snoc_at h) (by simp; omega)) (by simp)
          · simp only [if_neg c0, if_neg (fun e : a.f0 = s.f1.f0 ∧ a.f1 = s.f1.f1 => c0 e.1), show out.length < 2932031007402 by omega, if_true]
            exact ev_cast (ih (pre ++ [a]) (out ++ [a]) d (snoc_at h) (by simp; omega)) (by simp)
      refine Ev.step (fun k => spec_l12One.l0.eq_2 ..) ?_
      simp only [if_pos (lt_at h), if_pos (nonneg_at _), rd_implProp h, setS, specLessProp, Option.bind_some]
      by_cases c : d = true
      · subst c
        simp only [if_true]
        exact ev_cast (hj1 false) (by simp)
      · have c' : d = false := by simpa using c
        subst c'
        simp only [Bool.false_eq_true, if_false]
        refine ev_cast (hj1 (!lessProp a s.f1)) ?_
        by_cases c2 : lessProp a s.f1 = true
        · simp [c2]
        · simp [c2]
  exact key l [] [] s.f0 rfl (by simp)
def setAll (l0 : List S71) : List S71 → List S106 → List S71 × Bool
  | out, [] => if propsOk out = true then (out, true) else (l0, false)
  | out, s :: sets => if propOk s.f1 = true then setAll l0 (setS s s.f0 out) sets else (l0, false)
theorem specSetAll {l : List S71} {sets : List S106} (hl : SmProps l) (hs : SmSets sets) : Ev (fun k => spec_SetProps.f k l sets) (setAll l l sets) := by
  have hl0 := hl.1
  have hs0 := hs.1
  have hsl : sets.length ≤ maxLen := by rw [maxLen_eq]; omega
  unfold spec_SetProps.f
  simp only [Option.bind_some, List.length_nil, Nat.zero_add, List.nil_append, show l.length < 2932031007402 by omega, if_true]
  have key : ∀ (suf pre : List S106) (out : List S71), sets = pre ++ suf → out.length ≤ l.length + pre.length → (∀ p ∈ out, SmProp p) → Ev (fun k => spec_SetProps.l0 k l sets out pre.length) (setAll l out suf) := by
    intro suf
    induction suf with
    | nil =>
      intro pre out h ho hm
      have hp : pre.length = sets.length := by rw [h]; simp
      refine Ev.step (fun k => spec_SetProps.l0.eq_2 ..) ?_
      simp only [if_neg (end_at h), setAll]
      refine Ev.bind (specPropsOkB (by rw [maxLen_eq]; omega) hm) ?_
      by_cases c : propsOk out = true
      · simp only [if_pos c]; exact Ev.now _
      · simp only [if_neg c, Option.bind_some, List.length_nil, Nat.zero_add, List.nil_append, show l.length < 2932031007402 by omega, if_true]; exact Ev.now _
    | cons s suf ih =>
      intro pre out h ho hm
      have hpl : sets.length = pre.length + (suf.length + 1) := by rw [h]; simp
      have hss := hs.2 s (by rw [h]; simp)
      refine Ev.step (fun k => spec_SetProps.l0.eq_2 ..) ?_
      simp only [if_pos (lt_at h), if_pos (nonneg_at _), rd_implSet h, setAll, next_at h hsl]
      refine Ev.bind (specPropOk hss.2) ?_
      by_cases c : propOk s.f1 = true
      · simp only [if_pos c]
        refine Ev.bind (specOne (by omega)) ?_
        refine ih (pre ++ [s]) _ (snoc_at h) ?_ (fun p hp => ?_)
        · have h2 := setS_length s out s.f0
          have h3 : (if s.f0 = true then 0 else 1) ≤ 1 := by split <;> omega
          simp; omega
        · rcases setS_mem s out _ p hp with rfl | hp
          · exact hss.2
          · exact hm p hp
      · simp only [if_neg c, Option.bind_some, List.length_nil, Nat.zero_add, List.nil_append, show l.length < 2932031007402 by omega, if_true]; exact Ev.now _
  exact key sets [] l rfl (by simp) hl.2
end Go.Proofs.Yteabkidfgdmmpaa.L

/- Draws of properties. No condition. -/
set_option linter.unusedSimpArgs false
set_option linter.unusedVariables false
namespace Go.Proofs.Yteabkidfgdmmpaa.L
open Go.RowKit Go.Proofs.YteabkidfgdmmpaaW.PrintWords Go.Proofs.YteabkidfgdmmpaaW.PrintLast Go.Proofs.Yteabkidfgdmmpaa.Q
def Few (l : List S71) : Prop := l.length ≤ 8 ∧ ∀ p ∈ l, SmProp p
theorem Few.sm {l : List S71} (h : Few l) : SmProps l := ⟨by have := h.1; omega, h.2⟩
theorem setAll_few {n : Nat} (hn : 4 ≤ n) {l0 : List S71} (h0 : l0.length ≤ n ∧ ∀ p ∈ l0, SmProp p) : ∀ (sets : List S106) (out : List S71), (∀ s ∈ sets, SmSet s) → (∀ p ∈ out, SmProp p) → (setAll l0 out sets).1.length ≤ n ∧ ∀ p ∈ (setAll l0 out sets).1, SmProp p
  | [], out, _, ho => by
    unfold setAll
    by_cases c : propsOk out = true
    · simp only [if_pos c]
      refine ⟨?_, ho⟩
      unfold propsOk at c
      have := of_decide_eq_true (Bool.and_eq_true_iff.1 c).2
      omega
    · simp only [if_neg c]; exact h0
  | s :: sets, out, hs, ho => by
    unfold setAll
    by_cases c : propOk s.f1 = true
    · simp only [if_pos c]
      refine setAll_few hn h0 sets _ (fun x hx => hs x (by simp [hx])) (fun p hp => ?_)
      rcases setS_mem s out _ p hp with rfl | hp
      · exact (hs s (by simp)).2
      · exact ho p hp
    · simp only [if_neg c]; exact h0
theorem mem_sz {v : ByteArray} {l : List ByteArray} (h : v ∈ l) (hl : l.all (fun x => decide (x.size ≤ 1048576)) = true) : v.size ≤ 1048576 := of_decide_eq_true (List.all_eq_true.1 hl v h)
theorem onePropD {b : List Int} {p : Int} (h : Cur b p) (s : Int) : ∃ x y z p' s', spec_l10OneProp.f b p s = some (x, y, z, p', s') ∧ SmProp (⟨x, y, z⟩ : S71) ∧ Cur b p' := by
  unfold spec_l10OneProp.f
  obtain ⟨v, p1, s1, e, m, h1⟩ := strD h s (l := [(⟨#[68, 65, 86, 58]⟩ : ByteArray), (⟨#[117, 58, 120]⟩ : ByteArray), (⟨#[]⟩ : ByteArray)]) (by simp)
  have m1 := mem_sz m (by decide)
  simp only [e, Option.bind_some]
  obtain ⟨v', p2, s2, e, m, h2⟩ := strD h1 s1 (l := [(⟨#[97]⟩ : ByteArray), (⟨#[99, 111, 108, 111, 114]⟩ : ByteArray), (⟨#[98]⟩ : ByteArray)]) (by simp)
  have m2 := mem_sz m (by decide)
  simp only [e, Option.bind_some]
  obtain ⟨v'', p3, s3, e, m, h3⟩ := strD h2 s2 (l := [(⟨#[]⟩ : ByteArray), (⟨#[114, 101, 100]⟩ : ByteArray), (⟨#[97, 60, 98]⟩ : ByteArray)]) (by simp)
  have m3 := mem_sz m (by decide)
  simp only [e, Option.bind_some]
  exact ⟨_, _, _, _, _, rfl, ⟨m1, m2, m3⟩, h3⟩
theorem setAll_ok (l0 : List S71) : ∀ (sets : List S106) (out : List S71), (setAll l0 out sets).2 = true → propsOk (setAll l0 out sets).1 = true
  | [], out, h => by
    unfold setAll at h ⊢
    by_cases c : propsOk out = true
    · simp only [if_pos c]; exact c
    · simp only [if_neg c] at h; cases h
  | t :: sets, out, h => by
    unfold setAll at h ⊢
    by_cases c : propOk t.f1 = true
    · simp only [if_pos c] at h ⊢
      exact setAll_ok l0 sets _ h
    · simp only [if_neg c] at h; cases h
theorem setAll_no (l0 : List S71) : ∀ (sets : List S106) (out : List S71), ¬ (setAll l0 out sets).2 = true → (setAll l0 out sets).1 = l0
  | [], out, h => by
    unfold setAll at h ⊢
    by_cases c : propsOk out = true
    · rw [if_pos c] at h; exact absurd rfl h
    · simp only [if_neg c]
  | t :: sets, out, h => by
    unfold setAll at h ⊢
    by_cases c : propOk t.f1 = true
    · simp only [if_pos c] at h ⊢
      exact setAll_no l0 sets _ h
    · simp only [if_neg c]
theorem propsD {b : List Int} {p : Int} (h : Cur b p) (s : Int) : ∃ l p' s', Ev (fun k => spec_l10Props.f k b p s) (l, p', s') ∧ (l.length ≤ 4 ∧ (∀ x ∈ l, SmProp x) ∧ propsOk l = true) ∧ Cur b p' := by
  unfold spec_l10Props.f
  obtain ⟨v, p1, s1, e, v0, v1, h1⟩ := belowD h s (n := 3) (by omega)
  simp only [e, Option.bind_some]
  have key : ∀ (n : Nat) (out : List S71) (q t : Int), n ≤ 1000 → (out.length ≤ 4 ∧ (∀ x ∈ out, SmProp x) ∧ propsOk out = true) → Cur b q → ∃ l p' s', Ev (fun k => spec_l10Props.l0 k out (n : Int) b q t) (l, p', s') ∧ (l.length ≤ 4 ∧ (∀ x ∈ l, SmProp x) ∧ propsOk l = true) ∧ Cur b p' := by
    intro n
    induction n with
    | zero =>
      intro out q t _ ho hq
      refine ⟨out, q, t, ?_, ho, hq⟩
      refine Ev.step (fun k => spec_l10Props.l0.eq_2 ..) ?_
      simp only [if_neg (show ¬ ((0 : Nat) : Int) > 0 by decide)]
      exact Ev.now _
    | succ n ih =>
      intro out q t hn ho hq
      obtain ⟨x, y, z, q1, t1, e, m, hq1⟩ := onePropD hq t
      have hset : SmSets [(⟨false, (⟨x, y, z⟩ : S71)⟩ : S106)] := ⟨by simp, by intro c hc; simp at hc; subst hc; exact ⟨trivial, m⟩⟩
      have hpo : propsOk (setAll out out [(⟨false, (⟨x, y, z⟩ : S71)⟩ : S106)]).1 = true := by
        by_cases c : (setAll out out [(⟨false, (⟨x, y, z⟩ : S71)⟩ : S106)]).2 = true
        · exact setAll_ok out _ out c
        · rw [setAll_no out _ out c]; exact ho.2.2
      obtain ⟨l, q2, t2, he, hl, hq2⟩ := ih (setAll out out [(⟨false, (⟨x, y, z⟩ : S71)⟩ : S106)]).1 q1 t1 (by omega) ⟨(setAll_few (Nat.le_refl 4) ⟨ho.1, ho.2.1⟩ _ _ hset.2 ho.2.1).1, (setAll_few (Nat.le_refl 4) ⟨ho.1, ho.2.1⟩ _ _ hset.2 ho.2.1).2, hpo⟩ hq1
      refine ⟨l, q2, t2, ?_, hl, hq2⟩
      refine Ev.step (fun k => spec_l10Props.l0.eq_2 ..) ?_
      simp only [if_pos (show ((n + 1 : Nat) : Int) > 0 by omega), e, Option.bind_some]
      refine Ev.bind (specSetAll ⟨by have := ho.1; omega, ho.2.1⟩ hset) ?_
      rw [show wrap64 (((n + 1 : Nat) : Int) - 1) = (n : Int) by rw [wrap_id (by omega) (by omega)]; omega]
      exact he
  obtain ⟨n, rfl⟩ := Int.eq_ofNat_of_zero_le v0
  exact key n [] p1 s1 (by omega) ⟨by simp, by simp, by decide⟩ h1
end Go.Proofs.Yteabkidfgdmmpaa.L

/- Other names of printed functions. No condition. -/
namespace Go.Proofs.Yteabkidfgdmmpaa.Q
abbrev spec_MakeCollX.f (k : Nat) (l0 : List (S59)) (l1 : List ByteArray) (a2 : Int) : Option ((List (S59)) × Int) := spec_MakeColl.f k l0 l1 a2
abbrev spec_PutFileX.f (k : Nat) (l0 : List (S59)) (l1 : List ByteArray) (a2 : ByteArray) (a3 : Int) : Option ((List (S59)) × Int) := spec_PutFile.f k l0 l1 a2 a3
end Go.Proofs.Yteabkidfgdmmpaa.Q

/- A thing put in its place, a shelf made; as the program and the reference have it. No condition. -/
set_option linter.unusedSimpArgs false
set_option linter.unusedVariables false
namespace Go.Proofs.Yteabkidfgdmmpaa.L
open Go.RowKit Go.Proofs.YteabkidfgdmmpaaW.PrintWords Go.Proofs.YteabkidfgdmmpaaW.PrintLast Go.Proofs.Yteabkidfgdmmpaa.Q
def putAt (x : S59) : List S59 → List S59
  | [] => [x]
  | a :: t => if lessP a.f0 x.f0 = true then a :: putAt x t else x :: a :: t
theorem putAt_length (x : S59) : ∀ t : List S59, (putAt x t).length = t.length + 1
  | [] => rfl
  | a :: t => by
    unfold putAt
    by_cases c : lessP a.f0 x.f0 = true
    · simp only [if_pos c, List.length_cons, putAt_length x t]
    · simp only [if_neg c, List.length_cons]
theorem putAt_mem (x : S59) : ∀ (t : List S59) (b : S59), b ∈ putAt x t → b = x ∨ b ∈ t
  | [], b, h => by simpa [putAt] using h
  | a :: t, b, h => by
    unfold putAt at h
    by_cases c : lessP a.f0 x.f0 = true
    · simp only [if_pos c, List.mem_cons] at h
      rcases h with rfl | h
      · exact .inr (by simp)
      · rcases putAt_mem x t b h with h | h
        · exact .inl h
        · exact .inr (by simp [h])
    · simp only [if_neg c, List.mem_cons] at h
      rcases h with h | h | h
      · exact .inl h
      · exact .inr (by simp [h])
      · exact .inr (by simp [h])
def putS (x : S59) : Bool → List S59 → List S59
  | d, [] => if d = true then [] else [x]
  | d, a :: t => (if d = true then [] else if lessP a.f0 x.f0 = true then [] else [x]) ++ (if a.f0 = x.f0 then [] else [a]) ++ putS x (d || !lessP a.f0 x.f0) t
theorem specPut {t : List S59} {x : S59} (ht : SmRess t) (hx : SmRes x) : Ev (fun k => spec_l11Put.f k t x.f0 x.f1 x.f2 x.f3 x.f4) (putS x false t) := by
  have hl0 := ht.1
  have hl : t.length ≤ maxLen := by rw [maxLen_eq]; omega
  have key : ∀ (suf pre out : List S59) (d : Bool), t = pre ++ suf → out.length ≤ 2 * pre.length → Ev (fun k => spec_l11Put.l0 k t out d pre.length x.f0 x.f1 x.f2 x.f3 x.f4) (out ++ putS x d suf) := by
    intro suf
    induction suf with
    | nil =>
      intro pre out d h ho
      have hp : pre.length = t.length := by rw [h]; simp
      refine Ev.step (fun k => spec_l11Put.l0.eq_2 ..) ?_
      simp only [if_neg (end_at h), putS]
      by_cases c : d = true
      · simp only [if_pos c, List.append_nil]; exact Ev.now _
      · simp only [if_neg c, specCopyRes hx, Option.bind_some, show out.length < 1759218604441 by omega, if_true]; exact Ev.now _
    | cons a suf ih =>
      intro pre out d h ho
      have hpl : t.length = pre.length + (suf.length + 1) := by rw [h]; simp
      have ha := ht.2 a (by rw [h]; simp)
      have ha0 := ha.1.1
      have hj2 : ∀ (o : List S59) (d' : Bool), o.length ≤ 2 * pre.length + 1 → Ev (fun k => spec_l11Put.j2 k t o d' pre.length x.f0 x.f1 x.f2 x.f3 x.f4) (o ++ ((if a.f0 = x.f0 then [] else [a]) ++ putS x d' suf)) := by
        intro o d' ho'
        refine Ev.step (fun k => spec_l11Put.j2.eq_2 ..) ?_
        simp only [if_pos (lt_at h), if_pos (nonneg_at _), rd_implRes h, next_at h hl, specCopyRes ha, Option.bind_some]
        refine Ev.bind (specSame (by rw [maxLen_eq]; omega)) ?_
        by_cases c : a.f0 = x.f0
        · simp only [c, decide_true, if_true, List.nil_append]
          exact ih (pre ++ [a]) o d' (snoc_at h) (by simp; omega)
        · simp only [c, decide_false, Bool.false_eq_true, if_false, show o.length < 1759218604441 by omega, if_true]
          exact ev_cast (ih (pre ++ [a]) (o ++ [a]) d' (snoc_at h) (by simp; omega)) (by simp)
      have hj1 : ∀ b : Bool, Ev (fun k => spec_l11Put.j1 k t out d pre.length b x.f0 x.f1 x.f2 x.f3 x.f4) (out ++ ((if b = true then [x] else []) ++ ((if a.f0 = x.f0 then [] else [a]) ++ putS x (d || b) suf))) := by
        intro b
        refine Ev.step (fun k => spec_l11Put.j1.eq_2 ..) ?_
        by_cases c : b = true
        · subst c
          simp only [if_true, specCopyRes hx, Option.bind_some, show out.length < 1759218604441 by omega, Bool.or_true]
          exact ev_cast (hj2 (out ++ [x]) true (by simp; omega)) (by simp)
        · have c' : b = false := by simpa using c
          subst c'
          simp only [Bool.false_eq_true, if_false, List.nil_append, Bool.or_false]
          exact hj2 out d (by omega)
      refine Ev.step (fun k => spec_l11Put.l0.eq_2 ..) ?_
      simp only [if_pos (lt_at h), if_pos (nonneg_at _), rd_implRes h, putS]
      by_cases c : d = true
      · subst c
        simp only [if_true]
        exact ev_cast (hj1 false) (by simp)
      · have c' : d = false := by simpa using c
        subst c'
        simp only [Bool.false_eq_true, if_false]
        refine Ev.bind (specLess (by rw [maxLen_eq]; omega)) ?_
        refine ev_cast (hj1 (!lessP a.f0 x.f0)) ?_
        by_cases c2 : lessP a.f0 x.f0 = true
        · simp [c2]
        · simp [c2]
  exact key t [] [] false rfl (by simp)
theorem putS_done {x : S59} : ∀ {t : List S59}, (∀ r ∈ t, r.f0 ≠ x.f0) → putS x true t = t
  | [], _ => by simp [putS]
  | a :: t, h => by
    have h0 := h a (by simp)
    have ih := putS_done (x := x) (t := t) (fun r hr => h r (by simp [hr]))
    simp [putS, h0, ih]
theorem putS_new {x : S59} : ∀ {t : List S59}, (∀ r ∈ t, r.f0 ≠ x.f0) → putS x false t = putAt x t
  | [], _ => by simp [putS, putAt]
  | a :: t, h => by
    have h0 := h a (by simp)
    have hr := fun r hr => h r (List.mem_cons_of_mem a hr)
    have ih := putS_new (x := x) (t := t) hr
    have id := putS_done (x := x) (t := t) hr
    by_cases c : lessP a.f0 x.f0 = true
    · simp [putS, putAt, h0, ih, c]
    · simp [putS, putAt, h0, id, c]
theorem find_none {t : List S59} {p : List ByteArray} (h : findR t p < 0) : ∀ r ∈ t, r.f0 ≠ p := by
  rcases findFrom_cases p t 0 with ⟨_, h2⟩ | ⟨j, r, h1, _⟩
  · exact h2
  · unfold findR at h; rw [h1] at h; omega
def newRes (p : List ByteArray) (ver : Int) : S59 := ⟨p, true, (⟨#[]⟩ : ByteArray), ver, []⟩
def makeR (t : List S59) (p : List ByteArray) (ver : Int) : List S59 × Int :=
  if mayC t [p] ver = 0 then (if p = [] then (t, 405) else if findR t p ≥ 0 then (t, 405) else if isColl t (above p) = true then (if (t.length : Int) ≥ 12 then (t, 507) else (putAt (newRes p ver) t, 201)) else (t, 409)) else (t, mayC t [p] ver)
theorem newRes_sm {p : List ByteArray} {ver : Int} (hp : SmS p) (hv : IntOk ver) : SmRes (newRes p ver) := ⟨hp, trivial, by show (0 : Nat) ≤ 1048576; omega, hv, by show (0 : Nat) ≤ 1048576; omega, fun _ h => by cases h⟩
theorem make_sm {p : List ByteArray} {t : List S59} {ver : Int} (ht : SmRess t) (hp : SmS p) (hv : IntOk ver) : SmRess (makeR t p ver).1 := by
  unfold makeR
  repeat' split
  all_goals first | exact ht | skip
  rename_i hn
  refine ⟨by rw [putAt_length]; omega, fun r hr => ?_⟩
  rcases putAt_mem _ _ _ hr with rfl | hr
  · exact newRes_sm hp hv
  · exact ht.2 r hr
theorem specMake {t : List S59} {p : List ByteArray} {ver : Int} (ht : SmRess t) (hp : SmS p) (hv : IntOk ver) : Ev (fun k => spec_MakeCollX.f k t p ver) (makeR t p ver) := by
  have hp0 := hp.1
  show Ev (fun k => spec_MakeColl.f k t p ver) _
  unfold spec_MakeColl.f makeR
  refine Ev.bind (specMay ht hp) ?_
  have hc : ∀ c : Int, c ≠ 0 → Ev (fun k => spec_MakeColl.j1 k t p ver c) (t, c) := fun c h => by
    refine Ev.step (fun k => spec_MakeColl.j1.eq_2 ..) ?_
    simp only [if_neg h]
    exact Ev.bind (specCopyAll ht) (Ev.now _)
  by_cases c0 : mayC t [p] ver = 0
  · simp only [c0, if_true, nil_len]
    by_cases c1 : p = []
    · simp only [if_pos c1]
      refine Ev.step (fun k => spec_MakeColl.j0.eq_2 ..) ?_
      simp only [if_true]
      exact hc 405 (by decide)
    · simp only [if_neg c1]
      refine Ev.bind (specFind ht) ?_
      refine Ev.step (fun k => spec_MakeColl.j0.eq_2 ..) ?_
      by_cases c2 : findR t p ≥ 0
      · simp only [c2, decide_true, if_true]; exact hc 405 (by decide)
      · simp only [c2, decide_false, Bool.false_eq_true, if_false, specAbove hp0, Option.bind_some]
        refine Ev.bind (specIsColl ht) ?_
        by_cases c3 : isColl t (above p) = true
        · simp only [if_pos c3]
          by_cases c4 : (t.length : Int) ≥ 12
          · simp only [if_pos c4]; exact hc 507 (by decide)
          · simp only [if_neg c4]
            refine Ev.step (fun k => spec_MakeColl.j1.eq_2 ..) ?_
            simp only [if_true]
            have h1 := specPut (x := newRes p ver) ht (newRes_sm hp hv)
            rw [putS_new (show ∀ r ∈ t, r.f0 ≠ (newRes p ver).f0 from find_none (p := p) (by omega))] at h1
            exact Ev.bind h1 (Ev.now _)
        · simp only [if_neg c3]; exact hc 409 (by decide)
  · simp only [if_neg c0]; exact hc _ c0
end Go.Proofs.Yteabkidfgdmmpaa.L

/- Paths, one ahead of the other: an order; right shelves stand in it. No condition. -/
set_option linter.unusedSimpArgs false
set_option linter.unusedVariables false
namespace Go.Proofs.Yteabkidfgdmmpaa.L
open Go.RowKit Go.Proofs.YteabkidfgdmmpaaW.PrintWords Go.Proofs.YteabkidfgdmmpaaW.PrintLast Go.Proofs.Yteabkidfgdmmpaa.Q
theorem bytesLess_trans : ∀ {x y z : List UInt8}, Op.bytesLess x y = true → Op.bytesLess y z = true → Op.bytesLess x z = true
  | _, _, [], _, h => by cases ‹List UInt8› <;> simp [Op.bytesLess] at h
  | [], _, _ :: _, _, _ => by simp [Op.bytesLess]
  | _ :: _, [], _ :: _, h, _ => by simp [Op.bytesLess] at h
  | a :: x, b :: y, c :: z, h, h' => by
    simp only [Op.bytesLess, Bool.or_eq_true, Bool.and_eq_true, decide_eq_true_eq, beq_iff_eq] at h h' ⊢
    rcases h with h | ⟨rfl, h⟩
    · rcases h' with h' | ⟨rfl, _⟩
      · exact .inl (UInt8.lt_trans h h')
      · exact .inl h
    · rcases h' with h' | ⟨rfl, h'⟩
      · exact .inl h'
      · exact .inr ⟨rfl, bytesLess_trans h h'⟩
theorem lessP_irrefl : ∀ a : List ByteArray, lessP a a = false
  | [] => rfl
  | x :: a => by simp [lessP, lessP_irrefl a]
theorem lessP_trans : ∀ {a b c : List ByteArray}, lessP a b = true → lessP b c = true → lessP a c = true
  | [], [], _, h, _ => by simp [lessP] at h
  | [], _ :: _, [], _, h => by simp [lessP] at h
  | [], _ :: _, _ :: _, _, _ => by simp [lessP]
  | _ :: _, [], _, h, _ => by simp [lessP] at h
  | _ :: _, _ :: _, [], _, h => by simp [lessP] at h
  | x :: a, y :: b, z :: c, h, h' => by
    simp only [lessP] at h h' ⊢
    by_cases e : x = y
    · subst e
      by_cases e' : x = z
      · subst e'
        simp only [if_true] at h h' ⊢
        exact lessP_trans h h'
      · rw [if_neg e'] at h' ⊢
        exact h'
    · rw [if_neg e] at h
      by_cases e' : y = z
      · subst e'
        rw [if_neg e]
        exact h
      · rw [if_neg e'] at h'
        have ht := bytesLess_trans h h'
        by_cases e2 : x = z
        · subst e2
          rw [bytesLess_irrefl] at ht
          cases ht
        · rw [if_neg e2]
          exact ht
theorem lessP_ne {a b : List ByteArray} (h : lessP a b = true) : a ≠ b := by
  intro e
  rw [e, lessP_irrefl] at h
  cases h
theorem treeL_pair (t : List S59) : ∀ (l : List S59) (q : Option S59), treeL t q l = true → (match q with | none => True | some q => ∀ r ∈ l, lessP q.f0 r.f0 = true) ∧ l.Pairwise (fun a b => lessP a.f0 b.f0 = true)
  | [], q, _ => by cases q <;> simp
  | r :: l, q, h => by
    simp only [treeL, Bool.and_eq_true] at h
    obtain ⟨_, h1, _, h2⟩ := h
    obtain ⟨h3, h4⟩ := treeL_pair t l (some r) h2
    simp only at h3
    refine ⟨?_, List.pairwise_cons.2 ⟨h3, h4⟩⟩
    cases q with
    | none => trivial
    | some q =>
      intro x hx
      simp only at h1
      rcases List.mem_cons.1 hx with rfl | hx
      · exact h1
      · exact lessP_trans h1 (h3 x hx)
theorem treeOk_pair {t : List S59} (h : treeOk t = true) : t.Pairwise (fun a b => lessP a.f0 b.f0 = true) := by
  unfold treeOk at h
  exact (treeL_pair t t none (Bool.and_eq_true_iff.1 h).1).2
theorem putS_at {x r : S59} (e : r.f0 = x.f0) {suf : List S59} : ∀ {pre : List S59}, (pre ++ r :: suf).Pairwise (fun a b => lessP a.f0 b.f0 = true) → putS x false (pre ++ r :: suf) = pre ++ x :: suf
  | [], h => by
    have h1 := (List.pairwise_cons.1 h).1
    have hd := putS_done (x := x) (t := suf) (fun a ha => by rw [← e]; exact (lessP_ne (h1 a ha)).symm)
    simp [putS, e, lessP_irrefl, hd]
  | a :: pre, h => by
    have h1 := (List.pairwise_cons.1 h).1
    have h2 : lessP a.f0 x.f0 = true := by rw [← e]; exact h1 r (by simp)
    have ih := putS_at (x := x) e (List.pairwise_cons.1 h).2
    simp [putS, h2, lessP_ne h2, ih]
end Go.Proofs.Yteabkidfgdmmpaa.L

/- A text put; as the program and the reference have it. No condition. -/
set_option linter.unusedSimpArgs false
set_option linter.unusedVariables false
namespace Go.Proofs.Yteabkidfgdmmpaa.L
open Go.RowKit Go.Proofs.YteabkidfgdmmpaaW.PrintWords Go.Proofs.YteabkidfgdmmpaaW.PrintLast Go.Proofs.Yteabkidfgdmmpaa.Q
theorem find_at {t : List S59} {p : List ByteArray} (h : ¬ findR t p < 0) : ∃ pre r suf, t = pre ++ r :: suf ∧ findR t p = (pre.length : Int) ∧ r.f0 = p := by
  rcases findFrom_cases p t 0 with ⟨h1, _⟩ | ⟨j, r, h1, h2, h3, _⟩
  · unfold findR at h; rw [h1] at h; exact absurd (by decide) h
  · refine ⟨t.take j, r, t.drop (j + 1), ?_, ?_, h3⟩
    · have hj := (List.getElem?_eq_some_iff.1 h2).1
      have he : t[j] = r := (List.getElem?_eq_some_iff.1 h2).2
      rw [← he, List.getElem_cons_drop, List.take_append_drop]
    · have hj := (List.getElem?_eq_some_iff.1 h2).1
      unfold findR; rw [h1, List.length_take]; omega
def newFile (p : List ByteArray) (body : ByteArray) (ver : Int) : S59 := ⟨p, false, body, ver, []⟩
def putFR (t : List S59) (p : List ByteArray) (body : ByteArray) (ver : Int) : List S59 × Int :=
  if mayC t [p] ver = 0 then (if isColl t p = true then (t, 405) else if isColl t (above p) = true then (if (body.size : Int) > 200 then (t, 413) else
    if findR t p < 0 then (if (t.length : Int) ≥ 12 then (t, 507) else (putAt (newFile p body ver) t, 201))
    else (t.set (findR t p).toNat ⟨(t.getD (findR t p).toNat z59).f0, (t.getD (findR t p).toNat z59).f1, body, ver, (t.getD (findR t p).toNat z59).f4⟩, 204)) else (t, 409)) else (t, mayC t [p] ver)
theorem newFile_sm {p : List ByteArray} {body : ByteArray} {ver : Int} (hp : SmS p) (hb : body.size ≤ 1048576) (hv : IntOk ver) : SmRes (newFile p body ver) := ⟨hp, trivial, hb, hv, by show (0 : Nat) ≤ 1048576; omega, fun _ h => by cases h⟩
theorem putF_sm {p : List ByteArray} {t : List S59} {body : ByteArray} {ver : Int} (ht : SmRess t) (hp : SmS p) (hb : body.size ≤ 1048576) (hv : IntOk ver) : SmRess (putFR t p body ver).1 := by
  unfold putFR
  repeat' split
  all_goals first | exact ht | skip
  · refine ⟨by rw [putAt_length]; omega, fun r hr => ?_⟩
    rcases putAt_mem _ _ _ hr with rfl | hr
    · exact newFile_sm hp hb hv
    · exact ht.2 r hr
  · rename_i hn
    obtain ⟨pre, r, suf, e, f, _⟩ := find_at hn
    have hg : t.getD (findR t p).toNat z59 = r := by rw [f]; exact getD_at _ e
    rw [hg, f, set_at e]
    have hr := ht.2 r (by rw [e]; simp)
    refine ⟨by have := ht.1; rw [e] at this; simpa using this, fun x hx => ?_⟩
    simp only [List.append_assoc, List.cons_append, List.nil_append, List.mem_append, List.mem_cons] at hx
    rcases hx with hx | rfl | hx
    · exact ht.2 x (by rw [e]; simp [hx])
    · exact ⟨hr.1, trivial, hb, hv, hr.2.2.2.2⟩
    · exact ht.2 x (by rw [e]; simp [hx])
theorem mayC_tree {t : List S59} {ps : List (List ByteArray)} {ver : Int} (h : mayC t ps ver = 0) : treeOk t = true := by
  unfold mayC at h
  by_cases c : treeOk t = true
  · exact c
  · rw [if_neg c] at h; omega
theorem specPutF {t : List S59} {p : List ByteArray} {body : ByteArray} {ver : Int} (ht : SmRess t) (hp : SmS p) (hb : body.size ≤ 1048576) (hv : IntOk ver) : Ev (fun k => spec_PutFileX.f k t p body ver) (putFR t p body ver) := by
  have hp0 := hp.1
  show Ev (fun k => spec_PutFile.f k t p body ver) _
  unfold spec_PutFile.f putFR
  refine Ev.bind (specMay ht hp) ?_
  refine Ev.bind (specFind ht) ?_
  have hc : ∀ c : Int, c ≠ 0 → Ev (fun k => spec_PutFile.j0 k t p body ver c (findR t p)) (t, c) := fun c h => by
    refine Ev.step (fun k => spec_PutFile.j0.eq_2 ..) ?_
    simp only [if_neg h]
    exact Ev.bind (specCopyAll ht) (Ev.now _)
  by_cases c0 : mayC t [p] ver = 0
  · simp only [c0, if_true]
    refine Ev.bind (specIsColl ht) ?_
    by_cases c1 : isColl t p = true
    · simp only [if_pos c1]; exact hc 405 (by decide)
    · simp only [if_neg c1, specAbove hp0, Option.bind_some]
      refine Ev.bind (specIsColl ht) ?_
      by_cases c3 : isColl t (above p) = true
      · simp only [if_pos c3]
        by_cases c4 : (body.size : Int) > 200
        · simp only [if_pos c4]; exact hc 413 (by decide)
        · simp only [if_neg c4]
          by_cases c5 : findR t p < 0
          · simp only [if_pos c5]
            by_cases c6 : (t.length : Int) ≥ 12
            · simp only [if_pos c6]; exact hc 507 (by decide)
            · simp only [if_neg c6]
              refine Ev.step (fun k => spec_PutFile.j0.eq_2 ..) ?_
              simp only [if_true, if_pos c5]
              have h1 := specPut (x := newFile p body ver) ht (newFile_sm hp hb hv)
              rw [putS_new (show ∀ r ∈ t, r.f0 ≠ (newFile p body ver).f0 from find_none (p := p) c5)] at h1
              exact Ev.bind h1 (Ev.now _)
          · simp only [if_neg c5]
            obtain ⟨pre, r, suf, e, f, hrp⟩ := find_at c5
            have hg : t.getD (findR t p).toNat z59 = r := by rw [f]; exact getD_at _ e
            have hr := ht.2 r (by rw [e]; simp)
            have hcoll : r.f1 = false := by
              have h2 : rd_T59 t (findR t p) = r := by rw [f]; exact rd_implRes e
              unfold isColl at c1
              rw [h2, decide_eq_true (show 0 ≤ findR t p by omega), Bool.true_and] at c1
              cases h3 : r.f1 with
              | false => rfl
              | true => rw [h3] at c1; simp at c1
            refine Ev.step (fun k => spec_PutFile.j0.eq_2 ..) ?_
            have h1 := specPut (x := (⟨p, false, body, ver, r.f4⟩ : S59)) ht ⟨hp, trivial, hb, hv, hr.2.2.2.2⟩
            have hord := treeOk_pair (mayC_tree c0)
            have h4 : putS (⟨p, false, body, ver, r.f4⟩ : S59) false t = (pre ++ [(⟨p, false, body, ver, r.f4⟩ : S59)]) ++ suf := by
              rw [e] at hord ⊢
              rw [putS_at (x := (⟨p, false, body, ver, r.f4⟩ : S59)) hrp hord]
              simp
            rw [h4] at h1
            simp only [if_true, if_neg c5, hg]
            rw [f]
            simp only [if_pos (nonneg_at _), if_pos (lt_at e), rd_implRes e, set_at e, hrp, hcoll]
            exact Ev.bind h1 (Ev.now _)
      · simp only [if_neg c3]; exact hc 409 (by decide)
  · simp only [if_neg c0]; exact hc _ c0
end Go.Proofs.Yteabkidfgdmmpaa.L

/- Right shelves stay right: a shelf made, a text put, a thing taken away, what is known set. No condition. -/
set_option linter.unusedSimpArgs false
set_option linter.unusedVariables false
namespace Go.Proofs.Yteabkidfgdmmpaa.L
open Go.RowKit Go.Proofs.YteabkidfgdmmpaaW.PrintWords Go.Proofs.YteabkidfgdmmpaaW.PrintLast Go.Proofs.Yteabkidfgdmmpaa.Q
def Ord (t : List S59) : Prop := t.Pairwise (fun a b => lessP a.f0 b.f0 = true)
theorem bytesLess_total : ∀ {x y : List UInt8}, x ≠ y → Op.bytesLess x y = true ∨ Op.bytesLess y x = true
  | [], [], h => absurd rfl h
  | [], _ :: _, _ => .inl (by simp [Op.bytesLess])
  | _ :: _, [], _ => .inr (by simp [Op.bytesLess])
  | a :: x, b :: y, h => by
    simp only [Op.bytesLess, Bool.or_eq_true, Bool.and_eq_true, decide_eq_true_eq, beq_iff_eq]
    by_cases e : a = b
    · subst e
      rcases bytesLess_total (show x ≠ y from fun e => h (by rw [e])) with h1 | h1
      · exact .inl (.inr ⟨rfl, h1⟩)
      · exact .inr (.inr ⟨rfl, h1⟩)
    · rcases UInt8.lt_or_lt_of_ne e with h1 | h1
      · exact .inl (.inl h1)
      · exact .inr (.inl h1)
theorem lessP_total : ∀ {a b : List ByteArray}, a ≠ b → lessP a b = true ∨ lessP b a = true
  | [], [], h => absurd rfl h
  | [], _ :: _, _ => .inl rfl
  | _ :: _, [], _ => .inr rfl
  | x :: a, y :: b, h => by
    simp only [lessP]
    by_cases e : x = y
    · subst e
      simp only [if_true]
      exact lessP_total (fun e => h (by rw [e]))
    · rw [if_neg e, if_neg (fun e' => e e'.symm)]
      exact bytesLess_total (fun e' => e (ba_inj e'))
theorem ord_uniq {t : List S59} (h : Ord t) {a b : S59} (ha : a ∈ t) (hb : b ∈ t) (e : a.f0 = b.f0) : a = b := by
  induction t with
  | nil => cases ha
  | cons r t ih =>
    have h1 := (List.pairwise_cons.1 h).1
    rcases List.mem_cons.1 ha with rfl | ha'
    · rcases List.mem_cons.1 hb with rfl | hb'
      · rfl
      · exact absurd e (lessP_ne (h1 b hb'))
    · rcases List.mem_cons.1 hb with rfl | hb'
      · exact absurd e.symm (lessP_ne (h1 a ha'))
      · exact ih (List.pairwise_cons.1 h).2 ha' hb'
theorem find_neg {t : List S59} {p : List ByteArray} : findR t p < 0 ↔ ∀ r ∈ t, r.f0 ≠ p := by
  constructor
  · exact find_none
  · intro h
    by_cases c : findR t p < 0
    · exact c
    · obtain ⟨pre, r, suf, e, _, hr⟩ := find_at c
      exact absurd hr (h r (by rw [e]; simp))
theorem isColl_iff {t : List S59} (ho : Ord t) {p : List ByteArray} : isColl t p = true ↔ p = [] ∨ ∃ r ∈ t, r.f0 = p ∧ r.f1 = true := by
  unfold isColl
  by_cases e : p = []
  · simp [e]
  · simp only [e, decide_false, Bool.false_or, false_or, Bool.and_eq_true, decide_eq_true_eq]
    constructor
    · rintro ⟨h1, h2⟩
      obtain ⟨pre, r, suf, et, f, hr⟩ := find_at (show ¬ findR t p < 0 by omega)
      rw [f, rd_implRes et] at h2
      exact ⟨r, by rw [et]; simp, hr, h2⟩
    · rintro ⟨r, hm, h1, h2⟩
      have hn : ¬ findR t p < 0 := fun h => find_none h r hm h1
      obtain ⟨pre, r', suf, et, f, hr⟩ := find_at hn
      have hu := ord_uniq ho (show r' ∈ t by rw [et]; simp) hm (by rw [hr, h1])
      refine ⟨by omega, ?_⟩
      rw [f, rd_implRes et, hu]
      exact h2
theorem treeL_iff (t : List S59) : ∀ (l : List S59) (q : Option S59), treeL t q l = true ↔ (∀ r ∈ l, resOk r = true ∧ isColl t (above r.f0) = true) ∧ (match q with | none => True | some q => ∀ r ∈ l, lessP q.f0 r.f0 = true) ∧ Ord l
  | [], q => by cases q <;> simp [treeL, Ord]
  | r :: l, q => by
    have ih := treeL_iff t l (some r)
    constructor
    · intro h
      obtain ⟨h3, h4⟩ := treeL_pair t (r :: l) q h
      simp only [treeL, Bool.and_eq_true] at h
      obtain ⟨h0, _, h1, h2⟩ := h
      refine ⟨fun x hx => ?_, ?_, h4⟩
      · rcases List.mem_cons.1 hx with rfl | hx
        · exact ⟨h0, h1⟩
        · exact (ih.1 h2).1 x hx
      · cases q with
        | none => trivial
        | some q => exact h3
    · rintro ⟨h1, h2, h3⟩
      simp only [treeL, Bool.and_eq_true]
      refine ⟨(h1 r (by simp)).1, ?_, (h1 r (by simp)).2, ih.2 ⟨fun x hx => h1 x (by simp [hx]), (List.pairwise_cons.1 h3).1, (List.pairwise_cons.1 h3).2⟩⟩
      cases q with
      | none => rfl
      | some q => exact h2 r (by simp)
theorem treeOk_iff {t : List S59} : treeOk t = true ↔ (∀ r ∈ t, resOk r = true ∧ isColl t (above r.f0) = true) ∧ Ord t ∧ t.length ≤ 12 := by
  unfold treeOk
  rw [Bool.and_eq_true, treeL_iff, decide_eq_true_eq]
  constructor
  · rintro ⟨⟨h1, _, h2⟩, h3⟩; exact ⟨h1, h2, by omega⟩
  · rintro ⟨h1, h2, h3⟩; exact ⟨⟨h1, trivial, h2⟩, by omega⟩
theorem mem_putAt (x : S59) : ∀ (t : List S59) (b : S59), b ∈ putAt x t ↔ b = x ∨ b ∈ t
  | [], b => by simp [putAt]
  | a :: t, b => by
    unfold putAt
    by_cases c : lessP a.f0 x.f0 = true
    · simp only [if_pos c, List.mem_cons, mem_putAt x t b]
      constructor
      · rintro (h | h | h)
        · exact .inr (.inl h)
        · exact .inl h
        · exact .inr (.inr h)
      · rintro (h | h | h)
        · exact .inr (.inl h)
        · exact .inl h
        · exact .inr (.inr h)
    · simp only [if_neg c, List.mem_cons]
theorem ord_putAt {x : S59} : ∀ {t : List S59}, Ord t → (∀ r ∈ t, r.f0 ≠ x.f0) → Ord (putAt x t)
  | [], _, _ => by simp [putAt, Ord]
  | a :: t, h, hn => by
    have h1 := (List.pairwise_cons.1 h).1
    have h2 := (List.pairwise_cons.1 h).2
    unfold putAt
    by_cases c : lessP a.f0 x.f0 = true
    · simp only [if_pos c]
      refine List.pairwise_cons.2 ⟨fun b hb => ?_, ord_putAt h2 (fun r hr => hn r (by simp [hr]))⟩
      rcases (mem_putAt x t b).1 hb with rfl | hb
      · exact c
      · exact h1 b hb
    · simp only [if_neg c]
      have hx : lessP x.f0 a.f0 = true := by
        rcases lessP_total (hn a (by simp)) with h3 | h3
        · exact absurd h3 c
        · exact h3
      refine List.pairwise_cons.2 ⟨fun b hb => ?_, h⟩
      rcases List.mem_cons.1 hb with rfl | hb
      · exact hx
      · exact lessP_trans hx (h1 b hb)
theorem putAt_ok {t : List S59} {x : S59} (h : treeOk t = true) (hx : resOk x = true) (hc : isColl t (above x.f0) = true) (hn : ∀ r ∈ t, r.f0 ≠ x.f0) (hl : t.length < 12) : treeOk (putAt x t) = true := by
  obtain ⟨h1, h2, h3⟩ := treeOk_iff.1 h
  have ho := ord_putAt (x := x) h2 hn
  have hmono : ∀ p, isColl t p = true → isColl (putAt x t) p = true := fun p hp => by
    rcases (isColl_iff h2).1 hp with e | ⟨r, hr, e⟩
    · exact (isColl_iff ho).2 (.inl e)
    · exact (isColl_iff ho).2 (.inr ⟨r, (mem_putAt x t r).2 (.inr hr), e⟩)
  refine treeOk_iff.2 ⟨fun r hr => ?_, ho, by rw [putAt_length]; omega⟩
  rcases (mem_putAt x t r).1 hr with rfl | hr
  · exact ⟨hx, hmono _ hc⟩
  · exact ⟨(h1 r hr).1, hmono _ (h1 r hr).2⟩
theorem ord_map {t u : List S59} (e : t.map (·.f0) = u.map (·.f0)) (h : Ord t) : Ord u := by
  have h1 : (t.map (·.f0)).Pairwise (fun a b => lessP a b = true) := List.pairwise_map.2 h
  rw [e] at h1
  exact List.pairwise_map.1 h1
theorem set_ok {pre suf : List S59} {r x : S59} (h : treeOk (pre ++ r :: suf) = true) (hx : resOk x = true) (e0 : x.f0 = r.f0) (e1 : x.f1 = r.f1) : treeOk (pre ++ x :: suf) = true := by
  obtain ⟨h1, h2, h3⟩ := treeOk_iff.1 h
  have ho : Ord (pre ++ x :: suf) := ord_map (by simp [e0]) h2
  have hmono : ∀ p, isColl (pre ++ r :: suf) p = true → isColl (pre ++ x :: suf) p = true := fun p hp => by
    rcases (isColl_iff h2).1 hp with e | ⟨q, hq, e⟩
    · exact (isColl_iff ho).2 (.inl e)
    · refine (isColl_iff ho).2 (.inr ?_)
      rcases List.mem_append.1 hq with hq | hq
      · exact ⟨q, by simp [hq], e⟩
      · rcases List.mem_cons.1 hq with rfl | hq
        · exact ⟨x, by simp, by rw [e0, e1]; exact e⟩
        · exact ⟨q, by simp [hq], e⟩
  refine treeOk_iff.2 ⟨fun q hq => ?_, ho, by simpa using h3⟩
  rcases List.mem_append.1 hq with hq | hq
  · exact ⟨(h1 q (by simp [hq])).1, hmono _ (h1 q (by simp [hq])).2⟩
  · rcases List.mem_cons.1 hq with rfl | hq
    · exact ⟨hx, by rw [e0]; exact hmono _ (h1 r (by simp)).2⟩
    · exact ⟨(h1 q (by simp [hq])).1, hmono _ (h1 q (by simp [hq])).2⟩
theorem mayC_zero {t : List S59} {p : List ByteArray} {ver : Int} (h : mayC t [p] ver = 0) : treeOk t = true ∧ pathOk p = true ∧ 0 ≤ ver ∧ ver ≤ 99999 := by
  unfold mayC at h
  by_cases c0 : treeOk t = true
  · rw [if_pos c0] at h
    by_cases c1 : [p].all pathOk = true
    · rw [if_pos c1] at h
      by_cases c2 : 0 ≤ ver ∧ ver ≤ 99999
      · exact ⟨c0, by simpa using c1, c2⟩
      · rw [if_neg c2] at h; omega
    · rw [if_neg c1] at h; omega
  · rw [if_neg c0] at h; omega
theorem make_ok {t : List S59} {p : List ByteArray} {ver : Int} (h : treeOk t = true) : treeOk (makeR t p ver).1 = true := by
  unfold makeR
  repeat' split
  all_goals first | exact h | skip
  rename_i c0 c1 c2 c3 c4
  obtain ⟨_, hp, hv⟩ := mayC_zero c0
  refine putAt_ok h ?_ c3 (find_neg.1 (show findR t p < 0 by omega)) (by omega)
  unfold resOk newRes
  simp [c1, hp, hv.1, hv.2, propsOk, propsL]
  decide
theorem putF_ok {t : List S59} {p : List ByteArray} {body : ByteArray} {ver : Int} (h : treeOk t = true) : treeOk (putFR t p body ver).1 = true := by
  unfold putFR
  repeat' split
  all_goals first | exact h | skip
  · rename_i c0 c1 c2 c3 c4 c5
    obtain ⟨_, hp, hv⟩ := mayC_zero c0
    have hne : p ≠ [] := fun e => c1 (by rw [e]; rfl)
    refine putAt_ok h ?_ c2 (find_neg.1 c4) (by omega)
    unfold resOk newFile
    simp [hne, hp, hv.1, hv.2, propsOk, propsL]
    omega
  · rename_i c0 c1 c2 c3 c4
    obtain ⟨_, hp, hv⟩ := mayC_zero c0
    obtain ⟨pre, r, suf, e, f, hr⟩ := find_at c4
    have hg : t.getD (findR t p).toNat z59 = r := by rw [f]; exact getD_at _ e
    rw [hg, f, set_at e]
    have hrok := ((treeOk_iff.1 h).1 r (by rw [e]; simp)).1
    have hf1 : r.f1 = false := by
      cases h3 : r.f1 with
      | false => rfl
      | true => exact absurd ((isColl_iff (treeOk_iff.1 h).2.1).2 (.inr ⟨r, by rw [e]; simp, hr, h3⟩)) c1
    rw [show pre ++ [(⟨r.f0, r.f1, body, ver, r.f4⟩ : S59)] ++ suf = pre ++ (⟨r.f0, r.f1, body, ver, r.f4⟩ : S59) :: suf by simp]
    refine set_ok (r := r) (by rw [← e]; exact h) ?_ rfl rfl
    unfold resOk at hrok ⊢
    simp only [Bool.and_eq_true, decide_eq_true_eq] at hrok ⊢
    exact ⟨hrok.1, hrok.2.1, fun hh => by rw [hf1] at hh; (cases hh), by omega, hv, hrok.2.2.2.2.2⟩
theorem nil_ok : treeOk ([] : List S59) = true := treeOk_iff.2 ⟨by simp, List.Pairwise.nil, by simp⟩
theorem pathOk_sm {p : List ByteArray} (h : pathOk p = true) : p.length ≤ 4 ∧ ∀ s ∈ p, s.size ≤ 8 := by
  unfold pathOk at h
  simp only [Bool.and_eq_true, decide_eq_true_eq, List.all_eq_true] at h
  refine ⟨by omega, fun s hs => ?_⟩
  have := h.1 s hs
  unfold nameOk at this
  simp only [Bool.and_eq_true, decide_eq_true_eq] at this
  omega
theorem tree_path {t : List S59} (h : treeOk t = true) {r : S59} (hr : r ∈ t) : r.f0 ≠ [] ∧ pathOk r.f0 = true := by
  have h1 := ((treeOk_iff.1 h).1 r hr).1
  unfold resOk at h1
  simp only [Bool.and_eq_true, decide_eq_true_eq] at h1
  exact ⟨h1.1, h1.2.1⟩
end Go.Proofs.Yteabkidfgdmmpaa.L

/- Draws of paths and of shelves; drawn shelves are right. No condition. -/
set_option linter.unusedSimpArgs false
set_option linter.unusedVariables false
namespace Go.Proofs.Yteabkidfgdmmpaa.L
open Go.RowKit Go.Proofs.YteabkidfgdmmpaaW.PrintWords Go.Proofs.YteabkidfgdmmpaaW.PrintLast Go.Proofs.Yteabkidfgdmmpaa.Q
theorem pathD {b : List Int} {p : Int} (h : Cur b p) (s : Int) {t : List S59} (ht : treeOk t = true) : ∃ l p' s', Ev (fun k => spec_l10Path.f k b p s t) (l, p', s') ∧ SmP 5 l ∧ Cur b p' := by
  have ht12 := (treeOk_iff.1 ht).2.2
  have hdraw : ∀ {q : Int}, Cur b q → ∀ u, ∃ l p' s', Ev (fun k => spec_l10Path.j0 k t false b q u) (l, p', s') ∧ SmP 5 l ∧ Cur b p' := fun hq u => by
    obtain ⟨l, q1, u1, e, hl, hq1⟩ := l2DrawD hq u
    refine ⟨l, q1, u1, ?_, ⟨by have := hl.1; omega, hl.2⟩, hq1⟩
    refine Ev.step (fun k => spec_l10Path.j0.eq_2 ..) ?_
    simp only [Bool.false_eq_true, if_false]
    exact Ev.bind e (Ev.now _)
  unfold spec_l10Path.f
  by_cases c : (t.length : Int) > 0
  · simp only [if_pos c]
    obtain ⟨d, p1, s1, e1, h1⟩ := onceD h s 3
    cases d with
    | true =>
      obtain ⟨l, p2, s2, e2, hl, h2⟩ := hdraw h1 s1
      refine ⟨l, p2, s2, ?_, hl, h2⟩
      simp only [e1, Option.bind_some, Bool.not_true]
      exact e2
    | false =>
      obtain ⟨v, p2, s2, e2, v0, v1, h2⟩ := belowD h1 s1 (n := (t.length : Int)) (by omega)
      obtain ⟨pre, r, suf, et, ei⟩ := split_at v0 v1
      have hr := (tree_path ht (show r ∈ t by rw [et]; simp)).2
      obtain ⟨hr1, hr2⟩ := pathOk_sm hr
      obtain ⟨d, p3, s3, e3, h3⟩ := onceD h2 s2 3
      subst ei
      have hrd := rd_implRes et
      have hlt := lt_at et
      cases d with
      | true =>
        obtain ⟨x, p4, s4, e4, m, h4⟩ := nameD h3 s3
        refine ⟨r.f0 ++ [x], p4, s4, ?_, ⟨by simp; omega, fun y hy => ?_⟩, h4⟩
        · simp only [e1, Option.bind_some, Bool.not_false]
          refine Ev.step (fun k => spec_l10Path.j0.eq_2 ..) ?_
          simp only [if_true, Option.bind_some, e2, if_pos (nonneg_at _), if_pos hlt, hrd, List.length_nil, Nat.zero_add, if_pos (show r.f0.length < 8796093022208 by omega), e3, e4, List.nil_append]
          exact Ev.now _
        · rcases List.mem_append.1 hy with hy | hy
          · have := hr2 y hy; omega
          · simp at hy; subst hy; exact m
      | false =>
        refine ⟨r.f0, p3, s3, ?_, ⟨by omega, fun y hy => by have := hr2 y hy; omega⟩, h3⟩
        simp only [e1, Option.bind_some, Bool.not_false]
        refine Ev.step (fun k => spec_l10Path.j0.eq_2 ..) ?_
        simp only [if_true, Option.bind_some, e2, if_pos (nonneg_at _), if_pos hlt, hrd, List.length_nil, Nat.zero_add, if_pos (show r.f0.length < 8796093022208 by omega), e3, Bool.false_eq_true, if_false, List.nil_append]
        exact Ev.now _
  · simp only [if_neg c]
    exact hdraw h s
theorem small_int {v n : Int} (h0 : 0 ≤ v) (h1 : v < n) (hn : n ≤ 1000) : IntOk v := by unfold IntOk; omega
theorem drawD {b : List Int} {p : Int} (h : Cur b p) (s : Int) : ∃ t p' s', Ev (fun k => spec_l10Draw.f k b p s) (t, p', s') ∧ (treeOk t = true ∧ SmRess t) ∧ Cur b p' := by
  unfold spec_l10Draw.f
  obtain ⟨v, p1, s1, e, v0, v1, h1⟩ := belowD h s (n := 10) (by omega)
  simp only [e, Option.bind_some]
  have key : ∀ (n : Nat) (t : List S59) (q u : Int), n ≤ 1000 → (treeOk t = true ∧ SmRess t) → Cur b q → ∃ t' p' s', Ev (fun k => spec_l10Draw.l0 k t (n : Int) b q u) (t', p', s') ∧ (treeOk t' = true ∧ SmRess t') ∧ Cur b p' := by
    intro n
    induction n with
    | zero =>
      intro t q u _ ht hq
      refine ⟨t, q, u, ?_, ht, hq⟩
      refine Ev.step (fun k => spec_l10Draw.l0.eq_2 ..) ?_
      simp only [if_neg (show ¬ ((0 : Nat) : Int) > 0 by decide)]
      exact Ev.now _
    | succ n ih =>
      intro t q u hn ht hq
      have hw : wrap64 (((n + 1 : Nat) : Int) - 1) = (n : Int) := by rw [wrap_id (by omega) (by omega)]; omega
      have hj2f : ∀ {t : List S59} {q : Int} (u : Int), (treeOk t = true ∧ SmRess t) → Cur b q → ∃ t' p' s', Ev (fun k => spec_l10Draw.j2 k t ((n + 1 : Nat) : Int) false b q u) (t', p', s') ∧ (treeOk t' = true ∧ SmRess t') ∧ Cur b p' := fun {t q} u ht hq => by
        obtain ⟨t', q', u', e, hh⟩ := ih t q u (by omega) ht hq
        refine ⟨t', q', u', ?_, hh⟩
        refine Ev.step (fun k => spec_l10Draw.j2.eq_2 ..) ?_
        simp only [Bool.false_eq_true, if_false, hw]
        exact e
      have hj1 : ∀ {t : List S59} {q : Int} (u : Int), (treeOk t = true ∧ SmRess t) → Cur b q → ∃ t' p' s', Ev (fun k => spec_l10Draw.j1 k t ((n + 1 : Nat) : Int) b q u) (t', p', s') ∧ (treeOk t' = true ∧ SmRess t') ∧ Cur b p' := fun {t q} u ht hq => by
        by_cases c : (t.length : Int) > 0
        · obtain ⟨d, q1, u1, e1, hq1⟩ := onceD hq u 3
          cases d with
          | false =>
            obtain ⟨t', q', u', e, hh⟩ := hj2f u1 ht hq1
            refine ⟨t', q', u', ?_, hh⟩
            refine Ev.step (fun k => spec_l10Draw.j1.eq_2 ..) ?_
            simp only [if_pos c, e1, Option.bind_some]
            exact e
          | true =>
            obtain ⟨v, q2, u2, e2, v0, v1, hq2⟩ := belowD hq1 u1 (n := (t.length : Int)) (by omega)
            obtain ⟨pre, r, suf, et, ei⟩ := split_at v0 v1
            obtain ⟨l, q3, u3, e3, ⟨hl, hm, hpo⟩, hq3⟩ := propsD hq2 u2
            subst ei
            have hr := (treeOk_iff.1 ht.1).1 r (by rw [et]; simp)
            have hrs := ht.2.2 r (by rw [et]; simp)
            have hnew : (treeOk (pre ++ (⟨r.f0, r.f1, r.f2, r.f3, l⟩ : S59) :: suf) = true ∧ SmRess (pre ++ (⟨r.f0, r.f1, r.f2, r.f3, l⟩ : S59) :: suf)) := by
              refine ⟨set_ok (r := r) (by rw [← et]; exact ht.1) ?_ rfl rfl, ?_, fun x hx => ?_⟩
              · have h1 := hr.1
                unfold resOk at h1 ⊢
                simp only [Bool.and_eq_true, decide_eq_true_eq] at h1 ⊢
                exact ⟨h1.1, h1.2.1, h1.2.2.1, h1.2.2.2.1, h1.2.2.2.2.1, hpo⟩
              · have := ht.2.1; rw [et] at this; simpa using this
              · rcases List.mem_append.1 hx with hx | hx
                · exact ht.2.2 x (by rw [et]; simp [hx])
                · rcases List.mem_cons.1 hx with rfl | hx
                  · exact ⟨hrs.1, hrs.2.1, hrs.2.2.1, hrs.2.2.2.1, by show l.length ≤ 1048576; omega, hm⟩
                  · exact ht.2.2 x (by rw [et]; simp [hx])
            obtain ⟨t', q', u', e, hh⟩ := ih _ q3 u3 (by omega) hnew hq3
            refine ⟨t', q', u', ?_, hh⟩
            refine Ev.step (fun k => spec_l10Draw.j1.eq_2 ..) ?_
            simp only [if_pos c, e1, Option.bind_some]
            refine Ev.step (fun k => spec_l10Draw.j2.eq_2 ..) ?_
            simp only [if_true, e2, Option.bind_some]
            refine Ev.bind e3 ?_
            simp only [if_pos (nonneg_at _), if_pos (lt_at et), rd_implRes et, set_at et, hw, List.append_assoc, List.singleton_append]
            exact e
        · obtain ⟨t', q', u', e, hh⟩ := hj2f u ht hq
          refine ⟨t', q', u', ?_, hh⟩
          refine Ev.step (fun k => spec_l10Draw.j1.eq_2 ..) ?_
          simp only [if_neg c]
          exact e
      obtain ⟨pt, q1, u1, e1, hp, hq1⟩ := pathD hq u ht.1
      have hps := hp.sm (by omega)
      obtain ⟨d, q2, u2, e2, hq2⟩ := onceD hq1 u1 2
      cases d with
      | true =>
        obtain ⟨v, q3, u3, e3, v0, v1, hq3⟩ := belowD hq2 u2 (n := 9) (by omega)
        have hv := small_int v0 v1 (by omega)
        obtain ⟨t', q', u', e, hh⟩ := hj1 u3 ⟨make_ok (p := pt) (ver := v) ht.1, make_sm ht.2 hps hv⟩ hq3
        refine ⟨t', q', u', ?_, hh⟩
        refine Ev.step (fun k => spec_l10Draw.l0.eq_2 ..) ?_
        simp only [if_pos (show ((n + 1 : Nat) : Int) > 0 by omega)]
        refine Ev.bind e1 ?_
        simp only [e2, e3, Option.bind_some, if_true]
        exact Ev.bind (specMake ht.2 hps hv) e
      | false =>
        obtain ⟨x, q3, u3, e3, m, hq3⟩ := strD hq2 u2 (l := [(⟨#[]⟩ : ByteArray), (⟨#[120]⟩ : ByteArray), (⟨#[104, 101, 108, 108, 111]⟩ : ByteArray)]) (by simp)
        have m1 := mem_sz m (by decide)
        obtain ⟨v, q4, u4, e4, v0, v1, hq4⟩ := belowD hq3 u3 (n := 9) (by omega)
        have hv := small_int v0 v1 (by omega)
        obtain ⟨t', q', u', e, hh⟩ := hj1 u4 ⟨putF_ok (p := pt) (body := x) (ver := v) ht.1, putF_sm ht.2 hps m1 hv⟩ hq4
        refine ⟨t', q', u', ?_, hh⟩
        refine Ev.step (fun k => spec_l10Draw.l0.eq_2 ..) ?_
        simp only [if_pos (show ((n + 1 : Nat) : Int) > 0 by omega)]
        refine Ev.bind e1 ?_
        simp only [e2, e3, e4, Option.bind_some, Bool.false_eq_true, if_false]
        exact Ev.bind (specPutF ht.2 hps m1 hv) e
  obtain ⟨n, rfl⟩ := Int.eq_ofNat_of_zero_le v0
  exact key n [] p1 s1 (by omega) ⟨nil_ok, by simp, by simp⟩ h1
end Go.Proofs.Yteabkidfgdmmpaa.L

/- Draws of properties and of sets; what is told of a thing, behind sets. No condition. -/
set_option linter.unusedSimpArgs false
set_option linter.unusedVariables false
namespace Go.Proofs.Yteabkidfgdmmpaa.L
open Go.RowKit Go.Proofs.YteabkidfgdmmpaaW.PrintWords Go.Proofs.YteabkidfgdmmpaaW.PrintLast Go.Proofs.Yteabkidfgdmmpaa.Q
theorem drawPropsOkD {code : List Int} (hc : code.length ≤ 1048576) : ∃ l, Ev (fun k => spec_DrawPropsOk.f k code) l ∧ Few l := by
  unfold spec_DrawPropsOk.f
  obtain ⟨s0, e0⟩ := newD hc
  obtain ⟨l, p1, s1, e1, ⟨hl, hm, _⟩, h1⟩ := propsD (cur0 hc) s0
  obtain ⟨v, p2, s2, e2, h2⟩ := onceD h1 s1 2
  by_cases c : v = true
  · obtain ⟨x, p3, s3, e3, m, h3⟩ := strD h2 s2 (l := [(⟨#[122]⟩ : ByteArray), (⟨#[1]⟩ : ByteArray), (⟨#[116, 119, 101, 110, 116, 121, 45, 111, 110, 101, 45, 98, 121, 116, 101, 115, 45, 116, 101, 120, 116]⟩ : ByteArray)]) (by simp)
    have m1 := mem_sz m (by decide)
    obtain ⟨y, p4, s4, e4, m, h4⟩ := strD h3 s3 (l := [(⟨#[97]⟩ : ByteArray), (⟨#[65]⟩ : ByteArray)]) (by simp)
    have m2 := mem_sz m (by decide)
    obtain ⟨z, p5, s5, e5, m, h5⟩ := strD h4 s4 (l := [(⟨#[]⟩ : ByteArray), (⟨#[116, 119, 101, 110, 116, 121, 45, 111, 110, 101, 45, 98, 121, 116, 101, 115, 45, 116, 101, 120, 116]⟩ : ByteArray)]) (by simp)
    have m3 := mem_sz m (by decide)
    refine ⟨l ++ [⟨x, y, z⟩], ?_, by simp; omega, ?_⟩
    · refine Ev.bind e0 ?_
      refine Ev.bind e1 ?_
      simp only [e2, Option.bind_some, if_pos c, e3, e4, e5, if_pos (show l.length < 2932031007402 by omega)]
      exact Ev.now _
    · intro q hq
      rcases List.mem_append.1 hq with hq | hq
      · exact hm q hq
      · simp at hq; subst hq; exact ⟨m1, m2, m3⟩
  · refine ⟨l, ?_, by omega, hm⟩
    refine Ev.bind e0 ?_
    refine Ev.bind e1 ?_
    simp only [e2, Option.bind_some, if_neg c]
    exact Ev.now _
end Go.Proofs.Yteabkidfgdmmpaa.L

/- Draws of whole numbers and of paths, bent or not. No condition. -/
set_option linter.unusedSimpArgs false
set_option linter.unusedVariables false
namespace Go.Proofs.Yteabkidfgdmmpaa.L
open Go.RowKit Go.Proofs.YteabkidfgdmmpaaW.PrintWords Go.Proofs.YteabkidfgdmmpaaW.PrintLast Go.Proofs.Yteabkidfgdmmpaa.Q
theorem intD {b : List Int} {p : Int} (h : Cur b p) (s : Int) {l : List Int} (hl : l ≠ []) : ∃ v p' s', spec_l1Int.f b p s l = some (v, p', s') ∧ v ∈ l ∧ Cur b p' := by
  have hpos : 0 < l.length := List.length_pos_iff.2 hl
  obtain ⟨v, p', s', e, h0, h1, h'⟩ := belowD h s (n := (l.length : Int)) (by omega)
  unfold spec_l1Int.f
  rw [e]
  simp only [Option.bind_some, if_pos h0, if_pos h1]
  refine ⟨_, _, _, rfl, ?_, h'⟩
  have hlt : v.toNat < l.length := by omega
  unfold rd
  rw [List.getD_eq_getElem?_getD, List.getElem?_eq_getElem hlt]
  exact List.getElem_mem hlt
theorem mem_int {v : Int} {l : List Int} (h : v ∈ l) (hl : l.all (fun x => decide (-9223372036854775808 ≤ x ∧ x < 9223372036854775808)) = true) : IntOk v := by
  have := List.all_eq_true.1 hl v h
  unfold IntOk
  simpa using this
theorem l2AnyD {b : List Int} {p : Int} (h : Cur b p) (s : Int) : ∃ l p' s', Ev (fun k => spec_l2Any.f k b p s) (l, p', s') ∧ SmP 8 l ∧ Cur b p' := by
  obtain ⟨l, p1, s1, e1, hl, h1⟩ := l2DrawD h s
  obtain ⟨v, p2, s2, e2, v0, v1, h2⟩ := belowD h1 s1 (n := 8) (by omega)
  have hl3 := hl.1
  unfold spec_l2Any.f
  by_cases c0 : v = 0
  · obtain ⟨x, p3, s3, e3, m, h3⟩ := strD h2 s2 (l := [(⟨#[]⟩ : ByteArray), (⟨#[46]⟩ : ByteArray), (⟨#[46, 46]⟩ : ByteArray), (⟨#[97, 47, 98]⟩ : ByteArray), (⟨#[110, 105, 110, 101, 98, 121, 116, 101, 115]⟩ : ByteArray), (⟨#[31]⟩ : ByteArray), (⟨#[101, 105, 103, 104, 116, 98, 121, 56]⟩ : ByteArray)]) (by simp)
    have m1 := mem_sz2 m (by decide)
    refine ⟨l ++ [x], p3, s3, ?_, ⟨by simp; omega, fun y hy => ?_⟩, h3⟩
    · refine Ev.bind e1 ?_
      simp only [e2, Option.bind_some, if_pos c0, e3, if_pos (show l.length < 8796093022208 by omega)]
      exact Ev.now _
    · rcases List.mem_append.1 hy with hy | hy
      · exact hl.2 y hy
      · simp at hy; subst hy; exact m1
  by_cases c1 : v = 1
  · have key : ∀ (n : Nat) (out : List ByteArray) (q t : Int), 8 ≤ out.length + n → out.length ≤ 8 → (∀ x ∈ out, x.size ≤ 1000) → Cur b q → ∃ l p' s', Ev (fun k => spec_l2Any.l0 k out b q t) (l, p', s') ∧ SmP 8 l ∧ Cur b p' := by
      intro n
      induction n with
      | zero =>
        intro out q t hn ho hm hq
        obtain ⟨v, q1, t1, e, v0, v1, hq1⟩ := belowD hq t (n := 2) (by omega)
        refine ⟨out, q1, t1, ?_, ⟨ho, hm⟩, hq1⟩
        refine Ev.step (fun k => spec_l2Any.l0.eq_2 ..) ?_
        simp only [e, Option.bind_some]
        rw [wrap_id (by omega) (by omega)]
        simp only [if_neg (show ¬ (out.length : Int) < 4 + v by omega)]
        exact Ev.now _
      | succ n ih =>
        intro out q t hn ho hm hq
        obtain ⟨v, q1, t1, e, v0, v1, hq1⟩ := belowD hq t (n := 2) (by omega)
        by_cases c : (out.length : Int) < 4 + v
        · obtain ⟨l, q2, t2, he, hl, hq2⟩ := ih (out ++ [(⟨#[113]⟩ : ByteArray)]) q1 t1 (by simp; omega) (by simp; omega) (fun x hx => by
            rcases List.mem_append.1 hx with hx | hx
            · exact hm x hx
            · simp at hx; subst hx; exact (show (1 : Nat) ≤ 1000 by omega)) hq1
          refine ⟨l, q2, t2, ?_, hl, hq2⟩
          refine Ev.step (fun k => spec_l2Any.l0.eq_2 ..) ?_
          simp only [e, Option.bind_some]
          rw [wrap_id (by omega) (by omega)]
          simp only [if_pos c, if_pos (show out.length < 8796093022208 by omega)]
          exact he
        · refine ⟨out, q1, t1, ?_, ⟨ho, hm⟩, hq1⟩
          refine Ev.step (fun k => spec_l2Any.l0.eq_2 ..) ?_
          simp only [e, Option.bind_some]
          rw [wrap_id (by omega) (by omega)]
          simp only [if_neg c]
          exact Ev.now _
    obtain ⟨l', q', t', he, hl', hq'⟩ := key 8 l p2 s2 (by omega) (by omega) hl.2 h2
    refine ⟨l', q', t', ?_, hl', hq'⟩
    refine Ev.bind e1 ?_
    simp only [e2, Option.bind_some, if_neg c0, if_pos c1]
    exact he
  · refine ⟨l, p2, s2, ?_, ⟨by omega, hl.2⟩, h2⟩
    refine Ev.bind e1 ?_
    simp only [e2, Option.bind_some, if_neg c0, if_neg c1]
    exact Ev.now _
end Go.Proofs.Yteabkidfgdmmpaa.L

/- Draws of shelves, bent or not. No condition. -/
set_option linter.unusedSimpArgs false
set_option linter.unusedVariables false
namespace Go.Proofs.Yteabkidfgdmmpaa.L
open Go.RowKit Go.Proofs.YteabkidfgdmmpaaW.PrintWords Go.Proofs.YteabkidfgdmmpaaW.PrintLast Go.Proofs.Yteabkidfgdmmpaa.Q
def SmTr (t : List S59) : Prop := t.length ≤ 24 ∧ ∀ r ∈ t, SmRes r ∧ r.f0.length ≤ 8
theorem SmTr.sm {t : List S59} (h : SmTr t) : SmRess t := ⟨by have := h.1; omega, fun r hr => (h.2 r hr).1⟩
theorem str_size (xs : List Int) : (strOfNums xs).size = xs.length := by simp [strOfNums, ByteArray.size]
theorem tr_set {pre suf : List S59} {r x : S59} (h : SmTr (pre ++ r :: suf)) (hx : SmRes x ∧ x.f0.length ≤ 8) : SmTr (pre ++ [x] ++ suf) := by
  refine ⟨by have := h.1; simp at this ⊢; omega, fun y hy => ?_⟩
  simp only [List.append_assoc, List.singleton_append, List.mem_append, List.mem_cons] at hy
  rcases hy with hy | rfl | hy
  · exact h.2 y (by simp [hy])
  · exact hx
  · exact h.2 y (by simp [hy])
theorem numD2 {n : Int} (h0 : 10 ≤ n) (h1 : n ≤ 99) : ∃ s, Ev (fun k => spec_NumText.f k n) s ∧ s.size ≤ 1000 := by
  have hq : 1 ≤ Int.tdiv n 10 ∧ Int.tdiv n 10 ≤ 9 := by rw [Int.tdiv_eq_ediv_of_nonneg (by omega)]; omega
  have hd : wrap64 (Int.tdiv n 10) = Int.tdiv n 10 := wrap_id (by omega) (by omega)
  have hd9 : ¬ Int.tdiv n 10 > 9 := by omega
  refine ⟨strOfNums [(wrap64 (48 + (Int.tmod (wrap64 (Int.tdiv n 10)) 10))) % 256] ++ strOfNums [(wrap64 (48 + (Int.tmod n 10))) % 256], ?_, ?_⟩
  · unfold spec_NumText.f
    simp only [if_neg (show ¬ n < 0 by omega)]
    refine Ev.step (fun k => spec_NumText.j0.eq_2 ..) ?_
    refine Ev.step (fun k => spec_NumText.l0.eq_2 ..) ?_
    simp only [if_pos (show n > 9 by omega), Option.bind_some, str_size, List.length_cons, List.length_nil, if_pos (show 0 + 1 + (0 + 1) ≤ 9223372036854775807 by omega)]
    refine Ev.step (fun k => spec_NumText.l0.eq_2 ..) ?_
    rw [hd]
    simp only [if_neg hd9]
    exact Ev.now _
  · rw [ByteArray.size_append, str_size, str_size]; simp
theorem l10AnyD {b : List Int} {p : Int} (h : Cur b p) (s : Int) : ∃ t p' s', Ev (fun k => spec_l10Any.f k b p s) (t, p', s') ∧ SmTr t ∧ Cur b p' := by
  obtain ⟨t, p1, s1, e1, ⟨hok, hsm⟩, h1⟩ := drawD h s
  have ht12 := (treeOk_iff.1 hok).2.2
  have htr : SmTr t := ⟨by omega, fun r hr => ⟨hsm.2 r hr, by have := (pathOk_sm (tree_path hok hr).2).1; omega⟩⟩
  unfold spec_l10Any.f
  by_cases c : (t.length : Int) = 0
  · refine ⟨t, p1, s1, Ev.bind e1 ?_, htr, h1⟩
    simp only [if_pos c]
    exact Ev.now _
  obtain ⟨i, p2, s2, e2, i0, i1, h2⟩ := belowD h1 s1 (n := (t.length : Int)) (by omega)
  obtain ⟨v, p3, s3, e3, v0, v1, h3⟩ := belowD h2 s2 (n := 14) (by omega)
  obtain ⟨pre, r, suf, et, ei⟩ := split_at i0 i1
  subst ei
  have hr := htr.2 r (by rw [et]; simp)
  have hrd := rd_implRes et
  have hlt := lt_at et
  have hset : ∀ x : S59, SmRes x ∧ x.f0.length ≤ 8 → SmTr (t.set ((pre.length : Nat) : Int).toNat x) := fun x hx => by
    rw [set_at et]; rw [et] at htr; exact tr_set htr hx
  by_cases c0 : v = 0
  · obtain ⟨q, p4, s4, e4, hq, h4⟩ := l2AnyD h3 s3
    refine ⟨_, p4, s4, Ev.bind e1 ?_, hset (⟨q, r.f1, r.f2, r.f3, r.f4⟩ : S59) ⟨⟨hq.sm (by omega), hr.1.2⟩, hq.1⟩, h4⟩
    simp only [if_neg c, e2, e3, Option.bind_some, if_pos c0]
    refine Ev.bind e4 ?_
    simp only [if_pos (nonneg_at _), if_pos hlt, hrd]
    exact Ev.now _
  by_cases c1 : v = 1
  · refine ⟨_, p3, s3, Ev.bind e1 ?_, hset (⟨r.f0, !r.f1, r.f2, r.f3, r.f4⟩ : S59) ⟨⟨hr.1.1, trivial, hr.1.2.2⟩, hr.2⟩, h3⟩
    simp only [if_neg c, e2, e3, Option.bind_some, if_neg c0, if_pos c1, if_pos (nonneg_at _), if_pos hlt, hrd]
    exact Ev.now _
  by_cases c2 : v = 2
  · obtain ⟨u, p4, s4, e4, u0, u1, h4⟩ := belowD h3 s3 (n := 2) (by omega)
    have hw : wrap64 (200 + u) = 200 + u := wrap_id (by omega) (by omega)
    refine ⟨_, p4, s4, Ev.bind e1 ?_, hset (⟨r.f0, r.f1, strOfNums (List.replicate (200 + u : Int).toNat 0), r.f3, r.f4⟩ : S59) ⟨⟨hr.1.1, trivial, by rw [str_size, List.length_replicate]; omega, hr.1.2.2.2⟩, hr.2⟩, h4⟩
    simp only [if_neg c, e2, e3, Option.bind_some, if_neg c0, if_neg c1, if_pos c2, e4, hw, if_pos (show (0 : Int) ≤ 200 + u by omega), if_pos (show (200 + u : Int).toNat ≤ 281474976710656 by omega), if_pos (nonneg_at _), if_pos hlt, hrd]
    exact Ev.now _
  by_cases c3 : v = 3
  · obtain ⟨u, p4, s4, e4, m, h4⟩ := intD h3 s3 (l := [(-1), 99999, 100000]) (by simp)
    refine ⟨_, p4, s4, Ev.bind e1 ?_, hset (⟨r.f0, r.f1, r.f2, u, r.f4⟩ : S59) ⟨⟨hr.1.1, trivial, hr.1.2.2.1, mem_int m (by decide), hr.1.2.2.2.2⟩, hr.2⟩, h4⟩
    simp only [if_neg c, e2, e3, Option.bind_some, if_neg c0, if_neg c1, if_neg c2, if_pos c3, e4, if_pos (nonneg_at _), if_pos hlt, hrd]
    exact Ev.now _
  by_cases c4 : v = 4
  · obtain ⟨x, y, z, p4, s4, e4, m, h4⟩ := onePropD h3 s3
    have hok4 : resOk r = true := ((treeOk_iff.1 hok).1 r (by rw [et]; simp)).1
    have hfew : r.f4.length ≤ 1000 := by
      unfold resOk at hok4
      simp only [Bool.and_eq_true, decide_eq_true_eq] at hok4
      have hp := hok4.2.2.2.2.2
      unfold propsOk at hp
      have := of_decide_eq_true (Bool.and_eq_true_iff.1 hp).2
      omega
    refine ⟨_, p4, s4, Ev.bind e1 ?_, hset (⟨r.f0, r.f1, r.f2, r.f3, r.f4 ++ [(⟨x, y, z⟩ : S71)]⟩ : S59) ⟨⟨hr.1.1, trivial, hr.1.2.2.1, hr.1.2.2.2.1, by simp; omega, fun q hq => ?_⟩, hr.2⟩, h4⟩
    · simp only [if_neg c, e2, e3, Option.bind_some, if_neg c0, if_neg c1, if_neg c2, if_neg c3, if_pos c4, if_pos (nonneg_at _), if_pos hlt, hrd, e4, if_pos (show r.f4.length < 2932031007402 by omega)]
      exact Ev.now _
    · rcases List.mem_append.1 hq with hq | hq
      · exact hr.1.2.2.2.2.2 q hq
      · simp at hq; subst hq; exact m
  by_cases c5 : v = 5
  · have key : ∀ (n : Nat) (j : Nat) (out : List S59), j + n = 12 → (out.length + n ≤ 24 ∧ ∀ x ∈ out, SmRes x ∧ x.f0.length ≤ 8) → ∃ t', Ev (fun k => spec_l10Any.l0 k out (j : Int) b p3 s3) (t', p3, s3) ∧ SmTr t' := by
      intro n
      induction n with
      | zero =>
        intro j out hj ho
        refine ⟨out, ?_, ⟨by omega, ho.2⟩⟩
        refine Ev.step (fun k => spec_l10Any.l0.eq_2 ..) ?_
        simp only [if_neg (show ¬ (j : Int) < 12 by omega)]
        exact Ev.now _
      | succ n ih =>
        intro j out hj ho
        have hw10 : wrap64 (10 + (j : Int)) = 10 + (j : Int) := wrap_id (by omega) (by omega)
        obtain ⟨w, ew, hwz⟩ := numD2 (n := 10 + (j : Int)) (by omega) (by omega)
        have hsz : ((⟨#[122]⟩ : ByteArray) ++ w).size ≤ 1048576 := by rw [ByteArray.size_append]; have : (⟨#[122]⟩ : ByteArray).size = 1 := by decide
                                                                      omega
        obtain ⟨t', el, ht'⟩ := ih (j + 1) (out ++ [(⟨[(⟨#[122]⟩ : ByteArray) ++ w], false, (⟨#[]⟩ : ByteArray), 0, []⟩ : S59)]) (by omega) ⟨by simp; omega, fun q hq => by
          rcases List.mem_append.1 hq with hq | hq
          · exact ho.2 q hq
          · simp at hq; subst hq
            exact ⟨⟨⟨by simp, by simpa using hsz⟩, trivial, (show (0 : Nat) ≤ 1048576 by omega), by unfold IntOk; simp, by simp, by simp⟩, by simp⟩⟩
        refine ⟨t', ?_, ht'⟩
        refine Ev.step (fun k => spec_l10Any.l0.eq_2 ..) ?_
        simp only [if_pos (show (j : Int) < 12 by omega), hw10]
        refine Ev.bind ew ?_
        simp only [if_pos (show 1 + w.size ≤ 9223372036854775807 by omega), if_pos (show out.length < 1759218604441 by omega)]
        rw [show wrap64 ((j : Int) + 1) = ((j + 1 : Nat) : Int) by rw [wrap_id (by omega) (by omega)]; omega]
        exact el
    obtain ⟨t', el, ht'⟩ := key 12 0 t rfl ⟨by omega, htr.2⟩
    refine ⟨t', p3, s3, Ev.bind e1 ?_, ht', h3⟩
    simp only [if_neg c, e2, e3, Option.bind_some, if_neg c0, if_neg c1, if_neg c2, if_neg c3, if_neg c4, if_pos c5]
    exact el
  · refine ⟨t, p3, s3, Ev.bind e1 ?_, htr, h3⟩
    simp only [if_neg c, e2, e3, Option.bind_some, if_neg c0, if_neg c1, if_neg c2, if_neg c3, if_neg c4, if_neg c5]
    exact Ev.now _
theorem pathAnyD {b : List Int} {p : Int} (h : Cur b p) (s : Int) {t : List S59} (ht : SmTr t) : ∃ l p' s', Ev (fun k => spec_l10Path.f k b p s t) (l, p', s') ∧ SmS l ∧ Cur b p' := by
  have ht24 := ht.1
  have hdraw : ∀ {q : Int}, Cur b q → ∀ u, ∃ l p' s', Ev (fun k => spec_l10Path.j0 k t false b q u) (l, p', s') ∧ SmS l ∧ Cur b p' := fun hq u => by
    obtain ⟨l, q1, u1, e, hl, hq1⟩ := l2DrawD hq u
    refine ⟨l, q1, u1, ?_, hl.sm (by omega), hq1⟩
    refine Ev.step (fun k => spec_l10Path.j0.eq_2 ..) ?_
    simp only [Bool.false_eq_true, if_false]
    exact Ev.bind e (Ev.now _)
  unfold spec_l10Path.f
  by_cases c : (t.length : Int) > 0
  · simp only [if_pos c]
    obtain ⟨d, p1, s1, e1, h1⟩ := onceD h s 3
    cases d with
    | true =>
      obtain ⟨l, p2, s2, e2, hl, h2⟩ := hdraw h1 s1
      refine ⟨l, p2, s2, ?_, hl, h2⟩
      simp only [e1, Option.bind_some, Bool.not_true]
      exact e2
    | false =>
      obtain ⟨v, p2, s2, e2, v0, v1, h2⟩ := belowD h1 s1 (n := (t.length : Int)) (by omega)
      obtain ⟨pre, r, suf, et, ei⟩ := split_at v0 v1
      have hr := ht.2 r (by rw [et]; simp)
      have hr8 := hr.2
      obtain ⟨d, p3, s3, e3, h3⟩ := onceD h2 s2 3
      subst ei
      have hrd := rd_implRes et
      have hlt := lt_at et
      cases d with
      | true =>
        obtain ⟨x, p4, s4, e4, m, h4⟩ := nameD h3 s3
        refine ⟨r.f0 ++ [x], p4, s4, ?_, ⟨by simp; omega, fun y hy => ?_⟩, h4⟩
        · simp only [e1, Option.bind_some, Bool.not_false]
          refine Ev.step (fun k => spec_l10Path.j0.eq_2 ..) ?_
          simp only [if_true, Option.bind_some, e2, if_pos (nonneg_at _), if_pos hlt, hrd, List.length_nil, Nat.zero_add, if_pos (show r.f0.length < 8796093022208 by omega), e3, e4, List.nil_append]
          exact Ev.now _
        · rcases List.mem_append.1 hy with hy | hy
          · exact hr.1.1.2 y hy
          · simp at hy; subst hy; omega
      | false =>
        refine ⟨r.f0, p3, s3, ?_, hr.1.1, h3⟩
        simp only [e1, Option.bind_some, Bool.not_false]
        refine Ev.step (fun k => spec_l10Path.j0.eq_2 ..) ?_
        simp only [if_true, Option.bind_some, e2, if_pos (nonneg_at _), if_pos hlt, hrd, List.length_nil, Nat.zero_add, if_pos (show r.f0.length < 8796093022208 by omega), e3, Bool.false_eq_true, if_false, List.nil_append]
        exact Ev.now _
  · simp only [if_neg c]
    exact hdraw h s
theorem drawTreeOkD {code : List Int} (hc : code.length ≤ 1048576) : ∃ t, Ev (fun k => spec_DrawTreeOk.f k code) t ∧ SmTr t := by
  unfold spec_DrawTreeOk.f
  obtain ⟨s0, e0⟩ := newD hc
  obtain ⟨t, p1, s1, e1, ht, h1⟩ := l10AnyD (cur0 hc) s0
  exact ⟨t, Ev.bind e0 (Ev.bind e1 (Ev.now _)), ht⟩
theorem drawFindResD {code : List Int} (hc : code.length ≤ 1048576) : ∃ t p, Ev (fun k => spec_DrawFindRes.f k code) (t, p) ∧ SmTr t ∧ SmS p := by
  unfold spec_DrawFindRes.f
  obtain ⟨s0, e0⟩ := newD hc
  obtain ⟨t, p1, s1, e1, ht, h1⟩ := l10AnyD (cur0 hc) s0
  obtain ⟨p, p2, s2, e2, hp, h2⟩ := pathAnyD h1 s1 ht
  exact ⟨t, p, Ev.bind e0 (Ev.bind e1 (Ev.bind e2 (Ev.now _))), ht, hp⟩
theorem drawLessPathD {code : List Int} (hc : code.length ≤ 1048576) : ∃ x y, Ev (fun k => spec_DrawLessPath.f k code) (x, y) ∧ x.length ≤ 8 ∧ y.length ≤ 8 := by
  unfold spec_DrawLessPath.f spec_DrawUnder.f
  obtain ⟨s0, e0⟩ := newD hc
  obtain ⟨x, p1, s1, e1, hx, h1⟩ := l2AnyD (cur0 hc) s0
  obtain ⟨d, p2, s2, e2, h2⟩ := onceD h1 s1 2
  have hx8 := hx.1
  have hw : wrap64 ((x.length : Int) + 1) = (x.length : Int) + 1 := wrap_id (by omega) (by omega)
  cases d with
  | true =>
    obtain ⟨v, p3, s3, e3, v0, v1, h3⟩ := belowD h2 s2 (n := (x.length : Int) + 1) (by omega)
    refine ⟨x, x.take (v : Int).toNat, Ev.bind (a := (x, x.take (v : Int).toNat)) (Ev.bind e0 (Ev.bind e1 ?_)) (Ev.now _), hx8, by rw [List.length_take]; omega⟩
    simp only [e2, Option.bind_some, if_true, hw, e3, if_pos v0, if_pos (show v ≤ (x.length : Int) by omega)]
    exact Ev.now _
  | false =>
    obtain ⟨y, p3, s3, e3, hy, h3⟩ := l2AnyD h2 s2
    refine ⟨x, y, Ev.bind (a := (x, y)) (Ev.bind e0 (Ev.bind e1 ?_)) (Ev.now _), hx8, hy.1⟩
    simp only [e2, Option.bind_some, Bool.false_eq_true, if_false]
    exact Ev.bind e3 (Ev.now _)
theorem drawAboveD {code : List Int} (hc : code.length ≤ 1048576) : ∃ q, Ev (fun k => spec_DrawAbove.f k code) q ∧ q.length ≤ 8 := by
  unfold spec_DrawAbove.f
  obtain ⟨s0, e0⟩ := newD hc
  obtain ⟨q, p1, s1, e1, hq, h1⟩ := l2AnyD (cur0 hc) s0
  exact ⟨q, Ev.bind e0 (Ev.bind e1 (Ev.now _)), hq.1⟩
end Go.Proofs.Yteabkidfgdmmpaa.L
