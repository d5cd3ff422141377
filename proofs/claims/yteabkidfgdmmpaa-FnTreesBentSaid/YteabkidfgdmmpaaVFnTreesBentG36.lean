/- The laws' own 'is it the same'. No condition. -/
import Derived.Test.YteabkidfgdmmpaaVFnTreesBentG35
set_option linter.unusedSimpArgs false
set_option linter.unusedVariables false
namespace Go.Proofs.Yteabkidfgdmmpaa.L
open Go.RowKit Go.Proofs.YteabkidfgdmmpaaW.PrintWords Go.Proofs.YteabkidfgdmmpaaW.PrintLast Go.Proofs.Yteabkidfgdmmpaa.Q
theorem sameTextsD {a b : List ByteArray} (hl : a.length ≤ 1048576) : Ev (fun k => laws_sameTexts.f k a b) (decide (a = b)) := by
  have hm : a.length ≤ maxLen := by rw [maxLen_eq]; omega
  unfold laws_sameTexts.f
  by_cases e : (a.length : Int) = (b.length : Int)
  · simp only [if_pos e]
    refine eq_loop (a := a) (b := b) (fun k i => laws_sameTexts.l0 k a b i) ?_ ?_ a b [] [] rfl rfl rfl (by omega)
    · show Ev (fun k => laws_sameTexts.l0 k a b a.length) true
      refine Ev.step (fun k => laws_sameTexts.l0.eq_2 ..) ?_
      simp only [Int.lt_irrefl, if_false]
      exact Ev.now _
    · intro pre x su pre' y sv h h' hp
      have h3 := rd_at ByteArray.empty h'
      have h4 := lt_at h'
      rw [← hp] at h3 h4
      refine ⟨fun hne => ?_, fun heq r hr => ?_⟩
      · refine Ev.step (fun k => laws_sameTexts.l0.eq_2 ..) ?_
        simp only [if_pos (lt_at h), if_pos (nonneg_at _), if_pos h4, rd_at ByteArray.empty h, h3, ba_eq, if_neg hne]
        exact Ev.now _
      · refine Ev.step (fun k => laws_sameTexts.l0.eq_2 ..) ?_
        simp only [if_pos (lt_at h), if_pos (nonneg_at _), if_pos h4, rd_at ByteArray.empty h, h3, ba_eq, if_pos heq, next_at h hm]
        exact hr
  · simp only [if_neg e]
    rw [show decide (a = b) = false from decide_eq_false (fun h => e (by rw [h]))]
    exact Ev.now _
theorem samePropsD (l : List S71) (hl : l.length ≤ 1048576) : Ev (fun k => laws_sameProps.f k l l) true := by
  unfold laws_sameProps.f
  simp only [if_true]
  have key : ∀ (suf pre : List S71), l = pre ++ suf → Ev (fun k => laws_sameProps.l0 k l l pre.length) true := by
    intro suf
    induction suf with
    | nil =>
      intro pre h
      refine Ev.step (fun k => laws_sameProps.l0.eq_2 ..) ?_
      simp only [if_neg (end_at h)]
      exact Ev.now _
    | cons a suf ih =>
      intro pre h
      refine Ev.step (fun k => laws_sameProps.l0.eq_2 ..) ?_
      simp only [if_pos (lt_at h), if_pos (nonneg_at _), beq_self_eq_true, Bool.not_true, Bool.or_self, Bool.false_eq_true, if_false, next_at h (show l.length ≤ maxLen by rw [maxLen_eq]; omega)]
      exact ih (pre ++ [a]) (snoc_at h)
  exact key l [] rfl
theorem sameResD {r : S59} (h : SmRes r) : Ev (fun k => laws_sameRes.f k r.f0 r.f1 r.f2 r.f3 r.f4 r.f0 r.f1 r.f2 r.f3 r.f4) true := by
  unfold laws_sameRes.f
  refine Ev.bind (sameTextsD (by have := h.1.1; omega)) ?_
  simp only [decide_true, beq_self_eq_true, if_true]
  exact Ev.bind (samePropsD _ h.2.2.2.2.1) (Ev.now _)
theorem sameTreeD {t : List S59} (ht : SmRess t) : Ev (fun k => laws_sameTree.f k t t) true := by
  have hl : t.length ≤ maxLen := by have := ht.1; rw [maxLen_eq]; omega
  unfold laws_sameTree.f
  simp only [if_true]
  have key : ∀ (suf pre : List S59), t = pre ++ suf → Ev (fun k => laws_sameTree.l0 k t t pre.length) true := by
    intro suf
    induction suf with
    | nil =>
      intro pre h
      refine Ev.step (fun k => laws_sameTree.l0.eq_2 ..) ?_
      simp only [if_neg (end_at h)]
      exact Ev.now _
    | cons a suf ih =>
      intro pre h
      refine Ev.step (fun k => laws_sameTree.l0.eq_2 ..) ?_
      simp only [if_pos (lt_at h), if_pos (nonneg_at _), rd_implRes h, next_at h hl]
      refine Ev.bind (sameResD (ht.2 a (by rw [h]; simp))) ?_
      simp only [if_true]
      exact ih (pre ++ [a]) (snoc_at h)
  exact key t [] rfl
end Go.Proofs.Yteabkidfgdmmpaa.L

/- The law FnTreesBent computes true: of drawn shelves, bent or not, each is right, found, and told just as the document has it. No condition. -/
set_option linter.unusedSimpArgs false
set_option linter.unusedVariables false
namespace Go.Proofs.Yteabkidfgdmmpaa.Pure
open Go.RowKit Go.Proofs.YteabkidfgdmmpaaW.PrintWords Go.Proofs.YteabkidfgdmmpaaW.PrintLast Go.Proofs.Yteabkidfgdmmpaa.Q Go.Proofs.Yteabkidfgdmmpaa.L
theorem samePathsD {l : List (List ByteArray)} (hl : l.length ≤ maxLen) (hs : ∀ p ∈ l, p.length ≤ 1048576) : Ev (fun k => laws_samePaths.f k l l) true := by
  unfold laws_samePaths.f
  simp only [if_true]
  have key : ∀ (suf pre : List (List ByteArray)), l = pre ++ suf → Ev (fun k => laws_samePaths.l0 k l l pre.length) true := by
    intro suf
    induction suf with
    | nil =>
      intro pre h
      refine Ev.step (fun k => laws_samePaths.l0.eq_2 ..) ?_
      simp only [if_neg (end_at h)]
      exact Ev.now _
    | cons a suf ih =>
      intro pre h
      have hr : rd_L4 l (pre.length : Int) = a := getD_at _ h
      refine Ev.step (fun k => laws_samePaths.l0.eq_2 ..) ?_
      simp only [if_pos (lt_at h), if_pos (nonneg_at _), hr, next_at h hl]
      refine Ev.bind (sameTextsD (hs a (by rw [h]; simp))) ?_
      simp only [decide_true, if_true]
      exact ih (pre ++ [a]) (snoc_at h)
  exact key l [] rfl
theorem FnTreesBent : ∀ (x0 : List Int), (fun l : List Int => l.length ≤ maxLen ∧ ∀ a ∈ l, (fun x : Int => (Lit.int .u8 x).wf = true) a) x0 → ∃ k, laws_FnTreesBent.f k x0 = some true := by
  intro code h0
  apply Ev.rounds
  unfold laws_FnTreesBent.f laws_big.f
  simp only [Option.bind_some]
  by_cases c : ((code.length : Int) > 1048576)
  · simp only [decide_eq_true c, if_true]; exact Ev.now _
  simp only [decide_eq_false c, Bool.false_eq_true, if_false]
  have hc : code.length ≤ 1048576 := by omega
  obtain ⟨t, e1, ht⟩ := drawTreeOkD hc
  obtain ⟨a, p, e2, ha, hp⟩ := drawFindResD hc
  obtain ⟨l, e3, hl⟩ := drawPropsOkD hc
  obtain ⟨x, y, e4, hx, hy⟩ := drawLessPathD hc
  obtain ⟨q, e5, hq⟩ := drawAboveD hc
  have hts := ht.sm
  have has := ha.sm
  refine Ev.bind e1 (Ev.bind e2 (Ev.bind e3 (Ev.bind e4 (Ev.bind e5 ?_))))
  refine Ev.bind (implTreeOk hts) (Ev.bind (specTreeOk hts) ?_)
  simp only [beq_self_eq_true, if_true]
  refine Ev.bind (implFind has) (Ev.bind (specFind has) ?_)
  simp only [if_true]
  refine Ev.bind (implIsColl has) (Ev.bind (specIsColl has) ?_)
  simp only [beq_self_eq_true, if_true]
  have hk := kids_length p a
  have hd := deep_length p a
  have ha24 := ha.1
  refine Ev.bind (implKids has hp.1) (Ev.bind (specKids has hp.1) (Ev.bind (samePathsD (by rw [maxLen_eq]; omega) (fun z hz => ?_)) ?_))
  · obtain ⟨r, hr, e⟩ := List.mem_map.1 hz
    have := (has.2 r (List.mem_filter.1 hr).1).1.1
    rw [← e]
    exact this
  simp only [if_true]
  refine Ev.bind (implDeep has hp.1) (Ev.bind (specDeep has hp.1) (Ev.bind (sameTreeD (t := deepOf p a) ⟨by omega, fun r hr => ?_⟩) ?_))
  · unfold deepOf at hr
    exact has.2 r (List.mem_filter.1 hr).1
  simp only [if_true]
  refine Ev.bind (implPropsOk hl.sm) (Ev.bind (specPropsOk hl.sm) ?_)
  simp only [beq_self_eq_true, if_true]
  have hxm : x.length ≤ maxLen := by rw [maxLen_eq]; omega
  have hym : y.length ≤ maxLen := by rw [maxLen_eq]; omega
  refine Ev.bind (implLess hxm) (Ev.bind (specLess hxm) ?_)
  have hab : (above q).length ≤ 1048576 := by unfold above; simp; omega
  simp only [beq_self_eq_true, if_true, implAbove (p := q) (by omega), specAbove (p := q) (by omega), Option.bind_some]
  refine Ev.bind (sameTextsD hab) ?_
  simp only [decide_true, if_true]
  refine Ev.bind (implLess hxm) ?_
  by_cases cl : lessP x y = true
  · simp only [if_pos cl]
    refine Ev.bind (implLess hym) ?_
    have hyx : lessP y x = false := by
      cases hh : lessP y x with
      | false => rfl
      | true => have := lessP_trans cl hh; rw [lessP_irrefl] at this; cases this
    rw [hyx]
    exact Ev.now _
  · simp only [if_neg cl]
    exact Ev.now _
end Go.Proofs.Yteabkidfgdmmpaa.Pure
