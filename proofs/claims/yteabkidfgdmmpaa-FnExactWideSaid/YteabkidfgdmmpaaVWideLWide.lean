/- How many bytes all bodies have; as the program and the reference have it. No condition. -/
import Derived.Test.YteabkidfgdmmpaaVWideQx0
import Derived.Test.YteabkidfgdmmpaaVWideQx10
import Derived.Test.YteabkidfgdmmpaaVWideLRes
set_option linter.unusedSimpArgs false
set_option linter.unusedVariables false
namespace Go.Proofs.Yteabkidfgdmmpaa.L
open Go.RowKit Go.Proofs.YteabkidfgdmmpaaW.PrintWords Go.Proofs.YteabkidfgdmmpaaW.PrintLast Go.Proofs.Yteabkidfgdmmpaa.Q
def wide : List S59 → Int → Int
  | [], n => n
  | r :: t, n => wide t (n + r.f2.size)
theorem specWide {t : List S59} (ht : SmRess t) : Ev (fun k => spec_Wide.f k t) (wide t 0) := by
  have hl : t.length ≤ maxLen := by have := ht.1; rw [maxLen_eq]; omega
  have key : ∀ (suf pre : List S59) (n : Int), t = pre ++ suf → 0 ≤ n → n + 1048576 * suf.length ≤ 1099511627776 → Ev (fun k => spec_Wide.l0 k t n pre.length) (wide suf n) := by
    intro suf
    induction suf with
    | nil =>
      intro pre n h h0 h1
      refine Ev.step (fun k => spec_Wide.l0.eq_2 ..) ?_
      simp only [if_neg (end_at h)]
      exact Ev.now _
    | cons a suf ih =>
      intro pre n h h0 h1
      have hs := (ht.2 a (by rw [h]; simp)).2.2.1
      rw [List.length_cons] at h1
      refine Ev.step (fun k => spec_Wide.l0.eq_2 ..) ?_
      simp only [if_pos (lt_at h), if_pos (nonneg_at _), rd_implRes h, next_at h hl, wrap_id (x := n + (a.f2.size : Int)) (by omega) (by omega)]
      exact ih (pre ++ [a]) _ (snoc_at h) (by omega) (by omega)
  exact key t [] 0 rfl (by omega) (by have := ht.1; omega)
theorem implWide {t : List S59} (ht : SmRess t) : Ev (fun k => impl_Wide.f k t) (wide t 0) := by
  have hl : t.length ≤ maxLen := by have := ht.1; rw [maxLen_eq]; omega
  have key : ∀ (suf pre : List S59) (n : Int), t = pre ++ suf → 0 ≤ n → n + 1048576 * suf.length ≤ 1099511627776 → Ev (fun k => impl_Wide.l0 k n t (t.length : Int) pre.length) (wide suf n) := by
    intro suf
    induction suf with
    | nil =>
      intro pre n h h0 h1
      refine Ev.step (fun k => impl_Wide.l0.eq_2 ..) ?_
      simp only [if_neg (end_at h)]
      exact Ev.now _
    | cons a suf ih =>
      intro pre n h h0 h1
      have hs := (ht.2 a (by rw [h]; simp)).2.2.1
      rw [List.length_cons] at h1
      refine Ev.step (fun k => impl_Wide.l0.eq_2 ..) ?_
      simp only [if_pos (lt_at h), if_pos (nonneg_at _), rd_implRes h, next_at h hl, wrap_id (x := n + (a.f2.size : Int)) (by omega) (by omega)]
      exact ih (pre ++ [a]) _ (snoc_at h) (by omega) (by omega)
  exact key t [] 0 rfl (by omega) (by have := ht.1; omega)
end Go.Proofs.Yteabkidfgdmmpaa.L
