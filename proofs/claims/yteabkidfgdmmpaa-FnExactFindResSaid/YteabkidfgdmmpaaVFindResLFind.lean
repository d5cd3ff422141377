/- Shelves: the place of a thing, is it a shelf; as the program and the reference have it. No condition. -/
import Derived.Test.YteabkidfgdmmpaaVFindResQx0
import Derived.Test.YteabkidfgdmmpaaVFindResQx11
import Derived.Test.YteabkidfgdmmpaaVFindResQx12
import Derived.Test.YteabkidfgdmmpaaVFindResLRes
import Derived.Test.YteabkidfgdmmpaaVFindResLPath
set_option linter.unusedSimpArgs false
set_option linter.unusedVariables false
namespace Go.Proofs.Yteabkidfgdmmpaa.L
open Go.RowKit Go.Proofs.YteabkidfgdmmpaaW.PrintWords Go.Proofs.YteabkidfgdmmpaaW.PrintLast Go.Proofs.Yteabkidfgdmmpaa.Q
/-- The place of a path from a place on; -1. -/
def findFrom (p : List ByteArray) : List S59 → Nat → Int
  | [], _ => -1
  | r :: t, i => if r.f0 = p then (i : Int) else findFrom p t (i + 1)
def findR (t : List S59) (p : List ByteArray) : Int := findFrom p t 0
theorem specFind {t : List S59} {p : List ByteArray} (ht : SmRess t) : Ev (fun k => spec_FindRes.f k t p) (findR t p) := by
  have hl : t.length ≤ maxLen := by have := ht.1; rw [maxLen_eq]; omega
  have key : ∀ (suf pre : List S59), t = pre ++ suf → Ev (fun k => spec_FindRes.l0 k t p pre.length) (findFrom p suf pre.length) := by
    intro suf
    induction suf with
    | nil =>
      intro pre h
      refine Ev.step (fun k => spec_FindRes.l0.eq_2 ..) ?_
      simp only [if_neg (end_at h)]
      exact Ev.now _
    | cons a suf ih =>
      intro pre h
      have hs := (ht.2 a (by rw [h]; simp)).1.1
      refine Ev.step (fun k => spec_FindRes.l0.eq_2 ..) ?_
      simp only [if_pos (lt_at h), if_pos (nonneg_at _), rd_implRes h]
      refine Ev.bind (specSame (by rw [maxLen_eq]; omega)) ?_
      simp only [findFrom, next_at h hl]
      by_cases e : a.f0 = p
      · simp only [e, decide_true, if_true]
        exact Ev.now _
      · simp only [e, decide_false, Bool.false_eq_true, if_false]
        have := ih (pre ++ [a]) (snoc_at h)
        rw [List.length_append, List.length_singleton] at this ⊢
        exact this
  exact key t [] rfl
theorem implFind {t : List S59} {p : List ByteArray} (ht : SmRess t) : Ev (fun k => impl_FindRes.f k t p) (findR t p) := by
  have hl : t.length ≤ maxLen := by have := ht.1; rw [maxLen_eq]; omega
  have key : ∀ (suf pre : List S59), t = pre ++ suf → Ev (fun k => impl_FindRes.l0 k p t (t.length : Int) pre.length) (findFrom p suf pre.length) := by
    intro suf
    induction suf with
    | nil =>
      intro pre h
      refine Ev.step (fun k => impl_FindRes.l0.eq_2 ..) ?_
      simp only [if_neg (end_at h)]
      exact Ev.now _
    | cons a suf ih =>
      intro pre h
      have hs := (ht.2 a (by rw [h]; simp)).1.1
      refine Ev.step (fun k => impl_FindRes.l0.eq_2 ..) ?_
      simp only [if_pos (lt_at h), if_pos (nonneg_at _), rd_implRes h]
      refine Ev.bind (implSame (by rw [maxLen_eq]; omega)) ?_
      simp only [findFrom, next_at h hl]
      by_cases e : a.f0 = p
      · simp only [e, decide_true, if_true]
        exact Ev.now _
      · simp only [e, decide_false, Bool.false_eq_true, if_false]
        have := ih (pre ++ [a]) (snoc_at h)
        rw [List.length_append, List.length_singleton] at this ⊢
        exact this
  exact key t [] rfl
end Go.Proofs.Yteabkidfgdmmpaa.L
