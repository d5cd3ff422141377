/- Are locks right; as the program and the reference have it. No condition. -/
import Derived.Test.YtiddgglidkbipaaVLocksOkQx0
import Derived.Test.YtiddgglidkbipaaVLocksOkQx12
import Derived.Test.YtiddgglidkbipaaVLocksOkQx14
import Derived.Test.YtiddgglidkbipaaVLocksOkQx15
import Derived.Test.YtiddgglidkbipaaVLocksOkLCovers
import Derived.Test.YtiddgglidkbipaaVLocksOkLNameOk
set_option linter.unusedSimpArgs false
set_option linter.unusedVariables false
namespace Go.Proofs.Ytiddgglidkbipaa.L
open Go.RowKit Go.Proofs.YtiddgglidkbipaaW.PrintWords Go.Proofs.YtiddgglidkbipaaW.PrintLast Go.Proofs.Ytiddgglidkbipaa.Q
def lockOk (x : S28) : Bool := decide (1 ≤ x.f0 ∧ x.f0 ≤ 9999) && (pathOk x.f1 && decide (0 ≤ x.f4 ∧ x.f4 ≤ 9999999))
theorem specLockOk {x : S28} (hx : SmLock x) : Ev (fun k => spec_LockOk.f k x.f0 x.f1 x.f2 x.f3 x.f4) (lockOk x) := by
  unfold spec_LockOk.f lockOk
  simp only [specIn, Option.bind_some, decide_eq_true_eq]
  by_cases c0 : 1 ≤ x.f0 ∧ x.f0 ≤ 9999
  · simp only [if_pos c0, c0, and_self, decide_true, Bool.true_and]
    refine Ev.bind (specPathOk hx.2.1) ?_
    by_cases c1 : pathOk x.f1 = true
    · simp only [c1, if_true, Bool.true_and]; exact Ev.now _
    · simp only [c1, Bool.false_eq_true, if_false, Bool.false_and]; exact Ev.now _
  · simp only [if_neg c0, c0, decide_false, Bool.false_and]; exact Ev.now _
theorem implLockOk {x : S28} (hx : SmLock x) : Ev (fun k => impl_LockOk.f k x.f0 x.f1 x.f2 x.f3 x.f4) (lockOk x) := by
  unfold impl_LockOk.f lockOk
  simp only [implIn, Option.bind_some, decide_eq_true_eq]
  by_cases c0 : 1 ≤ x.f0 ∧ x.f0 ≤ 9999
  · simp only [if_pos c0, c0, and_self, decide_true, Bool.true_and]
    refine Ev.bind (implPathOk hx.2.1) ?_
    by_cases c1 : pathOk x.f1 = true
    · simp only [c1, if_true, Bool.true_and]; exact Ev.now _
    · simp only [c1, Bool.false_eq_true, if_false, Bool.false_and]; exact Ev.now _
  · simp only [if_neg c0, c0, decide_false, Bool.false_and]; exact Ev.now _
/-- None of l has the token of x or clashes with it. -/
def freeOf (x : S28) (l : List S28) : Bool := l.all (fun y => decide (y.f0 ≠ x.f0) && !clash y x)
def locksL : List S28 → List S28 → Bool
  | _, [] => true
  | pre, x :: l => lockOk x && (freeOf x pre && locksL (pre ++ [x]) l)
def locksOk (l : List S28) : Bool := locksL [] l && decide ((l.length : Int) ≤ 6)
theorem specLocksOk {t : List S28} (ht : SmLocks t) : Ev (fun k => spec_LocksOk.f k t) (locksOk t) := by
  have hl : t.length ≤ maxLen := by have := ht.1; rw [maxLen_eq]; omega
  have inner : ∀ (a : S28) (suf pre : List S28) (R : Bool), t = pre ++ a :: suf → Ev (fun k => spec_LocksOk.l0 k t (wrap64 ((pre.length : Int) + 1))) R → ∀ (su pr : List S28), pre = pr ++ su → Ev (fun k => spec_LocksOk.l1 k t pre.length pr.length) (freeOf a su && R) := by
    intro a suf pre R h hR su
    have ha := ht.2 a (by rw [h]; simp)
    induction su with
    | nil =>
      intro pr hp
      refine Ev.step (fun k => spec_LocksOk.l1.eq_2 ..) ?_
      simp only [if_neg (end_at hp), freeOf, List.all_nil, Bool.true_and]
      exact hR
    | cons y su ih =>
      intro pr hp
      have hy := ht.2 y (by rw [h, hp]; simp)
      have hpt : t = pr ++ y :: (su ++ a :: suf) := by rw [h, hp]; simp
      refine Ev.step (fun k => spec_LocksOk.l1.eq_2 ..) ?_
      simp only [if_pos (lt_at hp), if_pos (nonneg_at _), if_pos (lt_at hpt), if_pos (lt_at h), rd_implLock h, rd_implLock hpt, freeOf, List.all_cons]
      by_cases c0 : y.f0 = a.f0
      · simp only [if_pos c0, c0, ne_eq, not_true_eq_false, decide_false, Bool.false_and]; exact Ev.now _
      · simp only [if_neg c0, ne_eq, c0, not_false_eq_true, decide_true, Bool.true_and]
        refine Ev.bind (specClash hy ha) ?_
        by_cases c1 : clash y a = true
        · simp only [c1, if_true, Bool.not_true, Bool.false_and]; exact Ev.now _
        · simp only [c1, Bool.false_eq_true, if_false, Bool.not_false, Bool.true_and, next_at hpt hl]
          exact ih (pr ++ [y]) (snoc_at hp)
  have key : ∀ (suf pre : List S28), t = pre ++ suf → Ev (fun k => spec_LocksOk.l0 k t pre.length) (locksL pre suf && decide ((t.length : Int) ≤ 6)) := by
    intro suf
    induction suf with
    | nil =>
      intro pre h
      refine Ev.step (fun k => spec_LocksOk.l0.eq_2 ..) ?_
      simp only [if_neg (end_at h), locksL, Bool.true_and]
      exact Ev.now _
    | cons a suf ih =>
      intro pre h
      have hn := ih (pre ++ [a]) (snoc_at h)
      rw [← next_at h hl] at hn
      refine Ev.step (fun k => spec_LocksOk.l0.eq_2 ..) ?_
      simp only [if_pos (lt_at h), if_pos (nonneg_at _), rd_implLock h]
      refine Ev.bind (specLockOk (ht.2 a (by rw [h]; simp))) ?_
      simp only [locksL]
      by_cases c0 : lockOk a = true
      · simp only [c0, if_true, Bool.true_and, Bool.and_assoc]
        exact inner a suf pre _ h hn pre [] rfl
      · simp only [c0, Bool.false_eq_true, if_false, Bool.false_and]; exact Ev.now _
  exact key t [] rfl
theorem implLocksOk {t : List S28} (ht : SmLocks t) : Ev (fun k => impl_LocksOk.f k t) (locksOk t) := by
  have hl : t.length ≤ maxLen := by have := ht.1; rw [maxLen_eq]; omega
  have inner : ∀ (a : S28) (suf pre : List S28) (R : Bool), t = pre ++ a :: suf → Ev (fun k => impl_LocksOk.l0 k t t (t.length : Int) (wrap64 ((pre.length : Int) + 1))) R → ∀ (su pr : List S28), pre = pr ++ su → Ev (fun k => impl_LocksOk.l1 k t t (t.length : Int) pre.length pre (pre.length : Int) pr.length a.f0 a.f1 a.f2 a.f3 a.f4) (freeOf a su && R) := by
    intro a suf pre R h hR su
    have ha := ht.2 a (by rw [h]; simp)
    have hpl : pre.length ≤ maxLen := by have : t.length = pre.length + (suf.length + 1) := by rw [h]; simp
                                         omega
    induction su with
    | nil =>
      intro pr hp
      refine Ev.step (fun k => impl_LocksOk.l1.eq_2 ..) ?_
      simp only [if_neg (end_at hp), freeOf, List.all_nil, Bool.true_and]
      exact hR
    | cons y su ih =>
      intro pr hp
      have hy := ht.2 y (by rw [h, hp]; simp)
      refine Ev.step (fun k => impl_LocksOk.l1.eq_2 ..) ?_
      simp only [if_pos (lt_at hp), if_pos (nonneg_at _), rd_implLock hp, freeOf, List.all_cons]
      by_cases c0 : y.f0 = a.f0
      · simp only [c0, if_true, ne_eq, not_true_eq_false, decide_false, Bool.false_and]; exact Ev.now _
      · have c0' : ¬ a.f0 = y.f0 := fun e => c0 e.symm
        simp only [if_neg c0', ne_eq, c0, not_false_eq_true, decide_true, Bool.true_and]
        refine Ev.bind (implClash ha hy) ?_
        rw [clash_comm a y]
        by_cases c1 : clash y a = true
        · simp only [c1, if_true, Bool.not_true, Bool.false_and]; exact Ev.now _
        · simp only [c1, Bool.false_eq_true, if_false, Bool.not_false, Bool.true_and, next_at hp hpl]
          exact ih (pr ++ [y]) (snoc_at hp)
  have key : ∀ (suf pre : List S28), t = pre ++ suf → Ev (fun k => impl_LocksOk.l0 k t t (t.length : Int) pre.length) (locksL pre suf && decide ((t.length : Int) ≤ 6)) := by
    intro suf
    induction suf with
    | nil =>
      intro pre h
      refine Ev.step (fun k => impl_LocksOk.l0.eq_2 ..) ?_
      simp only [if_neg (end_at h), locksL, Bool.true_and]
      exact Ev.now _
    | cons a suf ih =>
      intro pre h
      have hn := ih (pre ++ [a]) (snoc_at h)
      rw [← next_at h hl] at hn
      refine Ev.step (fun k => impl_LocksOk.l0.eq_2 ..) ?_
      simp only [if_pos (lt_at h), if_pos (nonneg_at _), rd_implLock h]
      refine Ev.bind (implLockOk (ht.2 a (by rw [h]; simp))) ?_
      simp only [locksL]
      by_cases c0 : lockOk a = true
      · have ht2 : t.take ((pre.length : Nat) : Int).toNat = pre := by rw [h]; simp
        simp only [c0, if_true, Bool.true_and, Bool.and_assoc, if_pos (Int.le_of_lt (lt_at h)), ht2, Option.bind_some]
        exact inner a suf pre _ h hn pre [] rfl
      · simp only [c0, Bool.false_eq_true, if_false, Bool.false_and]; exact Ev.now _
  exact key t [] rfl
end Go.Proofs.Ytiddgglidkbipaa.L
