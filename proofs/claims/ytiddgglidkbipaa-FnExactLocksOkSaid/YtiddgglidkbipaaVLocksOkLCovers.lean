/- What a lock covers, whether two clash; as the program and the reference have it. No condition. -/
import Derived.Test.YtiddgglidkbipaaVLocksOkQx0
import Derived.Test.YtiddgglidkbipaaVLocksOkQx1
import Derived.Test.YtiddgglidkbipaaVLocksOkQx2
import Derived.Test.YtiddgglidkbipaaVLocksOkQx3
import Derived.Test.YtiddgglidkbipaaVLocksOkLLock
import Derived.Test.YtiddgglidkbipaaVLocksOkLUnder
set_option linter.unusedSimpArgs false
set_option linter.unusedVariables false
namespace Go.Proofs.Ytiddgglidkbipaa.L
open Go.RowKit Go.Proofs.YtiddgglidkbipaaW.PrintWords Go.Proofs.YtiddgglidkbipaaW.PrintLast Go.Proofs.Ytiddgglidkbipaa.Q
def covers (x : S28) (p : List ByteArray) : Bool := decide (x.f1 = p) || (x.f2 && under p x.f1)
theorem specCovers {x : S28} {p : List ByteArray} (hx : SmLock x) (hp : p.length ≤ 1048576) : Ev (fun k => spec_Covers.f k x.f0 x.f1 x.f2 x.f3 x.f4 p) (covers x p) := by
  unfold spec_Covers.f covers
  refine Ev.bind (specSame (by have := hx.2.1.1; rw [maxLen_eq]; omega)) ?_
  by_cases e : x.f1 = p
  · simp only [e, decide_true, if_true, Bool.true_or]; exact Ev.now _
  · simp only [e, decide_false, Bool.false_eq_true, if_false, Bool.false_or]
    by_cases d : x.f2 = true
    · simp only [d, if_true, Bool.true_and]; exact Ev.bind (specUnder hp) (Ev.now _)
    · simp only [d, Bool.false_eq_true, if_false, Bool.false_and]; exact Ev.now _
theorem implCovers {x : S28} {p : List ByteArray} (hx : SmLock x) (hp : p.length ≤ 1048576) : Ev (fun k => impl_Covers.f k x.f0 x.f1 x.f2 x.f3 x.f4 p) (covers x p) := by
  unfold impl_Covers.f covers
  refine Ev.bind (implSame (by have := hx.2.1.1; rw [maxLen_eq]; omega)) ?_
  by_cases e : x.f1 = p
  · simp only [e, decide_true, if_true, Bool.true_or]; exact Ev.now _
  · simp only [e, decide_false, Bool.false_eq_true, if_false, Bool.false_or]
    by_cases d : x.f2 = true
    · simp only [d, if_true, Bool.true_and]; exact Ev.bind (implUnder hp) (Ev.now _)
    · simp only [d, Bool.false_eq_true, if_false, Bool.false_and]; exact Ev.now _
def clash (a b : S28) : Bool := !(a.f3 && b.f3) && (covers a b.f1 || covers b a.f1)
theorem clash_comm (a b : S28) : clash a b = clash b a := by
  unfold clash
  rw [Bool.and_comm a.f3 b.f3, Bool.or_comm]
theorem specClash {a b : S28} (ha : SmLock a) (hb : SmLock b) : Ev (fun k => spec_LockClash.f k a.f0 a.f1 a.f2 a.f3 a.f4 b.f0 b.f1 b.f2 b.f3 b.f4) (clash a b) := by
  have fin : Ev (fun k => (spec_Covers.f k a.f0 a.f1 a.f2 a.f3 a.f4 b.f1).bind fun t174 => if t174 = true then some true else (spec_Covers.f k b.f0 b.f1 b.f2 b.f3 b.f4 a.f1).bind fun t175 => some t175) (covers a b.f1 || covers b a.f1) := by
    refine Ev.bind (specCovers ha hb.2.1.1) ?_
    by_cases e : covers a b.f1 = true
    · simp only [e, if_true, Bool.true_or]; exact Ev.now _
    · simp only [e, Bool.false_eq_true, if_false, Bool.false_or]; exact Ev.bind (specCovers hb ha.2.1.1) (Ev.now _)
  unfold spec_LockClash.f clash
  by_cases ea : a.f3 = true <;> by_cases eb : b.f3 = true
  · simp only [ea, eb, if_true, Bool.and_self, Bool.not_true, Bool.false_and]; exact Ev.now _
  · simp only [ea, eb, Bool.false_eq_true, if_true, if_false, Bool.and_false, Bool.not_false, Bool.true_and] at fin ⊢; exact fin
  · simp only [ea, eb, Bool.false_eq_true, if_false, Bool.false_and, Bool.not_false, Bool.true_and] at fin ⊢; exact fin
  · simp only [ea, eb, Bool.false_eq_true, if_false, Bool.false_and, Bool.not_false, Bool.true_and] at fin ⊢; exact fin
theorem implClash {a b : S28} (ha : SmLock a) (hb : SmLock b) : Ev (fun k => impl_LockClash.f k a.f0 a.f1 a.f2 a.f3 a.f4 b.f0 b.f1 b.f2 b.f3 b.f4) (clash a b) := by
  have fin : Ev (fun k => (impl_Covers.f k a.f0 a.f1 a.f2 a.f3 a.f4 b.f1).bind fun t174 => if t174 = true then some true else (impl_Covers.f k b.f0 b.f1 b.f2 b.f3 b.f4 a.f1).bind fun t175 => some t175) (covers a b.f1 || covers b a.f1) := by
    refine Ev.bind (implCovers ha hb.2.1.1) ?_
    by_cases e : covers a b.f1 = true
    · simp only [e, if_true, Bool.true_or]; exact Ev.now _
    · simp only [e, Bool.false_eq_true, if_false, Bool.false_or]; exact Ev.bind (implCovers hb ha.2.1.1) (Ev.now _)
  unfold impl_LockClash.f clash
  by_cases ea : a.f3 = true <;> by_cases eb : b.f3 = true
  · simp only [ea, eb, if_true, Bool.and_self, Bool.not_true, Bool.false_and]; exact Ev.now _
  · simp only [ea, eb, Bool.false_eq_true, if_true, if_false, Bool.and_false, Bool.not_false, Bool.true_and] at fin ⊢; exact fin
  · simp only [ea, eb, Bool.false_eq_true, if_false, Bool.false_and, Bool.not_false, Bool.true_and] at fin ⊢; exact fin
  · simp only [ea, eb, Bool.false_eq_true, if_false, Bool.false_and, Bool.not_false, Bool.true_and] at fin ⊢; exact fin
end Go.Proofs.Ytiddgglidkbipaa.L
