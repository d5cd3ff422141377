/- The law FnExactLiveLocks computes true: the program and the reference say the same, the arguments stay, and nothing is shared. No condition. -/
import Derived.Test.YtiddgglidkbipaaVLiveLocksG24
import Derived.Test.YtiddgglidkbipaaVLiveLocksG22
set_option linter.unusedSimpArgs false
set_option linter.unusedVariables false
namespace Go.Proofs.Ytiddgglidkbipaa.Pure
open Go.RowKit Go.Proofs.YtiddgglidkbipaaW.PrintWords Go.Proofs.YtiddgglidkbipaaW.PrintLast Go.Proofs.Ytiddgglidkbipaa.Q Go.Proofs.Ytiddgglidkbipaa.L
theorem FnExactLiveLocks : ∀ (x0 : List (S24)) (x1 : Int), (fun l : List (S24) => l.length ≤ maxLen ∧ ∀ a ∈ l, G24 a) x0 → (fun x : Int => (Lit.int .i64 x).wf = true) x1 → ∃ k, laws_FnExactLiveLocks.f k x0 x1 = some true := by
  intro x0 x1 g0 g1
  apply Ev.rounds
  unfold laws_FnExactLiveLocks.f
  have hm : ∀ m : Nat, m ≤ 1048576 → m ≤ maxLen := fun m h => by rw [maxLen_eq]; omega
  refine Sz.ev (szLockS g0.1 g0.2 (n := 1048576) (by omega) (by omega)) (by simp only [show (-1 : Int) < 0 by omega, if_true]; exact Ev.now _) (fun m0 a0 b0 s0 => ?_)
  simp only [if_neg (show ¬ m0 < 0 by omega)]
  have hd0 := live_sm (now := x1) s0
  refine Ev.bind (toLockS s0) ?_
  refine Ev.bind (specLive s0) ?_
  refine Ev.bind (toLockS s0) ?_
  refine Ev.bind (implLive s0) ?_
  refine Ev.bind (eqLockS hd0) ?_
  try simp only [eq_self, if_true, bne_self_eq_false, Bool.false_eq_true, if_false, decide_true, Bool.not_true]
  try simp only [eq_self, if_true, bne_self_eq_false, Bool.false_eq_true, if_false, decide_true, Bool.not_true]
  refine Ev.bind (toLockS s0) ?_
  refine Ev.bind (eqLockS s0) ?_
  try simp only [eq_self, if_true, bne_self_eq_false, Bool.false_eq_true, if_false, decide_true, Bool.not_true]
  obtain ⟨n0, l0, _, u0, v0, w0, _⟩ := mhLock s0 (i := 1) (by omega) (by omega)
  refine Ev.bind w0 ?_
  simp only [if_neg (show ¬ n0 < 0 by omega)]
  refine Ev.bind (eqLockS hd0) ?_
  try simp only [eq_self, if_true, bne_self_eq_false, Bool.false_eq_true, if_false, decide_true, Bool.not_true]
  try simp only [eq_self, if_true, bne_self_eq_false, Bool.false_eq_true, if_false, decide_true, Bool.not_true]
  obtain ⟨n1, l1, _, u1, v1, w1, z1⟩ := mhLock hd0 (i := 1) (by omega) (by omega)
  refine Ev.bind w1 ?_
  refine Ev.bind z1 ?_
  simp only [if_neg (show ¬ n1 < 0 by omega)]
  try simp only [eq_self, if_true, bne_self_eq_false, Bool.false_eq_true, if_false, decide_true, Bool.not_true]
  refine Ev.bind (toLockS s0) ?_
  refine Ev.bind (implLive s0) ?_
  refine Ev.bind (eqLockS hd0) ?_
  try simp only [eq_self, if_true, bne_self_eq_false, Bool.false_eq_true, if_false, decide_true, Bool.not_true]
  try simp only [eq_self, if_true, bne_self_eq_false, Bool.false_eq_true, if_false, decide_true, Bool.not_true]
  refine Ev.bind z1 ?_
  simp only [if_neg (show ¬ n1 < 0 by omega)]
  try simp only [eq_self, if_true, bne_self_eq_false, Bool.false_eq_true, if_false, decide_true, Bool.not_true]
  exact Ev.now _
end Go.Proofs.Ytiddgglidkbipaa.Pure
