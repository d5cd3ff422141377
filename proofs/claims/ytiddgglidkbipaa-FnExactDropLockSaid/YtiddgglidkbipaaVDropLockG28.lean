/- Marks on locks, found again. No condition. -/
import Derived.Test.YtiddgglidkbipaaVDropLockG24
import Derived.Test.YtiddgglidkbipaaVDropLockG22
import Derived.Test.YtiddgglidkbipaaVDropLockG27
set_option linter.unusedSimpArgs false
set_option linter.unusedVariables false
namespace Go.Proofs.Ytiddgglidkbipaa.L
open Go.RowKit Go.Proofs.YtiddgglidkbipaaW.PrintWords Go.Proofs.YtiddgglidkbipaaW.PrintLast Go.Proofs.Ytiddgglidkbipaa.Q
theorem mhLock {l : List S28} (hl : SmLocks l) {i : Int} (h0 : 0 ≤ i) (h1 : i + 1099515822080 ≤ 70368744177664) : MH laws_markLockS.f laws_heldLockS.f l i 1099515822080 := by
  have hl0 := hl.1
  obtain ⟨n, l', e0, e1, e2, e3, e4⟩ := mh_loop (fun k x i j => laws_markLockS.l0 k x i j) (fun k x i j => laws_heldLockS.l0 k x i j) SmLock 1048580 (by omega)
    (fun x i => by
      refine Ev.step (fun k => laws_markLockS.l0.eq_2 ..) ?_
      simp only [Int.lt_irrefl, if_false]; exact Ev.now _)
    (fun x i => by
      refine Ev.step (fun k => laws_heldLockS.l0.eq_2 ..) ?_
      simp only [Int.lt_irrefl, if_false]; exact Ev.now _)
    (fun a i ha h0 h1 => by
      have g1 := ha.2.1
      have w0 : wrap64 (i + 1) = i + 1 := wrap_id (by omega) (by omega)
      obtain ⟨n1, p', _, a1, a2, a3, a4⟩ := mhS g1.1 (i := i + 1) (by omega) (by omega)
      have w1 : wrap64 (n1 + 1) = n1 + 1 := wrap_id (by omega) (by omega)
      have w2 : wrap64 (n1 + 1 + 1) = n1 + 1 + 1 := wrap_id (by omega) (by omega)
      have w3 : wrap64 (n1 + 1 + 1 + 1) = n1 + 1 + 1 + 1 := wrap_id (by omega) (by omega)
      refine ⟨n1 + 1 + 1 + 1, ⟨i, p', (n1.tmod 3 == 0), ((n1 + 1).tmod 3 == 0), n1 + 1 + 1⟩, by omega, by omega, fun x pre suf h hx r hr => ?_, fun y pre suf h hy r hr => ?_⟩
      · have hx2 : x.length ≤ maxLen := by rw [maxLen_eq]; omega
        refine Ev.step (fun k => laws_markLockS.l0.eq_2 ..) ?_
        simp only [if_pos (lt_at h), if_pos (nonneg_at _), rd_implLock h, w0]
        refine Ev.bind a3 ?_
        simp only [w1, w2, w3, set_at h, next_at h hx2]
        simpa using hr
      · have hy2 : y.length ≤ maxLen := by rw [maxLen_eq]; omega
        refine Ev.step (fun k => laws_heldLockS.l0.eq_2 ..) ?_
        simp only [if_pos (lt_at h), if_pos (nonneg_at _), rd_implLock h, if_true, w0]
        refine Ev.bind a4 ?_
        simp only [if_neg (show ¬ n1 < 0 by omega), bne_self_eq_false, Bool.false_eq_true, if_false, if_true, w1, w2, w3, next_at h hy2]
        simpa using hr) l i hl.2 h0 (by omega)
  refine ⟨n, l', e0, e1, by omega, ?_, ?_⟩
  · exact e3 [] (by simpa using hl.1)
  · exact e4 [] (by simp; omega)
end Go.Proofs.Ytiddgglidkbipaa.L

/- The law FnExactDropLock computes true: the program and the reference say the same, the arguments stay, and nothing is shared. No condition. -/
set_option linter.unusedSimpArgs false
set_option linter.unusedVariables false
namespace Go.Proofs.Ytiddgglidkbipaa.Pure
open Go.RowKit Go.Proofs.YtiddgglidkbipaaW.PrintWords Go.Proofs.YtiddgglidkbipaaW.PrintLast Go.Proofs.Ytiddgglidkbipaa.Q Go.Proofs.Ytiddgglidkbipaa.L
theorem FnExactDropLock : ∀ (x0 : List (S24)) (x1 : Int), (fun l : List (S24) => l.length ≤ maxLen ∧ ∀ a ∈ l, G24 a) x0 → (fun x : Int => (Lit.int .i64 x).wf = true) x1 → ∃ k, laws_FnExactDropLock.f k x0 x1 = some true := by
  intro x0 x1 g0 g1
  apply Ev.rounds
  unfold laws_FnExactDropLock.f
  have hm : ∀ m : Nat, m ≤ 1048576 → m ≤ maxLen := fun m h => by rw [maxLen_eq]; omega
  refine Sz.ev (szLockS g0.1 g0.2 (n := 1048576) (by omega) (by omega)) (by simp only [show (-1 : Int) < 0 by omega, if_true]; exact Ev.now _) (fun m0 a0 b0 s0 => ?_)
  simp only [if_neg (show ¬ m0 < 0 by omega)]
  have hd0 := drop_sm (n := x1) s0
  refine Ev.bind (toLockS s0) ?_
  refine Ev.bind (specDrop s0) ?_
  refine Ev.bind (toLockS s0) ?_
  refine Ev.bind (implDrop s0) ?_
  refine Ev.bind (eqLockS hd0) ?_
  try simp only [eq_self, if_true, bne_self_eq_false, Bool.false_eq_true, if_false, decide_true, Bool.not_true]
  try simp only [eq_self, if_true, bne_self_eq_false, Bool.false_eq_true, if_false, decide_true, Bool.not_true]
  refine Ev.bind (toLockS s0) ?_
  refine Ev.bind (eqLockS s0) ?_
  try simp only [eq_self, if_true, bne_self_eq_false, Bool.false_eq_true, if_false, decide_true, Bool.not_true]
  obtain ⟨n0, l0, _, u0, v0, w0, _⟩ := mhLock s0 (i := 1) (by omega) (by omega)
  refine Ev.bind w0 ?_
  simp only [if_neg (show ¬ n0 < 0 by omega)]
  refine Ev.bind (eqLockS hd0) ?_
  try simp only [eq_self, if_true, bne_self_eq_false, Bool.false_eq_true, if_false, decide_true, Bool.not_true]
  try simp only [eq_self, if_true, bne_self_eq_false, Bool.false_eq_true, if_false, decide_true, Bool.not_true]
  obtain ⟨n1, l1, _, u1, v1, w1, z1⟩ := mhLock hd0 (i := 1) (by omega) (by omega)
  refine Ev.bind w1 ?_
  refine Ev.bind z1 ?_
  simp only [if_neg (show ¬ n1 < 0 by omega)]
  try simp only [eq_self, if_true, bne_self_eq_false, Bool.false_eq_true, if_false, decide_true, Bool.not_true]
  refine Ev.bind (toLockS s0) ?_
  refine Ev.bind (implDrop s0) ?_
  refine Ev.bind (eqLockS hd0) ?_
  try simp only [eq_self, if_true, bne_self_eq_false, Bool.false_eq_true, if_false, decide_true, Bool.not_true]
  try simp only [eq_self, if_true, bne_self_eq_false, Bool.false_eq_true, if_false, decide_true, Bool.not_true]
  refine Ev.bind z1 ?_
  simp only [if_neg (show ¬ n1 < 0 by omega)]
  try simp only [eq_self, if_true, bne_self_eq_false, Bool.false_eq_true, if_false, decide_true, Bool.not_true]
  exact Ev.now _
end Go.Proofs.Ytiddgglidkbipaa.Pure
