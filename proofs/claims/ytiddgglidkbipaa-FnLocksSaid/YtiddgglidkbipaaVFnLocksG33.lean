/- The law FnLocks computes true: a lock that is added is there, and clashes with none; dropped it is gone; all others stay. No condition. -/
import Derived.Test.YtiddgglidkbipaaVFnLocksG22
import Derived.Test.YtiddgglidkbipaaVFnLocksG27
import Derived.Test.YtiddgglidkbipaaVFnLocksG31
import Derived.Test.YtiddgglidkbipaaVFnLocksG32
set_option linter.unusedSimpArgs false
set_option linter.unusedVariables false
namespace Go.Proofs.Ytiddgglidkbipaa.Pure
open Go.RowKit Go.Proofs.YtiddgglidkbipaaW.PrintWords Go.Proofs.YtiddgglidkbipaaW.PrintLast Go.Proofs.Ytiddgglidkbipaa.Q Go.Proofs.Ytiddgglidkbipaa.L
theorem FnLocks : ∀ (x0 : List Int), (fun l : List Int => l.length ≤ maxLen ∧ ∀ a ∈ l, (fun x : Int => (Lit.int .u8 x).wf = true) a) x0 → ∃ k, laws_FnLocks.f k x0 = some true := by
  intro code h0
  apply Ev.rounds
  unfold laws_FnLocks.f laws_big.f
  simp only [Option.bind_some]
  by_cases c : ((code.length : Int) > 1048576)
  · simp only [decide_eq_true c, if_true]; exact Ev.now _
  simp only [decide_eq_false c, Bool.false_eq_true, if_false]
  have hc : code.length ≤ 1048576 := by omega
  obtain ⟨t, x, e1, ht6, hx⟩ := drawAddLockD hc
  have ht : SmLocks t := ⟨by have := ht6.1; omega, ht6.2⟩
  refine Ev.bind e1 ?_
  refine Ev.bind (implAdd ht hx) ?_
  refine Ev.bind (specAdd ht hx) ?_
  have hm := add_sm ht hx
  simp only [bne_self_eq_false, Bool.false_eq_true, if_false]
  refine Ev.bind (sameLocksD hm) ?_
  simp only [if_true]
  refine Ev.step (fun k => laws_FnLocks.j0.eq_2 ..) ?_
  unfold addL at hm ⊢
  by_cases cok : locksOk (t ++ [x]) = true
  · simp only [if_pos cok, Bool.not_true, Bool.false_eq_true, if_false] at hm ⊢
    refine Ev.bind (implDrop hm) ?_
    have hfree := last_free cok
    have hlm : (t ++ [x]).length ≤ 7 := by have := ht6.1; simp; omega
    rw [has_last, drop_last t x (fun y hy => (hfree y hy).1)]
    have hl : t.length ≤ maxLen := by have := ht.1; rw [maxLen_eq]; omega
    have htok := token_last t x
    have htl : (tokensAt x.f1 (t ++ [x])).length ≤ maxLen := by have := tokens_length x.f1 (t ++ [x]); rw [maxLen_eq]; omega
    have fin : Ev (fun k => laws_FnLocks.l1 k t (t ++ [x]) t true true (tokensAt x.f1 (t ++ [x])) ((tokensAt x.f1 (t ++ [x])).length : Int) x.f0 x.f1 x.f2 x.f3 x.f4) true := by
      refine Ev.step (fun k => laws_FnLocks.l1.eq_2 ..) ?_
      simp only [Int.lt_irrefl, if_false, if_true]
      refine Ev.bind (sameLocksD ht) ?_
      simp only [if_true]
      refine Ev.bind (implLocksOk hm) ?_
      simp only [cok, if_true]
      refine Ev.bind (implMayTurn hm hx.2.1.1 (by simp)) ?_
      simp only [may_last, Bool.false_eq_true, if_false]
      by_cases c3 : x.f3 = true
      · simp only [if_pos c3]; exact Ev.now _
      · simp only [if_neg c3]
        refine Ev.bind (implMayTurn hm hx.2.1.1 (by rw [maxLen_eq]; simp)) ?_
        rw [may_all (t ++ [x]) false (lone_only cok (by simpa using c3))]
        exact Ev.now _
    have key1 : ∀ (suf pre : List Int) (b : Bool), tokensAt x.f1 (t ++ [x]) = pre ++ suf → (b = true ∨ x.f0 ∈ suf) → Ev (fun k => laws_FnLocks.l1 k t (t ++ [x]) t true b (tokensAt x.f1 (t ++ [x])) pre.length x.f0 x.f1 x.f2 x.f3 x.f4) true := by
      intro suf
      induction suf with
      | nil =>
        intro pre b h hb
        rcases hb with rfl | hb
        · have : pre = tokensAt x.f1 (t ++ [x]) := by rw [h]; simp
          rw [this]
          exact fin
        · cases hb
      | cons a suf ih =>
        intro pre b h hb
        refine Ev.step (fun k => laws_FnLocks.l1.eq_2 ..) ?_
        simp only [if_pos (lt_at h), if_pos (nonneg_at _), rd_int h, next_at h htl]
        by_cases cb : b = true
        · simp only [if_pos cb]
          exact ih (pre ++ [a]) true (snoc_at h) (.inl rfl)
        · simp only [if_neg cb]
          refine ih (pre ++ [a]) _ (snoc_at h) ?_
          by_cases ca : a = x.f0
          · exact .inl (by rw [ca, beq_self_eq_true])
          · rcases hb with hb | hb
            · exact absurd hb cb
            · rcases List.mem_cons.1 hb with hb | hb
              · exact absurd hb.symm ca
              · exact .inr hb
    have key : ∀ (suf pre : List S28), t = pre ++ suf → Ev (fun k => laws_FnLocks.l0 k t (t ++ [x]) t true pre.length x.f0 x.f1 x.f2 x.f3 x.f4) true := by
      intro suf
      induction suf with
      | nil =>
        intro pre h
        refine Ev.step (fun k => laws_FnLocks.l0.eq_2 ..) ?_
        simp only [if_neg (end_at h)]
        refine Ev.bind (implTokens hm hx.2.1.1) ?_
        exact key1 (tokensAt x.f1 (t ++ [x])) [] false rfl (.inr htok)
      | cons a suf ih =>
        intro pre h
        have hmem : a ∈ t := by rw [h]; simp
        have ha := ht.2 a hmem
        refine Ev.step (fun k => laws_FnLocks.l0.eq_2 ..) ?_
        simp only [if_pos (lt_at h), if_pos (nonneg_at _), rd_implLock h, next_at h hl]
        refine Ev.bind (implClash ha hx) ?_
        simp only [(hfree a hmem).2, Bool.false_eq_true, if_false]
        refine Ev.bind (implClash hx ha) ?_
        rw [clash_comm x a]
        simp only [(hfree a hmem).2, Bool.false_eq_true, if_false]
        exact ih (pre ++ [a]) (snoc_at h)
    exact key t [] rfl
  · simp only [if_neg cok, Bool.not_false, if_true, beq_self_eq_true] at hm ⊢
    exact Ev.bind (sameLocksD ht) (Ev.now _)
end Go.Proofs.Ytiddgglidkbipaa.Pure
