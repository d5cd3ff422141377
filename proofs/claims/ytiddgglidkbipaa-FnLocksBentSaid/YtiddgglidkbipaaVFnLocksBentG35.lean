/- May one with tokens turn a thing; as the program and the reference have it. No condition. -/
import Derived.Test.YtiddgglidkbipaaVFnLocksBentG22
import Derived.Test.YtiddgglidkbipaaVFnLocksBentG25
import Derived.Test.YtiddgglidkbipaaVFnLocksBentG34
import Derived.Test.YtiddgglidkbipaaVFnLocksBentG33
import Derived.Test.YtiddgglidkbipaaVFnLocksBentG26
set_option linter.unusedSimpArgs false
set_option linter.unusedVariables false
namespace Go.Proofs.Ytiddgglidkbipaa.L
open Go.RowKit Go.Proofs.YtiddgglidkbipaaW.PrintWords Go.Proofs.YtiddgglidkbipaaW.PrintLast Go.Proofs.Ytiddgglidkbipaa.Q
def touches (x : S28) (p : List ByteArray) (deep : Bool) : Bool := covers x p || (deep && under x.f1 p)
def mayL (p : List ByteArray) (deep : Bool) (toks : List Int) : List S28 → Bool → Bool → Bool
  | [], sh, told => if sh = true then told else true
  | x :: l, sh, told => if touches x p deep = true then (if x.f3 = true then mayL p deep toks l true (told || decide (x.f0 ∈ toks)) else if x.f0 ∈ toks then mayL p deep toks l sh told else false) else mayL p deep toks l sh told
theorem specMayTurn {t : List S28} {p : List ByteArray} {deep : Bool} {toks : List Int} (ht : SmLocks t) (hp : p.length ≤ 1048576) (hk : toks.length ≤ maxLen) : Ev (fun k => spec_MayTurn.f k t p deep toks) (mayL p deep toks t false false) := by
  have hl : t.length ≤ maxLen := by have := ht.1; rw [maxLen_eq]; omega
  have key : ∀ (suf pre : List S28) (sh told : Bool), t = pre ++ suf → Ev (fun k => spec_MayTurn.l0 k t p deep toks sh told pre.length) (mayL p deep toks suf sh told) := by
    intro suf
    induction suf with
    | nil =>
      intro pre sh told h
      refine Ev.step (fun k => spec_MayTurn.l0.eq_2 ..) ?_
      simp only [if_neg (end_at h), mayL]
      cases sh <;> exact Ev.now _
    | cons a suf ih =>
      intro pre sh told h
      have ha := ht.2 a (by rw [h]; simp)
      have hn : ∀ sh told, Ev (fun k => spec_MayTurn.l0 k t p deep toks sh told (wrap64 ((pre.length : Int) + 1))) (mayL p deep toks suf sh told) := fun sh told => by
        have := ih (pre ++ [a]) sh told (snoc_at h); rwa [← next_at h hl] at this
      have join : ∀ b, b = (!touches a p deep) → Ev (fun k => spec_MayTurn.j1 k t p deep toks sh told pre.length b) (mayL p deep toks (a :: suf) sh told) := by
        intro b hb
        refine Ev.step (fun k => spec_MayTurn.j1.eq_2 ..) ?_
        simp only [hb, mayL, if_pos (nonneg_at _), if_pos (lt_at h), rd_implLock h]
        by_cases c0 : touches a p deep = true
        · simp only [c0, Bool.not_true, Bool.false_eq_true, if_false, if_true]
          refine Ev.bind (specHas hk) ?_
          cases hf : a.f3 <;> cases sh <;> cases told <;> by_cases c1 : a.f0 ∈ toks <;> simp only [c1, decide_true, decide_false, Bool.or_true, Bool.or_false, Bool.false_or, Bool.true_or, Bool.false_eq_true, if_true, if_false] <;> first | exact hn _ _ | exact Ev.now _
        · simp only [Bool.eq_false_iff.mpr c0, Bool.not_false, if_true, Bool.false_eq_true, if_false]
          exact hn _ _
      refine Ev.step (fun k => spec_MayTurn.l0.eq_2 ..) ?_
      simp only [if_pos (lt_at h), if_pos (nonneg_at _), rd_implLock h]
      refine Ev.bind (specCovers ha hp) ?_
      unfold touches at join
      by_cases c0 : covers a p = true
      · simp only [c0, if_true]; exact join _ (by simp [c0])
      · simp only [c0, Bool.false_eq_true, if_false]
        by_cases c1 : deep = true
        · simp only [c1, if_true] at join ⊢
          refine Ev.bind (specUnder (by have := ha.2.1.1; omega)) ?_
          exact join _ (by simp [c0])
        · simp only [c1, Bool.false_eq_true, if_false] at join ⊢
          exact join _ (by simp [c0, c1])
  exact key t [] false false rfl
theorem implMayTurn {t : List S28} {p : List ByteArray} {deep : Bool} {toks : List Int} (ht : SmLocks t) (hp : p.length ≤ 1048576) (hk : toks.length ≤ maxLen) : Ev (fun k => impl_MayTurn.f k t p deep toks) (mayL p deep toks t false false) := by
  have hl : t.length ≤ maxLen := by have := ht.1; rw [maxLen_eq]; omega
  have key : ∀ (suf pre : List S28) (sh told : Bool), t = pre ++ suf → Ev (fun k => impl_MayTurn.l0 k p deep toks sh told t (t.length : Int) pre.length) (mayL p deep toks suf sh told) := by
    intro suf
    induction suf with
    | nil =>
      intro pre sh told h
      refine Ev.step (fun k => impl_MayTurn.l0.eq_2 ..) ?_
      simp only [if_neg (end_at h), mayL]
      cases sh <;> exact Ev.now _
    | cons a suf ih =>
      intro pre sh told h
      have ha := ht.2 a (by rw [h]; simp)
      have hn : ∀ sh told, Ev (fun k => impl_MayTurn.l0 k p deep toks sh told t (t.length : Int) (wrap64 ((pre.length : Int) + 1))) (mayL p deep toks suf sh told) := fun sh told => by
        have := ih (pre ++ [a]) sh told (snoc_at h); rwa [← next_at h hl] at this
      have join : ∀ b, b = (!touches a p deep) → Ev (fun k => impl_MayTurn.j1 k p deep toks sh told t (t.length : Int) pre.length b a.f0 a.f1 a.f2 a.f3 a.f4) (mayL p deep toks (a :: suf) sh told) := by
        intro b hb
        refine Ev.step (fun k => impl_MayTurn.j1.eq_2 ..) ?_
        simp only [hb, mayL]
        by_cases c0 : touches a p deep = true
        · simp only [c0, Bool.not_true, Bool.false_eq_true, if_false, if_true]
          refine Ev.bind (implHas hk) ?_
          cases hf : a.f3 <;> cases sh <;> cases told <;> by_cases c1 : a.f0 ∈ toks <;> simp only [c1, decide_true, decide_false, Bool.or_true, Bool.or_false, Bool.false_or, Bool.true_or, Bool.false_eq_true, if_true, if_false] <;> first | exact hn _ _ | exact Ev.now _
        · simp only [Bool.eq_false_iff.mpr c0, Bool.not_false, if_true, Bool.false_eq_true, if_false]
          exact hn _ _
      refine Ev.step (fun k => impl_MayTurn.l0.eq_2 ..) ?_
      simp only [if_pos (lt_at h), if_pos (nonneg_at _), rd_implLock h]
      refine Ev.bind (implCovers ha hp) ?_
      unfold touches at join
      by_cases c0 : covers a p = true
      · simp only [c0, if_true]; exact join _ (by simp [c0])
      · simp only [c0, Bool.false_eq_true, if_false]
        by_cases c1 : deep = true
        · simp only [c1, if_true] at join ⊢
          refine Ev.bind (implUnder (by have := ha.2.1.1; omega)) ?_
          exact join _ (by simp [c0])
        · simp only [c1, Bool.false_eq_true, if_false] at join ⊢
          exact join _ (by simp [c0, c1])
  exact key t [] false false rfl
end Go.Proofs.Ytiddgglidkbipaa.L

/- The law FnLocksBent computes true: of drawn locks, bent or not, what they cover and when they end is as the document has it. No condition. -/
set_option linter.unusedSimpArgs false
set_option linter.unusedVariables false
namespace Go.Proofs.Ytiddgglidkbipaa.Pure
open Go.RowKit Go.Proofs.YtiddgglidkbipaaW.PrintWords Go.Proofs.YtiddgglidkbipaaW.PrintLast Go.Proofs.Ytiddgglidkbipaa.Q Go.Proofs.Ytiddgglidkbipaa.L
theorem FnLocksBent : ∀ (x0 : List Int), (fun l : List Int => l.length ≤ maxLen ∧ ∀ a ∈ l, (fun x : Int => (Lit.int .u8 x).wf = true) a) x0 → ∃ k, laws_FnLocksBent.f k x0 = some true := by
  intro code h0
  apply Ev.rounds
  unfold laws_FnLocksBent.f laws_big.f
  simp only [Option.bind_some]
  by_cases c : ((code.length : Int) > 1048576)
  · simp only [decide_eq_true c, if_true]; exact Ev.now _
  simp only [decide_eq_false c, Bool.false_eq_true, if_false]
  have hc : code.length ≤ 1048576 := by omega
  have hm : ∀ m : Nat, m ≤ 1048576 → m ≤ maxLen := fun m h => by rw [maxLen_eq]; omega
  obtain ⟨x, e1, hx⟩ := drawLockOkD hc
  obtain ⟨y, p, e2, hy, hp⟩ := drawCoversD hc
  obtain ⟨a, b, e3, ha, hb⟩ := drawLockClashD hc
  obtain ⟨l, t, e4, hl⟩ := drawDropLockD hc
  obtain ⟨m, now, e5, hml⟩ := drawLiveLocksD hc
  obtain ⟨n, q, e6, hn, hq⟩ := drawTokensAtD hc
  obtain ⟨o, r, deep, toks, e7, ho, hr, htk⟩ := drawMayTurnD hc
  refine Ev.bind e1 (Ev.bind e2 (Ev.bind e3 (Ev.bind e4 (Ev.bind (implDrop hl) (Ev.bind (specDrop hl) (Ev.bind e5 (Ev.bind e6 (Ev.bind e7 ?_))))))))
  refine Ev.bind (implLockOk hx) (Ev.bind (specLockOk hx) ?_)
  simp only [beq_self_eq_true, if_true]
  refine Ev.bind (implCovers hy hp) (Ev.bind (specCovers hy hp) ?_)
  simp only [beq_self_eq_true, if_true]
  refine Ev.bind (implClash ha hb) (Ev.bind (specClash ha hb) ?_)
  simp only [beq_self_eq_true, if_true]
  refine Ev.bind (implClash ha hb) (Ev.bind (implClash hb ha) ?_)
  simp only [clash_comm b a, beq_self_eq_true, if_true]
  refine Ev.bind (sameLocksD (drop_sm hl)) ?_
  simp only [if_true]
  refine Ev.bind (implLive hml) (Ev.bind (specLive hml) (Ev.bind (sameLocksD (live_sm hml)) ?_))
  simp only [if_true]
  have htl : (tokensAt q n).length ≤ maxLen := by have := tokens_length q n; have := hn.1; rw [maxLen_eq]; omega
  refine Ev.bind (implTokens hn hq.1) (Ev.bind (specTokens hn hq.1) (Ev.bind (sameIntsD _ htl) ?_))
  simp only [if_true]
  refine Ev.bind (implMayTurn ho hr.1 (by rw [maxLen_eq]; omega)) (Ev.bind (specMayTurn ho hr.1 (by rw [maxLen_eq]; omega)) ?_)
  simp only [beq_self_eq_true]
  exact Ev.now _
end Go.Proofs.Ytiddgglidkbipaa.Pure
