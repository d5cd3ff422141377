/- The laws' own functions over lists of texts: their size, their copy, their equality. No condition. -/
import Derived.Test.YtiddgglidkbipaaVTokensAtG1
import Derived.Test.YtiddgglidkbipaaVTokensAtG2
import Derived.Test.YtiddgglidkbipaaVTokensAtG5
import Derived.Test.YtiddgglidkbipaaVTokensAtG0
import Derived.Test.YtiddgglidkbipaaVTokensAtG3
import Derived.Test.YtiddgglidkbipaaVTokensAtG4
set_option linter.unusedSimpArgs false
set_option linter.unusedVariables false
namespace Go.Proofs.Ytiddgglidkbipaa.L
open Go.RowKit Go.Proofs.YtiddgglidkbipaaW.PrintWords Go.Proofs.YtiddgglidkbipaaW.PrintLast Go.Proofs.Ytiddgglidkbipaa.Q

theorem szS_loop {l : List ByteArray} (hl : l.length ≤ maxLen) (hs : ∀ s ∈ l, s.size ≤ maxLen) : ∀ (suf pre : List ByteArray) (n : Int), l = pre ++ suf → 0 ≤ n → n ≤ 1048576 →
    Ev (fun k => laws_szStringS.l0 k l n pre.length) (-1) ∨ ∃ m : Int, 0 ≤ m ∧ m ≤ n ∧ Ev (fun k => laws_szStringS.l0 k l n pre.length) m ∧ ∀ s ∈ suf, (s.size : Int) ≤ n := by
  intro suf
  induction suf with
  | nil =>
    intro pre n h h0 h1
    refine .inr ⟨n, h0, Int.le_refl _, Ev.step (fun k => laws_szStringS.l0.eq_2 ..) ?_, by simp⟩
    simp only [if_neg (end_at h)]
    exact Ev.now _
  | cons a suf ih =>
    intro pre n h h0 h1
    have ha : a.size ≤ maxLen := hs a (by rw [h]; simp)
    rw [maxLen_eq] at ha
    have hw : wrap64 (n - (a.size : Int)) = n - a.size := wrap_id (by omega) (by omega)
    by_cases hlt : n - (a.size : Int) < 0
    · left
      refine Ev.step (fun k => laws_szStringS.l0.eq_2 ..) ?_
      simp only [if_pos (lt_at h), if_pos (nonneg_at _), rd_at _ h, hw, if_pos hlt]
      exact Ev.now _
    · have st : ∀ r, Ev (fun k => laws_szStringS.l0 k l (n - a.size) (pre ++ [a]).length) r → Ev (fun k => laws_szStringS.l0 k l n pre.length) r := fun r hr => by
        refine Ev.step (fun k => laws_szStringS.l0.eq_2 ..) ?_
        simp only [if_pos (lt_at h), if_pos (nonneg_at _), rd_at _ h, hw, if_neg hlt, next_at h hl]
        exact hr
      rcases ih (pre ++ [a]) (n - a.size) (snoc_at h) (by omega) (by omega) with h2 | ⟨m, hm0, hm1, h2, h3⟩
      · exact .inl (st _ h2)
      · refine .inr ⟨m, hm0, by omega, st _ h2, fun s hs' => ?_⟩
        rcases List.mem_cons.1 hs' with rfl | hs'
        · omega
        · have := h3 s hs'
          omega
/-- The size of a list of texts: too great, or all of it is small. -/
theorem szS {l : List ByteArray} (hl : l.length ≤ maxLen) (hs : ∀ s ∈ l, s.size ≤ maxLen) {n : Int} (h0 : 0 ≤ n) (h1 : n ≤ 1048576) : Sz (fun k => laws_szStringS.f k l n) n (SmS l) := by
  have hl' := hl
  rw [maxLen_eq] at hl'
  unfold laws_szStringS.f
  simp only [wrap_id (x := n - (l.length : Int)) (by omega) (by omega)]
  refine Sz.sub (by omega) (fun hlt => ?_)
  rcases szS_loop hl hs l [] (n - l.length) rfl (by omega) (by omega) with h | ⟨m, hm0, hm1, h2, h3⟩
  · exact .inl h
  · exact .inr ⟨m, hm0, hm1, h2, by omega, fun s hs' => by have := h3 s hs'; omega⟩

theorem toS_loop {l : List ByteArray} (hl : l.length ≤ maxLen) : ∀ (suf pre rest : List ByteArray), l = pre ++ suf → rest.length = suf.length → Ev (fun k => laws_toStringS.l0 k l (pre ++ rest) pre.length) l := by
  intro suf
  induction suf with
  | nil =>
    intro pre rest h hr
    refine Ev.step (fun k => laws_toStringS.l0.eq_2 ..) ?_
    simp only [if_neg (end_at h)]
    obtain rfl : rest = [] := by simpa using hr
    rw [← h]
    exact Ev.now _
  | cons a suf ih =>
    intro pre rest h hr
    obtain ⟨b, rest, rfl⟩ : ∃ b r, rest = b :: r := by
      cases rest with
      | nil => simp at hr
      | cons b r => exact ⟨b, r, rfl⟩
    refine Ev.step (fun k => laws_toStringS.l0.eq_2 ..) ?_
    have h2 : pre ++ b :: rest = pre ++ b :: rest := rfl
    simp only [if_pos (lt_at h), if_pos (nonneg_at _), rd_at _ h, if_pos (lt_at h2), next_at h hl, set_at h2]
    exact ih (pre ++ [a]) rest (snoc_at h) (by simpa using hr)
/-- The copy of a list of texts. -/
theorem toS {l : List ByteArray} (hl : (l.length : Int) ≤ 1048576) : Ev (fun k => laws_toStringS.f k l) l := by
  unfold laws_toStringS.f
  simp only [if_pos (nonneg_at _), Int.toNat_natCast, if_pos (show l.length ≤ 17592186044416 by omega)]
  have := toS_loop (l := l) (by rw [maxLen_eq]; omega) l [] (List.replicate l.length (⟨#[]⟩ : ByteArray)) rfl (by simp)
  simpa using this

theorem eqS_loop {a b : List ByteArray} (hl : a.length ≤ maxLen) : ∀ (su sv pu pv : List ByteArray), a = pu ++ su → b = pv ++ sv → pu.length = pv.length → su.length = sv.length →
    Ev (fun k => laws_eqStringS.l0 k a b pu.length) (decide (su = sv)) := by
  intro su
  induction su with
  | nil =>
    intro sv pu pv h h' hp hs
    obtain rfl : sv = [] := by simpa using hs.symm
    refine Ev.step (fun k => laws_eqStringS.l0.eq_2 ..) ?_
    simp only [if_neg (end_at h)]
    exact Ev.now _
  | cons x su ih =>
    intro sv pu pv h h' hp hs
    cases sv with
    | nil => simp at hs
    | cons y sv =>
      refine Ev.step (fun k => laws_eqStringS.l0.eq_2 ..) ?_
      have h3 := rd_at ByteArray.empty h'
      have h4 := lt_at h'
      rw [← hp] at h3 h4
      by_cases e : x = y
      · subst e
        simp only [if_pos (lt_at h), if_pos (nonneg_at _), if_pos h4, rd_at _ h, h3, if_true, next_at h hl, List.cons.injEq, true_and]
        exact ih sv (pu ++ [x]) (pv ++ [x]) (snoc_at h) (snoc_at h') (by simp [hp]) (by simpa using hs)
      · simp only [if_pos (lt_at h), if_pos (nonneg_at _), if_pos h4, rd_at _ h, h3, ba_eq, if_neg e, List.cons.injEq, e, false_and, decide_false]
        exact Ev.now _
theorem eqS {a b : List ByteArray} (hl : a.length ≤ maxLen) : Ev (fun k => laws_eqStringS.f k a b) (decide (a = b)) := by
  unfold laws_eqStringS.f
  by_cases e : (a.length : Int) = (b.length : Int)
  · simp only [if_pos e]
    exact eqS_loop hl a b [] [] rfl rfl rfl (by omega)
  · simp only [if_neg e]
    rw [show decide (a = b) = false from decide_eq_false (fun h => e (by rw [h]))]
    exact Ev.now _
end Go.Proofs.Ytiddgglidkbipaa.L

/- The laws' own functions over a mirrored struct (Lock): size, copy, equality. No condition. -/
set_option linter.unusedSimpArgs false
set_option linter.unusedVariables false
namespace Go.Proofs.Ytiddgglidkbipaa.L
open Go.RowKit Go.Proofs.YtiddgglidkbipaaW.PrintWords Go.Proofs.YtiddgglidkbipaaW.PrintLast Go.Proofs.Ytiddgglidkbipaa.Q
/-! ### Lock -/
instance : DecidableEq S28 := fun a b => if h : a.f0 = b.f0 ∧ a.f1 = b.f1 ∧ a.f2 = b.f2 ∧ a.f3 = b.f3 ∧ a.f4 = b.f4 then .isTrue (by cases a; cases b; simp_all) else .isFalse (fun e => h (by rw [e]; exact ⟨rfl, rfl, rfl, rfl, rfl⟩))
theorem rd_lawsLock {l pre suf : List S24} {a : S24} (h : l = pre ++ a :: suf) : rd_T24 l (pre.length : Int) = a := getD_at _ h
theorem rd_implLock {l pre suf : List S28} {a : S28} (h : l = pre ++ a :: suf) : rd_T28 l (pre.length : Int) = a := getD_at _ h
def toLock (p : S24) : S28 := ⟨p.f0, p.f1, p.f2, p.f3, p.f4⟩
def SmLock (p : S28) : Prop := IntOk p.f0 ∧ SmS p.f1 ∧ True ∧ True ∧ IntOk p.f4
def GGLock (x : S24) : Prop := (Lit.int .i64 x.f0).wf = true ∧ (x.f1.length ≤ maxLen ∧ ∀ s ∈ x.f1, s.size ≤ maxLen) ∧ True ∧ True ∧ (Lit.int .i64 x.f4).wf = true
theorem szLock {p : S24} (hp : GGLock p) {n : Int} (h0 : 0 ≤ n) (h1 : n ≤ 1048576) : Sz (fun k => laws_szLock.f k p.f0 p.f1 p.f2 p.f3 p.f4 n) n (SmLock (toLock p)) := by
  obtain ⟨g0, g1, g2, g3, g4⟩ := hp
  unfold laws_szLock.f
  refine Sz.bind (szS g1.1 g1.2 (by omega) (by omega)) (fun n1 a1 b1 s1 => ?_) (by simp only [show (-1 : Int) < 0 by omega, if_true]; exact Ev.now _)
  simp only [if_neg (show ¬ n1 < 0 by omega)]
  exact .inr ⟨n1, by omega, by omega, Ev.now _, wf_int g0, s1, trivial, trivial, wf_int g4⟩
theorem toLock1 {p : S24} (hp : SmLock (toLock p)) : Ev (fun k => laws_toLock.f k p.f0 p.f1 p.f2 p.f3 p.f4) (p.f0, p.f1, p.f2, p.f3, p.f4) := by
  obtain ⟨g0, g1, g2, g3, g4⟩ := hp
  unfold laws_toLock.f
  refine Ev.bind (toS (by have := g1.1; simp only [toLock] at this; omega)) ?_
  exact Ev.now _
theorem eqLock1 {p q : S28} (hp : SmLock p) : Ev (fun k => laws_eqLock.f k p.f0 p.f1 p.f2 p.f3 p.f4 q.f0 q.f1 q.f2 q.f3 q.f4) (decide (p = q)) := by
  obtain ⟨g0, g1, g2, g3, g4⟩ := hp
  unfold laws_eqLock.f
  by_cases e0 : p.f0 = q.f0
  rotate_left
  · rw [show decide (p = q) = false from decide_eq_false (fun h => e0 (by rw [h]))]
    simp only [ba_eq, e0, bne_iff_ne, ne_eq, not_false_eq_true, not_true_eq_false, if_true, if_false]
    exact Ev.now _
  simp only [ba_eq, e0, bne_self_eq_false, Bool.false_eq_true, if_true, if_false]
  refine Ev.bind (eqS (by have := g1.1; rw [maxLen_eq]; omega)) ?_
  by_cases e1 : p.f1 = q.f1
  rotate_left
  · rw [show decide (p = q) = false from decide_eq_false (fun h => e1 (by rw [h]))]
    simp only [e1, decide_false, Bool.false_eq_true, if_false]
    exact Ev.now _
  simp only [e1, decide_true, if_true]
  by_cases e2 : p.f2 = q.f2
  rotate_left
  · rw [show decide (p = q) = false from decide_eq_false (fun h => e2 (by rw [h]))]
    simp only [ba_eq, e2, bne_iff_ne, ne_eq, not_false_eq_true, not_true_eq_false, if_true, if_false]
    exact Ev.now _
  simp only [ba_eq, e2, bne_self_eq_false, Bool.false_eq_true, if_true, if_false]
  by_cases e3 : p.f3 = q.f3
  rotate_left
  · rw [show decide (p = q) = false from decide_eq_false (fun h => e3 (by rw [h]))]
    simp only [ba_eq, e3, bne_iff_ne, ne_eq, not_false_eq_true, not_true_eq_false, if_true, if_false]
    exact Ev.now _
  simp only [ba_eq, e3, bne_self_eq_false, Bool.false_eq_true, if_true, if_false]
  by_cases e4 : p.f4 = q.f4
  rotate_left
  · rw [show decide (p = q) = false from decide_eq_false (fun h => e4 (by rw [h]))]
    simp only [ba_eq, e4, bne_iff_ne, ne_eq, not_false_eq_true, not_true_eq_false, if_true, if_false]
    exact Ev.now _
  simp only [ba_eq, e4, bne_self_eq_false, Bool.false_eq_true, if_true, if_false]
  rw [show decide (p = q) = true from decide_eq_true (by cases p; cases q; simp_all)]
  exact Ev.now _
def SmLocks (l : List S28) : Prop := l.length ≤ 1048576 ∧ ∀ p ∈ l, SmLock p
theorem szLockS {l : List S24} (hl : l.length ≤ maxLen) (hs : ∀ s ∈ l, GGLock s) {n : Int} (h0 : 0 ≤ n) (h1 : n ≤ 1048576) : Sz (fun k => laws_szLockS.f k l n) n (SmLocks (l.map toLock)) := by
  have hl' := hl
  rw [maxLen_eq] at hl'
  unfold laws_szLockS.f
  simp only [wrap_id (x := n - (l.length : Int)) (by omega) (by omega)]
  refine Sz.sub (by omega) (fun hlt => ?_)
  have key : Sz (fun k => laws_szLockS.l0 k l (n - l.length) 0) (n - l.length) (∀ p ∈ l, SmLock (toLock p)) := by
    refine sz_loop (l := l) (P := fun p => SmLock (toLock p)) (fun k n i => laws_szLockS.l0 k l n i) ?_ ?_ l [] (n - l.length) rfl (by omega) (by omega)
    · intro n
      refine Ev.step (fun k => laws_szLockS.l0.eq_2 ..) ?_
      simp only [Int.lt_irrefl, if_false]
      exact Ev.now _
    · intro pre a suf n h h0 h1
      rcases szLock (hs a (by rw [h]; simp)) h0 h1 with h2 | ⟨m, hm0, hm1, h2, h3⟩
      · left
        refine Ev.step (fun k => laws_szLockS.l0.eq_2 ..) ?_
        simp only [if_pos (lt_at h), if_pos (nonneg_at _), rd_lawsLock h]
        refine Ev.bind h2 ?_
        simp only [show (-1 : Int) < 0 by omega, if_true]
        exact Ev.now _
      · refine .inr ⟨m, hm0, hm1, h3, fun r hr => ?_⟩
        refine Ev.step (fun k => laws_szLockS.l0.eq_2 ..) ?_
        simp only [if_pos (lt_at h), if_pos (nonneg_at _), rd_lawsLock h]
        refine Ev.bind h2 ?_
        simp only [if_neg (show ¬ m < 0 by omega), next_at h hl]
        exact hr
  rcases key with h | ⟨m, hm0, hm1, h2, h3⟩
  · exact .inl h
  · refine .inr ⟨m, hm0, hm1, h2, by simp; omega, fun p hp => ?_⟩
    obtain ⟨q, hq, rfl⟩ := List.mem_map.1 hp
    exact h3 q hq
theorem toLockS {p : List S24} (hp : SmLocks (p.map toLock)) : Ev (fun k => laws_toLockS.f k p) (p.map toLock) := by
  obtain ⟨hl0, hs⟩ := hp
  rw [List.length_map] at hl0
  have hl2 : p.length ≤ maxLen := by rw [maxLen_eq]; omega
  unfold laws_toLockS.f
  simp only [if_pos (nonneg_at _), Int.toNat_natCast, if_pos (show p.length ≤ 5864062014805 by omega)]
  refine to_loop (l := p) (f := toLock) (fun k out i => laws_toLockS.l0 k p out i) ?_ ?_ p [] _ (List.replicate p.length z28) rfl rfl (by simp)
  · intro out
    refine Ev.step (fun k => laws_toLockS.l0.eq_2 ..) ?_
    simp only [Int.lt_irrefl, if_false]
    exact Ev.now _
  · intro pre a suf out h ho r hr
    refine Ev.step (fun k => laws_toLockS.l0.eq_2 ..) ?_
    simp only [if_pos (lt_at h), if_pos (nonneg_at _), rd_lawsLock h]
    refine Ev.bind (toLock1 (hs _ (List.mem_map.2 ⟨a, by rw [h]; simp, rfl⟩))) ?_
    simp only [if_pos ho, next_at h hl2]
    exact hr
theorem eqLockS {a b : List S28} (ha : SmLocks a) : Ev (fun k => laws_eqLockS.f k a b) (decide (a = b)) := by
  have hl : a.length ≤ maxLen := by have := ha.1; rw [maxLen_eq]; omega
  unfold laws_eqLockS.f
  by_cases e : (a.length : Int) = (b.length : Int)
  · simp only [if_pos e]
    refine eq_loop (a := a) (b := b) (fun k i => laws_eqLockS.l0 k a b i) ?_ ?_ a b [] [] rfl rfl rfl (by omega)
    · refine Ev.step (fun k => laws_eqLockS.l0.eq_2 ..) ?_
      simp only [Int.lt_irrefl, if_false]
      exact Ev.now _
    · intro pre x su pre' y sv h h' hp
      have h3 := rd_implLock h'
      have h4 := lt_at h'
      rw [← hp] at h3 h4
      have h5 := eqLock1 (q := y) (ha.2 x (by rw [h]; simp))
      refine ⟨fun hne => ?_, fun heq r hr => ?_⟩
      · refine Ev.step (fun k => laws_eqLockS.l0.eq_2 ..) ?_
        simp only [if_pos (lt_at h), if_pos (nonneg_at _), if_pos h4, rd_implLock h, h3]
        refine Ev.bind h5 ?_
        simp only [hne, decide_false, Bool.false_eq_true, if_false]
        exact Ev.now _
      · refine Ev.step (fun k => laws_eqLockS.l0.eq_2 ..) ?_
        simp only [if_pos (lt_at h), if_pos (nonneg_at _), if_pos h4, rd_implLock h, h3]
        refine Ev.bind h5 ?_
        simp only [heq, decide_true, if_true, next_at h hl]
        rw [heq] at hr
        exact hr
  · simp only [if_neg e]
    rw [show decide (a = b) = false from decide_eq_false (fun h => e (by rw [h]))]
    exact Ev.now _
end Go.Proofs.Ytiddgglidkbipaa.L

/- Paths: are they the same, is one under the other; as the program and the reference have it. No condition. -/
set_option linter.unusedSimpArgs false
set_option linter.unusedVariables false
namespace Go.Proofs.Ytiddgglidkbipaa.L
open Go.RowKit Go.Proofs.YtiddgglidkbipaaW.PrintWords Go.Proofs.YtiddgglidkbipaaW.PrintLast Go.Proofs.Ytiddgglidkbipaa.Q
theorem specSame {a b : List ByteArray} (hl : a.length ≤ maxLen) : Ev (fun k => spec_SamePath.f k a b) (decide (a = b)) := by
  unfold spec_SamePath.f
  by_cases e : (a.length : Int) = (b.length : Int)
  · simp only [if_pos e]
    refine eq_loop (a := a) (b := b) (fun k i => spec_SamePath.l0 k a b i) ?_ ?_ a b [] [] rfl rfl rfl (by omega)
    · refine Ev.step (fun k => spec_SamePath.l0.eq_2 ..) ?_
      simp only [Int.lt_irrefl, if_false]
      exact Ev.now _
    · intro pre x su pre' y sv h h' hp
      have h3 := rd_at ByteArray.empty h'
      have h4 := lt_at h'
      rw [← hp] at h3 h4
      refine ⟨fun hne => ?_, fun heq r hr => ?_⟩
      · refine Ev.step (fun k => spec_SamePath.l0.eq_2 ..) ?_
        simp only [if_pos (lt_at h), if_pos (nonneg_at _), if_pos h4, rd_at _ h, h3, ba_eq, hne, if_false]
        exact Ev.now _
      · refine Ev.step (fun k => spec_SamePath.l0.eq_2 ..) ?_
        simp only [if_pos (lt_at h), if_pos (nonneg_at _), if_pos h4, rd_at _ h, h3, heq, if_true, next_at h hl]
        rw [heq] at hr
        exact hr
  · simp only [if_neg e]
    rw [show decide (a = b) = false from decide_eq_false (fun h => e (by rw [h]))]
    exact Ev.now _
theorem implSame {a b : List ByteArray} (hl : a.length ≤ maxLen) : Ev (fun k => impl_SamePath.f k a b) (decide (a = b)) := by
  unfold impl_SamePath.f
  by_cases e : (a.length : Int) = (b.length : Int)
  · simp only [if_pos e]
    refine eq_loop (a := a) (b := b) (fun k i => impl_SamePath.l0 k a b (a.length : Int) i) ?_ ?_ a b [] [] rfl rfl rfl (by omega)
    · refine Ev.step (fun k => impl_SamePath.l0.eq_2 ..) ?_
      simp only [Int.lt_irrefl, if_false]
      exact Ev.now _
    · intro pre x su pre' y sv h h' hp
      have h3 := rd_at ByteArray.empty h'
      have h4 := lt_at h'
      rw [← hp] at h3 h4
      refine ⟨fun hne => ?_, fun heq r hr => ?_⟩
      · refine Ev.step (fun k => impl_SamePath.l0.eq_2 ..) ?_
        simp only [if_pos (lt_at h), if_pos (nonneg_at _), if_pos h4, rd_at _ h, h3, ba_eq, hne, if_false]
        exact Ev.now _
      · refine Ev.step (fun k => impl_SamePath.l0.eq_2 ..) ?_
        simp only [if_pos (lt_at h), if_pos (nonneg_at _), if_pos h4, rd_at _ h, h3, heq, if_true, next_at h hl]
        rw [heq] at hr
        exact hr
  · simp only [if_neg e]
    rw [show decide (a = b) = false from decide_eq_false (fun h => e (by rw [h]))]
    exact Ev.now _
end Go.Proofs.Ytiddgglidkbipaa.L

/- Is a path under another one; as the program and the reference have it. No condition. -/
set_option linter.unusedSimpArgs false
set_option linter.unusedVariables false
namespace Go.Proofs.Ytiddgglidkbipaa.L
open Go.RowKit Go.Proofs.YtiddgglidkbipaaW.PrintWords Go.Proofs.YtiddgglidkbipaaW.PrintLast Go.Proofs.Ytiddgglidkbipaa.Q
def under (p head : List ByteArray) : Bool := decide (head.length < p.length) && decide (p.take head.length = head)
theorem specUnder {p head : List ByteArray} (hl : p.length ≤ 1048576) : Ev (fun k => spec_Under.f k p head) (under p head) := by
  unfold spec_Under.f under
  by_cases e : (p.length : Int) > (head.length : Int)
  · simp only [if_pos e, if_pos (nonneg_at _), if_pos (show (head.length : Int) ≤ p.length by omega), Int.toNat_natCast, show head.length < p.length by omega, decide_true, Bool.true_and]
    exact Ev.bind (specSame (by rw [maxLen_eq]; simp; omega)) (Ev.now _)
  · simp only [if_neg e, show ¬ head.length < p.length by omega, decide_false, Bool.false_and]
    exact Ev.now _
theorem implUnder {p head : List ByteArray} (hl : p.length ≤ 1048576) : Ev (fun k => impl_Under.f k p head) (under p head) := by
  unfold impl_Under.f under
  by_cases e : (p.length : Int) > (head.length : Int)
  · simp only [if_pos e, if_pos (nonneg_at _), if_pos (show (head.length : Int) ≤ p.length by omega), Int.toNat_natCast, show head.length < p.length by omega, decide_true, Bool.true_and]
    exact Ev.bind (implSame (by rw [maxLen_eq]; simp; omega)) (Ev.now _)
  · simp only [if_neg e, show ¬ head.length < p.length by omega, decide_false, Bool.false_and]
    exact Ev.now _
end Go.Proofs.Ytiddgglidkbipaa.L

/- What a lock covers, whether two clash; as the program and the reference have it. No condition. -/
set_option linter.unusedSimpArgs false
set_option linter.unusedVariables false
namespace Go.Proofs.Ytiddgglidkbipaa.L
open Go.RowKit Go.Proofs.YtiddgglidkbipaaW.PrintWords Go.Proofs.YtiddgglidkbipaaW.PrintLast Go.Proofs.Ytiddgglidkbipaa.Q
def covers (x : S28) (p : List ByteArray) : Bool := decide (x.f1 = p) || (x.f2 && under p x.f1)
theorem specCovers {x : S28} {p : List ByteArray} (hx : SmLock x) (hp : p.length ≤ 1048576) : Ev (fun k => spec_Covers.f k x.f0 x.f1 x.f2 x.f3 x.f4 p) (covers x p) := by
  unfold spec_Covers.f covers
  refine Ev.bind (specSame (by have := hx.2.1.1; rw [maxLen_eq]; omega)) ?_
  by_cases e : x.f1 = p
  · simp only [e, decide_true, if_true, Bool.true_or]; exact Ev.now _
  · simp only [e, decide_false, Bool.false_eq_true, if_false, Bool.false_or]
    by_cases d : x.f2 = true
    · simp only [d, if_true, Bool.true_and]; exact Ev.bind (specUnder hp) (Ev.now _)
    · simp only [d, Bool.false_eq_true, if_false, Bool.false_and]; exact Ev.now _
theorem implCovers {x : S28} {p : List ByteArray} (hx : SmLock x) (hp : p.length ≤ 1048576) : Ev (fun k => impl_Covers.f k x.f0 x.f1 x.f2 x.f3 x.f4 p) (covers x p) := by
  unfold impl_Covers.f covers
  refine Ev.bind (implSame (by have := hx.2.1.1; rw [maxLen_eq]; omega)) ?_
  by_cases e : x.f1 = p
  · simp only [e, decide_true, if_true, Bool.true_or]; exact Ev.now _
  · simp only [e, decide_false, Bool.false_eq_true, if_false, Bool.false_or]
    by_cases d : x.f2 = true
    · simp only [d, if_true, Bool.true_and]; exact Ev.bind (implUnder hp) (Ev.now _)
    · simp only [d, Bool.false_eq_true, if_false, Bool.false_and]; exact Ev.now _
def clash (a b : S28) : Bool := !(a.f3 && b.f3) && (covers a b.f1 || covers b a.f1)
end Go.Proofs.Ytiddgglidkbipaa.L

/- The laws' own functions over lists of numbers: size, copy, equality. No condition. -/
set_option linter.unusedSimpArgs false
set_option linter.unusedVariables false
namespace Go.Proofs.Ytiddgglidkbipaa.L
open Go.RowKit Go.Proofs.YtiddgglidkbipaaW.PrintWords Go.Proofs.YtiddgglidkbipaaW.PrintLast Go.Proofs.Ytiddgglidkbipaa.Q
theorem rd_int {l pre suf : List Int} {a : Int} (h : l = pre ++ a :: suf) : rd l (pre.length : Int) = a := getD_at _ h
theorem eqInts {a b : List Int} (hl : a.length ≤ maxLen) : Ev (fun k => laws_eqIntS.f k a b) (decide (a = b)) := by
  unfold laws_eqIntS.f
  by_cases e : (a.length : Int) = (b.length : Int)
  · simp only [if_pos e]
    refine eq_loop (a := a) (b := b) (fun k i => laws_eqIntS.l0 k a b i) ?_ ?_ a b [] [] rfl rfl rfl (by omega)
    · refine Ev.step (fun k => laws_eqIntS.l0.eq_2 ..) ?_
      simp only [Int.lt_irrefl, if_false]
      exact Ev.now _
    · intro pre x su pre' y sv h h' hp
      have h3 := rd_int h'
      have h4 := lt_at h'
      rw [← hp] at h3 h4
      refine ⟨fun hne => ?_, fun heq r hr => ?_⟩
      · refine Ev.step (fun k => laws_eqIntS.l0.eq_2 ..) ?_
        simp only [if_pos (lt_at h), if_pos (nonneg_at _), if_pos h4, rd_int h, h3, if_neg hne]
        exact Ev.now _
      · refine Ev.step (fun k => laws_eqIntS.l0.eq_2 ..) ?_
        simp only [if_pos (lt_at h), if_pos (nonneg_at _), if_pos h4, rd_int h, h3, heq, if_true, next_at h hl]
        rw [heq] at hr
        exact hr
  · simp only [if_neg e]
    rw [show decide (a = b) = false from decide_eq_false (fun h => e (by rw [h]))]
    exact Ev.now _
end Go.Proofs.Ytiddgglidkbipaa.L

/- The tokens that hold of a path; as the program and the reference have it. No condition. -/
set_option linter.unusedSimpArgs false
set_option linter.unusedVariables false
namespace Go.Proofs.Ytiddgglidkbipaa.L
open Go.RowKit Go.Proofs.YtiddgglidkbipaaW.PrintWords Go.Proofs.YtiddgglidkbipaaW.PrintLast Go.Proofs.Ytiddgglidkbipaa.Q
def tokensAt (p : List ByteArray) (t : List S28) : List Int := (t.filter (fun r => covers r p)).map (fun r => r.f0)
theorem tokens_cons (p : List ByteArray) (a : S28) (t : List S28) : tokensAt p (a :: t) = if covers a p = true then a.f0 :: tokensAt p t else tokensAt p t := by
  unfold tokensAt
  by_cases c : covers a p = true <;> simp [List.filter_cons, c]
theorem tokens_length (p : List ByteArray) (t : List S28) : (tokensAt p t).length ≤ t.length := by
  unfold tokensAt; rw [List.length_map]; exact List.length_filter_le _ _
theorem specTokens {t : List S28} {p : List ByteArray} (ht : SmLocks t) (hp : p.length ≤ 1048576) : Ev (fun k => spec_TokensAt.f k t p) (tokensAt p t) := by
  have hl0 := ht.1
  have hl : t.length ≤ maxLen := by rw [maxLen_eq]; omega
  have key : ∀ (suf pre : List S28) (out : List Int), t = pre ++ suf → out.length ≤ pre.length → Ev (fun k => spec_TokensAt.l0 k t p out pre.length) (out ++ tokensAt p suf) := by
    intro suf
    induction suf with
    | nil =>
      intro pre out h ho
      refine Ev.step (fun k => spec_TokensAt.l0.eq_2 ..) ?_
      simp only [if_neg (end_at h), tokensAt, List.filter_nil, List.map_nil, List.append_nil]
      exact Ev.now _
    | cons a suf ih =>
      intro pre out h ho
      have hpl : pre.length ≤ 1048576 := by have : t.length = pre.length + (suf.length + 1) := by rw [h]; simp
                                            omega
      refine Ev.step (fun k => spec_TokensAt.l0.eq_2 ..) ?_
      simp only [if_pos (lt_at h), if_pos (nonneg_at _), rd_implLock h, next_at h hl, tokens_cons]
      refine Ev.bind (specCovers (ht.2 a (by rw [h]; simp)) hp) ?_
      by_cases c1 : covers a p = true
      · simp only [c1, if_true, show out.length < 17592186044416 by omega]
        exact ev_cast (ih (pre ++ [a]) _ (snoc_at h) (by simp; omega)) (by simp)
      · simp only [c1, Bool.false_eq_true, if_false]
        exact ih (pre ++ [a]) _ (snoc_at h) (by simp; omega)
  exact key t [] [] rfl (by simp)
theorem implTokens {t : List S28} {p : List ByteArray} (ht : SmLocks t) (hp : p.length ≤ 1048576) : Ev (fun k => impl_TokensAt.f k t p) (tokensAt p t) := by
  have hl0 := ht.1
  have hl : t.length ≤ maxLen := by rw [maxLen_eq]; omega
  have key : ∀ (suf pre : List S28) (out : List Int), t = pre ++ suf → out.length ≤ pre.length → Ev (fun k => impl_TokensAt.l0 k p out t (t.length : Int) pre.length) (out ++ tokensAt p suf) := by
    intro suf
    induction suf with
    | nil =>
      intro pre out h ho
      refine Ev.step (fun k => impl_TokensAt.l0.eq_2 ..) ?_
      simp only [if_neg (end_at h), tokensAt, List.filter_nil, List.map_nil, List.append_nil]
      exact Ev.now _
    | cons a suf ih =>
      intro pre out h ho
      have hpl : pre.length ≤ 1048576 := by have : t.length = pre.length + (suf.length + 1) := by rw [h]; simp
                                            omega
      refine Ev.step (fun k => impl_TokensAt.l0.eq_2 ..) ?_
      simp only [if_pos (lt_at h), if_pos (nonneg_at _), rd_implLock h, next_at h hl, tokens_cons]
      refine Ev.bind (implCovers (ht.2 a (by rw [h]; simp)) hp) ?_
      by_cases c1 : covers a p = true
      · simp only [c1, if_true, show out.length < 17592186044416 by omega]
        exact ev_cast (ih (pre ++ [a]) _ (snoc_at h) (by simp; omega)) (by simp)
      · simp only [c1, Bool.false_eq_true, if_false]
        exact ih (pre ++ [a]) _ (snoc_at h) (by simp; omega)
  exact key t [] [] rfl (by simp)
end Go.Proofs.Ytiddgglidkbipaa.L

namespace Go.Proofs.Ytiddgglidkbipaa.Q
open Go.RowKit Go.Proofs.YtiddgglidkbipaaW.PrintWords Go.Proofs.YtiddgglidkbipaaW.PrintLast Go.Proofs.YtiddgglidkbipaaW.PrintMore
attribute [local go_sem] max2_int min2_int max_two min_two max_three min_three max_four min_four   -- for this text's walks alone
set_option linter.unusedVariables false
set_option linter.unusedSimpArgs false

/-! ### laws_heldStringS: function 70 -/
def laws_heldStringS.l0 : Nat → List ByteArray → Int → Int → Option (Int)
  | 0, _, _, _ => none
  | k + 1, x0, x1, x5 => if x5 < (x0.length : Int) then (if 0 ≤ x5 then ((laws_markText.f k x1).bind fun t383 => (if (rdOf ByteArray.empty x0 x5).toList = t383.toList then (laws_heldStringS.l0 k x0 (wrap64 (x1 + 1)) (wrap64 (x5 + 1))) else (some (-1)))) else (none)) else (some x1)
def laws_heldStringS.f (k : Nat) (l0 : List ByteArray) (a1 : Int) : Option (Int) := laws_heldStringS.l0 k l0 a1 0
set_option maxHeartbeats 8000000 in
set_option maxRecDepth 100000 in
theorem laws_heldStringS.calls (k : Nat) (A0 : Option Addr) (c0 : Nat) (l0 : List ByteArray) (a1 : Int) (r : Int) (w : World) (hr0 : Kd.C Kd.string w A0 l0.length l0) (hc0 : l0.length ≤ c0) (h : laws_heldStringS.f k l0 a1 = some r) :
    Calls Try.prog 70 #[.slice A0 l0.length c0, .int .i64 a1] w fun e w' => e = .returned (.int .i64 r) ∧ Below w.heap.size w w' := by
  have HR0 := Aside0.mk hr0
  have HC0 := Aside0.mk hc0
  clear hr0 hc0
  have HB := Aside0.mk (Below.refl w.heap.size w)
  have H : (laws_heldStringS.l0 k l0 a1 0) = some r := h
  clear h
  have H' := Aside0.mk H
  clear H
  go_enter Try.func70, Try.ntmps70
  go_wp2
  go_loopg [1, 5] k (fun kq v1 v5 w' => ∃ (x1_1 : Int) (x5_1 : Int), v1 = .int .i64 x1_1 ∧ v5 = .int .i64 x5_1 ∧ Aside0 (laws_heldStringS.l0 kq l0 x1_1 x5_1 = some r) ∧ Aside0 (kq ≤ k) ∧ Aside0 (Below w.heap.size w w'))
  case atStart => exact ⟨(a1), (0), (by first | rfl | (simp; done) | (simp [*]; done)), (by first | rfl | (simp; done) | (simp [*]; done)), H', ⟨Nat.le_refl _⟩, ⟨by repeat (first | (with_reducible first | exact HB.out | apply below_alloc | apply pw_below_drewN | apply below_drew1) | exact HB.out)⟩⟩
  case round =>
    clear H'
    try clear p2
    obtain ⟨x1_1, x5_1, rfl, rfl, HA, HK1, HB⟩ := hrel
    cases gk with
    | zero => exact absurd HA.out (by simp [laws_heldStringS.l0])
    | succ k1 =>
      have H := HA.out
      clear HA
      simp only [laws_heldStringS.l0] at H
      by_cases c3 : x5_1 < (l0.length : Int)
      · rw [if_pos c3] at H
        have c3b0 : decide (x5_1 < (l0.length : Int)) = true := decide_eq_true c3
        clear c3
        by_cases c4 : 0 ≤ x5_1
        · rw [if_pos c4] at H
          have c4b0 : decide (0 ≤ x5_1) = true := decide_eq_true c4
          clear c4
          replace H := Option.bind_eq_some_iff.mp H
          obtain ⟨t383, A50, H⟩ := H
          replace H : (if (rdOf ByteArray.empty l0 x5_1).toList = t383.toList then (laws_heldStringS.l0 k1 l0 (wrap64 (x1_1 + 1)) (wrap64 (x5_1 + 1))) else (some (-1))) = some r := H
          have A5 := Aside0.mk A50
          clear A50
          by_cases c6 : (rdOf ByteArray.empty l0 x5_1).toList = t383.toList
          · rw [if_pos c6] at H
            have c6b0 : ((rdOf ByteArray.empty l0 x5_1).toList == t383.toList) = true := beq_iff_eq.mpr c6
            have c6b1 : ((rdOf ByteArray.empty l0 x5_1).toList != t383.toList) = false := bne_eq_false_iff_eq.mpr c6
            clear c6
            have H' := Aside0.mk H
            clear H
            try go_wp2
            have n0_ := Aside0.mk (below_drew1 HB.out)
            clear HB
            have HB := n0_
            clear n0_
            have p382 : 0 ≤ (x5_1 : Int) := of_decide_eq_true (by first | (with_reducible assumption) | assumption)
            have q382 : x5_1 < (l0.length : Int) := of_decide_eq_true (by first | (with_reducible assumption) | assumption)
            obtain ⟨ad382, e382, hx382_0⟩ := Kd.at_string HR0.out x5_1 p382 q382
            have hw382_0 := hx382_0
            cases e382
            replace hx382_0 := (HB.out.cell (World.block_lt_of_cell? w _ hx382_0)).trans hx382_0
            replace p382 := eq_true p382
            replace q382 := eq_true q382
            refine start_ (n := 7) (S := fun w' => w'.cell? (ad382.add (x5_1).toNat) = some (.string (rdOf ByteArray.empty l0 x5_1))) (ds := []) #[false, false, false, false, false, false, false] (by kernel_rfl) rfl rfl (((HB.out.cell (World.block_lt_of_cell? w _ hw382_0)).trans hw382_0)) (fun hHeld => ?_)
            generalize wr.drew = w7 at HB hx382_0 hHeld ⊢
            refine pure_ (i := 0) (N := some 12) (v := ?_) (a' := ?_) #[true, false, false, false, false, false, false] rfl rfl (by kernel_rfl) (fun _ _ _ h => h) (Or.inl ⟨by rfl, ?_⟩) ?_ ?_
            rotate_left
            · intro w'
              go_simp
              with_reducible rfl
            rotate_left
            · simp only [Act.put, List.setIfInBounds_toArray, List.set_cons_zero, List.set_cons_succ, i64_w, i32_w]
              rfl
            refine pure_ (i := 1) (N := some 13) (v := ?_) (a' := ?_) #[true, true, false, false, false, false, false] rfl rfl (by kernel_rfl) (fun _ _ _ h => h) (Or.inl ⟨by rfl, ?_⟩) ?_ ?_
            rotate_left
            · intro w'
              go_simp
              with_reducible rfl
            rotate_left
            · simp only [Act.put, List.setIfInBounds_toArray, List.set_cons_zero, List.set_cons_succ, i64_w, i32_w]
              rfl
            refine pure_ (i := 2) (N := some 14) (v := ?_) (a' := ?_) #[true, true, true, false, false, false, false] rfl rfl (by kernel_rfl) (fun _ _ _ h => h) (Or.inl ⟨by rfl, ?_⟩) ?_ ?_
            rotate_left
            · intro w'
              go_simp
              with_reducible rfl
            rotate_left
            · simp only [Act.put, List.setIfInBounds_toArray, List.set_cons_zero, List.set_cons_succ, i64_w, i32_w]
              rfl
            refine pure_ (i := 4) (N := some 16) (v := ?_) (a' := ?_) #[true, true, true, false, true, false, false] rfl rfl (by kernel_rfl) (fun _ _ _ h => h) (Or.inl ⟨by rfl, ?_⟩) ?_ ?_
            rotate_left
            · intro w'
              go_simp
              with_reducible rfl
            rotate_left
            · simp only [Act.put, List.setIfInBounds_toArray, List.set_cons_zero, List.set_cons_succ, i64_w, i32_w]
              rfl
            refine take_ (i := 3) (N := some 15) (v := ?_) (a' := ?_) #[true, true, true, true, true, false, false] rfl rfl (by kernel_rfl) (fun _ _ _ h => h) (Or.inl ⟨by rfl, ?_⟩) hHeld ?_ ?_
            rotate_left
            · intro w' s0
              go_simp
              with_reducible rfl
            rotate_left
            · simp only [Act.put, List.setIfInBounds_toArray, List.set_cons_zero, List.set_cons_succ, i64_w, i32_w]
              rfl
            refine one_ (i := 5) (N := some 17) #[true, true, true, true, true, true, false] rfl rfl (by kernel_rfl) (by decide) (fun K hK => ?_)
            refine goes_ Try.func73 (by kernel_rfl) rfl #[.int .i64 x1_1] (by rfl) rfl rfl (by (try simp only [List.map_toArray, List.map_cons, List.map_nil]); first | done | rfl | (simp only [List.length_drop, List.length_take]; rfl)) ?_
            with_reducible refine (laws_markText.calls k1 x1_1 t383 _ A5.out).mono ?_
            rintro e w8 ⟨rfl, hb⟩
            refine ⟨_, rfl, ?_⟩
            have n0_ := Aside0.mk (below_step (by repeat (first | (with_reducible first | exact HB.out | apply below_alloc | apply pw_below_drewN | apply below_drew1) | exact HB.out)) hb)
            clear HB
            have HB := n0_
            clear n0_
            (try clear hb)
            (try clear hb2)
            (try clear hk)
            (try clear hi)
            refine hK.out _ _ (((HB.out.cell (World.block_lt_of_cell? w _ hw382_0)).trans hw382_0)) (fun hHeld => ?_)
            clear hK K
            refine norm_ (a' := ?_) ?_ ?_
            rotate_left
            · show Act.put _ (some 17) _ = _
              simp only [Act.put, List.setIfInBounds_toArray, List.set_cons_zero, List.set_cons_succ, i64_w, i32_w]
              rfl
            refine pure_ (i := 6) (N := some 18) (v := ?_) (a' := ?_) #[true, true, true, true, true, true, true] rfl rfl (by kernel_rfl) (fun _ _ _ h => h) (Or.inl ⟨by rfl, ?_⟩) ?_ ?_
            rotate_left
            · intro w'
              go_simp
              with_reducible rfl
            rotate_left
            · simp only [Act.put, List.setIfInBounds_toArray, List.set_cons_zero, List.set_cons_succ, i64_w, i32_w]
              rfl
            refine done_ (by kernel_rfl) ?_
            try go_wp2
            go_roundg k1
            case measure => have := HK1.out; omega
            case rel => exact ⟨(wrap64 (x1_1 + 1)), (wrap64 (x5_1 + 1)), (by first | rfl | (simp; done) | (simp [*]; done)), (by first | rfl | (simp; done) | (simp [*]; done)), H', ⟨by have := HK1.out; omega⟩, ⟨by repeat (first | (with_reducible first | exact HB.out | apply below_alloc | apply pw_below_drewN | apply below_drew1) | exact HB.out)⟩⟩
          · rw [if_neg c6] at H
            have c6b0 : ((rdOf ByteArray.empty l0 x5_1).toList == t383.toList) = false := beq_eq_false_iff_ne.mpr c6
            have c6b1 : ((rdOf ByteArray.empty l0 x5_1).toList != t383.toList) = true := bne_iff_ne.mpr c6
            obtain rfl := Option.some.inj H
            try go_wp2
            have n0_ := Aside0.mk (below_drew1 HB.out)
            clear HB
            have HB := n0_
            clear n0_
            have p382 : 0 ≤ (x5_1 : Int) := of_decide_eq_true (by first | (with_reducible assumption) | assumption)
            have q382 : x5_1 < (l0.length : Int) := of_decide_eq_true (by first | (with_reducible assumption) | assumption)
            obtain ⟨ad382, e382, hx382_0⟩ := Kd.at_string HR0.out x5_1 p382 q382
            have hw382_0 := hx382_0
            cases e382
            replace hx382_0 := (HB.out.cell (World.block_lt_of_cell? w _ hx382_0)).trans hx382_0
            replace p382 := eq_true p382
            replace q382 := eq_true q382
            refine start_ (n := 7) (S := fun w' => w'.cell? (ad382.add (x5_1).toNat) = some (.string (rdOf ByteArray.empty l0 x5_1))) (ds := []) #[false, false, false, false, false, false, false] (by kernel_rfl) rfl rfl (((HB.out.cell (World.block_lt_of_cell? w _ hw382_0)).trans hw382_0)) (fun hHeld => ?_)
            generalize wr.drew = w9 at HB hx382_0 hHeld ⊢
            refine pure_ (i := 0) (N := some 12) (v := ?_) (a' := ?_) #[true, false, false, false, false, false, false] rfl rfl (by kernel_rfl) (fun _ _ _ h => h) (Or.inl ⟨by rfl, ?_⟩) ?_ ?_
            rotate_left
            · intro w'
              go_simp
              with_reducible rfl
            rotate_left
            · simp only [Act.put, List.setIfInBounds_toArray, List.set_cons_zero, List.set_cons_succ, i64_w, i32_w]
              rfl
            refine pure_ (i := 1) (N := some 13) (v := ?_) (a' := ?_) #[true, true, false, false, false, false, false] rfl rfl (by kernel_rfl) (fun _ _ _ h => h) (Or.inl ⟨by rfl, ?_⟩) ?_ ?_
            rotate_left
            · intro w'
              go_simp
              with_reducible rfl
            rotate_left
            · simp only [Act.put, List.setIfInBounds_toArray, List.set_cons_zero, List.set_cons_succ, i64_w, i32_w]
              rfl
            refine pure_ (i := 2) (N := some 14) (v := ?_) (a' := ?_) #[true, true, true, false, false, false, false] rfl rfl (by kernel_rfl) (fun _ _ _ h => h) (Or.inl ⟨by rfl, ?_⟩) ?_ ?_
            rotate_left
            · intro w'
              go_simp
              with_reducible rfl
            rotate_left
            · simp only [Act.put, List.setIfInBounds_toArray, List.set_cons_zero, List.set_cons_succ, i64_w, i32_w]
              rfl
            refine pure_ (i := 4) (N := some 16) (v := ?_) (a' := ?_) #[true, true, true, false, true, false, false] rfl rfl (by kernel_rfl) (fun _ _ _ h => h) (Or.inl ⟨by rfl, ?_⟩) ?_ ?_
            rotate_left
            · intro w'
              go_simp
              with_reducible rfl
            rotate_left
            · simp only [Act.put, List.setIfInBounds_toArray, List.set_cons_zero, List.set_cons_succ, i64_w, i32_w]
              rfl
            refine take_ (i := 3) (N := some 15) (v := ?_) (a' := ?_) #[true, true, true, true, true, false, false] rfl rfl (by kernel_rfl) (fun _ _ _ h => h) (Or.inl ⟨by rfl, ?_⟩) hHeld ?_ ?_
            rotate_left
            · intro w' s0
              go_simp
              with_reducible rfl
            rotate_left
            · simp only [Act.put, List.setIfInBounds_toArray, List.set_cons_zero, List.set_cons_succ, i64_w, i32_w]
              rfl
            refine one_ (i := 5) (N := some 17) #[true, true, true, true, true, true, false] rfl rfl (by kernel_rfl) (by decide) (fun K hK => ?_)
            refine goes_ Try.func73 (by kernel_rfl) rfl #[.int .i64 x1_1] (by rfl) rfl rfl (by (try simp only [List.map_toArray, List.map_cons, List.map_nil]); first | done | rfl | (simp only [List.length_drop, List.length_take]; rfl)) ?_
            with_reducible refine (laws_markText.calls k1 x1_1 t383 _ A5.out).mono ?_
            rintro e w10 ⟨rfl, hb⟩
            refine ⟨_, rfl, ?_⟩
            have n0_ := Aside0.mk (below_step (by repeat (first | (with_reducible first | exact HB.out | apply below_alloc | apply pw_below_drewN | apply below_drew1) | exact HB.out)) hb)
            clear HB
            have HB := n0_
            clear n0_
            (try clear hb)
            (try clear hb2)
            (try clear hk)
            (try clear hi)
            refine hK.out _ _ (((HB.out.cell (World.block_lt_of_cell? w _ hw382_0)).trans hw382_0)) (fun hHeld => ?_)
            clear hK K
            refine norm_ (a' := ?_) ?_ ?_
            rotate_left
            · show Act.put _ (some 17) _ = _
              simp only [Act.put, List.setIfInBounds_toArray, List.set_cons_zero, List.set_cons_succ, i64_w, i32_w]
              rfl
            refine pure_ (i := 6) (N := some 18) (v := ?_) (a' := ?_) #[true, true, true, true, true, true, true] rfl rfl (by kernel_rfl) (fun _ _ _ h => h) (Or.inl ⟨by rfl, ?_⟩) ?_ ?_
            rotate_left
            · intro w'
              go_simp
              with_reducible rfl
            rotate_left
            · simp only [Act.put, List.setIfInBounds_toArray, List.set_cons_zero, List.set_cons_succ, i64_w, i32_w]
              rfl
            refine done_ (by kernel_rfl) ?_
            try go_wp2
            go_ret
            exact ⟨by first | rfl | (simp [errW_none, errW_some] <;> rfl) | (simp [*, errW_none, errW_some] <;> rfl), by repeat (first | (with_reducible first | exact HB.out | apply below_alloc | apply pw_below_drewN | apply below_drew1) | exact HB.out)⟩
        · rw [if_neg c4] at H
          exact absurd H (by simp)
      · rw [if_neg c3] at H
        have c3b0 : decide (x5_1 < (l0.length : Int)) = false := decide_eq_false c3
        clear c3
        obtain rfl := Option.some.inj H
        go_wp2
        go_ret
        exact ⟨by first | rfl | (simp [errW_none, errW_some] <;> rfl) | (simp [*, errW_none, errW_some] <;> rfl), by repeat (first | (with_reducible first | exact HB.out | apply below_alloc | apply pw_below_drewN | apply below_drew1) | exact HB.out)⟩

/-! ### laws_heldLockS: function 35 -/
def laws_heldLockS.l0 : Nat → List (S28) → Int → Int → Option (Int)
  | 0, _, _, _ => none
  | k + 1, x0, x1, x5 => if x5 < (x0.length : Int) then (if 0 ≤ x5 then (if ((rd_T28 x0 x5).f0) = x1 then ((laws_heldStringS.f k ((rd_T28 x0 x5).f1) (wrap64 (x1 + 1))).bind fun t386 => (if t386 < 0 then (some (-1)) else (if (((rd_T28 x0 x5).f2) != ((Int.tmod t386 3) == 0)) = true then (some (-1)) else (if (((rd_T28 x0 x5).f3) != ((Int.tmod (wrap64 (t386 + 1)) 3) == 0)) = true then (some (-1)) else (if ((rd_T28 x0 x5).f4) = (wrap64 ((wrap64 (t386 + 1)) + 1)) then (laws_heldLockS.l0 k x0 (wrap64 ((wrap64 ((wrap64 (t386 + 1)) + 1)) + 1)) (wrap64 (x5 + 1))) else (some (-1))))))) else (some (-1))) else (none)) else (some x1)
def laws_heldLockS.f (k : Nat) (l0 : List (S28)) (a1 : Int) : Option (Int) := laws_heldLockS.l0 k l0 a1 0
set_option maxHeartbeats 8000000 in
set_option maxRecDepth 100000 in
theorem laws_heldLockS.calls (k : Nat) (A0 : Option Addr) (c0 : Nat) (l0 : List (S28)) (a1 : Int) (r : Int) (w : World) (hr0 : Kd.C k28 w A0 l0.length l0) (hc0 : l0.length ≤ c0) (h : laws_heldLockS.f k l0 a1 = some r) :
    Calls Try.prog 35 #[.slice A0 l0.length c0, .int .i64 a1] w fun e w' => e = .returned (.int .i64 r) ∧ Below w.heap.size w w' := by
  have HR0 := Aside0.mk hr0
  have HC0 := Aside0.mk hc0
  clear hr0 hc0
  have HB := Aside0.mk (Below.refl w.heap.size w)
  have H : (laws_heldLockS.l0 k l0 a1 0) = some r := h
  clear h
  have H' := Aside0.mk H
  clear H
  go_enter Try.func35, Try.ntmps35
  go_wp2
  go_loopg [1, 5] k (fun kq v1 v5 w' => ∃ (x1_1 : Int) (x5_1 : Int), v1 = .int .i64 x1_1 ∧ v5 = .int .i64 x5_1 ∧ Aside0 (laws_heldLockS.l0 kq l0 x1_1 x5_1 = some r) ∧ Aside0 (kq ≤ k) ∧ Aside0 (Below w.heap.size w w'))
  case atStart => exact ⟨(a1), (0), (by first | rfl | (simp; done) | (simp [*]; done)), (by first | rfl | (simp; done) | (simp [*]; done)), H', ⟨Nat.le_refl _⟩, ⟨by repeat (first | (with_reducible first | exact HB.out | apply below_alloc | apply pw_below_drewN | apply below_drew1) | exact HB.out)⟩⟩
  case round =>
    clear H'
    try clear p2
    obtain ⟨x1_1, x5_1, rfl, rfl, HA, HK1, HB⟩ := hrel
    cases gk with
    | zero => exact absurd HA.out (by simp [laws_heldLockS.l0])
    | succ k1 =>
      have H := HA.out
      clear HA
      simp only [laws_heldLockS.l0] at H
      by_cases c3 : x5_1 < (l0.length : Int)
      · rw [if_pos c3] at H
        have c3b0 : decide (x5_1 < (l0.length : Int)) = true := decide_eq_true c3
        clear c3
        by_cases c4 : 0 ≤ x5_1
        · rw [if_pos c4] at H
          have c4b0 : decide (0 ≤ x5_1) = true := decide_eq_true c4
          clear c4
          by_cases c5 : ((rd_T28 l0 x5_1).f0) = x1_1
          · rw [if_pos c5] at H
            have c5b0 : (((rd_T28 l0 x5_1).f0) == x1_1) = true := beq_iff_eq.mpr c5
            have c5b1 : (((rd_T28 l0 x5_1).f0) != x1_1) = false := bne_eq_false_iff_eq.mpr c5
            clear c5
            replace H := Option.bind_eq_some_iff.mp H
            obtain ⟨t386, A60, H⟩ := H
            replace H : (if t386 < 0 then (some (-1)) else (if (((rd_T28 l0 x5_1).f2) != ((Int.tmod t386 3) == 0)) = true then (some (-1)) else (if (((rd_T28 l0 x5_1).f3) != ((Int.tmod (wrap64 (t386 + 1)) 3) == 0)) = true then (some (-1)) else (if ((rd_T28 l0 x5_1).f4) = (wrap64 ((wrap64 (t386 + 1)) + 1)) then (laws_heldLockS.l0 k1 l0 (wrap64 ((wrap64 ((wrap64 (t386 + 1)) + 1)) + 1)) (wrap64 (x5_1 + 1))) else (some (-1)))))) = some r := H
            have A6 := Aside0.mk A60
            clear A60
            by_cases c7 : t386 < 0
            · rw [if_pos c7] at H
              have c7b0 : decide (t386 < 0) = true := decide_eq_true c7
              clear c7
              obtain rfl := Option.some.inj H
              have p384 : 0 ≤ (x5_1 : Int) := of_decide_eq_true (by first | (with_reducible assumption) | assumption)
              have q384 : x5_1 < (l0.length : Int) := of_decide_eq_true (by first | (with_reducible assumption) | assumption)
              obtain ⟨ad384, A384_1, c384_1, e384, hx384_0, hx384_1, hx384_2, hx384_3, hx384_4, hl384_1, hi384_1⟩ := at_T28 HR0.out x5_1 p384 q384
              cases e384
              replace hx384_0 := (HB.out.cell (World.block_lt_of_cell? w _ hx384_0)).trans hx384_0
              replace hx384_1 := (HB.out.cell (World.block_lt_of_cell? w _ hx384_1)).trans hx384_1
              replace hx384_2 := (HB.out.cell (World.block_lt_of_cell? w _ hx384_2)).trans hx384_2
              replace hx384_3 := (HB.out.cell (World.block_lt_of_cell? w _ hx384_3)).trans hx384_3
              replace hx384_4 := (HB.out.cell (World.block_lt_of_cell? w _ hx384_4)).trans hx384_4
              have HR384_1 := Aside0.mk hi384_1
              have HC384_1 := Aside0.mk hl384_1
              clear hi384_1 hl384_1
              replace p384 := eq_true p384
              replace q384 := eq_true q384
              have p385 : 0 ≤ (x5_1 : Int) := of_decide_eq_true (by first | (with_reducible assumption) | assumption)
              have q385 : x5_1 < (l0.length : Int) := of_decide_eq_true (by first | (with_reducible assumption) | assumption)
              obtain ⟨ad385, A385_1, c385_1, e385, hx385_0, hx385_1, hx385_2, hx385_3, hx385_4, hl385_1, hi385_1⟩ := at_T28 HR0.out x5_1 p385 q385
              obtain rfl : ad384 = ad385 := (by injection e385)
              replace hx385_0 := (HB.out.cell (World.block_lt_of_cell? w _ hx385_0)).trans hx385_0
              replace hx385_1 := (HB.out.cell (World.block_lt_of_cell? w _ hx385_1)).trans hx385_1
              replace hx385_2 := (HB.out.cell (World.block_lt_of_cell? w _ hx385_2)).trans hx385_2
              replace hx385_3 := (HB.out.cell (World.block_lt_of_cell? w _ hx385_3)).trans hx385_3
              replace hx385_4 := (HB.out.cell (World.block_lt_of_cell? w _ hx385_4)).trans hx385_4
              have HR385_1 := Aside0.mk hi385_1
              have HC385_1 := Aside0.mk hl385_1
              clear hi385_1 hl385_1
              replace p385 := eq_true p385
              replace q385 := eq_true q385
              have ea_ := Option.some.inj (hx384_1.symm.trans hx385_1)
              injection ea_ with ea_ en_ ec_
              subst ea_
              subst ec_
              clear en_
              go_wp2_with (first | ((with_reducible refine gate_callee (f := 70) rfl ?_); refine goesL_ (some 27) rfl rfl Try.func70 (by kernel_rfl) rfl #[.slice A384_1 ((rd_T28 l0 x5_1).f1).length c384_1, .int .i64 (wrap64 (x1_1 + 1))] rfl (by (try simp only [List.map_toArray, List.map_cons, List.map_nil]); first | done | rfl | (simp only [List.length_drop, List.length_take]; rfl)) ?_; (with_reducible refine (laws_heldStringS.calls k1 _ _ ((rd_T28 l0 x5_1).f1) (wrap64 (x1_1 + 1)) t386 _ ?side1 ?side2 A6.out).mono ?_); (case side1 => repeat (first | exact (Kd.C_below HR385_1.out HB.out) | (with_reducible refine Kd.C_alloc ?_ _) | (with_reducible refine Kd.C_drewN ?_ _) | (with_reducible refine Kd.C_drew ?_))); (case side2 => exact HC385_1.out); rintro e w8 ⟨rfl, hb⟩; refine ⟨_, rfl, ?_⟩; have n0_ := Aside0.mk (below_step (by repeat (first | (with_reducible first | exact HB.out | apply below_alloc | apply pw_below_drewN | apply below_drew1) | exact HB.out)) hb); clear HB; have HB := n0_; clear n0_; (try clear hb); (try clear hb2); (try clear hk); (try clear hi)))
              go_ret
              exact ⟨by first | rfl | (simp [errW_none, errW_some] <;> rfl) | (simp [*, errW_none, errW_some] <;> rfl), by repeat (first | (with_reducible first | exact HB.out | apply below_alloc | apply pw_below_drewN | apply below_drew1) | exact HB.out)⟩
            · rw [if_neg c7] at H
              have c7b0 : decide (t386 < 0) = false := decide_eq_false c7
              clear c7
              by_cases c9 : (((rd_T28 l0 x5_1).f2) != ((Int.tmod t386 3) == 0)) = true
              · rw [if_pos c9] at H
                have c9b0 : (((rd_T28 l0 x5_1).f2) != ((Int.tmod t386 3) == 0)) = true := c9
                (try (have c9b1 : decide (((rd_T28 l0 x5_1).f2) = ((Int.tmod t386 3) == 0)) = false := by simpa using c9))
                (try (have c9b2 : (((rd_T28 l0 x5_1).f2) == ((Int.tmod t386 3) == 0)) = false := by simpa using c9))
                (try (have c9b3 : ¬ (((rd_T28 l0 x5_1).f2) = ((Int.tmod t386 3) == 0)) := by simpa using c9))
                clear c9
                obtain rfl := Option.some.inj H
                have p384 : 0 ≤ (x5_1 : Int) := of_decide_eq_true (by first | (with_reducible assumption) | assumption)
                have q384 : x5_1 < (l0.length : Int) := of_decide_eq_true (by first | (with_reducible assumption) | assumption)
                obtain ⟨ad384, A384_1, c384_1, e384, hx384_0, hx384_1, hx384_2, hx384_3, hx384_4, hl384_1, hi384_1⟩ := at_T28 HR0.out x5_1 p384 q384
                cases e384
                replace hx384_0 := (HB.out.cell (World.block_lt_of_cell? w _ hx384_0)).trans hx384_0
                replace hx384_1 := (HB.out.cell (World.block_lt_of_cell? w _ hx384_1)).trans hx384_1
                replace hx384_2 := (HB.out.cell (World.block_lt_of_cell? w _ hx384_2)).trans hx384_2
                replace hx384_3 := (HB.out.cell (World.block_lt_of_cell? w _ hx384_3)).trans hx384_3
                replace hx384_4 := (HB.out.cell (World.block_lt_of_cell? w _ hx384_4)).trans hx384_4
                have HR384_1 := Aside0.mk hi384_1
                have HC384_1 := Aside0.mk hl384_1
                clear hi384_1 hl384_1
                replace p384 := eq_true p384
                replace q384 := eq_true q384
                have p385 : 0 ≤ (x5_1 : Int) := of_decide_eq_true (by first | (with_reducible assumption) | assumption)
                have q385 : x5_1 < (l0.length : Int) := of_decide_eq_true (by first | (with_reducible assumption) | assumption)
                obtain ⟨ad385, A385_1, c385_1, e385, hx385_0, hx385_1, hx385_2, hx385_3, hx385_4, hl385_1, hi385_1⟩ := at_T28 HR0.out x5_1 p385 q385
                obtain rfl : ad384 = ad385 := (by injection e385)
                replace hx385_0 := (HB.out.cell (World.block_lt_of_cell? w _ hx385_0)).trans hx385_0
                replace hx385_1 := (HB.out.cell (World.block_lt_of_cell? w _ hx385_1)).trans hx385_1
                replace hx385_2 := (HB.out.cell (World.block_lt_of_cell? w _ hx385_2)).trans hx385_2
                replace hx385_3 := (HB.out.cell (World.block_lt_of_cell? w _ hx385_3)).trans hx385_3
                replace hx385_4 := (HB.out.cell (World.block_lt_of_cell? w _ hx385_4)).trans hx385_4
                have HR385_1 := Aside0.mk hi385_1
                have HC385_1 := Aside0.mk hl385_1
                clear hi385_1 hl385_1
                replace p385 := eq_true p385
                replace q385 := eq_true q385
                have ea_ := Option.some.inj (hx384_1.symm.trans hx385_1)
                injection ea_ with ea_ en_ ec_
                subst ea_
                subst ec_
                clear en_
                go_wp2_with (first | ((with_reducible refine gate_callee (f := 70) rfl ?_); refine goesL_ (some 27) rfl rfl Try.func70 (by kernel_rfl) rfl #[.slice A384_1 ((rd_T28 l0 x5_1).f1).length c384_1, .int .i64 (wrap64 (x1_1 + 1))] rfl (by (try simp only [List.map_toArray, List.map_cons, List.map_nil]); first | done | rfl | (simp only [List.length_drop, List.length_take]; rfl)) ?_; (with_reducible refine (laws_heldStringS.calls k1 _ _ ((rd_T28 l0 x5_1).f1) (wrap64 (x1_1 + 1)) t386 _ ?side1 ?side2 A6.out).mono ?_); (case side1 => repeat (first | exact (Kd.C_below HR385_1.out HB.out) | (with_reducible refine Kd.C_alloc ?_ _) | (with_reducible refine Kd.C_drewN ?_ _) | (with_reducible refine Kd.C_drew ?_))); (case side2 => exact HC385_1.out); rintro e w10 ⟨rfl, hb⟩; refine ⟨_, rfl, ?_⟩; have n0_ := Aside0.mk (below_step (by repeat (first | (with_reducible first | exact HB.out | apply below_alloc | apply pw_below_drewN | apply below_drew1) | exact HB.out)) hb); clear HB; have HB := n0_; clear n0_; (try clear hb); (try clear hb2); (try clear hk); (try clear hi); have p387 : 0 ≤ (x5_1 : Int) := of_decide_eq_true (by first | (with_reducible assumption) | assumption); have q387 : x5_1 < (l0.length : Int) := of_decide_eq_true (by first | (with_reducible assumption) | assumption); obtain ⟨ad387, A387_1, c387_1, e387, hx387_0, hx387_1, hx387_2, hx387_3, hx387_4, hl387_1, hi387_1⟩ := at_T28 HR0.out x5_1 p387 q387; obtain rfl : ad384 = ad387 := (by injection e387); replace hx387_0 := (HB.out.cell (World.block_lt_of_cell? w _ hx387_0)).trans hx387_0; replace hx387_1 := (HB.out.cell (World.block_lt_of_cell? w _ hx387_1)).trans hx387_1; replace hx387_2 := (HB.out.cell (World.block_lt_of_cell? w _ hx387_2)).trans hx387_2; replace hx387_3 := (HB.out.cell (World.block_lt_of_cell? w _ hx387_3)).trans hx387_3; replace hx387_4 := (HB.out.cell (World.block_lt_of_cell? w _ hx387_4)).trans hx387_4; have HR387_1 := Aside0.mk hi387_1; have HC387_1 := Aside0.mk hl387_1; clear hi387_1 hl387_1; replace p387 := eq_true p387; replace q387 := eq_true q387))
                go_ret
                exact ⟨by first | rfl | (simp [errW_none, errW_some] <;> rfl) | (simp [*, errW_none, errW_some] <;> rfl), by repeat (first | (with_reducible first | exact HB.out | apply below_alloc | apply pw_below_drewN | apply below_drew1) | exact HB.out)⟩
              · rw [if_neg c9] at H
                have c9b0 : (((rd_T28 l0 x5_1).f2) != ((Int.tmod t386 3) == 0)) = false := by simpa using c9
                (try (have c9b1 : decide (((rd_T28 l0 x5_1).f2) = ((Int.tmod t386 3) == 0)) = true := by simpa using c9))
                (try (have c9b2 : (((rd_T28 l0 x5_1).f2) == ((Int.tmod t386 3) == 0)) = true := by simpa using c9))
                clear c9
                by_cases c11 : (((rd_T28 l0 x5_1).f3) != ((Int.tmod (wrap64 (t386 + 1)) 3) == 0)) = true
                · rw [if_pos c11] at H
                  have c11b0 : (((rd_T28 l0 x5_1).f3) != ((Int.tmod (wrap64 (t386 + 1)) 3) == 0)) = true := c11
                  (try (have c11b1 : decide (((rd_T28 l0 x5_1).f3) = ((Int.tmod (wrap64 (t386 + 1)) 3) == 0)) = false := by simpa using c11))
                  (try (have c11b2 : (((rd_T28 l0 x5_1).f3) == ((Int.tmod (wrap64 (t386 + 1)) 3) == 0)) = false := by simpa using c11))
                  (try (have c11b3 : ¬ (((rd_T28 l0 x5_1).f3) = ((Int.tmod (wrap64 (t386 + 1)) 3) == 0)) := by simpa using c11))
                  clear c11
                  obtain rfl := Option.some.inj H
                  have p384 : 0 ≤ (x5_1 : Int) := of_decide_eq_true (by first | (with_reducible assumption) | assumption)
                  have q384 : x5_1 < (l0.length : Int) := of_decide_eq_true (by first | (with_reducible assumption) | assumption)
                  obtain ⟨ad384, A384_1, c384_1, e384, hx384_0, hx384_1, hx384_2, hx384_3, hx384_4, hl384_1, hi384_1⟩ := at_T28 HR0.out x5_1 p384 q384
                  cases e384
                  replace hx384_0 := (HB.out.cell (World.block_lt_of_cell? w _ hx384_0)).trans hx384_0
                  replace hx384_1 := (HB.out.cell (World.block_lt_of_cell? w _ hx384_1)).trans hx384_1
                  replace hx384_2 := (HB.out.cell (World.block_lt_of_cell? w _ hx384_2)).trans hx384_2
                  replace hx384_3 := (HB.out.cell (World.block_lt_of_cell? w _ hx384_3)).trans hx384_3
                  replace hx384_4 := (HB.out.cell (World.block_lt_of_cell? w _ hx384_4)).trans hx384_4
                  have HR384_1 := Aside0.mk hi384_1
                  have HC384_1 := Aside0.mk hl384_1
                  clear hi384_1 hl384_1
                  replace p384 := eq_true p384
                  replace q384 := eq_true q384
                  have p385 : 0 ≤ (x5_1 : Int) := of_decide_eq_true (by first | (with_reducible assumption) | assumption)
                  have q385 : x5_1 < (l0.length : Int) := of_decide_eq_true (by first | (with_reducible assumption) | assumption)
                  obtain ⟨ad385, A385_1, c385_1, e385, hx385_0, hx385_1, hx385_2, hx385_3, hx385_4, hl385_1, hi385_1⟩ := at_T28 HR0.out x5_1 p385 q385
                  obtain rfl : ad384 = ad385 := (by injection e385)
                  replace hx385_0 := (HB.out.cell (World.block_lt_of_cell? w _ hx385_0)).trans hx385_0
                  replace hx385_1 := (HB.out.cell (World.block_lt_of_cell? w _ hx385_1)).trans hx385_1
                  replace hx385_2 := (HB.out.cell (World.block_lt_of_cell? w _ hx385_2)).trans hx385_2
                  replace hx385_3 := (HB.out.cell (World.block_lt_of_cell? w _ hx385_3)).trans hx385_3
                  replace hx385_4 := (HB.out.cell (World.block_lt_of_cell? w _ hx385_4)).trans hx385_4
                  have HR385_1 := Aside0.mk hi385_1
                  have HC385_1 := Aside0.mk hl385_1
                  clear hi385_1 hl385_1
                  replace p385 := eq_true p385
                  replace q385 := eq_true q385
                  have ea_ := Option.some.inj (hx384_1.symm.trans hx385_1)
                  injection ea_ with ea_ en_ ec_
                  subst ea_
                  subst ec_
                  clear en_
                  go_wp2_with (first | ((with_reducible refine gate_callee (f := 70) rfl ?_); refine goesL_ (some 27) rfl rfl Try.func70 (by kernel_rfl) rfl #[.slice A384_1 ((rd_T28 l0 x5_1).f1).length c384_1, .int .i64 (wrap64 (x1_1 + 1))] rfl (by (try simp only [List.map_toArray, List.map_cons, List.map_nil]); first | done | rfl | (simp only [List.length_drop, List.length_take]; rfl)) ?_; (with_reducible refine (laws_heldStringS.calls k1 _ _ ((rd_T28 l0 x5_1).f1) (wrap64 (x1_1 + 1)) t386 _ ?side1 ?side2 A6.out).mono ?_); (case side1 => repeat (first | exact (Kd.C_below HR385_1.out HB.out) | (with_reducible refine Kd.C_alloc ?_ _) | (with_reducible refine Kd.C_drewN ?_ _) | (with_reducible refine Kd.C_drew ?_))); (case side2 => exact HC385_1.out); rintro e w12 ⟨rfl, hb⟩; refine ⟨_, rfl, ?_⟩; have n0_ := Aside0.mk (below_step (by repeat (first | (with_reducible first | exact HB.out | apply below_alloc | apply pw_below_drewN | apply below_drew1) | exact HB.out)) hb); clear HB; have HB := n0_; clear n0_; (try clear hb); (try clear hb2); (try clear hk); (try clear hi); have p387 : 0 ≤ (x5_1 : Int) := of_decide_eq_true (by first | (with_reducible assumption) | assumption); have q387 : x5_1 < (l0.length : Int) := of_decide_eq_true (by first | (with_reducible assumption) | assumption); obtain ⟨ad387, A387_1, c387_1, e387, hx387_0, hx387_1, hx387_2, hx387_3, hx387_4, hl387_1, hi387_1⟩ := at_T28 HR0.out x5_1 p387 q387; obtain rfl : ad384 = ad387 := (by injection e387); replace hx387_0 := (HB.out.cell (World.block_lt_of_cell? w _ hx387_0)).trans hx387_0; replace hx387_1 := (HB.out.cell (World.block_lt_of_cell? w _ hx387_1)).trans hx387_1; replace hx387_2 := (HB.out.cell (World.block_lt_of_cell? w _ hx387_2)).trans hx387_2; replace hx387_3 := (HB.out.cell (World.block_lt_of_cell? w _ hx387_3)).trans hx387_3; replace hx387_4 := (HB.out.cell (World.block_lt_of_cell? w _ hx387_4)).trans hx387_4; have HR387_1 := Aside0.mk hi387_1; have HC387_1 := Aside0.mk hl387_1; clear hi387_1 hl387_1; replace p387 := eq_true p387; replace q387 := eq_true q387; have p388 : 0 ≤ (x5_1 : Int) := of_decide_eq_true (by first | (with_reducible assumption) | assumption); have q388 : x5_1 < (l0.length : Int) := of_decide_eq_true (by first | (with_reducible assumption) | assumption); obtain ⟨ad388, A388_1, c388_1, e388, hx388_0, hx388_1, hx388_2, hx388_3, hx388_4, hl388_1, hi388_1⟩ := at_T28 HR0.out x5_1 p388 q388; obtain rfl : ad384 = ad388 := (by injection e388); replace hx388_0 := (HB.out.cell (World.block_lt_of_cell? w _ hx388_0)).trans hx388_0; replace hx388_1 := (HB.out.cell (World.block_lt_of_cell? w _ hx388_1)).trans hx388_1; replace hx388_2 := (HB.out.cell (World.block_lt_of_cell? w _ hx388_2)).trans hx388_2; replace hx388_3 := (HB.out.cell (World.block_lt_of_cell? w _ hx388_3)).trans hx388_3; replace hx388_4 := (HB.out.cell (World.block_lt_of_cell? w _ hx388_4)).trans hx388_4; have HR388_1 := Aside0.mk hi388_1; have HC388_1 := Aside0.mk hl388_1; clear hi388_1 hl388_1; replace p388 := eq_true p388; replace q388 := eq_true q388; have ea_ := Option.some.inj (hx387_1.symm.trans hx388_1); injection ea_ with ea_ en_ ec_; subst ea_; subst ec_; clear en_))
                  go_ret
                  exact ⟨by first | rfl | (simp [errW_none, errW_some] <;> rfl) | (simp [*, errW_none, errW_some] <;> rfl), by repeat (first | (with_reducible first | exact HB.out | apply below_alloc | apply pw_below_drewN | apply below_drew1) | exact HB.out)⟩
                · rw [if_neg c11] at H
                  have c11b0 : (((rd_T28 l0 x5_1).f3) != ((Int.tmod (wrap64 (t386 + 1)) 3) == 0)) = false := by simpa using c11
                  (try (have c11b1 : decide (((rd_T28 l0 x5_1).f3) = ((Int.tmod (wrap64 (t386 + 1)) 3) == 0)) = true := by simpa using c11))
                  (try (have c11b2 : (((rd_T28 l0 x5_1).f3) == ((Int.tmod (wrap64 (t386 + 1)) 3) == 0)) = true := by simpa using c11))
                  clear c11
                  by_cases c13 : ((rd_T28 l0 x5_1).f4) = (wrap64 ((wrap64 (t386 + 1)) + 1))
                  · rw [if_pos c13] at H
                    have c13b0 : (((rd_T28 l0 x5_1).f4) == (wrap64 ((wrap64 (t386 + 1)) + 1))) = true := beq_iff_eq.mpr c13
                    have c13b1 : (((rd_T28 l0 x5_1).f4) != (wrap64 ((wrap64 (t386 + 1)) + 1))) = false := bne_eq_false_iff_eq.mpr c13
                    clear c13
                    have H' := Aside0.mk H
                    clear H
                    have p384 : 0 ≤ (x5_1 : Int) := of_decide_eq_true (by first | (with_reducible assumption) | assumption)
                    have q384 : x5_1 < (l0.length : Int) := of_decide_eq_true (by first | (with_reducible assumption) | assumption)
                    obtain ⟨ad384, A384_1, c384_1, e384, hx384_0, hx384_1, hx384_2, hx384_3, hx384_4, hl384_1, hi384_1⟩ := at_T28 HR0.out x5_1 p384 q384
                    cases e384
                    replace hx384_0 := (HB.out.cell (World.block_lt_of_cell? w _ hx384_0)).trans hx384_0
                    replace hx384_1 := (HB.out.cell (World.block_lt_of_cell? w _ hx384_1)).trans hx384_1
                    replace hx384_2 := (HB.out.cell (World.block_lt_of_cell? w _ hx384_2)).trans hx384_2
                    replace hx384_3 := (HB.out.cell (World.block_lt_of_cell? w _ hx384_3)).trans hx384_3
                    replace hx384_4 := (HB.out.cell (World.block_lt_of_cell? w _ hx384_4)).trans hx384_4
                    have HR384_1 := Aside0.mk hi384_1
                    have HC384_1 := Aside0.mk hl384_1
                    clear hi384_1 hl384_1
                    replace p384 := eq_true p384
                    replace q384 := eq_true q384
                    have p385 : 0 ≤ (x5_1 : Int) := of_decide_eq_true (by first | (with_reducible assumption) | assumption)
                    have q385 : x5_1 < (l0.length : Int) := of_decide_eq_true (by first | (with_reducible assumption) | assumption)
                    obtain ⟨ad385, A385_1, c385_1, e385, hx385_0, hx385_1, hx385_2, hx385_3, hx385_4, hl385_1, hi385_1⟩ := at_T28 HR0.out x5_1 p385 q385
                    obtain rfl : ad384 = ad385 := (by injection e385)
                    replace hx385_0 := (HB.out.cell (World.block_lt_of_cell? w _ hx385_0)).trans hx385_0
                    replace hx385_1 := (HB.out.cell (World.block_lt_of_cell? w _ hx385_1)).trans hx385_1
                    replace hx385_2 := (HB.out.cell (World.block_lt_of_cell? w _ hx385_2)).trans hx385_2
                    replace hx385_3 := (HB.out.cell (World.block_lt_of_cell? w _ hx385_3)).trans hx385_3
                    replace hx385_4 := (HB.out.cell (World.block_lt_of_cell? w _ hx385_4)).trans hx385_4
                    have HR385_1 := Aside0.mk hi385_1
                    have HC385_1 := Aside0.mk hl385_1
                    clear hi385_1 hl385_1
                    replace p385 := eq_true p385
                    replace q385 := eq_true q385
                    have ea_ := Option.some.inj (hx384_1.symm.trans hx385_1)
                    injection ea_ with ea_ en_ ec_
                    subst ea_
                    subst ec_
                    clear en_
                    go_wp2_with (first | ((with_reducible refine gate_callee (f := 70) rfl ?_); refine goesL_ (some 27) rfl rfl Try.func70 (by kernel_rfl) rfl #[.slice A384_1 ((rd_T28 l0 x5_1).f1).length c384_1, .int .i64 (wrap64 (x1_1 + 1))] rfl (by (try simp only [List.map_toArray, List.map_cons, List.map_nil]); first | done | rfl | (simp only [List.length_drop, List.length_take]; rfl)) ?_; (with_reducible refine (laws_heldStringS.calls k1 _ _ ((rd_T28 l0 x5_1).f1) (wrap64 (x1_1 + 1)) t386 _ ?side1 ?side2 A6.out).mono ?_); (case side1 => repeat (first | exact (Kd.C_below HR385_1.out HB.out) | (with_reducible refine Kd.C_alloc ?_ _) | (with_reducible refine Kd.C_drewN ?_ _) | (with_reducible refine Kd.C_drew ?_))); (case side2 => exact HC385_1.out); rintro e w14 ⟨rfl, hb⟩; refine ⟨_, rfl, ?_⟩; have n0_ := Aside0.mk (below_step (by repeat (first | (with_reducible first | exact HB.out | apply below_alloc | apply pw_below_drewN | apply below_drew1) | exact HB.out)) hb); clear HB; have HB := n0_; clear n0_; (try clear hb); (try clear hb2); (try clear hk); (try clear hi); have p387 : 0 ≤ (x5_1 : Int) := of_decide_eq_true (by first | (with_reducible assumption) | assumption); have q387 : x5_1 < (l0.length : Int) := of_decide_eq_true (by first | (with_reducible assumption) | assumption); obtain ⟨ad387, A387_1, c387_1, e387, hx387_0, hx387_1, hx387_2, hx387_3, hx387_4, hl387_1, hi387_1⟩ := at_T28 HR0.out x5_1 p387 q387; obtain rfl : ad384 = ad387 := (by injection e387); replace hx387_0 := (HB.out.cell (World.block_lt_of_cell? w _ hx387_0)).trans hx387_0; replace hx387_1 := (HB.out.cell (World.block_lt_of_cell? w _ hx387_1)).trans hx387_1; replace hx387_2 := (HB.out.cell (World.block_lt_of_cell? w _ hx387_2)).trans hx387_2; replace hx387_3 := (HB.out.cell (World.block_lt_of_cell? w _ hx387_3)).trans hx387_3; replace hx387_4 := (HB.out.cell (World.block_lt_of_cell? w _ hx387_4)).trans hx387_4; have HR387_1 := Aside0.mk hi387_1; have HC387_1 := Aside0.mk hl387_1; clear hi387_1 hl387_1; replace p387 := eq_true p387; replace q387 := eq_true q387; have p388 : 0 ≤ (x5_1 : Int) := of_decide_eq_true (by first | (with_reducible assumption) | assumption); have q388 : x5_1 < (l0.length : Int) := of_decide_eq_true (by first | (with_reducible assumption) | assumption); obtain ⟨ad388, A388_1, c388_1, e388, hx388_0, hx388_1, hx388_2, hx388_3, hx388_4, hl388_1, hi388_1⟩ := at_T28 HR0.out x5_1 p388 q388; obtain rfl : ad384 = ad388 := (by injection e388); replace hx388_0 := (HB.out.cell (World.block_lt_of_cell? w _ hx388_0)).trans hx388_0; replace hx388_1 := (HB.out.cell (World.block_lt_of_cell? w _ hx388_1)).trans hx388_1; replace hx388_2 := (HB.out.cell (World.block_lt_of_cell? w _ hx388_2)).trans hx388_2; replace hx388_3 := (HB.out.cell (World.block_lt_of_cell? w _ hx388_3)).trans hx388_3; replace hx388_4 := (HB.out.cell (World.block_lt_of_cell? w _ hx388_4)).trans hx388_4; have HR388_1 := Aside0.mk hi388_1; have HC388_1 := Aside0.mk hl388_1; clear hi388_1 hl388_1; replace p388 := eq_true p388; replace q388 := eq_true q388; have ea_ := Option.some.inj (hx387_1.symm.trans hx388_1); injection ea_ with ea_ en_ ec_; subst ea_; subst ec_; clear en_; have p389 : 0 ≤ (x5_1 : Int) := of_decide_eq_true (by first | (with_reducible assumption) | assumption); have q389 : x5_1 < (l0.length : Int) := of_decide_eq_true (by first | (with_reducible assumption) | assumption); obtain ⟨ad389, A389_1, c389_1, e389, hx389_0, hx389_1, hx389_2, hx389_3, hx389_4, hl389_1, hi389_1⟩ := at_T28 HR0.out x5_1 p389 q389; obtain rfl : ad384 = ad389 := (by injection e389); replace hx389_0 := (HB.out.cell (World.block_lt_of_cell? w _ hx389_0)).trans hx389_0; replace hx389_1 := (HB.out.cell (World.block_lt_of_cell? w _ hx389_1)).trans hx389_1; replace hx389_2 := (HB.out.cell (World.block_lt_of_cell? w _ hx389_2)).trans hx389_2; replace hx389_3 := (HB.out.cell (World.block_lt_of_cell? w _ hx389_3)).trans hx389_3; replace hx389_4 := (HB.out.cell (World.block_lt_of_cell? w _ hx389_4)).trans hx389_4; have HR389_1 := Aside0.mk hi389_1; have HC389_1 := Aside0.mk hl389_1; clear hi389_1 hl389_1; replace p389 := eq_true p389; replace q389 := eq_true q389; have ea_ := Option.some.inj (hx387_1.symm.trans hx389_1); injection ea_ with ea_ en_ ec_; subst ea_; subst ec_; clear en_))
                    go_roundg k1
                    case measure => have := HK1.out; omega
                    case rel => exact ⟨(wrap64 ((wrap64 ((wrap64 (t386 + 1)) + 1)) + 1)), (wrap64 (x5_1 + 1)), (by first | rfl | (simp; done) | (simp [*]; done)), (by first | rfl | (simp; done) | (simp [*]; done)), H', ⟨by have := HK1.out; omega⟩, ⟨by repeat (first | (with_reducible first | exact HB.out | apply below_alloc | apply pw_below_drewN | apply below_drew1) | exact HB.out)⟩⟩
                  · rw [if_neg c13] at H
                    have c13b0 : (((rd_T28 l0 x5_1).f4) == (wrap64 ((wrap64 (t386 + 1)) + 1))) = false := beq_eq_false_iff_ne.mpr c13
                    have c13b1 : (((rd_T28 l0 x5_1).f4) != (wrap64 ((wrap64 (t386 + 1)) + 1))) = true := bne_iff_ne.mpr c13
                    obtain rfl := Option.some.inj H
                    have p384 : 0 ≤ (x5_1 : Int) := of_decide_eq_true (by first | (with_reducible assumption) | assumption)
                    have q384 : x5_1 < (l0.length : Int) := of_decide_eq_true (by first | (with_reducible assumption) | assumption)
                    obtain ⟨ad384, A384_1, c384_1, e384, hx384_0, hx384_1, hx384_2, hx384_3, hx384_4, hl384_1, hi384_1⟩ := at_T28 HR0.out x5_1 p384 q384
                    cases e384
                    replace hx384_0 := (HB.out.cell (World.block_lt_of_cell? w _ hx384_0)).trans hx384_0
                    replace hx384_1 := (HB.out.cell (World.block_lt_of_cell? w _ hx384_1)).trans hx384_1
                    replace hx384_2 := (HB.out.cell (World.block_lt_of_cell? w _ hx384_2)).trans hx384_2
                    replace hx384_3 := (HB.out.cell (World.block_lt_of_cell? w _ hx384_3)).trans hx384_3
                    replace hx384_4 := (HB.out.cell (World.block_lt_of_cell? w _ hx384_4)).trans hx384_4
                    have HR384_1 := Aside0.mk hi384_1
                    have HC384_1 := Aside0.mk hl384_1
                    clear hi384_1 hl384_1
                    replace p384 := eq_true p384
                    replace q384 := eq_true q384
                    have p385 : 0 ≤ (x5_1 : Int) := of_decide_eq_true (by first | (with_reducible assumption) | assumption)
                    have q385 : x5_1 < (l0.length : Int) := of_decide_eq_true (by first | (with_reducible assumption) | assumption)
                    obtain ⟨ad385, A385_1, c385_1, e385, hx385_0, hx385_1, hx385_2, hx385_3, hx385_4, hl385_1, hi385_1⟩ := at_T28 HR0.out x5_1 p385 q385
                    obtain rfl : ad384 = ad385 := (by injection e385)
                    replace hx385_0 := (HB.out.cell (World.block_lt_of_cell? w _ hx385_0)).trans hx385_0
                    replace hx385_1 := (HB.out.cell (World.block_lt_of_cell? w _ hx385_1)).trans hx385_1
                    replace hx385_2 := (HB.out.cell (World.block_lt_of_cell? w _ hx385_2)).trans hx385_2
                    replace hx385_3 := (HB.out.cell (World.block_lt_of_cell? w _ hx385_3)).trans hx385_3
                    replace hx385_4 := (HB.out.cell (World.block_lt_of_cell? w _ hx385_4)).trans hx385_4
                    have HR385_1 := Aside0.mk hi385_1
                    have HC385_1 := Aside0.mk hl385_1
                    clear hi385_1 hl385_1
                    replace p385 := eq_true p385
                    replace q385 := eq_true q385
                    have ea_ := Option.some.inj (hx384_1.symm.trans hx385_1)
                    injection ea_ with ea_ en_ ec_
                    subst ea_
                    subst ec_
                    clear en_
                    go_wp2_with (first | ((with_reducible refine gate_callee (f := 70) rfl ?_); refine goesL_ (some 27) rfl rfl Try.func70 (by kernel_rfl) rfl #[.slice A384_1 ((rd_T28 l0 x5_1).f1).length c384_1, .int .i64 (wrap64 (x1_1 + 1))] rfl (by (try simp only [List.map_toArray, List.map_cons, List.map_nil]); first | done | rfl | (simp only [List.length_drop, List.length_take]; rfl)) ?_; (with_reducible refine (laws_heldStringS.calls k1 _ _ ((rd_T28 l0 x5_1).f1) (wrap64 (x1_1 + 1)) t386 _ ?side1 ?side2 A6.out).mono ?_); (case side1 => repeat (first | exact (Kd.C_below HR385_1.out HB.out) | (with_reducible refine Kd.C_alloc ?_ _) | (with_reducible refine Kd.C_drewN ?_ _) | (with_reducible refine Kd.C_drew ?_))); (case side2 => exact HC385_1.out); rintro e w15 ⟨rfl, hb⟩; refine ⟨_, rfl, ?_⟩; have n0_ := Aside0.mk (below_step (by repeat (first | (with_reducible first | exact HB.out | apply below_alloc | apply pw_below_drewN | apply below_drew1) | exact HB.out)) hb); clear HB; have HB := n0_; clear n0_; (try clear hb); (try clear hb2); (try clear hk); (try clear hi); have p387 : 0 ≤ (x5_1 : Int) := of_decide_eq_true (by first | (with_reducible assumption) | assumption); have q387 : x5_1 < (l0.length : Int) := of_decide_eq_true (by first | (with_reducible assumption) | assumption); obtain ⟨ad387, A387_1, c387_1, e387, hx387_0, hx387_1, hx387_2, hx387_3, hx387_4, hl387_1, hi387_1⟩ := at_T28 HR0.out x5_1 p387 q387; obtain rfl : ad384 = ad387 := (by injection e387); replace hx387_0 := (HB.out.cell (World.block_lt_of_cell? w _ hx387_0)).trans hx387_0; replace hx387_1 := (HB.out.cell (World.block_lt_of_cell? w _ hx387_1)).trans hx387_1; replace hx387_2 := (HB.out.cell (World.block_lt_of_cell? w _ hx387_2)).trans hx387_2; replace hx387_3 := (HB.out.cell (World.block_lt_of_cell? w _ hx387_3)).trans hx387_3; replace hx387_4 := (HB.out.cell (World.block_lt_of_cell? w _ hx387_4)).trans hx387_4; have HR387_1 := Aside0.mk hi387_1; have HC387_1 := Aside0.mk hl387_1; clear hi387_1 hl387_1; replace p387 := eq_true p387; replace q387 := eq_true q387; have p388 : 0 ≤ (x5_1 : Int) := of_decide_eq_true (by first | (with_reducible assumption) | assumption); have q388 : x5_1 < (l0.length : Int) := of_decide_eq_true (by first | (with_reducible assumption) | assumption); obtain ⟨ad388, A388_1, c388_1, e388, hx388_0, hx388_1, hx388_2, hx388_3, hx388_4, hl388_1, hi388_1⟩ := at_T28 HR0.out x5_1 p388 q388; obtain rfl : ad384 = ad388 := (by injection e388); replace hx388_0 := (HB.out.cell (World.block_lt_of_cell? w _ hx388_0)).trans hx388_0; replace hx388_1 := (HB.out.cell (World.block_lt_of_cell? w _ hx388_1)).trans hx388_1; replace hx388_2 := (HB.out.cell (World.block_lt_of_cell? w _ hx388_2)).trans hx388_2; replace hx388_3 := (HB.out.cell (World.block_lt_of_cell? w _ hx388_3)).trans hx388_3; replace hx388_4 := (HB.out.cell (World.block_lt_of_cell? w _ hx388_4)).trans hx388_4; have HR388_1 := Aside0.mk hi388_1; have HC388_1 := Aside0.mk hl388_1; clear hi388_1 hl388_1; replace p388 := eq_true p388; replace q388 := eq_true q388; have ea_ := Option.some.inj (hx387_1.symm.trans hx388_1); injection ea_ with ea_ en_ ec_; subst ea_; subst ec_; clear en_; have p389 : 0 ≤ (x5_1 : Int) := of_decide_eq_true (by first | (with_reducible assumption) | assumption); have q389 : x5_1 < (l0.length : Int) := of_decide_eq_true (by first | (with_reducible assumption) | assumption); obtain ⟨ad389, A389_1, c389_1, e389, hx389_0, hx389_1, hx389_2, hx389_3, hx389_4, hl389_1, hi389_1⟩ := at_T28 HR0.out x5_1 p389 q389; obtain rfl : ad384 = ad389 := (by injection e389); replace hx389_0 := (HB.out.cell (World.block_lt_of_cell? w _ hx389_0)).trans hx389_0; replace hx389_1 := (HB.out.cell (World.block_lt_of_cell? w _ hx389_1)).trans hx389_1; replace hx389_2 := (HB.out.cell (World.block_lt_of_cell? w _ hx389_2)).trans hx389_2; replace hx389_3 := (HB.out.cell (World.block_lt_of_cell? w _ hx389_3)).trans hx389_3; replace hx389_4 := (HB.out.cell (World.block_lt_of_cell? w _ hx389_4)).trans hx389_4; have HR389_1 := Aside0.mk hi389_1; have HC389_1 := Aside0.mk hl389_1; clear hi389_1 hl389_1; replace p389 := eq_true p389; replace q389 := eq_true q389; have ea_ := Option.some.inj (hx387_1.symm.trans hx389_1); injection ea_ with ea_ en_ ec_; subst ea_; subst ec_; clear en_))
                    go_ret
                    exact ⟨by first | rfl | (simp [errW_none, errW_some] <;> rfl) | (simp [*, errW_none, errW_some] <;> rfl), by repeat (first | (with_reducible first | exact HB.out | apply below_alloc | apply pw_below_drewN | apply below_drew1) | exact HB.out)⟩
          · rw [if_neg c5] at H
            have c5b0 : (((rd_T28 l0 x5_1).f0) == x1_1) = false := beq_eq_false_iff_ne.mpr c5
            have c5b1 : (((rd_T28 l0 x5_1).f0) != x1_1) = true := bne_iff_ne.mpr c5
            obtain rfl := Option.some.inj H
            have p384 : 0 ≤ (x5_1 : Int) := of_decide_eq_true (by first | (with_reducible assumption) | assumption)
            have q384 : x5_1 < (l0.length : Int) := of_decide_eq_true (by first | (with_reducible assumption) | assumption)
            obtain ⟨ad384, A384_1, c384_1, e384, hx384_0, hx384_1, hx384_2, hx384_3, hx384_4, hl384_1, hi384_1⟩ := at_T28 HR0.out x5_1 p384 q384
            cases e384
            replace hx384_0 := (HB.out.cell (World.block_lt_of_cell? w _ hx384_0)).trans hx384_0
            replace hx384_1 := (HB.out.cell (World.block_lt_of_cell? w _ hx384_1)).trans hx384_1
            replace hx384_2 := (HB.out.cell (World.block_lt_of_cell? w _ hx384_2)).trans hx384_2
            replace hx384_3 := (HB.out.cell (World.block_lt_of_cell? w _ hx384_3)).trans hx384_3
            replace hx384_4 := (HB.out.cell (World.block_lt_of_cell? w _ hx384_4)).trans hx384_4
            have HR384_1 := Aside0.mk hi384_1
            have HC384_1 := Aside0.mk hl384_1
            clear hi384_1 hl384_1
            replace p384 := eq_true p384
            replace q384 := eq_true q384
            go_wp2
            go_ret
            exact ⟨by first | rfl | (simp [errW_none, errW_some] <;> rfl) | (simp [*, errW_none, errW_some] <;> rfl), by repeat (first | (with_reducible first | exact HB.out | apply below_alloc | apply pw_below_drewN | apply below_drew1) | exact HB.out)⟩
        · rw [if_neg c4] at H
          exact absurd H (by simp)
      · rw [if_neg c3] at H
        have c3b0 : decide (x5_1 < (l0.length : Int)) = false := decide_eq_false c3
        clear c3
        obtain rfl := Option.some.inj H
        go_wp2
        go_ret
        exact ⟨by first | rfl | (simp [errW_none, errW_some] <;> rfl) | (simp [*, errW_none, errW_some] <;> rfl), by repeat (first | (with_reducible first | exact HB.out | apply below_alloc | apply pw_below_drewN | apply below_drew1) | exact HB.out)⟩

-- NOT PRINTED: function 6 (laws_FnExactDropLock)

end Go.Proofs.Ytiddgglidkbipaa.Q

/- The laws' marks on lists of texts: what they write, and that it is found again. No condition. -/
set_option linter.unusedSimpArgs false
set_option linter.unusedVariables false
namespace Go.Proofs.Ytiddgglidkbipaa.L
open Go.RowKit Go.Proofs.YtiddgglidkbipaaW.PrintWords Go.Proofs.YtiddgglidkbipaaW.PrintLast Go.Proofs.Ytiddgglidkbipaa.Q
theorem strOfNums_size (n : Int) : (strOfNums [n]).size = 1 := rfl
theorem mark_loop : ∀ (d : Nat) (k : Nat) (i : Int) (s : ByteArray), 0 ≤ i → i < 10 ^ d → i < 9223372036854775808 → d < k → s.size + d + 1 ≤ 9223372036854775807 → ∃ t, laws_markText.l0 k i s = some t := by
  intro d
  induction d with
  | zero =>
    intro k i s h0 h1 hb hk hs
    obtain ⟨k, rfl⟩ : ∃ m, k = m + 1 := ⟨k - 1, by omega⟩
    simp only [laws_markText.l0]
    rw [if_neg (by simp at h1; omega), if_pos (by omega)]
    exact ⟨_, rfl⟩
  | succ d ih =>
    intro k i s h0 h1 hb hk hs
    obtain ⟨k, rfl⟩ : ∃ m, k = m + 1 := ⟨k - 1, by omega⟩
    simp only [laws_markText.l0, Option.bind_some]
    by_cases hi : i > 0
    · rw [if_pos hi, if_pos (by rw [strOfNums_size]; omega)]
      have hd : Int.tdiv i 10 = i / 10 := Int.tdiv_eq_ediv_of_nonneg h0
      have hq : 0 ≤ i / 10 ∧ i / 10 ≤ i := ⟨by omega, by omega⟩
      rw [hd, wrap_id (by omega) (by omega)]
      refine ih k _ _ hq.1 ?_ (by omega) (by omega) ?_
      · rw [Int.pow_succ] at h1; omega
      · rw [ByteArray.size_append, strOfNums_size]; omega
    · rw [if_neg hi, if_pos (by omega)]
      exact ⟨_, rfl⟩
/-- The mark of a number: there is one from 32 rounds on, and it is one and the same. -/
theorem mark_some {i : Int} (h0 : 0 ≤ i) (h1 : i < 1152921504606846976) : ∃ t, ∀ k, 32 ≤ k → laws_markText.f k i = some t := by
  have h : ∃ t, laws_markText.f 32 i = some t := by
    unfold laws_markText.f
    by_cases e : i ≤ 0
    · rw [if_pos e]; exact ⟨_, rfl⟩
    · rw [if_neg e]
      exact mark_loop 19 32 i _ h0 (by omega) (by omega) (by omega) (by show 0 + 19 + 1 ≤ _; omega)
  obtain ⟨t, ht⟩ := h
  exact ⟨t, fun k hk => at_rounds (fun k => laws_markText.mono i k) hk ht⟩
/-- The marks, as a function. -/
noncomputable def mt (i : Int) : ByteArray := by
  classical
  exact if h : 0 ≤ i ∧ i < 1152921504606846976 then Classical.choose (mark_some h.1 h.2) else ⟨#[]⟩
theorem mt_spec {i : Int} (h0 : 0 ≤ i) (h1 : i < 1152921504606846976) {k : Nat} (hk : 32 ≤ k) : laws_markText.f k i = some (mt i) := by
  unfold mt
  rw [dif_pos ⟨h0, h1⟩]
  exact Classical.choose_spec (mark_some h0 h1) k hk
theorem mt_ev {i : Int} (h0 : 0 ≤ i) (h1 : i < 1152921504606846976) : Ev (fun k => laws_markText.f k i) (mt i) := ⟨32, fun _ hk => mt_spec h0 h1 hk⟩
/-- n marks from i on. -/
noncomputable def marks : Nat → Int → List ByteArray
  | 0, _ => []
  | n + 1, i => mt i :: marks n (i + 1)
theorem marks_length (n : Nat) (i : Int) : (marks n i).length = n := by
  induction n generalizing i with
  | zero => rfl
  | succ n ih => simp [marks, ih]
theorem markS {l : List ByteArray} (hl : l.length ≤ 1048576) {a : Int} (h0 : 0 ≤ a) (h1 : a ≤ 70368744177664) : Ev (fun k => laws_markStringS.f k l a) (a + l.length, marks l.length a) := by
  have key : ∀ (suf pre : List ByteArray) (x : List ByteArray) (i : Int), x = pre ++ suf → x.length ≤ 1048576 → 0 ≤ i → i + suf.length ≤ 70368745226240 → Ev (fun k => laws_markStringS.l0 k x i pre.length) (i + suf.length, pre ++ marks suf.length i) := by
    intro suf
    induction suf with
    | nil =>
      intro pre x i h hx h0 h1
      refine Ev.step (fun k => laws_markStringS.l0.eq_2 ..) ?_
      simp only [if_neg (end_at h)]
      rw [List.append_nil] at h
      rw [h]
      simp only [List.length_nil, Int.natCast_zero, Int.add_zero, marks, List.append_nil]
      exact Ev.now _
    | cons b suf ih =>
      intro pre x i h hx h0 h1
      rw [List.length_cons] at h1
      refine Ev.step (fun k => laws_markStringS.l0.eq_2 ..) ?_
      simp only [if_pos (lt_at h)]
      refine Ev.bind (mt_ev h0 (by omega)) ?_
      simp only [if_pos (nonneg_at _), set_at h, next_at h (show x.length ≤ maxLen by rw [maxLen_eq]; omega), wrap_id (x := i + 1) (by omega) (by omega)]
      have := ih (pre ++ [mt i]) (pre ++ [mt i] ++ suf) (i + 1) rfl (by rw [h] at hx; simpa using hx) (by omega) (by omega)
      rw [show (pre ++ [b]).length = (pre ++ [mt i]).length by simp]
      refine ev_cast this ?_
      simp only [List.length_cons, marks, Prod.mk.injEq]
      exact ⟨by omega, by simp⟩
  have := key l [] l a rfl hl h0 (by omega)
  simpa [laws_markStringS.f] using this
theorem heldS {n : Nat} (hn : n ≤ 1048576) {a : Int} (h0 : 0 ≤ a) (h1 : a ≤ 70368744177664) : Ev (fun k => laws_heldStringS.f k (marks n a) a) (a + n) := by
  have key : ∀ (m : Nat) (pre x : List ByteArray) (i : Int), x = pre ++ marks m i → x.length ≤ 1048576 → 0 ≤ i → i + m ≤ 70368745226240 → Ev (fun k => laws_heldStringS.l0 k x i pre.length) (i + m) := by
    intro m
    induction m with
    | zero =>
      intro pre x i h hx h0 h1
      refine Ev.step (fun k => laws_heldStringS.l0.eq_2 ..) ?_
      simp only [if_neg (end_at h)]
      exact ev_cast (Ev.now _) (by simp)
    | succ m ih =>
      intro pre x i h hx h0 h1
      simp only [marks] at h
      refine Ev.step (fun k => laws_heldStringS.l0.eq_2 ..) ?_
      simp only [if_pos (lt_at h), if_pos (nonneg_at _)]
      refine Ev.bind (mt_ev h0 (by omega)) ?_
      simp only [rd_at _ h, if_true, next_at h (show x.length ≤ maxLen by rw [maxLen_eq]; omega), wrap_id (x := i + 1) (by omega) (by omega)]
      refine ev_cast (ih (pre ++ [mt i]) x (i + 1) (snoc_at h) hx (by omega) (by omega)) ?_
      omega
  exact key n [] _ a rfl (by rw [marks_length]; exact hn) h0 (by omega)
end Go.Proofs.Ytiddgglidkbipaa.L

/- Marks that are found again: a loop that marks, a loop that looks. No condition. -/
set_option linter.unusedSimpArgs false
set_option linter.unusedVariables false
namespace Go.Proofs.Ytiddgglidkbipaa.L
open Go.RowKit Go.Proofs.YtiddgglidkbipaaW.PrintWords Go.Proofs.YtiddgglidkbipaaW.PrintLast Go.Proofs.Ytiddgglidkbipaa.Q
/-- What marks a list from a number on, and what finds the marks again. -/
def MH {α : Type} (mk : Nat → List α → Int → Option (Int × List α)) (hd : Nat → List α → Int → Option Int) (l : List α) (i C : Int) : Prop :=
  ∃ n l', l'.length = l.length ∧ i ≤ n ∧ n ≤ i + C ∧ Ev (fun k => mk k l i) (n, l') ∧ Ev (fun k => hd k l' i) n
theorem mh_loop {α : Type} (mk : Nat → List α → Int → Int → Option (Int × List α)) (hd : Nat → List α → Int → Int → Option Int) (P : α → Prop) (C : Int) (hC : 0 ≤ C)
    (me : ∀ (x : List α) i, Ev (fun k => mk k x i x.length) (i, x)) (he : ∀ (y : List α) i, Ev (fun k => hd k y i y.length) i)
    (st : ∀ a i, P a → 0 ≤ i → i + C ≤ 70368744177664 → ∃ n a', i ≤ n ∧ n ≤ i + C ∧
      (∀ x pre suf, x = pre ++ a :: suf → x.length ≤ 1048576 → ∀ r, Ev (fun k => mk k (pre ++ a' :: suf) n ((pre ++ [a']).length : Int)) r → Ev (fun k => mk k x i (pre.length : Int)) r) ∧
      (∀ y pre suf, y = pre ++ a' :: suf → y.length ≤ 1048576 → ∀ r, Ev (fun k => hd k y n ((pre ++ [a']).length : Int)) r → Ev (fun k => hd k y i (pre.length : Int)) r)) :
    ∀ (suf : List α) (i : Int), (∀ a ∈ suf, P a) → 0 ≤ i → i + C * suf.length ≤ 70368744177664 → ∃ n suf', suf'.length = suf.length ∧ i ≤ n ∧ n ≤ i + C * suf.length ∧
      (∀ pre : List α, (pre ++ suf).length ≤ 1048576 → Ev (fun k => mk k (pre ++ suf) i pre.length) (n, pre ++ suf')) ∧ (∀ pre : List α, (pre ++ suf').length ≤ 1048576 → Ev (fun k => hd k (pre ++ suf') i pre.length) n) := by
  intro suf
  induction suf with
  | nil =>
    intro i _ h0 h1
    refine ⟨i, [], rfl, Int.le_refl _, by simp, fun pre _ => ?_, fun pre _ => ?_⟩
    · have := me pre i; simpa using this
    · have := he pre i; simpa using this
  | cons a suf ih =>
    intro i hP h0 h1
    have hm : C * ((a :: suf).length : Int) = C * suf.length + C := by rw [List.length_cons, Int.natCast_add, Int.mul_add]; simp
    have hp : 0 ≤ C * (suf.length : Int) := Int.mul_nonneg hC (Int.natCast_nonneg _)
    rw [hm] at h1 ⊢
    obtain ⟨n, a', hn0, hn1, hmk, hhd⟩ := st a i (hP a (by simp)) h0 (by omega)
    obtain ⟨n2, suf', hl, hn2, hn3, hmk2, hhd2⟩ := ih n (fun x hx => hP x (by simp [hx])) (by omega) (by omega)
    refine ⟨n2, a' :: suf', by simp [hl], by omega, by omega, fun pre hpre => ?_, fun pre hpre => ?_⟩
    · refine hmk _ pre suf rfl hpre _ ?_
      have := hmk2 (pre ++ [a']) (by simp at hpre ⊢; omega)
      simpa using this
    · refine hhd _ pre suf' rfl hpre _ ?_
      have := hhd2 (pre ++ [a']) (by simp at hpre ⊢; omega)
      simpa using this
theorem mhS {l : List ByteArray} (hl : l.length ≤ 1048576) {i : Int} (h0 : 0 ≤ i) (h1 : i + 1048576 ≤ 70368744177664) : MH laws_markStringS.f laws_heldStringS.f l i 1048576 := by
  refine ⟨i + l.length, marks l.length i, marks_length _ _, by omega, by omega, ?_, ?_⟩
  · exact markS hl h0 (by omega)
  · exact heldS hl h0 (by omega)
end Go.Proofs.Ytiddgglidkbipaa.L

/- Marks on locks, found again. No condition. -/
set_option linter.unusedSimpArgs false
set_option linter.unusedVariables false
namespace Go.Proofs.Ytiddgglidkbipaa.L
open Go.RowKit Go.Proofs.YtiddgglidkbipaaW.PrintWords Go.Proofs.YtiddgglidkbipaaW.PrintLast Go.Proofs.Ytiddgglidkbipaa.Q
theorem mhLock {l : List S28} (hl : SmLocks l) {i : Int} (h0 : 0 ≤ i) (h1 : i + 1099515822080 ≤ 70368744177664) : MH laws_markLockS.f laws_heldLockS.f l i 1099515822080 := by
  have hl0 := hl.1
  obtain ⟨n, l', e0, e1, e2, e3, e4⟩ := mh_loop (fun k x i j => laws_markLockS.l0 k x i j) (fun k x i j => laws_heldLockS.l0 k x i j) SmLock 1048580 (by omega)
    (fun x i => by
      refine Ev.step (fun k => laws_markLockS.l0.eq_2 ..) ?_
      simp only [Int.lt_irrefl, if_false]; exact Ev.now _)
    (fun x i => by
      refine Ev.step (fun k => laws_heldLockS.l0.eq_2 ..) ?_
      simp only [Int.lt_irrefl, if_false]; exact Ev.now _)
    (fun a i ha h0 h1 => by
      have g1 := ha.2.1
      have w0 : wrap64 (i + 1) = i + 1 := wrap_id (by omega) (by omega)
      obtain ⟨n1, p', _, a1, a2, a3, a4⟩ := mhS g1.1 (i := i + 1) (by omega) (by omega)
      have w1 : wrap64 (n1 + 1) = n1 + 1 := wrap_id (by omega) (by omega)
      have w2 : wrap64 (n1 + 1 + 1) = n1 + 1 + 1 := wrap_id (by omega) (by omega)
      have w3 : wrap64 (n1 + 1 + 1 + 1) = n1 + 1 + 1 + 1 := wrap_id (by omega) (by omega)
      refine ⟨n1 + 1 + 1 + 1, ⟨i, p', (n1.tmod 3 == 0), ((n1 + 1).tmod 3 == 0), n1 + 1 + 1⟩, by omega, by omega, fun x pre suf h hx r hr => ?_, fun y pre suf h hy r hr => ?_⟩
      · have hx2 : x.length ≤ maxLen := by rw [maxLen_eq]; omega
        refine Ev.step (fun k => laws_markLockS.l0.eq_2 ..) ?_
        simp only [if_pos (lt_at h), if_pos (nonneg_at _), rd_implLock h, w0]
        refine Ev.bind a3 ?_
        simp only [w1, w2, w3, set_at h, next_at h hx2]
        simpa using hr
      · have hy2 : y.length ≤ maxLen := by rw [maxLen_eq]; omega
        refine Ev.step (fun k => laws_heldLockS.l0.eq_2 ..) ?_
        simp only [if_pos (lt_at h), if_pos (nonneg_at _), rd_implLock h, if_true, w0]
        refine Ev.bind a4 ?_
        simp only [if_neg (show ¬ n1 < 0 by omega), bne_self_eq_false, Bool.false_eq_true, if_false, if_true, w1, w2, w3, next_at h hy2]
        simpa using hr) l i hl.2 h0 (by omega)
  refine ⟨n, l', e0, e1, by omega, ?_, ?_⟩
  · exact e3 [] (by simpa using hl.1)
  · exact e4 [] (by simp; omega)
end Go.Proofs.Ytiddgglidkbipaa.L

/- Marks on numbers, found again. No condition. -/
set_option linter.unusedSimpArgs false
set_option linter.unusedVariables false
namespace Go.Proofs.Ytiddgglidkbipaa.L
open Go.RowKit Go.Proofs.YtiddgglidkbipaaW.PrintWords Go.Proofs.YtiddgglidkbipaaW.PrintLast Go.Proofs.Ytiddgglidkbipaa.Q
theorem mhInts {l : List Int} (hl : l.length ≤ 1048576) {i : Int} (h0 : 0 ≤ i) (h1 : i + 1048576 ≤ 70368744177664) : MH laws_markIntS.f laws_heldIntS.f l i 1048576 := by
  obtain ⟨n, l', e0, e1, e2, e3, e4⟩ := mh_loop (fun k x i j => laws_markIntS.l0 k x i j) (fun k x i j => laws_heldIntS.l0 k x i j) (fun _ => True) 1 (by omega)
    (fun x i => by
      refine Ev.step (fun k => laws_markIntS.l0.eq_2 ..) ?_
      simp only [Int.lt_irrefl, if_false]; exact Ev.now _)
    (fun x i => by
      refine Ev.step (fun k => laws_heldIntS.l0.eq_2 ..) ?_
      simp only [Int.lt_irrefl, if_false]; exact Ev.now _)
    (fun a i _ h0 h1 => by
      have w1 : wrap64 (i + 1) = i + 1 := wrap_id (by omega) (by omega)
      refine ⟨i + 1, i, by omega, by omega, fun x pre suf h hx r hr => ?_, fun y pre suf h hy r hr => ?_⟩
      · have hx2 : x.length ≤ maxLen := by rw [maxLen_eq]; omega
        refine Ev.step (fun k => laws_markIntS.l0.eq_2 ..) ?_
        simp only [if_pos (lt_at h), if_pos (nonneg_at _), set_at h, w1, next_at h hx2]
        simpa using hr
      · have hy2 : y.length ≤ maxLen := by rw [maxLen_eq]; omega
        refine Ev.step (fun k => laws_heldIntS.l0.eq_2 ..) ?_
        simp only [if_pos (lt_at h), if_pos (nonneg_at _), rd_int h, w1, if_true, next_at h hy2]
        simpa using hr) l i (fun _ _ => trivial) h0 (by omega)
  refine ⟨n, l', e0, e1, by omega, ?_, ?_⟩
  · exact e3 [] (by simpa using hl)
  · exact e4 [] (by simp; omega)
end Go.Proofs.Ytiddgglidkbipaa.L

/- The law FnExactTokensAt computes true: the program and the reference say the same, the arguments stay, and nothing is shared. No condition. -/
set_option linter.unusedSimpArgs false
set_option linter.unusedVariables false
namespace Go.Proofs.Ytiddgglidkbipaa.Pure
open Go.RowKit Go.Proofs.YtiddgglidkbipaaW.PrintWords Go.Proofs.YtiddgglidkbipaaW.PrintLast Go.Proofs.Ytiddgglidkbipaa.Q Go.Proofs.Ytiddgglidkbipaa.L
theorem FnExactTokensAt : ∀ (x0 : List (S24)) (x1 : List ByteArray), (fun l : List (S24) => l.length ≤ maxLen ∧ ∀ a ∈ l, G24 a) x0 → (fun l : List ByteArray => l.length ≤ maxLen ∧ ∀ a ∈ l, (fun s : ByteArray => s.size ≤ maxLen) a) x1 → ∃ k, laws_FnExactTokensAt.f k x0 x1 = some true := by
  intro x0 x1 g0 g1
  apply Ev.rounds
  unfold laws_FnExactTokensAt.f
  have hm : ∀ m : Nat, m ≤ 1048576 → m ≤ maxLen := fun m h => by rw [maxLen_eq]; omega
  refine Sz.ev (szLockS g0.1 g0.2 (n := 1048576) (by omega) (by omega)) (by simp only [show (-1 : Int) < 0 by omega, if_true]; exact Ev.now _) (fun m0 a0 b0 s0 => ?_)
  simp only [if_neg (show ¬ m0 < 0 by omega)]
  refine Sz.ev (szS g1.1 g1.2 (n := m0) (by omega) (by omega)) (by simp only [show (-1 : Int) < 0 by omega, if_true]; exact Ev.now _) (fun m1 a1 b1 s1 => ?_)
  simp only [if_neg (show ¬ m1 < 0 by omega)]
  have hk : (tokensAt x1 (x0.map toLock)).length ≤ 1048576 := Nat.le_trans (tokens_length _ _) s0.1
  refine Ev.bind (toLockS s0) ?_
  refine Ev.bind (toS (by have := s1.1; omega)) ?_
  refine Ev.bind (specTokens s0 s1.1) ?_
  refine Ev.bind (toLockS s0) ?_
  refine Ev.bind (toS (by have := s1.1; omega)) ?_
  refine Ev.bind (implTokens s0 s1.1) ?_
  refine Ev.bind (eqInts (hm _ hk)) ?_
  simp only [eq_self, if_true, bne_self_eq_false, Bool.false_eq_true, if_false, decide_true, Bool.not_true]
  refine Ev.bind (toLockS s0) ?_
  refine Ev.bind (eqLockS s0) ?_
  simp only [eq_self, if_true, bne_self_eq_false, Bool.false_eq_true, if_false, decide_true, Bool.not_true]
  refine Ev.bind (toS (by have := s1.1; omega)) ?_
  refine Ev.bind (eqS g1.1) ?_
  simp only [eq_self, if_true, bne_self_eq_false, Bool.false_eq_true, if_false, decide_true, Bool.not_true]
  obtain ⟨n0, l0, _, u0, v0, w0, _⟩ := mhLock s0 (i := 1) (by omega) (by omega)
  refine Ev.bind w0 ?_
  obtain ⟨n1, l1, _, u1, v1, w1, _⟩ := mhS s1.1 (i := n0) (by omega) (by omega)
  refine Ev.bind w1 ?_
  simp only [if_neg (show ¬ n1 < 0 by omega)]
  refine Ev.bind (eqInts (hm _ hk)) ?_
  simp only [eq_self, if_true, bne_self_eq_false, Bool.false_eq_true, if_false, decide_true, Bool.not_true]
  obtain ⟨n2, l2, _, u2, v2, w2, z2⟩ := mhInts hk (i := 1) (by omega) (by omega)
  refine Ev.bind w2 ?_
  refine Ev.bind z2 ?_
  simp only [if_neg (show ¬ n2 < 0 by omega)]
  simp only [eq_self, if_true, bne_self_eq_false, Bool.false_eq_true, if_false, decide_true, Bool.not_true]
  refine Ev.bind (toLockS s0) ?_
  refine Ev.bind (toS (by have := s1.1; omega)) ?_
  refine Ev.bind (implTokens s0 s1.1) ?_
  refine Ev.bind (eqInts (hm _ hk)) ?_
  simp only [eq_self, if_true, bne_self_eq_false, Bool.false_eq_true, if_false, decide_true, Bool.not_true]
  refine Ev.bind z2 ?_
  simp only [if_neg (show ¬ n2 < 0 by omega)]
  simp only [eq_self, if_true, bne_self_eq_false, Bool.false_eq_true, if_false, decide_true, Bool.not_true]
  exact Ev.now _
end Go.Proofs.Ytiddgglidkbipaa.Pure
