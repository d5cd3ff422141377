/- The laws' own functions over a mirrored struct (Prop): size, copy, equality. No condition. -/
import Derived.Test.YtigoeooelfeopaaDoorVTagAtG27
import Derived.Lib.ItoaLen
import Derived.Lib.ItoaMem
import Derived.Laws.BytesArg
set_option linter.unusedSimpArgs false
set_option linter.unusedVariables false
namespace Go.Proofs.YtigoeooelfeopaaDoor.L
open Go.RowKit Go.Proofs.YtigoeooelfeopaaDoorW.PrintWords Go.Proofs.YtigoeooelfeopaaDoorW.PrintLast Go.Proofs.YtigoeooelfeopaaDoor.Q
instance : DecidableEq S148 := fun a b => if h : a.f0 = b.f0 ∧ a.f1 = b.f1 ∧ a.f2 = b.f2 then .isTrue (by cases a; cases b; simp_all) else .isFalse (fun e => h (by rw [e]; exact ⟨rfl, rfl, rfl⟩))
theorem rd_lawsProp {l pre suf : List S147} {a : S147} (h : l = pre ++ a :: suf) : rd_T147 l (pre.length : Int) = a := getD_at _ h
theorem rd_implProp {l pre suf : List S148} {a : S148} (h : l = pre ++ a :: suf) : rd_T148 l (pre.length : Int) = a := getD_at _ h
def toProp (p : S147) : S148 := ⟨p.f0, p.f1, p.f2⟩
def SmProp (p : S148) : Prop := p.f0.size ≤ 1048576 ∧ p.f1.size ≤ 1048576 ∧ p.f2.size ≤ 1048576
def GGProp (x : S147) : Prop := x.f0.size ≤ maxLen ∧ x.f1.size ≤ maxLen ∧ x.f2.size ≤ maxLen
theorem szProp {p : S147} (hp : GGProp p) {n : Int} (h0 : 0 ≤ n) (h1 : n ≤ 1048576) : Sz (fun k => laws_szProp.f p.f0 p.f1 p.f2 n) n (SmProp (toProp p)) := by
  obtain ⟨g0, g1, g2⟩ := hp
  unfold laws_szProp.f
  have e0 := wrap_id (x := n - (p.f0.size : Int)) (by rw [maxLen_eq] at g0; omega) (by omega)
  simp only [e0]
  refine Sz.sub (by omega) (fun c0 => ?_)
  obtain ⟨n0, hn0⟩ : ∃ m, m = n - (p.f0.size : Int) := ⟨_, rfl⟩
  simp only [← hn0]
  have e1 := wrap_id (x := n0 - (p.f1.size : Int)) (by rw [maxLen_eq] at g1; omega) (by omega)
  simp only [e1]
  refine Sz.sub (by omega) (fun c1 => ?_)
  obtain ⟨n1, hn1⟩ : ∃ m, m = n0 - (p.f1.size : Int) := ⟨_, rfl⟩
  simp only [← hn1]
  have e2 := wrap_id (x := n1 - (p.f2.size : Int)) (by rw [maxLen_eq] at g2; omega) (by omega)
  simp only [e2]
  refine Sz.sub (by omega) (fun c2 => ?_)
  obtain ⟨n2, hn2⟩ : ∃ m, m = n1 - (p.f2.size : Int) := ⟨_, rfl⟩
  simp only [← hn2]
  exact .inr ⟨n2, by omega, by omega, Ev.now _, by show p.f0.size ≤ 1048576; omega, by show p.f1.size ≤ 1048576; omega, by show p.f2.size ≤ 1048576; omega⟩
theorem toProp1 {p : S147} (hp : SmProp (toProp p)) : Ev (fun k => laws_toProp.f p.f0 p.f1 p.f2) (p.f0, p.f1, p.f2) := by
  obtain ⟨g0, g1, g2⟩ := hp
  unfold laws_toProp.f
  exact Ev.now _
theorem eqProp1 {p q : S148} (hp : SmProp p) : Ev (fun k => laws_eqProp.f p.f0 p.f1 p.f2 q.f0 q.f1 q.f2) (decide (p = q)) := by
  obtain ⟨g0, g1, g2⟩ := hp
  unfold laws_eqProp.f
  by_cases e0 : p.f0 = q.f0
  rotate_left
  · rw [show decide (p = q) = false from decide_eq_false (fun h => e0 (by rw [h]))]
    simp only [ba_eq, e0, bne_iff_ne, ne_eq, not_false_eq_true, not_true_eq_false, if_true, if_false]
    exact Ev.now _
  simp only [ba_eq, e0, bne_self_eq_false, Bool.false_eq_true, if_true, if_false]
  by_cases e1 : p.f1 = q.f1
  rotate_left
  · rw [show decide (p = q) = false from decide_eq_false (fun h => e1 (by rw [h]))]
    simp only [ba_eq, e1, bne_iff_ne, ne_eq, not_false_eq_true, not_true_eq_false, if_true, if_false]
    exact Ev.now _
  simp only [ba_eq, e1, bne_self_eq_false, Bool.false_eq_true, if_true, if_false]
  by_cases e2 : p.f2 = q.f2
  rotate_left
  · rw [show decide (p = q) = false from decide_eq_false (fun h => e2 (by rw [h]))]
    simp only [ba_eq, e2, bne_iff_ne, ne_eq, not_false_eq_true, not_true_eq_false, if_true, if_false]
    exact Ev.now _
  simp only [ba_eq, e2, bne_self_eq_false, Bool.false_eq_true, if_true, if_false]
  rw [show decide (p = q) = true from decide_eq_true (by cases p; cases q; simp_all)]
  exact Ev.now _
def SmProps (l : List S148) : Prop := l.length ≤ 1048576 ∧ ∀ p ∈ l, SmProp p
theorem szPropS {l : List S147} (hl : l.length ≤ maxLen) (hs : ∀ s ∈ l, GGProp s) {n : Int} (h0 : 0 ≤ n) (h1 : n ≤ 1048576) : Sz (fun k => laws_szPropS.f k l n) n (SmProps (l.map toProp)) := by
  have hl' := hl
  rw [maxLen_eq] at hl'
  unfold laws_szPropS.f
  simp only [wrap_id (x := n - (l.length : Int)) (by omega) (by omega)]
  refine Sz.sub (by omega) (fun hlt => ?_)
  have key : Sz (fun k => laws_szPropS.l0 k l (n - l.length) 0) (n - l.length) (∀ p ∈ l, SmProp (toProp p)) := by
    refine sz_loop (l := l) (P := fun p => SmProp (toProp p)) (fun k n i => laws_szPropS.l0 k l n i) ?_ ?_ l [] (n - l.length) rfl (by omega) (by omega)
    · intro n
      refine Ev.step (fun k => laws_szPropS.l0.eq_2 ..) ?_
      simp only [Int.lt_irrefl, if_false]
      exact Ev.now _
    · intro pre a suf n h h0 h1
      rcases szProp (hs a (by rw [h]; simp)) h0 h1 with h2 | ⟨m, hm0, hm1, h2, h3⟩
      · left
        refine Ev.step (fun k => laws_szPropS.l0.eq_2 ..) ?_
        simp only [if_pos (lt_at h), if_pos (nonneg_at _), rd_lawsProp h]
        refine Ev.bind h2 ?_
        simp only [show (-1 : Int) < 0 by omega, if_true]
        exact Ev.now _
      · refine .inr ⟨m, hm0, hm1, h3, fun r hr => ?_⟩
        refine Ev.step (fun k => laws_szPropS.l0.eq_2 ..) ?_
        simp only [if_pos (lt_at h), if_pos (nonneg_at _), rd_lawsProp h]
        refine Ev.bind h2 ?_
        simp only [if_neg (show ¬ m < 0 by omega), next_at h hl]
        exact hr
  rcases key with h | ⟨m, hm0, hm1, h2, h3⟩
  · exact .inl h
  · refine .inr ⟨m, hm0, hm1, h2, by simp; omega, fun p hp => ?_⟩
    obtain ⟨q, hq, rfl⟩ := List.mem_map.1 hp
    exact h3 q hq
theorem toPropS {p : List S147} (hp : SmProps (p.map toProp)) : Ev (fun k => laws_toPropS.f k p) (p.map toProp) := by
  obtain ⟨hl0, hs⟩ := hp
  rw [List.length_map] at hl0
  have hl2 : p.length ≤ maxLen := by rw [maxLen_eq]; omega
  unfold laws_toPropS.f
  simp only [if_pos (nonneg_at _), Int.toNat_natCast, if_pos (show p.length ≤ 5864062014805 by omega)]
  refine to_loop (l := p) (f := toProp) (fun k out i => laws_toPropS.l0 k p out i) ?_ ?_ p [] _ (List.replicate p.length z148) rfl rfl (by simp)
  · intro out
    refine Ev.step (fun k => laws_toPropS.l0.eq_2 ..) ?_
    simp only [Int.lt_irrefl, if_false]
    exact Ev.now _
  · intro pre a suf out h ho r hr
    refine Ev.step (fun k => laws_toPropS.l0.eq_2 ..) ?_
    simp only [if_pos (lt_at h), if_pos (nonneg_at _), rd_lawsProp h]
    refine Ev.bind (toProp1 (hs _ (List.mem_map.2 ⟨a, by rw [h]; simp, rfl⟩))) ?_
    simp only [if_pos ho, next_at h hl2]
    exact hr
theorem eqPropS {a b : List S148} (ha : SmProps a) : Ev (fun k => laws_eqPropS.f k a b) (decide (a = b)) := by
  have hl : a.length ≤ maxLen := by have := ha.1; rw [maxLen_eq]; omega
  unfold laws_eqPropS.f
  by_cases e : (a.length : Int) = (b.length : Int)
  · simp only [if_pos e]
    refine eq_loop (a := a) (b := b) (fun k i => laws_eqPropS.l0 k a b i) ?_ ?_ a b [] [] rfl rfl rfl (by omega)
    · refine Ev.step (fun k => laws_eqPropS.l0.eq_2 ..) ?_
      simp only [Int.lt_irrefl, if_false]
      exact Ev.now _
    · intro pre x su pre' y sv h h' hp
      have h3 := rd_implProp h'
      have h4 := lt_at h'
      rw [← hp] at h3 h4
      have h5 := eqProp1 (q := y) (ha.2 x (by rw [h]; simp))
      refine ⟨fun hne => ?_, fun heq r hr => ?_⟩
      · refine Ev.step (fun k => laws_eqPropS.l0.eq_2 ..) ?_
        simp only [if_pos (lt_at h), if_pos (nonneg_at _), if_pos h4, rd_implProp h, h3]
        refine Ev.bind h5 ?_
        simp only [hne, decide_false, Bool.false_eq_true, if_false]
        exact Ev.now _
      · refine Ev.step (fun k => laws_eqPropS.l0.eq_2 ..) ?_
        simp only [if_pos (lt_at h), if_pos (nonneg_at _), if_pos h4, rd_implProp h, h3]
        refine Ev.bind h5 ?_
        simp only [heq, decide_true, if_true, next_at h hl]
        rw [heq] at hr
        exact hr
  · simp only [if_neg e]
    rw [show decide (a = b) = false from decide_eq_false (fun h => e (by rw [h]))]
    exact Ev.now _
end Go.Proofs.YtigoeooelfeopaaDoor.L

/- The laws' own functions over lists of texts: their size, their copy, their equality. No condition. -/
set_option linter.unusedSimpArgs false
set_option linter.unusedVariables false
namespace Go.Proofs.YtigoeooelfeopaaDoor.L
open Go.RowKit Go.Proofs.YtigoeooelfeopaaDoorW.PrintWords Go.Proofs.YtigoeooelfeopaaDoorW.PrintLast Go.Proofs.YtigoeooelfeopaaDoor.Q
theorem szS_loop {l : List ByteArray} (hl : l.length ≤ maxLen) (hs : ∀ s ∈ l, s.size ≤ maxLen) : ∀ (suf pre : List ByteArray) (n : Int), l = pre ++ suf → 0 ≤ n → n ≤ 1048576 →
    Ev (fun k => laws_szStringS.l0 k l n pre.length) (-1) ∨ ∃ m : Int, 0 ≤ m ∧ m ≤ n ∧ Ev (fun k => laws_szStringS.l0 k l n pre.length) m ∧ ∀ s ∈ suf, (s.size : Int) ≤ n := by
  intro suf
  induction suf with
  | nil =>
    intro pre n h h0 h1
    refine .inr ⟨n, h0, Int.le_refl _, Ev.step (fun k => laws_szStringS.l0.eq_2 ..) ?_, by simp⟩
    simp only [if_neg (end_at h)]
    exact Ev.now _
  | cons a suf ih =>
    intro pre n h h0 h1
    have ha : a.size ≤ maxLen := hs a (by rw [h]; simp)
    rw [maxLen_eq] at ha
    have hw : wrap64 (n - (a.size : Int)) = n - a.size := wrap_id (by omega) (by omega)
    by_cases hlt : n - (a.size : Int) < 0
    · left
      refine Ev.step (fun k => laws_szStringS.l0.eq_2 ..) ?_
      simp only [if_pos (lt_at h), if_pos (nonneg_at _), rd_at _ h, hw, if_pos hlt]
      exact Ev.now _
    · have st : ∀ r, Ev (fun k => laws_szStringS.l0 k l (n - a.size) (pre ++ [a]).length) r → Ev (fun k => laws_szStringS.l0 k l n pre.length) r := fun r hr => by
        refine Ev.step (fun k => laws_szStringS.l0.eq_2 ..) ?_
        simp only [if_pos (lt_at h), if_pos (nonneg_at _), rd_at _ h, hw, if_neg hlt, next_at h hl]
        exact hr
      rcases ih (pre ++ [a]) (n - a.size) (snoc_at h) (by omega) (by omega) with h2 | ⟨m, hm0, hm1, h2, h3⟩
      · exact .inl (st _ h2)
      · refine .inr ⟨m, hm0, by omega, st _ h2, fun s hs' => ?_⟩
        rcases List.mem_cons.1 hs' with rfl | hs'
        · omega
        · have := h3 s hs'
          omega
theorem szS {l : List ByteArray} (hl : l.length ≤ maxLen) (hs : ∀ s ∈ l, s.size ≤ maxLen) {n : Int} (h0 : 0 ≤ n) (h1 : n ≤ 1048576) : Sz (fun k => laws_szStringS.f k l n) n (SmS l) := by
  have hl' := hl
  rw [maxLen_eq] at hl'
  unfold laws_szStringS.f
  simp only [wrap_id (x := n - (l.length : Int)) (by omega) (by omega)]
  refine Sz.sub (by omega) (fun hlt => ?_)
  rcases szS_loop hl hs l [] (n - l.length) rfl (by omega) (by omega) with h | ⟨m, hm0, hm1, h2, h3⟩
  · exact .inl h
  · exact .inr ⟨m, hm0, hm1, h2, by omega, fun s hs' => by have := h3 s hs'; omega⟩
theorem toS_loop {l : List ByteArray} (hl : l.length ≤ maxLen) : ∀ (suf pre rest : List ByteArray), l = pre ++ suf → rest.length = suf.length → Ev (fun k => laws_toStringS.l0 k l (pre ++ rest) pre.length) l := by
  intro suf
  induction suf with
  | nil =>
    intro pre rest h hr
    refine Ev.step (fun k => laws_toStringS.l0.eq_2 ..) ?_
    simp only [if_neg (end_at h)]
    obtain rfl : rest = [] := by simpa using hr
    rw [← h]
    exact Ev.now _
  | cons a suf ih =>
    intro pre rest h hr
    obtain ⟨b, rest, rfl⟩ : ∃ b r, rest = b :: r := by
      cases rest with
      | nil => simp at hr
      | cons b r => exact ⟨b, r, rfl⟩
    refine Ev.step (fun k => laws_toStringS.l0.eq_2 ..) ?_
    have h2 : pre ++ b :: rest = pre ++ b :: rest := rfl
    simp only [if_pos (lt_at h), if_pos (nonneg_at _), rd_at _ h, if_pos (lt_at h2), next_at h hl, set_at h2]
    exact ih (pre ++ [a]) rest (snoc_at h) (by simpa using hr)
theorem toS {l : List ByteArray} (hl : (l.length : Int) ≤ 1048576) : Ev (fun k => laws_toStringS.f k l) l := by
  unfold laws_toStringS.f
  simp only [if_pos (nonneg_at _), Int.toNat_natCast, if_pos (show l.length ≤ 17592186044416 by omega)]
  have := toS_loop (l := l) (by rw [maxLen_eq]; omega) l [] (List.replicate l.length (⟨#[]⟩ : ByteArray)) rfl (by simp)
  simpa using this
theorem eqS_loop {a b : List ByteArray} (hl : a.length ≤ maxLen) : ∀ (su sv pu pv : List ByteArray), a = pu ++ su → b = pv ++ sv → pu.length = pv.length → su.length = sv.length →
    Ev (fun k => laws_eqStringS.l0 k a b pu.length) (decide (su = sv)) := by
  intro su
  induction su with
  | nil =>
    intro sv pu pv h h' hp hs
    obtain rfl : sv = [] := by simpa using hs.symm
    refine Ev.step (fun k => laws_eqStringS.l0.eq_2 ..) ?_
    simp only [if_neg (end_at h)]
    exact Ev.now _
  | cons x su ih =>
    intro sv pu pv h h' hp hs
    cases sv with
    | nil => simp at hs
    | cons y sv =>
      refine Ev.step (fun k => laws_eqStringS.l0.eq_2 ..) ?_
      have h3 := rd_at ByteArray.empty h'
      have h4 := lt_at h'
      rw [← hp] at h3 h4
      by_cases e : x = y
      · subst e
        simp only [if_pos (lt_at h), if_pos (nonneg_at _), if_pos h4, rd_at _ h, h3, if_true, next_at h hl, List.cons.injEq, true_and]
        exact ih sv (pu ++ [x]) (pv ++ [x]) (snoc_at h) (snoc_at h') (by simp [hp]) (by simpa using hs)
      · simp only [if_pos (lt_at h), if_pos (nonneg_at _), if_pos h4, rd_at _ h, h3, ba_eq, if_neg e, List.cons.injEq, e, false_and, decide_false]
        exact Ev.now _
theorem eqS {a b : List ByteArray} (hl : a.length ≤ maxLen) : Ev (fun k => laws_eqStringS.f k a b) (decide (a = b)) := by
  unfold laws_eqStringS.f
  by_cases e : (a.length : Int) = (b.length : Int)
  · simp only [if_pos e]
    exact eqS_loop hl a b [] [] rfl rfl rfl (by omega)
  · simp only [if_neg e]
    rw [show decide (a = b) = false from decide_eq_false (fun h => e (by rw [h]))]
    exact Ev.now _
end Go.Proofs.YtigoeooelfeopaaDoor.L

/- The laws' own functions over a mirrored struct (Res): size, copy, equality. No condition. -/
set_option linter.unusedSimpArgs false
set_option linter.unusedVariables false
namespace Go.Proofs.YtigoeooelfeopaaDoor.L
open Go.RowKit Go.Proofs.YtigoeooelfeopaaDoorW.PrintWords Go.Proofs.YtigoeooelfeopaaDoorW.PrintLast Go.Proofs.YtigoeooelfeopaaDoor.Q
instance : DecidableEq S67 := fun a b => if h : a.f0 = b.f0 ∧ a.f1 = b.f1 ∧ a.f2 = b.f2 ∧ a.f3 = b.f3 ∧ a.f4 = b.f4 then .isTrue (by cases a; cases b; simp_all) else .isFalse (fun e => h (by rw [e]; exact ⟨rfl, rfl, rfl, rfl, rfl⟩))
theorem rd_lawsRes {l pre suf : List S93} {a : S93} (h : l = pre ++ a :: suf) : rd_T93 l (pre.length : Int) = a := getD_at _ h
theorem rd_implRes {l pre suf : List S67} {a : S67} (h : l = pre ++ a :: suf) : rd_T67 l (pre.length : Int) = a := getD_at _ h
def toRes (p : S93) : S67 := ⟨p.f0, p.f1, p.f2, p.f3, p.f4.map toProp⟩
def SmRes (p : S67) : Prop := SmS p.f0 ∧ True ∧ p.f2.size ≤ 1048576 ∧ IntOk p.f3 ∧ SmProps p.f4
def GGRes (x : S93) : Prop := (x.f0.length ≤ maxLen ∧ ∀ s ∈ x.f0, s.size ≤ maxLen) ∧ True ∧ x.f2.size ≤ maxLen ∧ (Lit.int .i64 x.f3).wf = true ∧ (x.f4.length ≤ maxLen ∧ ∀ y ∈ x.f4, GGProp y)
theorem szRes {p : S93} (hp : GGRes p) {n : Int} (h0 : 0 ≤ n) (h1 : n ≤ 1048576) : Sz (fun k => laws_szRes.f k p.f0 p.f1 p.f2 p.f3 p.f4 n) n (SmRes (toRes p)) := by
  obtain ⟨g0, g1, g2, g3, g4⟩ := hp
  unfold laws_szRes.f
  refine Sz.bind (szS g0.1 g0.2 (by omega) (by omega)) (fun n0 a0 b0 s0 => ?_) (by simp only [show (-1 : Int) < 0 by omega, if_true]; exact Ev.now _)
  simp only [if_neg (show ¬ n0 < 0 by omega)]
  have e2 := wrap_id (x := n0 - (p.f2.size : Int)) (by rw [maxLen_eq] at g2; omega) (by omega)
  simp only [e2]
  refine Sz.sub (by omega) (fun c2 => ?_)
  obtain ⟨n2, hn2⟩ : ∃ m, m = n0 - (p.f2.size : Int) := ⟨_, rfl⟩
  simp only [← hn2]
  refine Sz.bind (szPropS g4.1 g4.2 (by omega) (by omega)) (fun n4 a4 b4 s4 => ?_) (by simp only [show (-1 : Int) < 0 by omega, if_true]; exact Ev.now _)
  simp only [if_neg (show ¬ n4 < 0 by omega)]
  exact .inr ⟨n4, by omega, by omega, Ev.now _, s0, trivial, by show p.f2.size ≤ 1048576; omega, wf_int g3, s4⟩
theorem toRes1 {p : S93} (hp : SmRes (toRes p)) : Ev (fun k => laws_toRes.f k p.f0 p.f1 p.f2 p.f3 p.f4) (p.f0, p.f1, p.f2, p.f3, p.f4.map toProp) := by
  obtain ⟨g0, g1, g2, g3, g4⟩ := hp
  unfold laws_toRes.f
  refine Ev.bind (toS (by have := g0.1; simp only [toRes] at this; omega)) ?_
  refine Ev.bind (toPropS (p := p.f4) (by simpa only [toRes] using g4)) ?_
  exact Ev.now _
theorem eqRes1 {p q : S67} (hp : SmRes p) : Ev (fun k => laws_eqRes.f k p.f0 p.f1 p.f2 p.f3 p.f4 q.f0 q.f1 q.f2 q.f3 q.f4) (decide (p = q)) := by
  obtain ⟨g0, g1, g2, g3, g4⟩ := hp
  unfold laws_eqRes.f
  refine Ev.bind (eqS (by have := g0.1; rw [maxLen_eq]; omega)) ?_
  by_cases e0 : p.f0 = q.f0
  rotate_left
  · rw [show decide (p = q) = false from decide_eq_false (fun h => e0 (by rw [h]))]
    simp only [e0, decide_false, Bool.false_eq_true, if_false]
    exact Ev.now _
  simp only [e0, decide_true, if_true]
  by_cases e1 : p.f1 = q.f1
  rotate_left
  · rw [show decide (p = q) = false from decide_eq_false (fun h => e1 (by rw [h]))]
    simp only [ba_eq, e1, bne_iff_ne, ne_eq, not_false_eq_true, not_true_eq_false, if_true, if_false]
    exact Ev.now _
  simp only [ba_eq, e1, bne_self_eq_false, Bool.false_eq_true, if_true, if_false]
  by_cases e2 : p.f2 = q.f2
  rotate_left
  · rw [show decide (p = q) = false from decide_eq_false (fun h => e2 (by rw [h]))]
    simp only [ba_eq, e2, bne_iff_ne, ne_eq, not_false_eq_true, not_true_eq_false, if_true, if_false]
    exact Ev.now _
  simp only [ba_eq, e2, bne_self_eq_false, Bool.false_eq_true, if_true, if_false]
  by_cases e3 : p.f3 = q.f3
  rotate_left
  · rw [show decide (p = q) = false from decide_eq_false (fun h => e3 (by rw [h]))]
    simp only [ba_eq, e3, bne_iff_ne, ne_eq, not_false_eq_true, not_true_eq_false, if_true, if_false]
    exact Ev.now _
  simp only [ba_eq, e3, bne_self_eq_false, Bool.false_eq_true, if_true, if_false]
  refine Ev.bind (eqPropS g4) ?_
  by_cases e4 : p.f4 = q.f4
  rotate_left
  · rw [show decide (p = q) = false from decide_eq_false (fun h => e4 (by rw [h]))]
    simp only [e4, decide_false, Bool.false_eq_true, if_false]
    exact Ev.now _
  simp only [e4, decide_true, if_true]
  rw [show decide (p = q) = true from decide_eq_true (by cases p; cases q; simp_all)]
  exact Ev.now _
def SmRess (l : List S67) : Prop := l.length ≤ 1048576 ∧ ∀ p ∈ l, SmRes p
theorem szResS {l : List S93} (hl : l.length ≤ maxLen) (hs : ∀ s ∈ l, GGRes s) {n : Int} (h0 : 0 ≤ n) (h1 : n ≤ 1048576) : Sz (fun k => laws_szResS.f k l n) n (SmRess (l.map toRes)) := by
  have hl' := hl
  rw [maxLen_eq] at hl'
  unfold laws_szResS.f
  simp only [wrap_id (x := n - (l.length : Int)) (by omega) (by omega)]
  refine Sz.sub (by omega) (fun hlt => ?_)
  have key : Sz (fun k => laws_szResS.l0 k l (n - l.length) 0) (n - l.length) (∀ p ∈ l, SmRes (toRes p)) := by
    refine sz_loop (l := l) (P := fun p => SmRes (toRes p)) (fun k n i => laws_szResS.l0 k l n i) ?_ ?_ l [] (n - l.length) rfl (by omega) (by omega)
    · intro n
      refine Ev.step (fun k => laws_szResS.l0.eq_2 ..) ?_
      simp only [Int.lt_irrefl, if_false]
      exact Ev.now _
    · intro pre a suf n h h0 h1
      rcases szRes (hs a (by rw [h]; simp)) h0 h1 with h2 | ⟨m, hm0, hm1, h2, h3⟩
      · left
        refine Ev.step (fun k => laws_szResS.l0.eq_2 ..) ?_
        simp only [if_pos (lt_at h), if_pos (nonneg_at _), rd_lawsRes h]
        refine Ev.bind h2 ?_
        simp only [show (-1 : Int) < 0 by omega, if_true]
        exact Ev.now _
      · refine .inr ⟨m, hm0, hm1, h3, fun r hr => ?_⟩
        refine Ev.step (fun k => laws_szResS.l0.eq_2 ..) ?_
        simp only [if_pos (lt_at h), if_pos (nonneg_at _), rd_lawsRes h]
        refine Ev.bind h2 ?_
        simp only [if_neg (show ¬ m < 0 by omega), next_at h hl]
        exact hr
  rcases key with h | ⟨m, hm0, hm1, h2, h3⟩
  · exact .inl h
  · refine .inr ⟨m, hm0, hm1, h2, by simp; omega, fun p hp => ?_⟩
    obtain ⟨q, hq, rfl⟩ := List.mem_map.1 hp
    exact h3 q hq
theorem toResS {p : List S93} (hp : SmRess (p.map toRes)) : Ev (fun k => laws_toResS.f k p) (p.map toRes) := by
  obtain ⟨hl0, hs⟩ := hp
  rw [List.length_map] at hl0
  have hl2 : p.length ≤ maxLen := by rw [maxLen_eq]; omega
  unfold laws_toResS.f
  simp only [if_pos (nonneg_at _), Int.toNat_natCast, if_pos (show p.length ≤ 3518437208883 by omega)]
  refine to_loop (l := p) (f := toRes) (fun k out i => laws_toResS.l0 k p out i) ?_ ?_ p [] _ (List.replicate p.length z67) rfl rfl (by simp)
  · intro out
    refine Ev.step (fun k => laws_toResS.l0.eq_2 ..) ?_
    simp only [Int.lt_irrefl, if_false]
    exact Ev.now _
  · intro pre a suf out h ho r hr
    refine Ev.step (fun k => laws_toResS.l0.eq_2 ..) ?_
    simp only [if_pos (lt_at h), if_pos (nonneg_at _), rd_lawsRes h]
    refine Ev.bind (toRes1 (hs _ (List.mem_map.2 ⟨a, by rw [h]; simp, rfl⟩))) ?_
    simp only [if_pos ho, next_at h hl2]
    exact hr
theorem eqResS {a b : List S67} (ha : SmRess a) : Ev (fun k => laws_eqResS.f k a b) (decide (a = b)) := by
  have hl : a.length ≤ maxLen := by have := ha.1; rw [maxLen_eq]; omega
  unfold laws_eqResS.f
  by_cases e : (a.length : Int) = (b.length : Int)
  · simp only [if_pos e]
    refine eq_loop (a := a) (b := b) (fun k i => laws_eqResS.l0 k a b i) ?_ ?_ a b [] [] rfl rfl rfl (by omega)
    · refine Ev.step (fun k => laws_eqResS.l0.eq_2 ..) ?_
      simp only [Int.lt_irrefl, if_false]
      exact Ev.now _
    · intro pre x su pre' y sv h h' hp
      have h3 := rd_implRes h'
      have h4 := lt_at h'
      rw [← hp] at h3 h4
      have h5 := eqRes1 (q := y) (ha.2 x (by rw [h]; simp))
      refine ⟨fun hne => ?_, fun heq r hr => ?_⟩
      · refine Ev.step (fun k => laws_eqResS.l0.eq_2 ..) ?_
        simp only [if_pos (lt_at h), if_pos (nonneg_at _), if_pos h4, rd_implRes h, h3]
        refine Ev.bind h5 ?_
        simp only [hne, decide_false, Bool.false_eq_true, if_false]
        exact Ev.now _
      · refine Ev.step (fun k => laws_eqResS.l0.eq_2 ..) ?_
        simp only [if_pos (lt_at h), if_pos (nonneg_at _), if_pos h4, rd_implRes h, h3]
        refine Ev.bind h5 ?_
        simp only [heq, decide_true, if_true, next_at h hl]
        rw [heq] at hr
        exact hr
  · simp only [if_neg e]
    rw [show decide (a = b) = false from decide_eq_false (fun h => e (by rw [h]))]
    exact Ev.now _
end Go.Proofs.YtigoeooelfeopaaDoor.L

/- The laws' own functions over a mirrored struct (Lock): size, copy, equality. No condition. -/
set_option linter.unusedSimpArgs false
set_option linter.unusedVariables false
namespace Go.Proofs.YtigoeooelfeopaaDoor.L
open Go.RowKit Go.Proofs.YtigoeooelfeopaaDoorW.PrintWords Go.Proofs.YtigoeooelfeopaaDoorW.PrintLast Go.Proofs.YtigoeooelfeopaaDoor.Q
instance : DecidableEq S98 := fun a b => if h : a.f0 = b.f0 ∧ a.f1 = b.f1 ∧ a.f2 = b.f2 ∧ a.f3 = b.f3 ∧ a.f4 = b.f4 then .isTrue (by cases a; cases b; simp_all) else .isFalse (fun e => h (by rw [e]; exact ⟨rfl, rfl, rfl, rfl, rfl⟩))
theorem rd_lawsLock {l pre suf : List S96} {a : S96} (h : l = pre ++ a :: suf) : rd_T96 l (pre.length : Int) = a := getD_at _ h
theorem rd_implLock {l pre suf : List S98} {a : S98} (h : l = pre ++ a :: suf) : rd_T98 l (pre.length : Int) = a := getD_at _ h
def toLock (p : S96) : S98 := ⟨p.f0, p.f1, p.f2, p.f3, p.f4⟩
def SmLock (p : S98) : Prop := IntOk p.f0 ∧ SmS p.f1 ∧ True ∧ True ∧ IntOk p.f4
def GGLock (x : S96) : Prop := (Lit.int .i64 x.f0).wf = true ∧ (x.f1.length ≤ maxLen ∧ ∀ s ∈ x.f1, s.size ≤ maxLen) ∧ True ∧ True ∧ (Lit.int .i64 x.f4).wf = true
theorem szLock {p : S96} (hp : GGLock p) {n : Int} (h0 : 0 ≤ n) (h1 : n ≤ 1048576) : Sz (fun k => laws_szLock.f k p.f0 p.f1 p.f2 p.f3 p.f4 n) n (SmLock (toLock p)) := by
  obtain ⟨g0, g1, g2, g3, g4⟩ := hp
  unfold laws_szLock.f
  refine Sz.bind (szS g1.1 g1.2 (by omega) (by omega)) (fun n1 a1 b1 s1 => ?_) (by simp only [show (-1 : Int) < 0 by omega, if_true]; exact Ev.now _)
  simp only [if_neg (show ¬ n1 < 0 by omega)]
  exact .inr ⟨n1, by omega, by omega, Ev.now _, wf_int g0, s1, trivial, trivial, wf_int g4⟩
theorem toLock1 {p : S96} (hp : SmLock (toLock p)) : Ev (fun k => laws_toLock.f k p.f0 p.f1 p.f2 p.f3 p.f4) (p.f0, p.f1, p.f2, p.f3, p.f4) := by
  obtain ⟨g0, g1, g2, g3, g4⟩ := hp
  unfold laws_toLock.f
  refine Ev.bind (toS (by have := g1.1; simp only [toLock] at this; omega)) ?_
  exact Ev.now _
theorem eqLock1 {p q : S98} (hp : SmLock p) : Ev (fun k => laws_eqLock.f k p.f0 p.f1 p.f2 p.f3 p.f4 q.f0 q.f1 q.f2 q.f3 q.f4) (decide (p = q)) := by
  obtain ⟨g0, g1, g2, g3, g4⟩ := hp
  unfold laws_eqLock.f
  by_cases e0 : p.f0 = q.f0
  rotate_left
  · rw [show decide (p = q) = false from decide_eq_false (fun h => e0 (by rw [h]))]
    simp only [ba_eq, e0, bne_iff_ne, ne_eq, not_false_eq_true, not_true_eq_false, if_true, if_false]
    exact Ev.now _
  simp only [ba_eq, e0, bne_self_eq_false, Bool.false_eq_true, if_true, if_false]
  refine Ev.bind (eqS (by have := g1.1; rw [maxLen_eq]; omega)) ?_
  by_cases e1 : p.f1 = q.f1
  rotate_left
  · rw [show decide (p = q) = false from decide_eq_false (fun h => e1 (by rw [h]))]
    simp only [e1, decide_false, Bool.false_eq_true, if_false]
    exact Ev.now _
  simp only [e1, decide_true, if_true]
  by_cases e2 : p.f2 = q.f2
  rotate_left
  · rw [show decide (p = q) = false from decide_eq_false (fun h => e2 (by rw [h]))]
    simp only [ba_eq, e2, bne_iff_ne, ne_eq, not_false_eq_true, not_true_eq_false, if_true, if_false]
    exact Ev.now _
  simp only [ba_eq, e2, bne_self_eq_false, Bool.false_eq_true, if_true, if_false]
  by_cases e3 : p.f3 = q.f3
  rotate_left
  · rw [show decide (p = q) = false from decide_eq_false (fun h => e3 (by rw [h]))]
    simp only [ba_eq, e3, bne_iff_ne, ne_eq, not_false_eq_true, not_true_eq_false, if_true, if_false]
    exact Ev.now _
  simp only [ba_eq, e3, bne_self_eq_false, Bool.false_eq_true, if_true, if_false]
  by_cases e4 : p.f4 = q.f4
  rotate_left
  · rw [show decide (p = q) = false from decide_eq_false (fun h => e4 (by rw [h]))]
    simp only [ba_eq, e4, bne_iff_ne, ne_eq, not_false_eq_true, not_true_eq_false, if_true, if_false]
    exact Ev.now _
  simp only [ba_eq, e4, bne_self_eq_false, Bool.false_eq_true, if_true, if_false]
  rw [show decide (p = q) = true from decide_eq_true (by cases p; cases q; simp_all)]
  exact Ev.now _
def SmLocks (l : List S98) : Prop := l.length ≤ 1048576 ∧ ∀ p ∈ l, SmLock p
theorem szLockS {l : List S96} (hl : l.length ≤ maxLen) (hs : ∀ s ∈ l, GGLock s) {n : Int} (h0 : 0 ≤ n) (h1 : n ≤ 1048576) : Sz (fun k => laws_szLockS.f k l n) n (SmLocks (l.map toLock)) := by
  have hl' := hl
  rw [maxLen_eq] at hl'
  unfold laws_szLockS.f
  simp only [wrap_id (x := n - (l.length : Int)) (by omega) (by omega)]
  refine Sz.sub (by omega) (fun hlt => ?_)
  have key : Sz (fun k => laws_szLockS.l0 k l (n - l.length) 0) (n - l.length) (∀ p ∈ l, SmLock (toLock p)) := by
    refine sz_loop (l := l) (P := fun p => SmLock (toLock p)) (fun k n i => laws_szLockS.l0 k l n i) ?_ ?_ l [] (n - l.length) rfl (by omega) (by omega)
    · intro n
      refine Ev.step (fun k => laws_szLockS.l0.eq_2 ..) ?_
      simp only [Int.lt_irrefl, if_false]
      exact Ev.now _
    · intro pre a suf n h h0 h1
      rcases szLock (hs a (by rw [h]; simp)) h0 h1 with h2 | ⟨m, hm0, hm1, h2, h3⟩
      · left
        refine Ev.step (fun k => laws_szLockS.l0.eq_2 ..) ?_
        simp only [if_pos (lt_at h), if_pos (nonneg_at _), rd_lawsLock h]
        refine Ev.bind h2 ?_
        simp only [show (-1 : Int) < 0 by omega, if_true]
        exact Ev.now _
      · refine .inr ⟨m, hm0, hm1, h3, fun r hr => ?_⟩
        refine Ev.step (fun k => laws_szLockS.l0.eq_2 ..) ?_
        simp only [if_pos (lt_at h), if_pos (nonneg_at _), rd_lawsLock h]
        refine Ev.bind h2 ?_
        simp only [if_neg (show ¬ m < 0 by omega), next_at h hl]
        exact hr
  rcases key with h | ⟨m, hm0, hm1, h2, h3⟩
  · exact .inl h
  · refine .inr ⟨m, hm0, hm1, h2, by simp; omega, fun p hp => ?_⟩
    obtain ⟨q, hq, rfl⟩ := List.mem_map.1 hp
    exact h3 q hq
theorem toLockS {p : List S96} (hp : SmLocks (p.map toLock)) : Ev (fun k => laws_toLockS.f k p) (p.map toLock) := by
  obtain ⟨hl0, hs⟩ := hp
  rw [List.length_map] at hl0
  have hl2 : p.length ≤ maxLen := by rw [maxLen_eq]; omega
  unfold laws_toLockS.f
  simp only [if_pos (nonneg_at _), Int.toNat_natCast, if_pos (show p.length ≤ 5864062014805 by omega)]
  refine to_loop (l := p) (f := toLock) (fun k out i => laws_toLockS.l0 k p out i) ?_ ?_ p [] _ (List.replicate p.length z98) rfl rfl (by simp)
  · intro out
    refine Ev.step (fun k => laws_toLockS.l0.eq_2 ..) ?_
    simp only [Int.lt_irrefl, if_false]
    exact Ev.now _
  · intro pre a suf out h ho r hr
    refine Ev.step (fun k => laws_toLockS.l0.eq_2 ..) ?_
    simp only [if_pos (lt_at h), if_pos (nonneg_at _), rd_lawsLock h]
    refine Ev.bind (toLock1 (hs _ (List.mem_map.2 ⟨a, by rw [h]; simp, rfl⟩))) ?_
    simp only [if_pos ho, next_at h hl2]
    exact hr
theorem eqLockS {a b : List S98} (ha : SmLocks a) : Ev (fun k => laws_eqLockS.f k a b) (decide (a = b)) := by
  have hl : a.length ≤ maxLen := by have := ha.1; rw [maxLen_eq]; omega
  unfold laws_eqLockS.f
  by_cases e : (a.length : Int) = (b.length : Int)
  · simp only [if_pos e]
    refine eq_loop (a := a) (b := b) (fun k i => laws_eqLockS.l0 k a b i) ?_ ?_ a b [] [] rfl rfl rfl (by omega)
    · refine Ev.step (fun k => laws_eqLockS.l0.eq_2 ..) ?_
      simp only [Int.lt_irrefl, if_false]
      exact Ev.now _
    · intro pre x su pre' y sv h h' hp
      have h3 := rd_implLock h'
      have h4 := lt_at h'
      rw [← hp] at h3 h4
      have h5 := eqLock1 (q := y) (ha.2 x (by rw [h]; simp))
      refine ⟨fun hne => ?_, fun heq r hr => ?_⟩
      · refine Ev.step (fun k => laws_eqLockS.l0.eq_2 ..) ?_
        simp only [if_pos (lt_at h), if_pos (nonneg_at _), if_pos h4, rd_implLock h, h3]
        refine Ev.bind h5 ?_
        simp only [hne, decide_false, Bool.false_eq_true, if_false]
        exact Ev.now _
      · refine Ev.step (fun k => laws_eqLockS.l0.eq_2 ..) ?_
        simp only [if_pos (lt_at h), if_pos (nonneg_at _), if_pos h4, rd_implLock h, h3]
        refine Ev.bind h5 ?_
        simp only [heq, decide_true, if_true, next_at h hl]
        rw [heq] at hr
        exact hr
  · simp only [if_neg e]
    rw [show decide (a = b) = false from decide_eq_false (fun h => e (by rw [h]))]
    exact Ev.now _
end Go.Proofs.YtigoeooelfeopaaDoor.L

/- The laws' own functions over lists of numbers: size, copy, equality. No condition. -/
set_option linter.unusedSimpArgs false
set_option linter.unusedVariables false
namespace Go.Proofs.YtigoeooelfeopaaDoor.L
open Go.RowKit Go.Proofs.YtigoeooelfeopaaDoorW.PrintWords Go.Proofs.YtigoeooelfeopaaDoorW.PrintLast Go.Proofs.YtigoeooelfeopaaDoor.Q
theorem rd_int {l pre suf : List Int} {a : Int} (h : l = pre ++ a :: suf) : rd l (pre.length : Int) = a := getD_at _ h
theorem szInts {l : List Int} (hl : l.length ≤ maxLen) {n : Int} (h0 : 0 ≤ n) (h1 : n ≤ 1048576) : Sz (fun _ => laws_szIntS.f l n) n (l.length ≤ 1048576) := by
  rw [maxLen_eq] at hl
  unfold laws_szIntS.f
  simp only [wrap_id (x := n - (l.length : Int)) (by omega) (by omega)]
  exact Sz.sub (by omega) (fun h => .inr ⟨_, by omega, by omega, Ev.now _, by omega⟩)
theorem toInts {l : List Int} (hl : (l.length : Int) ≤ 1048576) : Ev (fun k => laws_toIntS.f k l) l := by
  have hl2 : l.length ≤ maxLen := by rw [maxLen_eq]; omega
  unfold laws_toIntS.f
  simp only [if_pos (nonneg_at _), Int.toNat_natCast, if_pos (show l.length ≤ 35184372088832 by omega)]
  refine ev_cast (to_loop (l := l) (f := fun x => x) (fun k out i => laws_toIntS.l0 k l out i) ?_ ?_ l [] _ (List.replicate l.length 0) rfl rfl (by simp)) (by simp)
  · intro out
    refine Ev.step (fun k => laws_toIntS.l0.eq_2 ..) ?_
    simp only [Int.lt_irrefl, if_false]
    exact Ev.now _
  · intro pre a suf out h ho r hr
    refine Ev.step (fun k => laws_toIntS.l0.eq_2 ..) ?_
    simp only [if_pos (lt_at h), if_pos (nonneg_at _), rd_int h, if_pos ho, next_at h hl2]
    exact hr
theorem eqInts {a b : List Int} (hl : a.length ≤ maxLen) : Ev (fun k => laws_eqIntS.f k a b) (decide (a = b)) := by
  unfold laws_eqIntS.f
  by_cases e : (a.length : Int) = (b.length : Int)
  · simp only [if_pos e]
    refine eq_loop (a := a) (b := b) (fun k i => laws_eqIntS.l0 k a b i) ?_ ?_ a b [] [] rfl rfl rfl (by omega)
    · refine Ev.step (fun k => laws_eqIntS.l0.eq_2 ..) ?_
      simp only [Int.lt_irrefl, if_false]
      exact Ev.now _
    · intro pre x su pre' y sv h h' hp
      have h3 := rd_int h'
      have h4 := lt_at h'
      rw [← hp] at h3 h4
      refine ⟨fun hne => ?_, fun heq r hr => ?_⟩
      · refine Ev.step (fun k => laws_eqIntS.l0.eq_2 ..) ?_
        simp only [if_pos (lt_at h), if_pos (nonneg_at _), if_pos h4, rd_int h, h3, if_neg hne]
        exact Ev.now _
      · refine Ev.step (fun k => laws_eqIntS.l0.eq_2 ..) ?_
        simp only [if_pos (lt_at h), if_pos (nonneg_at _), if_pos h4, rd_int h, h3, heq, if_true, next_at h hl]
        rw [heq] at hr
        exact hr
  · simp only [if_neg e]
    rw [show decide (a = b) = false from decide_eq_false (fun h => e (by rw [h]))]
    exact Ev.now _
end Go.Proofs.YtigoeooelfeopaaDoor.L

/- The laws' own functions over a server: size, copy, equality with itself. No condition. -/
set_option linter.unusedSimpArgs false
set_option linter.unusedVariables false
namespace Go.Proofs.YtigoeooelfeopaaDoor.L
open Go.RowKit Go.Proofs.YtigoeooelfeopaaDoorW.PrintWords Go.Proofs.YtigoeooelfeopaaDoorW.PrintLast Go.Proofs.YtigoeooelfeopaaDoor.Q
theorem szSrv {T : List S93} {L : List S96} {a b : Int} {D U : List Int} (hT : T.length ≤ maxLen) (hT2 : ∀ s ∈ T, GGRes s) (hL : L.length ≤ maxLen) (hL2 : ∀ s ∈ L, GGLock s) (hD : D.length ≤ maxLen) (hU : U.length ≤ maxLen) {n : Int} (h0 : 0 ≤ n) (h1 : n ≤ 1048576) :
    Sz (fun k => laws_szSrv.f k T L a b D U n) n (SmRess (T.map toRes) ∧ SmLocks (L.map toLock) ∧ D.length ≤ 1048576 ∧ U.length ≤ 1048576) := by
  unfold laws_szSrv.f
  refine Sz.bind (szResS hT hT2 (by omega) (by omega)) (fun n0 a0 b0 s0 => ?_) (by simp only [show (-1 : Int) < 0 by omega, if_true]; exact Ev.now _)
  simp only [if_neg (show ¬ n0 < 0 by omega)]
  refine Sz.bind (szLockS hL hL2 (by omega) (by omega)) (fun n1 a1 b1 s1 => ?_) (by simp only [show (-1 : Int) < 0 by omega, if_true]; exact Ev.now _)
  simp only [if_neg (show ¬ n1 < 0 by omega)]
  refine Sz.bind (szInts hD (by omega) (by omega)) (fun n2 a2 b2 s2 => ?_) (by simp only [show (-1 : Int) < 0 by omega, if_true]; exact Ev.now _)
  simp only [if_neg (show ¬ n2 < 0 by omega)]
  refine Sz.bind (szInts hU (by omega) (by omega)) (fun n3 a3 b3 s3 => ?_) (by simp only [show (-1 : Int) < 0 by omega, if_true]; exact Ev.now _)
  simp only [if_neg (show ¬ n3 < 0 by omega)]
  exact .inr ⟨n3, by omega, by omega, Ev.now _, s0, s1, s2, s3⟩
theorem toSrv1 {T : List S93} {L : List S96} {a b : Int} {D U : List Int} (hT : SmRess (T.map toRes)) (hL : SmLocks (L.map toLock)) (hD : D.length ≤ 1048576) (hU : U.length ≤ 1048576) :
    Ev (fun k => laws_toSrv.f k T L a b D U) (T.map toRes, L.map toLock, a, b, D, U) := by
  unfold laws_toSrv.f
  refine Ev.bind (toResS hT) ?_
  refine Ev.bind (toLockS hL) ?_
  refine Ev.bind (toInts (by omega)) ?_
  refine Ev.bind (toInts (by omega)) ?_
  exact Ev.now _
theorem eqSrvSelf {T : List S67} {L : List S98} {a b : Int} {D U : List Int} (hT : SmRess T) (hL : SmLocks L) (hD : D.length ≤ 1048576) (hU : U.length ≤ 1048576) :
    Ev (fun k => laws_eqSrv.f k T L a b D U T L a b D U) true := by
  unfold laws_eqSrv.f
  refine Ev.bind (eqResS hT) ?_
  simp only [decide_true, if_true]
  refine Ev.bind (eqLockS hL) ?_
  simp only [decide_true, if_true]
  refine Ev.bind (eqInts (by rw [maxLen_eq]; omega)) ?_
  simp only [decide_true, if_true]
  refine Ev.bind (eqInts (by rw [maxLen_eq]; omega)) ?_
  simp only [decide_true, if_true]
  exact Ev.now _
end Go.Proofs.YtigoeooelfeopaaDoor.L

/- Paths: are they the same, is one under the other; as the program and the reference have it. No condition. -/
set_option linter.unusedSimpArgs false
set_option linter.unusedVariables false
namespace Go.Proofs.YtigoeooelfeopaaDoor.L
open Go.RowKit Go.Proofs.YtigoeooelfeopaaDoorW.PrintWords Go.Proofs.YtigoeooelfeopaaDoorW.PrintLast Go.Proofs.YtigoeooelfeopaaDoor.Q
theorem specSame {a b : List ByteArray} (hl : a.length ≤ maxLen) : Ev (fun k => spec_SamePath.f k a b) (decide (a = b)) := by
  unfold spec_SamePath.f
  by_cases e : (a.length : Int) = (b.length : Int)
  · simp only [if_pos e]
    refine eq_loop (a := a) (b := b) (fun k i => spec_SamePath.l0 k a b i) ?_ ?_ a b [] [] rfl rfl rfl (by omega)
    · refine Ev.step (fun k => spec_SamePath.l0.eq_2 ..) ?_
      simp only [Int.lt_irrefl, if_false]
      exact Ev.now _
    · intro pre x su pre' y sv h h' hp
      have h3 := rd_at ByteArray.empty h'
      have h4 := lt_at h'
      rw [← hp] at h3 h4
      refine ⟨fun hne => ?_, fun heq r hr => ?_⟩
      · refine Ev.step (fun k => spec_SamePath.l0.eq_2 ..) ?_
        simp only [if_pos (lt_at h), if_pos (nonneg_at _), if_pos h4, rd_at _ h, h3, ba_eq, hne, if_false]
        exact Ev.now _
      · refine Ev.step (fun k => spec_SamePath.l0.eq_2 ..) ?_
        simp only [if_pos (lt_at h), if_pos (nonneg_at _), if_pos h4, rd_at _ h, h3, heq, if_true, next_at h hl]
        rw [heq] at hr
        exact hr
  · simp only [if_neg e]
    rw [show decide (a = b) = false from decide_eq_false (fun h => e (by rw [h]))]
    exact Ev.now _
theorem implSame {a b : List ByteArray} (hl : a.length ≤ maxLen) : Ev (fun k => impl_SamePath.f k a b) (decide (a = b)) := by
  unfold impl_SamePath.f
  by_cases e : (a.length : Int) = (b.length : Int)
  · simp only [if_pos e]
    refine eq_loop (a := a) (b := b) (fun k i => impl_SamePath.l0 k a b (a.length : Int) i) ?_ ?_ a b [] [] rfl rfl rfl (by omega)
    · refine Ev.step (fun k => impl_SamePath.l0.eq_2 ..) ?_
      simp only [Int.lt_irrefl, if_false]
      exact Ev.now _
    · intro pre x su pre' y sv h h' hp
      have h3 := rd_at ByteArray.empty h'
      have h4 := lt_at h'
      rw [← hp] at h3 h4
      refine ⟨fun hne => ?_, fun heq r hr => ?_⟩
      · refine Ev.step (fun k => impl_SamePath.l0.eq_2 ..) ?_
        simp only [if_pos (lt_at h), if_pos (nonneg_at _), if_pos h4, rd_at _ h, h3, ba_eq, hne, if_false]
        exact Ev.now _
      · refine Ev.step (fun k => impl_SamePath.l0.eq_2 ..) ?_
        simp only [if_pos (lt_at h), if_pos (nonneg_at _), if_pos h4, rd_at _ h, h3, heq, if_true, next_at h hl]
        rw [heq] at hr
        exact hr
  · simp only [if_neg e]
    rw [show decide (a = b) = false from decide_eq_false (fun h => e (by rw [h]))]
    exact Ev.now _
end Go.Proofs.YtigoeooelfeopaaDoor.L

/- Shelves: the place of a thing, is it a shelf; as the program and the reference have it. No condition. -/
set_option linter.unusedSimpArgs false
set_option linter.unusedVariables false
namespace Go.Proofs.YtigoeooelfeopaaDoor.L
open Go.RowKit Go.Proofs.YtigoeooelfeopaaDoorW.PrintWords Go.Proofs.YtigoeooelfeopaaDoorW.PrintLast Go.Proofs.YtigoeooelfeopaaDoor.Q
def findFrom (p : List ByteArray) : List S67 → Nat → Int
  | [], _ => -1
  | r :: t, i => if r.f0 = p then (i : Int) else findFrom p t (i + 1)
def findR (t : List S67) (p : List ByteArray) : Int := findFrom p t 0
theorem findFrom_cases (p : List ByteArray) : ∀ (t : List S67) (i : Nat), findFrom p t i = -1 ∧ (∀ r ∈ t, r.f0 ≠ p) ∨ ∃ j, ∃ r, findFrom p t i = ((i + j : Nat) : Int) ∧ t[j]? = some r ∧ r.f0 = p ∧ ∀ j', j' < j → ∀ r', t[j']? = some r' → r'.f0 ≠ p := by
  intro t
  induction t with
  | nil => exact fun i => .inl ⟨rfl, by simp⟩
  | cons r t ih =>
    intro i
    by_cases e : r.f0 = p
    · refine .inr ⟨0, r, by simp [findFrom, e], rfl, e, fun j' h => absurd h (Nat.not_lt_zero _)⟩
    · rcases ih (i + 1) with ⟨h, h2⟩ | ⟨j, r', h, h2, h3, h4⟩
      · exact .inl ⟨by simp [findFrom, e, h], fun x hx => by
          rcases List.mem_cons.1 hx with rfl | hx
          · exact e
          · exact h2 x hx⟩
      · refine .inr ⟨j + 1, r', by simp [findFrom, e, h]; omega, h2, h3, fun j' hj' x hx => ?_⟩
        cases j' with
        | zero =>
          simp at hx
          rw [← hx]
          exact e
        | succ j' => exact h4 j' (by omega) x hx
theorem specFind {t : List S67} {p : List ByteArray} (ht : SmRess t) : Ev (fun k => spec_FindRes.f k t p) (findR t p) := by
  have hl : t.length ≤ maxLen := by have := ht.1; rw [maxLen_eq]; omega
  have key : ∀ (suf pre : List S67), t = pre ++ suf → Ev (fun k => spec_FindRes.l0 k t p pre.length) (findFrom p suf pre.length) := by
    intro suf
    induction suf with
    | nil =>
      intro pre h
      refine Ev.step (fun k => spec_FindRes.l0.eq_2 ..) ?_
      simp only [if_neg (end_at h)]
      exact Ev.now _
    | cons a suf ih =>
      intro pre h
      have hs := (ht.2 a (by rw [h]; simp)).1.1
      refine Ev.step (fun k => spec_FindRes.l0.eq_2 ..) ?_
      simp only [if_pos (lt_at h), if_pos (nonneg_at _), rd_implRes h]
      refine Ev.bind (specSame (by rw [maxLen_eq]; omega)) ?_
      simp only [findFrom, next_at h hl]
      by_cases e : a.f0 = p
      · simp only [e, decide_true, if_true]
        exact Ev.now _
      · simp only [e, decide_false, Bool.false_eq_true, if_false]
        have := ih (pre ++ [a]) (snoc_at h)
        rw [List.length_append, List.length_singleton] at this ⊢
        exact this
  exact key t [] rfl
theorem implFind {t : List S67} {p : List ByteArray} (ht : SmRess t) : Ev (fun k => impl_FindRes.f k t p) (findR t p) := by
  have hl : t.length ≤ maxLen := by have := ht.1; rw [maxLen_eq]; omega
  have key : ∀ (suf pre : List S67), t = pre ++ suf → Ev (fun k => impl_FindRes.l0 k p t (t.length : Int) pre.length) (findFrom p suf pre.length) := by
    intro suf
    induction suf with
    | nil =>
      intro pre h
      refine Ev.step (fun k => impl_FindRes.l0.eq_2 ..) ?_
      simp only [if_neg (end_at h)]
      exact Ev.now _
    | cons a suf ih =>
      intro pre h
      have hs := (ht.2 a (by rw [h]; simp)).1.1
      refine Ev.step (fun k => impl_FindRes.l0.eq_2 ..) ?_
      simp only [if_pos (lt_at h), if_pos (nonneg_at _), rd_implRes h]
      refine Ev.bind (implSame (by rw [maxLen_eq]; omega)) ?_
      simp only [findFrom, next_at h hl]
      by_cases e : a.f0 = p
      · simp only [e, decide_true, if_true]
        exact Ev.now _
      · simp only [e, decide_false, Bool.false_eq_true, if_false]
        have := ih (pre ++ [a]) (snoc_at h)
        rw [List.length_append, List.length_singleton] at this ⊢
        exact this
  exact key t [] rfl
theorem findR_lt (t : List S67) (p : List ByteArray) (h : 0 ≤ findR t p) : findR t p < (t.length : Int) := by
  rcases findFrom_cases p t 0 with ⟨h1, _⟩ | ⟨j, r, h1, h2, _⟩
  · unfold findR at h; omega
  · unfold findR
    have := (List.getElem?_eq_some_iff.1 h2).1
    omega
end Go.Proofs.YtigoeooelfeopaaDoor.L

/- Decimal numerals: what the reference's NumText makes is what the library's Itoa makes. No condition. -/
set_option linter.unusedSimpArgs false
set_option linter.unusedVariables false
namespace Go.Proofs.YtigoeooelfeopaaDoor.L
open Go.RowKit Go.Proofs.YtigoeooelfeopaaDoorW.PrintWords Go.Proofs.YtigoeooelfeopaaDoorW.PrintLast Go.Proofs.YtigoeooelfeopaaDoor.Q
theorem ba_of {a : ByteArray} {l : List UInt8} (h : a.data.toList = l) : a = ⟨l.toArray⟩ := by
  cases a with | mk x => congr 1; exact Array.toList_inj.1 (by simpa using h)
theorem app_list (a b : ByteArray) : (a ++ b).data.toList = a.data.toList ++ b.data.toList := by rw [ByteArray.data_append, Array.toList_append]
theorem size_list (a : ByteArray) : a.size = a.data.toList.length := (Array.length_toList (xs := a.data)).symm
theorem decD_step {n : Nat} (h : ¬ n < 10) : Lib.decDigits n = Lib.decDigits (n / 10) ++ [UInt8.ofNat (48 + n % 10)] := by
  rw [Lib.decDigits, dif_neg h]
theorem digit_list {d : Nat} (h : d < 10) : (strOfNums [(wrap64 (48 + (d : Int))) % 256]).data.toList = [UInt8.ofNat (48 + d)] := by
  rw [wrap_id (by omega) (by omega)]
  have e : ((48 + (d : Int)) % 256).toNat = 48 + d := by omega
  simp [strOfNums, e]
theorem numL : ∀ (m n : Nat), n ≤ m → ∀ acc : ByteArray, acc.size + n ≤ 9223372036854775808 → n ≤ 9223372036854775807 →
    ∃ s, Ev (fun k => spec_NumText.l0 k (n : Int) acc) s ∧ s.data.toList = (if n < 10 then [] else Lib.decDigits (n / 10)) ++ acc.data.toList := by
  intro m
  induction m with
  | zero =>
    intro n hn acc ha hi
    obtain rfl : n = 0 := by omega
    refine ⟨acc, Ev.step (fun k => spec_NumText.l0.eq_2 ..) ?_, by simp⟩
    simp only [if_neg (show ¬ ((0 : Nat) : Int) > 9 by omega)]
    exact Ev.now _
  | succ m ih =>
    intro n hn acc ha hi
    by_cases c : n < 10
    · refine ⟨acc, Ev.step (fun k => spec_NumText.l0.eq_2 ..) ?_, by simp [c]⟩
      simp only [if_neg (show ¬ (n : Int) > 9 by omega)]
      exact Ev.now _
    · have hq : Int.tdiv (n : Int) 10 = ((n / 10 : Nat) : Int) := by rw [Int.tdiv_eq_ediv_of_nonneg (by omega)]; omega
      have hw : wrap64 (Int.tdiv (n : Int) 10) = ((n / 10 : Nat) : Int) := by rw [hq]; exact wrap_id (by omega) (by omega)
      have hm : Int.tmod ((n / 10 : Nat) : Int) 10 = ((n / 10 % 10 : Nat) : Int) := by rw [Int.tmod_eq_emod_of_nonneg (by omega)]; omega
      have hd := digit_list (d := n / 10 % 10) (by omega)
      have hs : (strOfNums [(wrap64 (48 + ((n / 10 % 10 : Nat) : Int))) % 256]).size = 1 := by rw [size_list, hd]; rfl
      obtain ⟨s, h1, h2⟩ := ih (n / 10) (by omega) (strOfNums [(wrap64 (48 + ((n / 10 % 10 : Nat) : Int))) % 256] ++ acc) (by rw [ByteArray.size_append, hs]; omega) (by omega)
      refine ⟨s, Ev.step (fun k => spec_NumText.l0.eq_2 ..) ?_, ?_⟩
      · simp only [if_pos (show (n : Int) > 9 by omega), Option.bind_some, hw, hm, hs, if_pos (show 1 + acc.size ≤ 9223372036854775807 by omega)]
        exact h1
      · rw [h2, app_list, hd, if_neg c]
        by_cases c2 : n / 10 < 10
        · rw [if_pos c2, Lib.decDigits_one c2]
          simp [Nat.mod_eq_of_lt c2]
        · rw [if_neg c2, decD_step c2]
          simp
theorem numD (x : Int) (h1 : x ≤ 9223372036854775807) : ∃ s, Ev (fun k => spec_NumText.f k x) s ∧ s.data.toList = Lib.decDigits x.toNat := by
  have key : ∀ n : Nat, n ≤ 9223372036854775807 → ∃ s, Ev (fun k => spec_NumText.j0 k (n : Int)) s ∧ s.data.toList = Lib.decDigits n := by
    intro n hn
    have hm : Int.tmod (n : Int) 10 = ((n % 10 : Nat) : Int) := by rw [Int.tmod_eq_emod_of_nonneg (by omega)]; omega
    have hd := digit_list (d := n % 10) (by omega)
    have hs : (strOfNums [(wrap64 (48 + ((n % 10 : Nat) : Int))) % 256]).size = 1 := by rw [size_list, hd]; rfl
    obtain ⟨s, e1, e2⟩ := numL n n (Nat.le_refl _) (strOfNums [(wrap64 (48 + ((n % 10 : Nat) : Int))) % 256]) (by rw [hs]; omega) hn
    refine ⟨s, Ev.step (fun k => spec_NumText.j0.eq_2 ..) ?_, ?_⟩
    · simp only [hm]; exact e1
    · rw [e2, hd]
      by_cases c : n < 10
      · rw [if_pos c, Lib.decDigits_one c]; simp [Nat.mod_eq_of_lt c]
      · rw [if_neg c, decD_step c]
  unfold spec_NumText.f
  by_cases c : x < 0
  · obtain ⟨s, e1, e2⟩ := key 0 (by omega)
    refine ⟨s, ?_, by rw [e2, show x.toNat = 0 by omega]⟩
    simp only [if_pos c]; exact e1
  · obtain ⟨s, e1, e2⟩ := key x.toNat (by omega)
    refine ⟨s, ?_, e2⟩
    simp only [if_neg c]
    rw [show ((x.toNat : Nat) : Int) = x by omega] at e1
    exact e1
theorem num_len (n : Nat) (h : n ≤ 9223372036854775807) : (Lib.decDigits n).length ≤ 21 := by
  have := Lib.itoa_length_le (n : Int) (by omega) (by omega)
  rwa [Lib.itoa_nonneg] at this
theorem numI (x : Int) (h1 : x ≤ 9223372036854775807) : impl_NumText.f x = some ⟨(Lib.decDigits x.toNat).toArray⟩ := by
  unfold impl_NumText.f strconv_Itoa.f mx
  by_cases c : x < 0
  · rw [if_pos c, if_pos (by omega), show (0 : Int) = ((0 : Nat) : Int) from rfl, Lib.itoa_nonneg, show x.toNat = 0 by omega]
  · rw [if_neg c, if_pos (by omega)]
    rw [show Lib.itoa x = Lib.decDigits x.toNat from by
      have := Lib.itoa_nonneg x.toNat
      rwa [show ((x.toNat : Nat) : Int) = x by omega] at this]
theorem numBoth (x : Int) (h1 : x ≤ 9223372036854775807) : ∃ s, Ev (fun k => spec_NumText.f k x) s ∧ impl_NumText.f x = some s ∧ s.data.toList = Lib.decDigits x.toNat ∧ s.size ≤ 21 := by
  obtain ⟨s, e1, e2⟩ := numD x h1
  exact ⟨s, e1, by rw [numI x h1, ba_of e2], e2, by rw [size_list, e2]; exact num_len _ (by omega)⟩
theorem tagBoth (x : Int) (h1 : x ≤ 9223372036854775807) : ∃ s, Ev (fun k => spec_TagText.f k x) s ∧ impl_TagText.f x = some s ∧ s.data.toList = 34 :: 118 :: (Lib.decDigits x.toNat ++ [34]) ∧ s.size ≤ 24 := by
  obtain ⟨s, e1, e2, e3, e4⟩ := numBoth x h1
  have hs : ((⟨#[34, 118]⟩ : ByteArray) ++ s).size = 2 + s.size := by rw [ByteArray.size_append]; rfl
  refine ⟨((⟨#[34, 118]⟩ : ByteArray) ++ s) ++ (⟨#[34]⟩ : ByteArray), ?_, ?_, ?_, ?_⟩
  · unfold spec_TagText.f
    refine Ev.bind e1 ?_
    simp only [if_pos (show 2 + s.size ≤ 9223372036854775807 by omega), hs, if_pos (show 2 + s.size + 1 ≤ 9223372036854775807 by omega)]
    exact Ev.now _
  · unfold impl_TagText.f
    rw [e2]
    simp only [Option.bind_some, if_pos (show 2 + s.size ≤ 9223372036854775807 by omega), hs, if_pos (show 2 + s.size + 1 ≤ 9223372036854775807 by omega)]
  · rw [app_list, app_list, e3]; rfl
  · rw [ByteArray.size_append, hs]
    have : (⟨#[34]⟩ : ByteArray).size = 1 := rfl
    omega
end Go.Proofs.YtigoeooelfeopaaDoor.L

/- The law FnExactTagAt computes true: the program and the reference say the same, and the arguments stay. No condition. -/
set_option linter.unusedSimpArgs false
set_option linter.unusedVariables false
namespace Go.Proofs.YtigoeooelfeopaaDoor.Pure
open Go.RowKit Go.Proofs.YtigoeooelfeopaaDoorW.PrintWords Go.Proofs.YtigoeooelfeopaaDoorW.PrintLast Go.Proofs.YtigoeooelfeopaaDoor.Q Go.Proofs.YtigoeooelfeopaaDoor.L
theorem FnExactTagAt : ∀ (x0 : S35) (x1 : List ByteArray), G35 x0 → (fun l : List ByteArray => l.length ≤ maxLen ∧ ∀ a ∈ l, (fun s : ByteArray => s.size ≤ maxLen) a) x1 → ∃ k, laws_FnExactTagAt.f k x0.f0 x0.f1 x0.f2 x0.f3 x0.f4 x0.f5 x1 = some true := by
  intro x0 x1 g0 g1
  apply Ev.rounds
  unfold laws_FnExactTagAt.f
  refine Sz.ev (szSrv (a := x0.f2) (b := x0.f3) g0.1.1 g0.1.2 g0.2.1.1 g0.2.1.2 g0.2.2.2.2.1.1 g0.2.2.2.2.2.1 (n := 1048576) (by omega) (by omega)) (by simp only [show (-1 : Int) < 0 by omega, if_true]; exact Ev.now _) (fun m0 a0 b0 s0 => ?_)
  simp only [if_neg (show ¬ m0 < 0 by omega)]
  refine Sz.ev (szS g1.1 g1.2 (n := m0) (by omega) (by omega)) (by simp only [show (-1 : Int) < 0 by omega, if_true]; exact Ev.now _) (fun m1 a1 b1 s1 => ?_)
  simp only [if_neg (show ¬ m1 < 0 by omega)]
  obtain ⟨sT, sL, sD, sU⟩ := s0
  have both : ∃ r, Ev (fun k => spec_TagAt.f k (x0.f0.map toRes) (x0.f1.map toLock) x0.f2 x0.f3 x0.f4 x0.f5 x1) r ∧ Ev (fun k => impl_TagAt.f k (x0.f0.map toRes) (x0.f1.map toLock) x0.f2 x0.f3 x0.f4 x0.f5 x1) r := by
    unfold spec_TagAt.f impl_TagAt.f
    by_cases c0 : (x1.length : Int) = 0
    · simp only [if_pos c0]
      obtain ⟨s, e1, e2, _, _⟩ := tagBoth 0 (by omega)
      refine ⟨(s, true), Ev.bind e1 (Ev.now _), ?_⟩
      simp only [e2, Option.bind_some]
      exact Ev.now _
    · simp only [if_neg c0]
      by_cases c1 : findR (x0.f0.map toRes) x1 < 0
      · refine ⟨((⟨#[]⟩ : ByteArray), false), Ev.bind (specFind sT) ?_, Ev.bind (implFind sT) ?_⟩
        · simp only [if_pos c1]; exact Ev.now _
        · simp only [if_pos c1]; exact Ev.now _
      · have c2 : 0 ≤ findR (x0.f0.map toRes) x1 := by omega
        have c3 := findR_lt _ _ c2
        have hv : IntOk ((rd_T67 (x0.f0.map toRes) (findR (x0.f0.map toRes) x1)).f3) := by
          obtain ⟨j, hj⟩ : ∃ j : Nat, findR (x0.f0.map toRes) x1 = (j : Int) := ⟨(findR (x0.f0.map toRes) x1).toNat, by omega⟩
          rw [hj] at c3 ⊢
          have hlt : j < (x0.f0.map toRes).length := by omega
          have : rd_T67 (x0.f0.map toRes) (j : Int) = (x0.f0.map toRes)[j] := by
            unfold rd_T67
            rw [Int.toNat_natCast, List.getD_eq_getElem?_getD, List.getElem?_eq_getElem hlt]
            rfl
          rw [this]
          exact (sT.2 _ (List.getElem_mem hlt)).2.2.2.1
        obtain ⟨s, e1, e2, _, _⟩ := tagBoth _ (show (rd_T67 (x0.f0.map toRes) (findR (x0.f0.map toRes) x1)).f3 ≤ 9223372036854775807 by have := hv.2; omega)
        refine ⟨(s, true), Ev.bind (specFind sT) ?_, Ev.bind (implFind sT) ?_⟩
        · simp only [if_neg c1, if_pos c2, if_pos c3]
          exact Ev.bind e1 (Ev.now _)
        · simp only [if_neg c1, if_pos c2, if_pos c3, e2, Option.bind_some]
          exact Ev.now _
  obtain ⟨r, e1, e2⟩ := both
  refine Ev.bind (toSrv1 sT sL sD sU) ?_
  refine Ev.bind (toS (by have := s1.1; omega)) ?_
  refine Ev.bind e1 ?_
  refine Ev.bind (toSrv1 sT sL sD sU) ?_
  refine Ev.bind (toS (by have := s1.1; omega)) ?_
  refine Ev.bind e2 ?_
  simp only [if_true, bne_self_eq_false]
  refine Ev.step (fun k => laws_FnExactTagAt.j0.eq_2 ..) ?_
  simp only [Bool.false_eq_true, if_false]
  refine Ev.bind (toSrv1 sT sL sD sU) ?_
  refine Ev.bind (eqSrvSelf sT sL sD sU) ?_
  simp only [if_true]
  refine Ev.bind (toS (by have := s1.1; omega)) ?_
  refine Ev.bind (eqS g1.1) ?_
  simp only [decide_true, if_true]
  exact Ev.now _
end Go.Proofs.YtigoeooelfeopaaDoor.Pure
