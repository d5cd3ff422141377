/- The laws' own functions over a mirrored struct (Res): size, copy, equality. No condition. -/
import Derived.Test.YteabkidfgdmmpaaVFindResQx0
import Derived.Test.YteabkidfgdmmpaaVFindResQx10
import Derived.Test.YteabkidfgdmmpaaVFindResQx11
import Derived.Test.YteabkidfgdmmpaaVFindResLProp
import Derived.Test.YteabkidfgdmmpaaVFindResLStrS
set_option linter.unusedSimpArgs false
set_option linter.unusedVariables false
namespace Go.Proofs.Yteabkidfgdmmpaa.L
open Go.RowKit Go.Proofs.YteabkidfgdmmpaaW.PrintWords Go.Proofs.YteabkidfgdmmpaaW.PrintLast Go.Proofs.Yteabkidfgdmmpaa.Q
/-! ### Res -/
instance : DecidableEq S59 := fun a b => if h : a.f0 = b.f0 ∧ a.f1 = b.f1 ∧ a.f2 = b.f2 ∧ a.f3 = b.f3 ∧ a.f4 = b.f4 then .isTrue (by cases a; cases b; simp_all) else .isFalse (fun e => h (by rw [e]; exact ⟨rfl, rfl, rfl, rfl, rfl⟩))
theorem rd_lawsRes {l pre suf : List S77} {a : S77} (h : l = pre ++ a :: suf) : rd_T77 l (pre.length : Int) = a := getD_at _ h
theorem rd_implRes {l pre suf : List S59} {a : S59} (h : l = pre ++ a :: suf) : rd_T59 l (pre.length : Int) = a := getD_at _ h
def toRes (p : S77) : S59 := ⟨p.f0, p.f1, p.f2, p.f3, p.f4.map toProp⟩
def SmRes (p : S59) : Prop := SmS p.f0 ∧ True ∧ p.f2.size ≤ 1048576 ∧ IntOk p.f3 ∧ SmProps p.f4
def GGRes (x : S77) : Prop := (x.f0.length ≤ maxLen ∧ ∀ s ∈ x.f0, s.size ≤ maxLen) ∧ True ∧ x.f2.size ≤ maxLen ∧ (Lit.int .i64 x.f3).wf = true ∧ (x.f4.length ≤ maxLen ∧ ∀ y ∈ x.f4, GGProp y)
theorem szRes {p : S77} (hp : GGRes p) {n : Int} (h0 : 0 ≤ n) (h1 : n ≤ 1048576) : Sz (fun k => laws_szRes.f k p.f0 p.f1 p.f2 p.f3 p.f4 n) n (SmRes (toRes p)) := by
  obtain ⟨g0, g1, g2, g3, g4⟩ := hp
  unfold laws_szRes.f
  refine Sz.bind (szS g0.1 g0.2 (by omega) (by omega)) (fun n0 a0 b0 s0 => ?_) (by simp only [show (-1 : Int) < 0 by omega, if_true]; exact Ev.now _)
  simp only [if_neg (show ¬ n0 < 0 by omega)]
  have e2 := wrap_id (x := n0 - (p.f2.size : Int)) (by rw [maxLen_eq] at g2; omega) (by omega)
  simp only [e2]
  refine Sz.sub (by omega) (fun c2 => ?_)
  obtain ⟨n2, hn2⟩ : ∃ m, m = n0 - (p.f2.size : Int) := ⟨_, rfl⟩
  simp only [← hn2]
  refine Sz.bind (szPropS g4.1 g4.2 (by omega) (by omega)) (fun n4 a4 b4 s4 => ?_) (by simp only [show (-1 : Int) < 0 by omega, if_true]; exact Ev.now _)
  simp only [if_neg (show ¬ n4 < 0 by omega)]
  exact .inr ⟨n4, by omega, by omega, Ev.now _, s0, trivial, by show p.f2.size ≤ 1048576; omega, wf_int g3, s4⟩
theorem toRes1 {p : S77} (hp : SmRes (toRes p)) : Ev (fun k => laws_toRes.f k p.f0 p.f1 p.f2 p.f3 p.f4) (p.f0, p.f1, p.f2, p.f3, p.f4.map toProp) := by
  obtain ⟨g0, g1, g2, g3, g4⟩ := hp
  unfold laws_toRes.f
  refine Ev.bind (toS (by have := g0.1; simp only [toRes] at this; omega)) ?_
  refine Ev.bind (toPropS (p := p.f4) (by simpa only [toRes] using g4)) ?_
  exact Ev.now _
theorem eqRes1 {p q : S59} (hp : SmRes p) : Ev (fun k => laws_eqRes.f k p.f0 p.f1 p.f2 p.f3 p.f4 q.f0 q.f1 q.f2 q.f3 q.f4) (decide (p = q)) := by
  obtain ⟨g0, g1, g2, g3, g4⟩ := hp
  unfold laws_eqRes.f
  refine Ev.bind (eqS (by have := g0.1; rw [maxLen_eq]; omega)) ?_
  by_cases e0 : p.f0 = q.f0
  rotate_left
  · rw [show decide (p = q) = false from decide_eq_false (fun h => e0 (by rw [h]))]
    simp only [e0, decide_false, Bool.false_eq_true, if_false]
    exact Ev.now _
  simp only [e0, decide_true, if_true]
  by_cases e1 : p.f1 = q.f1
  rotate_left
  · rw [show decide (p = q) = false from decide_eq_false (fun h => e1 (by rw [h]))]
    simp only [ba_eq, e1, bne_iff_ne, ne_eq, not_false_eq_true, not_true_eq_false, if_true, if_false]
    exact Ev.now _
  simp only [ba_eq, e1, bne_self_eq_false, Bool.false_eq_true, if_true, if_false]
  by_cases e2 : p.f2 = q.f2
  rotate_left
  · rw [show decide (p = q) = false from decide_eq_false (fun h => e2 (by rw [h]))]
    simp only [ba_eq, e2, bne_iff_ne, ne_eq, not_false_eq_true, not_true_eq_false, if_true, if_false]
    exact Ev.now _
  simp only [ba_eq, e2, bne_self_eq_false, Bool.false_eq_true, if_true, if_false]
  by_cases e3 : p.f3 = q.f3
  rotate_left
  · rw [show decide (p = q) = false from decide_eq_false (fun h => e3 (by rw [h]))]
    simp only [ba_eq, e3, bne_iff_ne, ne_eq, not_false_eq_true, not_true_eq_false, if_true, if_false]
    exact Ev.now _
  simp only [ba_eq, e3, bne_self_eq_false, Bool.false_eq_true, if_true, if_false]
  refine Ev.bind (eqPropS g4) ?_
  by_cases e4 : p.f4 = q.f4
  rotate_left
  · rw [show decide (p = q) = false from decide_eq_false (fun h => e4 (by rw [h]))]
    simp only [e4, decide_false, Bool.false_eq_true, if_false]
    exact Ev.now _
  simp only [e4, decide_true, if_true]
  rw [show decide (p = q) = true from decide_eq_true (by cases p; cases q; simp_all)]
  exact Ev.now _
def SmRess (l : List S59) : Prop := l.length ≤ 1048576 ∧ ∀ p ∈ l, SmRes p
theorem szResS {l : List S77} (hl : l.length ≤ maxLen) (hs : ∀ s ∈ l, GGRes s) {n : Int} (h0 : 0 ≤ n) (h1 : n ≤ 1048576) : Sz (fun k => laws_szResS.f k l n) n (SmRess (l.map toRes)) := by
  have hl' := hl
  rw [maxLen_eq] at hl'
  unfold laws_szResS.f
  simp only [wrap_id (x := n - (l.length : Int)) (by omega) (by omega)]
  refine Sz.sub (by omega) (fun hlt => ?_)
  have key : Sz (fun k => laws_szResS.l0 k l (n - l.length) 0) (n - l.length) (∀ p ∈ l, SmRes (toRes p)) := by
    refine sz_loop (l := l) (P := fun p => SmRes (toRes p)) (fun k n i => laws_szResS.l0 k l n i) ?_ ?_ l [] (n - l.length) rfl (by omega) (by omega)
    · intro n
      refine Ev.step (fun k => laws_szResS.l0.eq_2 ..) ?_
      simp only [Int.lt_irrefl, if_false]
      exact Ev.now _
    · intro pre a suf n h h0 h1
      rcases szRes (hs a (by rw [h]; simp)) h0 h1 with h2 | ⟨m, hm0, hm1, h2, h3⟩
      · left
        refine Ev.step (fun k => laws_szResS.l0.eq_2 ..) ?_
        simp only [if_pos (lt_at h), if_pos (nonneg_at _), rd_lawsRes h]
        refine Ev.bind h2 ?_
        simp only [show (-1 : Int) < 0 by omega, if_true]
        exact Ev.now _
      · refine .inr ⟨m, hm0, hm1, h3, fun r hr => ?_⟩
        refine Ev.step (fun k => laws_szResS.l0.eq_2 ..) ?_
        simp only [if_pos (lt_at h), if_pos (nonneg_at _), rd_lawsRes h]
        refine Ev.bind h2 ?_
        simp only [if_neg (show ¬ m < 0 by omega), next_at h hl]
        exact hr
  rcases key with h | ⟨m, hm0, hm1, h2, h3⟩
  · exact .inl h
  · refine .inr ⟨m, hm0, hm1, h2, by simp; omega, fun p hp => ?_⟩
    obtain ⟨q, hq, rfl⟩ := List.mem_map.1 hp
    exact h3 q hq
theorem toResS {p : List S77} (hp : SmRess (p.map toRes)) : Ev (fun k => laws_toResS.f k p) (p.map toRes) := by
  obtain ⟨hl0, hs⟩ := hp
  rw [List.length_map] at hl0
  have hl2 : p.length ≤ maxLen := by rw [maxLen_eq]; omega
  unfold laws_toResS.f
  simp only [if_pos (nonneg_at _), Int.toNat_natCast, if_pos (show p.length ≤ 3518437208883 by omega)]
  refine to_loop (l := p) (f := toRes) (fun k out i => laws_toResS.l0 k p out i) ?_ ?_ p [] _ (List.replicate p.length z59) rfl rfl (by simp)
  · intro out
    refine Ev.step (fun k => laws_toResS.l0.eq_2 ..) ?_
    simp only [Int.lt_irrefl, if_false]
    exact Ev.now _
  · intro pre a suf out h ho r hr
    refine Ev.step (fun k => laws_toResS.l0.eq_2 ..) ?_
    simp only [if_pos (lt_at h), if_pos (nonneg_at _), rd_lawsRes h]
    refine Ev.bind (toRes1 (hs _ (List.mem_map.2 ⟨a, by rw [h]; simp, rfl⟩))) ?_
    simp only [if_pos ho, next_at h hl2]
    exact hr
theorem eqResS {a b : List S59} (ha : SmRess a) : Ev (fun k => laws_eqResS.f k a b) (decide (a = b)) := by
  have hl : a.length ≤ maxLen := by have := ha.1; rw [maxLen_eq]; omega
  unfold laws_eqResS.f
  by_cases e : (a.length : Int) = (b.length : Int)
  · simp only [if_pos e]
    refine eq_loop (a := a) (b := b) (fun k i => laws_eqResS.l0 k a b i) ?_ ?_ a b [] [] rfl rfl rfl (by omega)
    · refine Ev.step (fun k => laws_eqResS.l0.eq_2 ..) ?_
      simp only [Int.lt_irrefl, if_false]
      exact Ev.now _
    · intro pre x su pre' y sv h h' hp
      have h3 := rd_implRes h'
      have h4 := lt_at h'
      rw [← hp] at h3 h4
      have h5 := eqRes1 (q := y) (ha.2 x (by rw [h]; simp))
      refine ⟨fun hne => ?_, fun heq r hr => ?_⟩
      · refine Ev.step (fun k => laws_eqResS.l0.eq_2 ..) ?_
        simp only [if_pos (lt_at h), if_pos (nonneg_at _), if_pos h4, rd_implRes h, h3]
        refine Ev.bind h5 ?_
        simp only [hne, decide_false, Bool.false_eq_true, if_false]
        exact Ev.now _
      · refine Ev.step (fun k => laws_eqResS.l0.eq_2 ..) ?_
        simp only [if_pos (lt_at h), if_pos (nonneg_at _), if_pos h4, rd_implRes h, h3]
        refine Ev.bind h5 ?_
        simp only [heq, decide_true, if_true, next_at h hl]
        rw [heq] at hr
        exact hr
  · simp only [if_neg e]
    rw [show decide (a = b) = false from decide_eq_false (fun h => e (by rw [h]))]
    exact Ev.now _
end Go.Proofs.Yteabkidfgdmmpaa.L
