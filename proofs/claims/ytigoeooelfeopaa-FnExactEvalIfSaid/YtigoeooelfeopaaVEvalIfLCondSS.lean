/- The laws' own functions over lists of lists of conditions: size, copy, equality. No condition. -/
import Derived.Test.YtigoeooelfeopaaVEvalIfQx0
import Derived.Test.YtigoeooelfeopaaVEvalIfQx2
import Derived.Test.YtigoeooelfeopaaVEvalIfQx3
import Derived.Test.YtigoeooelfeopaaVEvalIfQx5
import Derived.Test.YtigoeooelfeopaaVEvalIfLCond
set_option linter.unusedSimpArgs false
set_option linter.unusedVariables false
namespace Go.Proofs.Ytigoeooelfeopaa.L
open Go.RowKit Go.Proofs.YtigoeooelfeopaaW.PrintWords Go.Proofs.YtigoeooelfeopaaW.PrintLast Go.Proofs.Ytigoeooelfeopaa.Q
theorem rd_lawsCondL {l pre suf : List (List S72)} {a : List S72} (h : l = pre ++ a :: suf) : rd_L4 l (pre.length : Int) = a := getD_at _ h
theorem rd_implCondL {l pre suf : List (List S58)} {a : List S58} (h : l = pre ++ a :: suf) : rd_L6 l (pre.length : Int) = a := getD_at _ h
def SmCondss (l : List (List S58)) : Prop := l.length ≤ 1048576 ∧ ∀ s ∈ l, SmConds s
theorem szCondSS {l : List (List S72)} (hl : l.length ≤ maxLen) (hs : ∀ s ∈ l, s.length ≤ maxLen ∧ ∀ y ∈ s, GGCond y) {n : Int} (h0 : 0 ≤ n) (h1 : n ≤ 1048576) : Sz (fun k => laws_szCondSS.f k l n) n (SmCondss (l.map (List.map toCond))) := by
  have hl' := hl
  rw [maxLen_eq] at hl'
  unfold laws_szCondSS.f
  simp only [wrap_id (x := n - (l.length : Int)) (by omega) (by omega)]
  refine Sz.sub (by omega) (fun hlt => ?_)
  have key : Sz (fun k => laws_szCondSS.l0 k l (n - l.length) 0) (n - l.length) (∀ p ∈ l, SmConds (p.map toCond)) := by
    refine sz_loop (l := l) (P := fun a => SmConds (a.map toCond)) (fun k n i => laws_szCondSS.l0 k l n i) ?_ ?_ l [] (n - l.length) rfl (by omega) (by omega)
    · intro n
      refine Ev.step (fun k => laws_szCondSS.l0.eq_2 ..) ?_
      simp only [Int.lt_irrefl, if_false]
      exact Ev.now _
    · intro pre a suf n h h0 h1
      have ha := hs a (by rw [h]; simp)
      rcases szCondS ha.1 ha.2 h0 h1 with h2 | ⟨m, hm0, hm1, h2, h3⟩
      · left
        refine Ev.step (fun k => laws_szCondSS.l0.eq_2 ..) ?_
        simp only [if_pos (lt_at h), if_pos (nonneg_at _), rd_lawsCondL h]
        refine Ev.bind h2 ?_
        simp only [show (-1 : Int) < 0 by omega, if_true]
        exact Ev.now _
      · refine .inr ⟨m, hm0, hm1, h3, fun r hr => ?_⟩
        refine Ev.step (fun k => laws_szCondSS.l0.eq_2 ..) ?_
        simp only [if_pos (lt_at h), if_pos (nonneg_at _), rd_lawsCondL h, next_at h hl]
        refine Ev.bind h2 ?_
        simp only [if_neg (show ¬ m < 0 by omega)]
        exact hr
  rcases key with h | ⟨m, hm0, hm1, h2, h3⟩
  · exact .inl h
  · refine .inr ⟨m, hm0, hm1, h2, by simp; omega, fun p hp => ?_⟩
    obtain ⟨q, hq, rfl⟩ := List.mem_map.1 hp
    exact h3 q hq
theorem toCondSS {p : List (List S72)} (hp : SmCondss (p.map (List.map toCond))) : Ev (fun k => laws_toCondSS.f k p) (p.map (List.map toCond)) := by
  obtain ⟨hl0, hs⟩ := hp
  rw [List.length_map] at hl0
  have hl2 : p.length ≤ maxLen := by rw [maxLen_eq]; omega
  unfold laws_toCondSS.f
  simp only [if_pos (nonneg_at _), Int.toNat_natCast, if_pos (show p.length ≤ 11728124029610 by omega)]
  refine to_loop (l := p) (f := List.map toCond) (fun k out i => laws_toCondSS.l0 k p out i) ?_ ?_ p [] _ (List.replicate p.length []) rfl rfl (by simp)
  · intro out
    refine Ev.step (fun k => laws_toCondSS.l0.eq_2 ..) ?_
    simp only [Int.lt_irrefl, if_false]
    exact Ev.now _
  · intro pre a suf out h ho r hr
    refine Ev.step (fun k => laws_toCondSS.l0.eq_2 ..) ?_
    simp only [if_pos (lt_at h), if_pos (nonneg_at _), rd_lawsCondL h, next_at h hl2]
    refine Ev.bind (toCondS (hs _ (List.mem_map.2 ⟨a, by rw [h]; simp, rfl⟩))) ?_
    simp only [if_pos ho]
    exact hr
theorem eqCondSS {a b : List (List S58)} (ha : SmCondss a) : Ev (fun k => laws_eqCondSS.f k a b) (decide (a = b)) := by
  have hl : a.length ≤ maxLen := by have := ha.1; rw [maxLen_eq]; omega
  unfold laws_eqCondSS.f
  by_cases e : (a.length : Int) = (b.length : Int)
  · simp only [if_pos e]
    refine eq_loop (a := a) (b := b) (fun k i => laws_eqCondSS.l0 k a b i) ?_ ?_ a b [] [] rfl rfl rfl (by omega)
    · refine Ev.step (fun k => laws_eqCondSS.l0.eq_2 ..) ?_
      simp only [Int.lt_irrefl, if_false]
      exact Ev.now _
    · intro pre x su pre' y sv h h' hp
      have h3 := rd_implCondL h'
      have h4 := lt_at h'
      rw [← hp] at h3 h4
      have hx := ha.2 x (by rw [h]; simp)
      refine ⟨fun hne => ?_, fun heq r hr => ?_⟩
      · refine Ev.step (fun k => laws_eqCondSS.l0.eq_2 ..) ?_
        simp only [if_pos (lt_at h), if_pos (nonneg_at _), if_pos h4, rd_implCondL h, h3]
        refine Ev.bind (eqCondS hx) ?_
        simp only [hne, decide_false, Bool.false_eq_true, if_false]
        exact Ev.now _
      · refine Ev.step (fun k => laws_eqCondSS.l0.eq_2 ..) ?_
        simp only [if_pos (lt_at h), if_pos (nonneg_at _), if_pos h4, rd_implCondL h, h3]
        refine Ev.bind (eqCondS hx) ?_
        simp only [heq, decide_true, if_true, next_at h hl]
        rw [heq] at hr
        exact hr
  · simp only [if_neg e]
    rw [show decide (a = b) = false from decide_eq_false (fun h => e (by rw [h]))]
    exact Ev.now _
end Go.Proofs.Ytigoeooelfeopaa.L
