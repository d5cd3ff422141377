/- What is known of a thing set, all or none; as the program and the reference have it. No condition. -/
import Derived.Test.YtbgggcgjijljkaaVPatchG22
import Derived.Test.YtbgggcgjijljkaaVPatchG32
import Derived.Test.YtbgggcgjijljkaaVPatchG33
import Derived.Test.YtbgggcgjijljkaaVPatchG34
import Derived.Test.YtbgggcgjijljkaaVPatchG36
import Derived.Test.YtbgggcgjijljkaaVPatchG30
import Derived.Test.YtbgggcgjijljkaaVPatchG31
import Derived.Test.YtbgggcgjijljkaaVPatchG35
set_option linter.unusedSimpArgs false
set_option linter.unusedVariables false
namespace Go.Proofs.Ytbgggcgjijljkaa.L
open Go.RowKit Go.Proofs.YtbgggcgjijljkaaW.PrintWords Go.Proofs.YtbgggcgjijljkaaW.PrintLast Go.Proofs.Ytbgggcgjijljkaa.Q
def setS (s : S74) : Bool → List S72 → List S72
  | d, [] => if d = true then [] else [s.f1]
  | d, a :: l => (if d = true then [] else if lessProp a s.f1 = true then [] else [s.f1]) ++ (if a.f0 = s.f1.f0 ∧ a.f1 = s.f1.f1 then [] else [a]) ++ setS s (d || !lessProp a s.f1) l
theorem setS_length (s : S74) : ∀ (l : List S72) (d : Bool), (setS s d l).length ≤ l.length + (if d = true then 0 else 1)
  | [], d => by cases d <;> simp [setS]
  | a :: l, d => by
    have ih := setS_length s l
    unfold setS
    cases d
    · by_cases c : lessProp a s.f1 = true
      · have := ih false
        by_cases c2 : a.f0 = s.f1.f0 ∧ a.f1 = s.f1.f1 <;> simp [c, c2] at this ⊢ <;> omega
      · have := ih true
        by_cases c2 : a.f0 = s.f1.f0 ∧ a.f1 = s.f1.f1 <;> simp [c, c2] at this ⊢ <;> omega
    · have := ih true
      by_cases c2 : a.f0 = s.f1.f0 ∧ a.f1 = s.f1.f1 <;> simp [c2] at this ⊢ <;> omega
theorem setS_mem (s : S74) : ∀ (l : List S72) (d : Bool) (b : S72), b ∈ setS s d l → b = s.f1 ∨ b ∈ l
  | [], d, b, h => by cases d <;> simp [setS] at h; exact .inl h
  | a :: l, d, b, h => by
    unfold setS at h
    rcases List.mem_append.1 h with h | h
    · rcases List.mem_append.1 h with h | h
      · split at h
        · cases h
        · split at h
          · cases h
          · exact .inl (by simpa using h)
      · split at h
        · cases h
        · exact .inr (by simp at h; simp [h])
    · rcases setS_mem s l _ b h with h | h
      · exact .inl h
      · exact .inr (by simp [h])
theorem specOne {l : List S72} {s : S74} (hl0 : l.length ≤ 4194304) : Ev (fun k => spec_l12One.f k l s.f0 s.f1.f0 s.f1.f1 s.f1.f2) (setS s s.f0 l) := by
  have hl : l.length ≤ maxLen := by rw [maxLen_eq]; omega
  have key : ∀ (suf pre out : List S72) (d : Bool), l = pre ++ suf → out.length ≤ 2 * pre.length → Ev (fun k => spec_l12One.l0 k l out d pre.length s.f0 s.f1.f0 s.f1.f1 s.f1.f2) (out ++ setS s d suf) := by
    intro suf
    induction suf with
    | nil =>
      intro pre out d h ho
      have hp : pre.length = l.length := by rw [h]; simp
      refine Ev.step (fun k => spec_l12One.l0.eq_2 ..) ?_
      simp only [if_neg (end_at h), setS]
      by_cases c : d = true
      · simp only [if_pos c, List.append_nil]; exact Ev.now _
      · simp only [if_neg c, show out.length < 2932031007402 by omega, if_true]; exact Ev.now _
    | cons a suf ih =>
      intro pre out d h ho
      have hpl : l.length = pre.length + (suf.length + 1) := by rw [h]; simp
      have hj1 : ∀ b : Bool, Ev (fun k => spec_l12One.j1 k l out d pre.length b s.f0 s.f1.f0 s.f1.f1 s.f1.f2) (out ++ ((if b = true then [s.f1] else []) ++ ((if a.f0 = s.f1.f0 ∧ a.f1 = s.f1.f1 then [] else [a]) ++ setS s (d || b) suf))) := by
        intro b
        refine Ev.step (fun k => spec_l12One.j1.eq_2 ..) ?_
        by_cases c : b = true
        · subst c
          simp only [if_true, show out.length < 2932031007402 by omega, Option.bind_some, if_pos (nonneg_at _), if_pos (lt_at h), rd_implProp h, next_at h hl, ba_eq, Bool.or_true]
          by_cases c0 : a.f0 = s.f1.f0
          · by_cases c1 : a.f1 = s.f1.f1
            · simp only [if_pos c0, if_pos c1, if_pos (And.intro c0 c1)]
              exact ev_cast (ih (pre ++ [a]) (out ++ [s.f1]) true (snoc_at h) (by simp; omega)) (by simp)
            · simp only [if_pos c0, if_neg c1, if_neg (fun e : a.f0 = s.f1.f0 ∧ a.f1 = s.f1.f1 => c1 e.2), show ∀ x : S72, (out ++ [x]).length < 2932031007402 from fun x => (by simp; omega), if_true]
              exact ev_cast (ih (pre ++ [a]) (out ++ [s.f1] ++ [a]) true (snoc_at h) (by simp; omega)) (by simp)
          · simp only [if_neg c0, if_neg (fun e : a.f0 = s.f1.f0 ∧ a.f1 = s.f1.f1 => c0 e.1), show ∀ x : S72, (out ++ [x]).length < 2932031007402 from fun x => (by simp; omega), if_true]
            exact ev_cast (ih (pre ++ [a]) (out ++ [s.f1] ++ [a]) true (snoc_at h) (by simp; omega)) (by simp)
        · have c' : b = false := by simpa using c
          subst c'
          simp only [Bool.false_eq_true, if_false, if_pos (nonneg_at _), if_pos (lt_at h), rd_implProp h, next_at h hl, ba_eq, Bool.or_false, List.nil_append]
          by_cases c0 : a.f0 = s.f1.f0
          · by_cases c1 : a.f1 = s.f1.f1
            · simp only [if_pos c0, if_pos c1, if_pos (And.intro c0 c1), List.nil_append]
              exact ih (pre ++ [a]) out d (snoc_at h) (by simp; omega)
            · simp only [if_pos c0, if_neg c1, if_neg (fun e : a.f0 = s.f1.f0 ∧ a.f1 = s.f1.f1 => c1 e.2), show out.length < 2932031007402 by omega, if_true]
              exact ev_cast (ih (pre ++ [a]) (out ++ [a]) d (snoc_at h) (by simp; omega)) (by simp)
          · simp only [if_neg c0, if_neg (fun e : a.f0 = s.f1.f0 ∧ a.f1 = s.f1.f1 => c0 e.1), show out.length < 2932031007402 by omega, if_true]
            exact ev_cast (ih (pre ++ [a]) (out ++ [a]) d (snoc_at h) (by simp; omega)) (by simp)
      refine Ev.step (fun k => spec_l12One.l0.eq_2 ..) ?_
      simp only [if_pos (lt_at h), if_pos (nonneg_at _), rd_implProp h, setS, specLessProp, Option.bind_some]
      by_cases c : d = true
      · subst c
        simp only [if_true]
        exact ev_cast (hj1 false) (by simp)
      · have c' : d = false := by simpa using c
        subst c'
        simp only [Bool.false_eq_true, if_false]
        refine ev_cast (hj1 (!lessProp a s.f1)) ?_
        by_cases c2 : lessProp a s.f1 = true
        · simp [c2]
        · simp [c2]
  exact key l [] [] s.f0 rfl (by simp)
theorem implOne {l : List S72} {s : S74} (hl0 : l.length ≤ 4194304) : Ev (fun k => impl_setProp.f k l s.f0 s.f1.f0 s.f1.f1 s.f1.f2) (setS s s.f0 l) := by
  have hl : l.length ≤ maxLen := by rw [maxLen_eq]; omega
  have key : ∀ (suf pre out : List S72) (d : Bool), l = pre ++ suf → out.length ≤ 2 * pre.length → Ev (fun k => impl_setProp.l0 k out d l (l.length : Int) pre.length s.f0 s.f1.f0 s.f1.f1 s.f1.f2) (out ++ setS s d suf) := by
    intro suf
    induction suf with
    | nil =>
      intro pre out d h ho
      have hp : pre.length = l.length := by rw [h]; simp
      refine Ev.step (fun k => impl_setProp.l0.eq_2 ..) ?_
      simp only [if_neg (end_at h), setS]
      by_cases c : d = true
      · simp only [if_pos c, List.append_nil]; exact Ev.now _
      · simp only [if_neg c, show out.length < 2932031007402 by omega, if_true]; exact Ev.now _
    | cons a suf ih =>
      intro pre out d h ho
      have hpl : l.length = pre.length + (suf.length + 1) := by rw [h]; simp
      have hj1 : ∀ b : Bool, Ev (fun k => impl_setProp.j1 k out d l (l.length : Int) pre.length b s.f0 s.f1.f0 s.f1.f1 s.f1.f2 a.f0 a.f1 a.f2) (out ++ ((if b = true then [s.f1] else []) ++ ((if a.f0 = s.f1.f0 ∧ a.f1 = s.f1.f1 then [] else [a]) ++ setS s (d || b) suf))) := by
        intro b
        refine Ev.step (fun k => impl_setProp.j1.eq_2 ..) ?_
        by_cases c : b = true
        · subst c
          simp only [if_true, show out.length < 2932031007402 by omega, Option.bind_some, next_at h hl, ba_eq, Bool.or_true]
          by_cases c0 : a.f0 = s.f1.f0
          · by_cases c1 : a.f1 = s.f1.f1
            · simp only [if_pos c0, if_pos c1, if_pos (And.intro c0 c1)]
              exact ev_cast (ih (pre ++ [a]) (out ++ [s.f1]) true (snoc_at h) (by simp; omega)) (by simp)
            · simp only [if_pos c0, if_neg c1, if_neg (fun e : a.f0 = s.f1.f0 ∧ a.f1 = s.f1.f1 => c1 e.2), show ∀ x : S72, (out ++ [x]).length < 2932031007402 from fun x => (by simp; omega), if_true]
              exact ev_cast (ih (pre ++ [a]) (out ++ [s.f1] ++ [a]) true (snoc_at h) (by simp; omega)) (by simp)
          · simp only [if_neg c0, if_neg (fun e : a.f0 = s.f1.f0 ∧ a.f1 = s.f1.f1 => c0 e.1), show ∀ x : S72, (out ++ [x]).length < 2932031007402 from fun x => (by simp; omega), if_true]
            exact ev_cast (ih (pre ++ [a]) (out ++ [s.f1] ++ [a]) true (snoc_at h) (by simp; omega)) (by simp)
        · have c' : b = false := by simpa using c
          subst c'
          simp only [Bool.false_eq_true, if_false, next_at h hl, ba_eq, Bool.or_false, List.nil_append]
          by_cases c0 : a.f0 = s.f1.f0
          · by_cases c1 : a.f1 = s.f1.f1
            · simp only [if_pos c0, if_pos c1, if_pos (And.intro c0 c1), List.nil_append]
              exact ih (pre ++ [a]) out d (snoc_at h) (by simp; omega)
            · simp only [if_pos c0, if_neg c1, if_neg (fun e : a.f0 = s.f1.f0 ∧ a.f1 = s.f1.f1 => c1 e.2), show out.length < 2932031007402 by omega, if_true]
              exact ev_cast (ih (pre ++ [a]) (out ++ [a]) d (snoc_at h) (by simp; omega)) (by simp)
          · simp only [if_neg c0, if_neg (fun e : a.f0 = s.f1.f0 ∧ a.f1 = s.f1.f1 => c0 e.1), show out.length < 2932031007402 by omega, if_true]
            exact ev_cast (ih (pre ++ [a]) (out ++ [a]) d (snoc_at h) (by simp; omega)) (by simp)
      refine Ev.step (fun k => impl_setProp.l0.eq_2 ..) ?_
      simp only [if_pos (lt_at h), if_pos (nonneg_at _), rd_implProp h, setS, implLessProp, Option.bind_some]
      by_cases c : d = true
      · subst c
        simp only [if_true]
        exact ev_cast (hj1 false) (by simp)
      · have c' : d = false := by simpa using c
        subst c'
        simp only [Bool.false_eq_true, if_false]
        refine ev_cast (hj1 (!lessProp a s.f1)) ?_
        by_cases c2 : lessProp a s.f1 = true
        · simp [c2]
        · simp [c2]
  exact key l [] [] s.f0 rfl (by simp)
def setAll (l0 : List S72) : List S72 → List S74 → List S72 × Bool
  | out, [] => if propsOk out = true then (out, true) else (l0, false)
  | out, s :: sets => if propOk s.f1 = true then setAll l0 (setS s s.f0 out) sets else (l0, false)
theorem setAll_sm {l0 : List S72} (h0 : SmProps l0) : ∀ (sets : List S74) (out : List S72), (∀ s ∈ sets, SmSet s) → (∀ p ∈ out, SmProp p) → SmProps (setAll l0 out sets).1
  | [], out, _, ho => by
    unfold setAll
    by_cases c : propsOk out = true
    · simp only [if_pos c]
      refine ⟨?_, ho⟩
      unfold propsOk at c
      have := of_decide_eq_true (Bool.and_eq_true_iff.1 c).2
      omega
    · simp only [if_neg c]; exact h0
  | s :: sets, out, hs, ho => by
    unfold setAll
    by_cases c : propOk s.f1 = true
    · simp only [if_pos c]
      refine setAll_sm h0 sets _ (fun x hx => hs x (by simp [hx])) (fun p hp => ?_)
      rcases setS_mem s out _ p hp with rfl | hp
      · exact (hs s (by simp)).2
      · exact ho p hp
    · simp only [if_neg c]; exact h0
theorem specSetAll {l : List S72} {sets : List S74} (hl : SmProps l) (hs : SmSets sets) : Ev (fun k => spec_SetProps.f k l sets) (setAll l l sets) := by
  have hl0 := hl.1
  have hs0 := hs.1
  have hsl : sets.length ≤ maxLen := by rw [maxLen_eq]; omega
  unfold spec_SetProps.f
  simp only [Option.bind_some, List.length_nil, Nat.zero_add, List.nil_append, show l.length < 2932031007402 by omega, if_true]
  have key : ∀ (suf pre : List S74) (out : List S72), sets = pre ++ suf → out.length ≤ l.length + pre.length → (∀ p ∈ out, SmProp p) → Ev (fun k => spec_SetProps.l0 k l sets out pre.length) (setAll l out suf) := by
    intro suf
    induction suf with
    | nil =>
      intro pre out h ho hm
      have hp : pre.length = sets.length := by rw [h]; simp
      refine Ev.step (fun k => spec_SetProps.l0.eq_2 ..) ?_
      simp only [if_neg (end_at h), setAll]
      refine Ev.bind (specPropsOkB (by rw [maxLen_eq]; omega) hm) ?_
      by_cases c : propsOk out = true
      · simp only [if_pos c]; exact Ev.now _
      · simp only [if_neg c, Option.bind_some, List.length_nil, Nat.zero_add, List.nil_append, show l.length < 2932031007402 by omega, if_true]; exact Ev.now _
    | cons s suf ih =>
      intro pre out h ho hm
      have hpl : sets.length = pre.length + (suf.length + 1) := by rw [h]; simp
      have hss := hs.2 s (by rw [h]; simp)
      refine Ev.step (fun k => spec_SetProps.l0.eq_2 ..) ?_
      simp only [if_pos (lt_at h), if_pos (nonneg_at _), rd_implSet h, setAll, next_at h hsl]
      refine Ev.bind (specPropOk hss.2) ?_
      by_cases c : propOk s.f1 = true
      · simp only [if_pos c]
        refine Ev.bind (specOne (by omega)) ?_
        refine ih (pre ++ [s]) _ (snoc_at h) ?_ (fun p hp => ?_)
        · have h2 := setS_length s out s.f0
          have h3 : (if s.f0 = true then 0 else 1) ≤ 1 := by split <;> omega
          simp; omega
        · rcases setS_mem s out _ p hp with rfl | hp
          · exact hss.2
          · exact hm p hp
      · simp only [if_neg c, Option.bind_some, List.length_nil, Nat.zero_add, List.nil_append, show l.length < 2932031007402 by omega, if_true]; exact Ev.now _
  exact key sets [] l rfl (by simp) hl.2
theorem implSetAll {l : List S72} {sets : List S74} (hl : SmProps l) (hs : SmSets sets) : Ev (fun k => impl_SetProps.f k l sets) (setAll l l sets) := by
  have hl0 := hl.1
  have hs0 := hs.1
  have hsl : sets.length ≤ maxLen := by rw [maxLen_eq]; omega
  unfold impl_SetProps.f
  simp only [List.length_nil, Nat.zero_add, List.nil_append, show l.length < 2932031007402 by omega, if_true]
  have key : ∀ (suf pre : List S74) (out : List S72), sets = pre ++ suf → out.length ≤ l.length + pre.length → (∀ p ∈ out, SmProp p) → Ev (fun k => impl_SetProps.l0 k l out sets (sets.length : Int) pre.length) (setAll l out suf) := by
    intro suf
    induction suf with
    | nil =>
      intro pre out h ho hm
      have hp : pre.length = sets.length := by rw [h]; simp
      refine Ev.step (fun k => impl_SetProps.l0.eq_2 ..) ?_
      simp only [if_neg (end_at h), setAll]
      refine Ev.bind (implPropsOkB (by rw [maxLen_eq]; omega) hm) ?_
      by_cases c : propsOk out = true
      · simp only [if_pos c]; exact Ev.now _
      · simp only [if_neg c]; exact Ev.now _
    | cons s suf ih =>
      intro pre out h ho hm
      have hpl : sets.length = pre.length + (suf.length + 1) := by rw [h]; simp
      have hss := hs.2 s (by rw [h]; simp)
      refine Ev.step (fun k => impl_SetProps.l0.eq_2 ..) ?_
      simp only [if_pos (lt_at h), if_pos (nonneg_at _), rd_implSet h, setAll, next_at h hsl]
      refine Ev.bind (implPropOk hss.2) ?_
      by_cases c : propOk s.f1 = true
      · simp only [if_pos c]
        refine Ev.bind (implOne (by omega)) ?_
        refine ih (pre ++ [s]) _ (snoc_at h) ?_ (fun p hp => ?_)
        · have h2 := setS_length s out s.f0
          have h3 : (if s.f0 = true then 0 else 1) ≤ 1 := by split <;> omega
          simp; omega
        · rcases setS_mem s out _ p hp with rfl | hp
          · exact hss.2
          · exact hm p hp
      · simp only [if_neg c]; exact Ev.now _
  exact key sets [] l rfl (by simp) hl.2
theorem find_split {t : List S57} {p : List ByteArray} (h : ¬ findR t p < 0) : ∃ pre r suf, t = pre ++ r :: suf ∧ findR t p = (pre.length : Int) := by
  rcases findFrom_cases p t 0 with ⟨h1, _⟩ | ⟨j, r, h1, h2, _⟩
  · unfold findR at h; rw [h1] at h; exact absurd (by decide) h
  · refine ⟨t.take j, r, t.drop (j + 1), ?_, ?_⟩
    · have hj := (List.getElem?_eq_some_iff.1 h2).1
      have he : t[j] = r := (List.getElem?_eq_some_iff.1 h2).2
      rw [← he, List.getElem_cons_drop, List.take_append_drop]
    · have hj := (List.getElem?_eq_some_iff.1 h2).1
      unfold findR; rw [h1, List.length_take]; omega
def patchR (t : List S57) (p : List ByteArray) (sets : List S74) : List S57 × Int :=
  if treeOk t = true then (if p = [] then (t, 403) else if findR t p < 0 then (t, 404) else
    (if (setAll (t.getD (findR t p).toNat z57).f4 (t.getD (findR t p).toNat z57).f4 sets).2 = true then
      (t.set (findR t p).toNat { (t.getD (findR t p).toNat z57) with f4 := (setAll (t.getD (findR t p).toNat z57).f4 (t.getD (findR t p).toNat z57).f4 sets).1 }, 207) else (t, 409))) else (t, 500)
theorem patch_sm {p : List ByteArray} {t : List S57} {sets : List S74} (ht : SmRess t) (hs : SmSets sets) : SmRess (patchR t p sets).1 := by
  unfold patchR
  repeat' split
  all_goals first | exact ht | skip
  rename_i _ _ hn _
  obtain ⟨pre, r, suf, e, f⟩ := find_split hn
  have hg : t.getD (findR t p).toNat z57 = r := by rw [f]; exact getD_at _ e
  rw [hg, f, set_at e]
  have hr := ht.2 r (by rw [e]; simp)
  refine ⟨by have := ht.1; rw [e] at this; simpa using this, fun x hx => ?_⟩
  simp only [List.append_assoc, List.cons_append, List.nil_append, List.mem_append, List.mem_cons] at hx
  rcases hx with hx | rfl | hx
  · exact ht.2 x (by rw [e]; simp [hx])
  · exact ⟨hr.1, hr.2.1, hr.2.2.1, hr.2.2.2.1, setAll_sm hr.2.2.2.2 sets _ hs.2 hr.2.2.2.2.2⟩
  · exact ht.2 x (by rw [e]; simp [hx])
theorem specPatch {t : List S57} {p : List ByteArray} {sets : List S74} (ht : SmRess t) (hs : SmSets sets) : Ev (fun k => spec_Patch.f k t p sets) (patchR t p sets) := by
  unfold spec_Patch.f patchR
  refine Ev.bind (specCopyAll ht) ?_
  refine Ev.bind (specFind ht) ?_
  refine Ev.bind (specTreeOk ht) ?_
  by_cases c0 : treeOk t = true
  · simp only [if_pos c0, nil_len]
    by_cases c1 : p = []
    · simp only [if_pos c1]; exact Ev.now _
    · simp only [if_neg c1]
      by_cases c2 : findR t p < 0
      · simp only [if_pos c2]; exact Ev.now _
      · obtain ⟨pre, r, suf, e, f⟩ := find_split c2
        have hg : t.getD (findR t p).toNat z57 = r := by rw [f]; exact getD_at _ e
        have hr := ht.2 r (by rw [e]; simp)
        simp only [if_neg c2, hg]
        rw [f]
        simp only [if_pos (nonneg_at _), if_pos (lt_at e), rd_implRes e]
        refine Ev.bind (specSetAll hr.2.2.2.2 hs) ?_
        by_cases c3 : (setAll r.f4 r.f4 sets).2 = true
        · simp only [if_pos c3]; exact Ev.now _
        · simp only [if_neg c3]; exact Ev.now _
  · simp only [if_neg c0]; exact Ev.now _
theorem implPatch {t : List S57} {p : List ByteArray} {sets : List S74} (ht : SmRess t) (hs : SmSets sets) : Ev (fun k => impl_Patch.f k t p sets) (patchR t p sets) := by
  unfold impl_Patch.f patchR
  refine Ev.bind (implCopyTree ht) ?_
  refine Ev.bind (implFind ht) ?_
  refine Ev.bind (implTreeOk ht) ?_
  by_cases c0 : treeOk t = true
  · simp only [if_pos c0, nil_len]
    by_cases c1 : p = []
    · simp only [if_pos c1]; exact Ev.now _
    · simp only [if_neg c1]
      by_cases c2 : findR t p < 0
      · simp only [if_pos c2]; exact Ev.now _
      · obtain ⟨pre, r, suf, e, f⟩ := find_split c2
        have hg : t.getD (findR t p).toNat z57 = r := by rw [f]; exact getD_at _ e
        have hr := ht.2 r (by rw [e]; simp)
        simp only [if_neg c2, hg]
        rw [f]
        simp only [if_pos (nonneg_at _), if_pos (lt_at e), rd_implRes e]
        refine Ev.bind (implSetAll hr.2.2.2.2 hs) ?_
        by_cases c3 : (setAll r.f4 r.f4 sets).2 = true
        · simp only [if_pos c3]; exact Ev.now _
        · simp only [if_neg c3]; exact Ev.now _
  · simp only [if_neg c0]; exact Ev.now _
end Go.Proofs.Ytbgggcgjijljkaa.L

/- The laws' marks on lists of texts: what they write, and that it is found again. No condition. -/
set_option linter.unusedSimpArgs false
set_option linter.unusedVariables false
namespace Go.Proofs.Ytbgggcgjijljkaa.L
open Go.RowKit Go.Proofs.YtbgggcgjijljkaaW.PrintWords Go.Proofs.YtbgggcgjijljkaaW.PrintLast Go.Proofs.Ytbgggcgjijljkaa.Q
theorem strOfNums_size (n : Int) : (strOfNums [n]).size = 1 := rfl
theorem mark_loop : ∀ (d : Nat) (k : Nat) (i : Int) (s : ByteArray), 0 ≤ i → i < 10 ^ d → i < 9223372036854775808 → d < k → s.size + d + 1 ≤ 9223372036854775807 → ∃ t, laws_markText.l0 k i s = some t := by
  intro d
  induction d with
  | zero =>
    intro k i s h0 h1 hb hk hs
    obtain ⟨k, rfl⟩ : ∃ m, k = m + 1 := ⟨k - 1, by omega⟩
    simp only [laws_markText.l0]
    rw [if_neg (by simp at h1; omega), if_pos (by omega)]
    exact ⟨_, rfl⟩
  | succ d ih =>
    intro k i s h0 h1 hb hk hs
    obtain ⟨k, rfl⟩ : ∃ m, k = m + 1 := ⟨k - 1, by omega⟩
    simp only [laws_markText.l0, Option.bind_some]
    by_cases hi : i > 0
    · rw [if_pos hi, if_pos (by rw [strOfNums_size]; omega)]
      have hd : Int.tdiv i 10 = i / 10 := Int.tdiv_eq_ediv_of_nonneg h0
      have hq : 0 ≤ i / 10 ∧ i / 10 ≤ i := ⟨by omega, by omega⟩
      rw [hd, wrap_id (by omega) (by omega)]
      refine ih k _ _ hq.1 ?_ (by omega) (by omega) ?_
      · rw [Int.pow_succ] at h1; omega
      · rw [ByteArray.size_append, strOfNums_size]; omega
    · rw [if_neg hi, if_pos (by omega)]
      exact ⟨_, rfl⟩
theorem mark_some {i : Int} (h0 : 0 ≤ i) (h1 : i < 1152921504606846976) : ∃ t, ∀ k, 32 ≤ k → laws_markText.f k i = some t := by
  have h : ∃ t, laws_markText.f 32 i = some t := by
    unfold laws_markText.f
    by_cases e : i ≤ 0
    · rw [if_pos e]; exact ⟨_, rfl⟩
    · rw [if_neg e]
      exact mark_loop 19 32 i _ h0 (by omega) (by omega) (by omega) (by show 0 + 19 + 1 ≤ _; omega)
  obtain ⟨t, ht⟩ := h
  exact ⟨t, fun k hk => at_rounds (fun k => laws_markText.mono i k) hk ht⟩
noncomputable def mt (i : Int) : ByteArray := by
  classical
  exact if h : 0 ≤ i ∧ i < 1152921504606846976 then Classical.choose (mark_some h.1 h.2) else ⟨#[]⟩
theorem mt_spec {i : Int} (h0 : 0 ≤ i) (h1 : i < 1152921504606846976) {k : Nat} (hk : 32 ≤ k) : laws_markText.f k i = some (mt i) := by
  unfold mt
  rw [dif_pos ⟨h0, h1⟩]
  exact Classical.choose_spec (mark_some h0 h1) k hk
theorem mt_ev {i : Int} (h0 : 0 ≤ i) (h1 : i < 1152921504606846976) : Ev (fun k => laws_markText.f k i) (mt i) := ⟨32, fun _ hk => mt_spec h0 h1 hk⟩
noncomputable def marks : Nat → Int → List ByteArray
  | 0, _ => []
  | n + 1, i => mt i :: marks n (i + 1)
theorem marks_length (n : Nat) (i : Int) : (marks n i).length = n := by
  induction n generalizing i with
  | zero => rfl
  | succ n ih => simp [marks, ih]
theorem markS {l : List ByteArray} (hl : l.length ≤ 1048576) {a : Int} (h0 : 0 ≤ a) (h1 : a ≤ 70368744177664) : Ev (fun k => laws_markStringS.f k l a) (a + l.length, marks l.length a) := by
  have key : ∀ (suf pre : List ByteArray) (x : List ByteArray) (i : Int), x = pre ++ suf → x.length ≤ 1048576 → 0 ≤ i → i + suf.length ≤ 70368745226240 → Ev (fun k => laws_markStringS.l0 k x i pre.length) (i + suf.length, pre ++ marks suf.length i) := by
    intro suf
    induction suf with
    | nil =>
      intro pre x i h hx h0 h1
      refine Ev.step (fun k => laws_markStringS.l0.eq_2 ..) ?_
      simp only [if_neg (end_at h)]
      rw [List.append_nil] at h
      rw [h]
      simp only [List.length_nil, Int.natCast_zero, Int.add_zero, marks, List.append_nil]
      exact Ev.now _
    | cons b suf ih =>
      intro pre x i h hx h0 h1
      rw [List.length_cons] at h1
      refine Ev.step (fun k => laws_markStringS.l0.eq_2 ..) ?_
      simp only [if_pos (lt_at h)]
      refine Ev.bind (mt_ev h0 (by omega)) ?_
      simp only [if_pos (nonneg_at _), set_at h, next_at h (show x.length ≤ maxLen by rw [maxLen_eq]; omega), wrap_id (x := i + 1) (by omega) (by omega)]
      have := ih (pre ++ [mt i]) (pre ++ [mt i] ++ suf) (i + 1) rfl (by rw [h] at hx; simpa using hx) (by omega) (by omega)
      rw [show (pre ++ [b]).length = (pre ++ [mt i]).length by simp]
      refine ev_cast this ?_
      simp only [List.length_cons, marks, Prod.mk.injEq]
      exact ⟨by omega, by simp⟩
  have := key l [] l a rfl hl h0 (by omega)
  simpa [laws_markStringS.f] using this
theorem heldS {n : Nat} (hn : n ≤ 1048576) {a : Int} (h0 : 0 ≤ a) (h1 : a ≤ 70368744177664) : Ev (fun k => laws_heldStringS.f k (marks n a) a) (a + n) := by
  have key : ∀ (m : Nat) (pre x : List ByteArray) (i : Int), x = pre ++ marks m i → x.length ≤ 1048576 → 0 ≤ i → i + m ≤ 70368745226240 → Ev (fun k => laws_heldStringS.l0 k x i pre.length) (i + m) := by
    intro m
    induction m with
    | zero =>
      intro pre x i h hx h0 h1
      refine Ev.step (fun k => laws_heldStringS.l0.eq_2 ..) ?_
      simp only [if_neg (end_at h)]
      exact ev_cast (Ev.now _) (by simp)
    | succ m ih =>
      intro pre x i h hx h0 h1
      simp only [marks] at h
      refine Ev.step (fun k => laws_heldStringS.l0.eq_2 ..) ?_
      simp only [if_pos (lt_at h), if_pos (nonneg_at _)]
      refine Ev.bind (mt_ev h0 (by omega)) ?_
      simp only [rd_at _ h, if_true, next_at h (show x.length ≤ maxLen by rw [maxLen_eq]; omega), wrap_id (x := i + 1) (by omega) (by omega)]
      refine ev_cast (ih (pre ++ [mt i]) x (i + 1) (snoc_at h) hx (by omega) (by omega)) ?_
      omega
  exact key n [] _ a rfl (by rw [marks_length]; exact hn) h0 (by omega)
end Go.Proofs.Ytbgggcgjijljkaa.L

/- Marks that are found again: a loop that marks, a loop that looks. No condition. -/
set_option linter.unusedSimpArgs false
set_option linter.unusedVariables false
namespace Go.Proofs.Ytbgggcgjijljkaa.L
open Go.RowKit Go.Proofs.YtbgggcgjijljkaaW.PrintWords Go.Proofs.YtbgggcgjijljkaaW.PrintLast Go.Proofs.Ytbgggcgjijljkaa.Q
def MH {α : Type} (mk : Nat → List α → Int → Option (Int × List α)) (hd : Nat → List α → Int → Option Int) (l : List α) (i C : Int) : Prop :=
  ∃ n l', l'.length = l.length ∧ i ≤ n ∧ n ≤ i + C ∧ Ev (fun k => mk k l i) (n, l') ∧ Ev (fun k => hd k l' i) n
theorem mh_loop {α : Type} (mk : Nat → List α → Int → Int → Option (Int × List α)) (hd : Nat → List α → Int → Int → Option Int) (P : α → Prop) (C : Int) (hC : 0 ≤ C)
    (me : ∀ (x : List α) i, Ev (fun k => mk k x i x.length) (i, x)) (he : ∀ (y : List α) i, Ev (fun k => hd k y i y.length) i)
    (st : ∀ a i, P a → 0 ≤ i → i + C ≤ 70368744177664 → ∃ n a', i ≤ n ∧ n ≤ i + C ∧
      (∀ x pre suf, x = pre ++ a :: suf → x.length ≤ 1048576 → ∀ r, Ev (fun k => mk k (pre ++ a' :: suf) n ((pre ++ [a']).length : Int)) r → Ev (fun k => mk k x i (pre.length : Int)) r) ∧
      (∀ y pre suf, y = pre ++ a' :: suf → y.length ≤ 1048576 → ∀ r, Ev (fun k => hd k y n ((pre ++ [a']).length : Int)) r → Ev (fun k => hd k y i (pre.length : Int)) r)) :
    ∀ (suf : List α) (i : Int), (∀ a ∈ suf, P a) → 0 ≤ i → i + C * suf.length ≤ 70368744177664 → ∃ n suf', suf'.length = suf.length ∧ i ≤ n ∧ n ≤ i + C * suf.length ∧
      (∀ pre : List α, (pre ++ suf).length ≤ 1048576 → Ev (fun k => mk k (pre ++ suf) i pre.length) (n, pre ++ suf')) ∧ (∀ pre : List α, (pre ++ suf').length ≤ 1048576 → Ev (fun k => hd k (pre ++ suf') i pre.length) n) := by
  intro suf
  induction suf with
  | nil =>
    intro i _ h0 h1
    refine ⟨i, [], rfl, Int.le_refl _, by simp, fun pre _ => ?_, fun pre _ => ?_⟩
    · have := me pre i; simpa using this
    · have := he pre i; simpa using this
  | cons a suf ih =>
    intro i hP h0 h1
    have hm : C * ((a :: suf).length : Int) = C * suf.length + C := by rw [List.length_cons, Int.natCast_add, Int.mul_add]; simp
    have hp : 0 ≤ C * (suf.length : Int) := Int.mul_nonneg hC (Int.natCast_nonneg _)
    rw [hm] at h1 ⊢
    obtain ⟨n, a', hn0, hn1, hmk, hhd⟩ := st a i (hP a (by simp)) h0 (by omega)
    obtain ⟨n2, suf', hl, hn2, hn3, hmk2, hhd2⟩ := ih n (fun x hx => hP x (by simp [hx])) (by omega) (by omega)
    refine ⟨n2, a' :: suf', by simp [hl], by omega, by omega, fun pre hpre => ?_, fun pre hpre => ?_⟩
    · refine hmk _ pre suf rfl hpre _ ?_
      have := hmk2 (pre ++ [a']) (by simp at hpre ⊢; omega)
      simpa using this
    · refine hhd _ pre suf' rfl hpre _ ?_
      have := hhd2 (pre ++ [a']) (by simp at hpre ⊢; omega)
      simpa using this
theorem mhS {l : List ByteArray} (hl : l.length ≤ 1048576) {i : Int} (h0 : 0 ≤ i) (h1 : i + 1048576 ≤ 70368744177664) : MH laws_markStringS.f laws_heldStringS.f l i 1048576 := by
  refine ⟨i + l.length, marks l.length i, marks_length _ _, by omega, by omega, ?_, ?_⟩
  · exact markS hl h0 (by omega)
  · exact heldS hl h0 (by omega)
end Go.Proofs.Ytbgggcgjijljkaa.L

/- Marks on properties and shelves, found again. No condition. -/
set_option linter.unusedSimpArgs false
set_option linter.unusedVariables false
namespace Go.Proofs.Ytbgggcgjijljkaa.L
open Go.RowKit Go.Proofs.YtbgggcgjijljkaaW.PrintWords Go.Proofs.YtbgggcgjijljkaaW.PrintLast Go.Proofs.Ytbgggcgjijljkaa.Q
theorem mhProp {l : List S72} (hl : l.length ≤ 1048576) {i : Int} (h0 : 0 ≤ i) (h1 : i + 3145728 ≤ 70368744177664) : MH laws_markPropS.f laws_heldPropS.f l i 3145728 := by
  obtain ⟨n, l', e0, e1, e2, e3, e4⟩ := mh_loop (fun k x i j => laws_markPropS.l0 k x i j) (fun k x i j => laws_heldPropS.l0 k x i j) (fun _ => True) 3 (by omega)
    (fun x i => by
      refine Ev.step (fun k => laws_markPropS.l0.eq_2 ..) ?_
      simp only [Int.lt_irrefl, if_false]; exact Ev.now _)
    (fun x i => by
      refine Ev.step (fun k => laws_heldPropS.l0.eq_2 ..) ?_
      simp only [Int.lt_irrefl, if_false]; exact Ev.now _)
    (fun a i _ h0 h1 => by
      have w1 : wrap64 (i + 1) = i + 1 := wrap_id (by omega) (by omega)
      have w2 : wrap64 (i + 1 + 1) = i + 1 + 1 := wrap_id (by omega) (by omega)
      have w3 : wrap64 (i + 1 + 1 + 1) = i + 1 + 1 + 1 := wrap_id (by omega) (by omega)
      refine ⟨i + 1 + 1 + 1, ⟨mt i, mt (i + 1), mt (i + 1 + 1)⟩, by omega, by omega, fun x pre suf h hx r hr => ?_, fun y pre suf h hy r hr => ?_⟩
      · have hx2 : x.length ≤ maxLen := by rw [maxLen_eq]; omega
        refine Ev.step (fun k => laws_markPropS.l0.eq_2 ..) ?_
        simp only [if_pos (lt_at h)]
        refine Ev.bind (mt_ev h0 (by omega)) ?_
        simp only [if_pos (nonneg_at _), Option.bind_some, set_at h, rd_implProp h, w1]
        refine Ev.bind (mt_ev (by omega) (by omega)) ?_
        have h2 : pre ++ [⟨mt i, a.f1, a.f2⟩] ++ suf = pre ++ (⟨mt i, a.f1, a.f2⟩ : S72) :: suf := by simp
        simp only [Option.bind_some, set_at h2, rd_implProp h2, w2]
        refine Ev.bind (mt_ev (by omega) (by omega)) ?_
        have h3 : pre ++ [⟨mt i, mt (i + 1), a.f2⟩] ++ suf = pre ++ (⟨mt i, mt (i + 1), a.f2⟩ : S72) :: suf := by simp
        simp only [set_at h3, rd_implProp h3, w3, next_at h hx2]
        simpa using hr
      · have hy2 : y.length ≤ maxLen := by rw [maxLen_eq]; omega
        refine Ev.step (fun k => laws_heldPropS.l0.eq_2 ..) ?_
        simp only [if_pos (lt_at h), if_pos (nonneg_at _), rd_implProp h, w1, w2, w3]
        refine Ev.bind (mt_ev h0 (by omega)) ?_
        simp only [if_true]
        refine Ev.bind (mt_ev (by omega) (by omega)) ?_
        simp only [if_true]
        refine Ev.bind (mt_ev (by omega) (by omega)) ?_
        simp only [if_true, next_at h hy2]
        simpa using hr) l i (fun _ _ => trivial) h0 (by omega)
  refine ⟨n, l', e0, e1, by omega, ?_, ?_⟩
  · exact e3 [] (by simpa using hl)
  · exact e4 [] (by simp; omega)
theorem mhRes {l : List S57} (hl : SmRess l) {i : Int} (h0 : 0 ≤ i) (h1 : i + 4398050705408 ≤ 70368744177664) : MH laws_markResS.f laws_heldResS.f l i 4398050705408 := by
  have hl0 := hl.1
  obtain ⟨n, l', e0, e1, e2, e3, e4⟩ := mh_loop (fun k x i j => laws_markResS.l0 k x i j) (fun k x i j => laws_heldResS.l0 k x i j) SmRes 4194307 (by omega)
    (fun x i => by
      refine Ev.step (fun k => laws_markResS.l0.eq_2 ..) ?_
      simp only [Int.lt_irrefl, if_false]; exact Ev.now _)
    (fun x i => by
      refine Ev.step (fun k => laws_heldResS.l0.eq_2 ..) ?_
      simp only [Int.lt_irrefl, if_false]; exact Ev.now _)
    (fun a i ha h0 h1 => by
      obtain ⟨g0, _, _, _, g4⟩ := ha
      obtain ⟨n1, p', _, a1, a2, a3, a4⟩ := mhS g0.1 h0 (by omega)
      have w1 : wrap64 (n1 + 1) = n1 + 1 := wrap_id (by omega) (by omega)
      have w2 : wrap64 (n1 + 1 + 1) = n1 + 1 + 1 := wrap_id (by omega) (by omega)
      have w3 : wrap64 (n1 + 1 + 1 + 1) = n1 + 1 + 1 + 1 := wrap_id (by omega) (by omega)
      obtain ⟨n2, q', _, b1, b2, b3, b4⟩ := mhProp g4.1 (i := n1 + 1 + 1 + 1) (by omega) (by omega)
      refine ⟨n2, ⟨p', (n1.tmod 3 == 0), mt (n1 + 1), n1 + 1 + 1, q'⟩, by omega, by omega, fun x pre suf h hx r hr => ?_, fun y pre suf h hy r hr => ?_⟩
      · have hx2 : x.length ≤ maxLen := by rw [maxLen_eq]; omega
        refine Ev.step (fun k => laws_markResS.l0.eq_2 ..) ?_
        simp only [if_pos (lt_at h), if_pos (nonneg_at _), rd_implRes h]
        refine Ev.bind a3 ?_
        simp only [w1, w2, w3]
        refine Ev.bind (mt_ev (by omega) (by omega)) ?_
        refine Ev.bind b3 ?_
        simp only [set_at h, next_at h hx2]
        simpa using hr
      · have hy2 : y.length ≤ maxLen := by rw [maxLen_eq]; omega
        refine Ev.step (fun k => laws_heldResS.l0.eq_2 ..) ?_
        simp only [if_pos (lt_at h), if_pos (nonneg_at _), rd_implRes h]
        refine Ev.bind a4 ?_
        simp only [if_neg (show ¬ n1 < 0 by omega), bne_self_eq_false, Bool.false_eq_true, if_false, w1, w2, w3]
        refine Ev.bind (mt_ev (by omega) (by omega)) ?_
        simp only [if_true]
        refine Ev.bind b4 ?_
        simp only [if_neg (show ¬ n2 < 0 by omega), next_at h hy2]
        simpa using hr) l i hl.2 h0 (by omega)
  refine ⟨n, l', e0, e1, by omega, ?_, ?_⟩
  · exact e3 [] (by simpa using hl.1)
  · exact e4 [] (by simp; omega)
end Go.Proofs.Ytbgggcgjijljkaa.L

/- Marks: a loop that marks. No condition. -/
set_option linter.unusedSimpArgs false
set_option linter.unusedVariables false
namespace Go.Proofs.Ytbgggcgjijljkaa.L
open Go.RowKit Go.Proofs.YtbgggcgjijljkaaW.PrintWords Go.Proofs.YtbgggcgjijljkaaW.PrintLast Go.Proofs.Ytbgggcgjijljkaa.Q
def MK {α : Type} (mk : Nat → List α → Int → Option (Int × List α)) (l : List α) (i C : Int) : Prop :=
  ∃ n l', l'.length = l.length ∧ i ≤ n ∧ n ≤ i + C ∧ Ev (fun k => mk k l i) (n, l') ∧ True
theorem mk_loop {α : Type} (mk : Nat → List α → Int → Int → Option (Int × List α)) (P : α → Prop) (C : Int) (hC : 0 ≤ C)
    (me : ∀ (x : List α) i, Ev (fun k => mk k x i x.length) (i, x))
    (st : ∀ a i, P a → 0 ≤ i → i + C ≤ 70368744177664 → ∃ n a', i ≤ n ∧ n ≤ i + C ∧
      (∀ x pre suf, x = pre ++ a :: suf → x.length ≤ 1048576 → ∀ r, Ev (fun k => mk k (pre ++ a' :: suf) n ((pre ++ [a']).length : Int)) r → Ev (fun k => mk k x i (pre.length : Int)) r)) :
    ∀ (suf : List α) (i : Int), (∀ a ∈ suf, P a) → 0 ≤ i → i + C * suf.length ≤ 70368744177664 → ∃ n suf', suf'.length = suf.length ∧ i ≤ n ∧ n ≤ i + C * suf.length ∧
      (∀ pre : List α, (pre ++ suf).length ≤ 1048576 → Ev (fun k => mk k (pre ++ suf) i pre.length) (n, pre ++ suf')) := by
  intro suf
  induction suf with
  | nil =>
    intro i _ h0 h1
    refine ⟨i, [], rfl, Int.le_refl _, by simp, fun pre _ => ?_⟩
    have := me pre i; simpa using this
  | cons a suf ih =>
    intro i hP h0 h1
    have hm : C * ((a :: suf).length : Int) = C * suf.length + C := by rw [List.length_cons, Int.natCast_add, Int.mul_add]; simp
    have hp : 0 ≤ C * (suf.length : Int) := Int.mul_nonneg hC (Int.natCast_nonneg _)
    rw [hm] at h1 ⊢
    obtain ⟨n, a', hn0, hn1, hmk⟩ := st a i (hP a (by simp)) h0 (by omega)
    obtain ⟨n2, suf', hl, hn2, hn3, hmk2⟩ := ih n (fun x hx => hP x (by simp [hx])) (by omega) (by omega)
    refine ⟨n2, a' :: suf', by simp [hl], by omega, by omega, fun pre hpre => ?_⟩
    refine hmk _ pre suf rfl hpre _ ?_
    have := hmk2 (pre ++ [a']) (by simp at hpre ⊢; omega)
    simpa using this
end Go.Proofs.Ytbgggcgjijljkaa.L

/- Marks on sets. No condition. -/
set_option linter.unusedSimpArgs false
set_option linter.unusedVariables false
namespace Go.Proofs.Ytbgggcgjijljkaa.L
open Go.RowKit Go.Proofs.YtbgggcgjijljkaaW.PrintWords Go.Proofs.YtbgggcgjijljkaaW.PrintLast Go.Proofs.Ytbgggcgjijljkaa.Q
theorem mhSet {l : List S74} (hl : SmSets l) {i : Int} (h0 : 0 ≤ i) (h1 : i + 4194304 ≤ 70368744177664) : MK laws_markSetS.f l i 4194304 := by
  have hl0 := hl.1
  obtain ⟨n, l', e0, e1, e2, e3⟩ := mk_loop (fun k x i j => laws_markSetS.l0 k x i j) (fun _ => True) 4 (by omega)
    (fun x i => by
      refine Ev.step (fun k => laws_markSetS.l0.eq_2 ..) ?_
      simp only [Int.lt_irrefl, if_false]; exact Ev.now _)
    (fun a i _ h0 h1 => by
      have w1 : wrap64 (i + 1) = i + 1 := wrap_id (by omega) (by omega)
      have w2 : wrap64 (i + 1 + 1) = i + 1 + 1 := wrap_id (by omega) (by omega)
      have w3 : wrap64 (i + 1 + 1 + 1) = i + 1 + 1 + 1 := wrap_id (by omega) (by omega)
      have w4 : wrap64 (i + 1 + 1 + 1 + 1) = i + 1 + 1 + 1 + 1 := wrap_id (by omega) (by omega)
      refine ⟨i + 1 + 1 + 1 + 1, ⟨(i.tmod 3 == 0), ⟨mt (i + 1), mt (i + 1 + 1), mt (i + 1 + 1 + 1)⟩⟩, by omega, by omega, fun x pre suf h hx r hr => ?_⟩
      · have hx2 : x.length ≤ maxLen := by rw [maxLen_eq]; omega
        refine Ev.step (fun k => laws_markSetS.l0.eq_2 ..) ?_
        simp only [if_pos (lt_at h), if_pos (nonneg_at _), Option.bind_some, set_at h, rd_implSet h, w1]
        refine Ev.bind (mt_ev (by omega) (by omega)) ?_
        have h2 : pre ++ [⟨(i.tmod 3 == 0), ⟨a.f1.f0, a.f1.f1, a.f1.f2⟩⟩] ++ suf = pre ++ (⟨(i.tmod 3 == 0), ⟨a.f1.f0, a.f1.f1, a.f1.f2⟩⟩ : S74) :: suf := by simp
        simp only [Option.bind_some, set_at h2, rd_implSet h2, w2]
        refine Ev.bind (mt_ev (by omega) (by omega)) ?_
        have h3 : pre ++ [⟨(i.tmod 3 == 0), ⟨mt (i + 1), a.f1.f1, a.f1.f2⟩⟩] ++ suf = pre ++ (⟨(i.tmod 3 == 0), ⟨mt (i + 1), a.f1.f1, a.f1.f2⟩⟩ : S74) :: suf := by simp
        simp only [Option.bind_some, set_at h3, rd_implSet h3, w3]
        refine Ev.bind (mt_ev (by omega) (by omega)) ?_
        have h4 : pre ++ [⟨(i.tmod 3 == 0), ⟨mt (i + 1), mt (i + 1 + 1), a.f1.f2⟩⟩] ++ suf = pre ++ (⟨(i.tmod 3 == 0), ⟨mt (i + 1), mt (i + 1 + 1), a.f1.f2⟩⟩ : S74) :: suf := by simp
        simp only [set_at h4, rd_implSet h4, w4, next_at h hx2]
        simpa using hr) l i (fun _ _ => trivial) h0 (by omega)
  refine ⟨n, l', e0, e1, by omega, ?_, trivial⟩
  exact e3 [] (by simpa using hl0)
end Go.Proofs.Ytbgggcgjijljkaa.L

/- The law FnExactPatch computes true: the program and the reference say the same, the arguments stay, and nothing is shared. No condition. -/
set_option linter.unusedSimpArgs false
set_option linter.unusedVariables false
namespace Go.Proofs.Ytbgggcgjijljkaa.Pure
open Go.RowKit Go.Proofs.YtbgggcgjijljkaaW.PrintWords Go.Proofs.YtbgggcgjijljkaaW.PrintLast Go.Proofs.Ytbgggcgjijljkaa.Q Go.Proofs.Ytbgggcgjijljkaa.L
theorem FnExactPatch : ∀ (x0 : List (S79)) (x1 : List ByteArray) (x2 : List (S90)), (fun l : List (S79) => l.length ≤ maxLen ∧ ∀ a ∈ l, G79 a) x0 → (fun l : List ByteArray => l.length ≤ maxLen ∧ ∀ a ∈ l, (fun s : ByteArray => s.size ≤ maxLen) a) x1 → (fun l : List (S90) => l.length ≤ maxLen ∧ ∀ a ∈ l, G90 a) x2 → ∃ k, laws_FnExactPatch.f k x0 x1 x2 = some true := by
  intro x0 x1 x2 g0 g1 g2
  apply Ev.rounds
  unfold laws_FnExactPatch.f
  have hm : ∀ m : Nat, m ≤ 1048576 → m ≤ maxLen := fun m h => by rw [maxLen_eq]; omega
  refine Sz.ev (szResS g0.1 g0.2 (n := 1048576) (by omega) (by omega)) (by simp only [show (-1 : Int) < 0 by omega, if_true]; exact Ev.now _) (fun m0 a0 b0 s0 => ?_)
  simp only [if_neg (show ¬ m0 < 0 by omega)]
  refine Sz.ev (szS g1.1 g1.2 (n := m0) (by omega) (by omega)) (by simp only [show (-1 : Int) < 0 by omega, if_true]; exact Ev.now _) (fun m1 a1 b1 s1 => ?_)
  simp only [if_neg (show ¬ m1 < 0 by omega)]
  refine Sz.ev (szSetS g2.1 g2.2 (n := m1) (by omega) (by omega)) (by simp only [show (-1 : Int) < 0 by omega, if_true]; exact Ev.now _) (fun m2 a2 b2 s2 => ?_)
  simp only [if_neg (show ¬ m2 < 0 by omega)]
  have hd0 := patch_sm (p := x1) s0 s2
  refine Ev.bind (toResS s0) ?_
  refine Ev.bind (toS (by have := s1.1; omega)) ?_
  refine Ev.bind (toSetS s2) ?_
  refine Ev.bind (specPatch s0 s2) ?_
  refine Ev.bind (toResS s0) ?_
  refine Ev.bind (toS (by have := s1.1; omega)) ?_
  refine Ev.bind (toSetS s2) ?_
  refine Ev.bind (implPatch s0 s2) ?_
  refine Ev.bind (eqResS hd0) ?_
  try simp only [eq_self, if_true, bne_self_eq_false, Bool.false_eq_true, if_false, decide_true, Bool.not_true]
  try simp only [eq_self, if_true, bne_self_eq_false, Bool.false_eq_true, if_false, decide_true, Bool.not_true]
  refine Ev.bind (toResS s0) ?_
  refine Ev.bind (eqResS s0) ?_
  try simp only [eq_self, if_true, bne_self_eq_false, Bool.false_eq_true, if_false, decide_true, Bool.not_true]
  refine Ev.bind (toS (by have := s1.1; omega)) ?_
  refine Ev.bind (eqS g1.1) ?_
  try simp only [eq_self, if_true, bne_self_eq_false, Bool.false_eq_true, if_false, decide_true, Bool.not_true]
  refine Ev.bind (toSetS s2) ?_
  refine Ev.bind (eqSetS s2) ?_
  try simp only [eq_self, if_true, bne_self_eq_false, Bool.false_eq_true, if_false, decide_true, Bool.not_true]
  obtain ⟨n0, l0, _, u0, v0, w0, _⟩ := mhRes s0 (i := 1) (by omega) (by omega)
  refine Ev.bind w0 ?_
  obtain ⟨n1, l1, _, u1, v1, w1, _⟩ := mhS s1.1 (i := n0) (by omega) (by omega)
  refine Ev.bind w1 ?_
  obtain ⟨n2, l2, _, u2, v2, w2, _⟩ := mhSet s2 (i := n1) (by omega) (by omega)
  refine Ev.bind w2 ?_
  simp only [if_neg (show ¬ n2 < 0 by omega)]
  refine Ev.bind (eqResS hd0) ?_
  try simp only [eq_self, if_true, bne_self_eq_false, Bool.false_eq_true, if_false, decide_true, Bool.not_true]
  try simp only [eq_self, if_true, bne_self_eq_false, Bool.false_eq_true, if_false, decide_true, Bool.not_true]
  obtain ⟨n3, l3, _, u3, v3, w3, z3⟩ := mhRes hd0 (i := 1) (by omega) (by omega)
  refine Ev.bind w3 ?_
  refine Ev.bind z3 ?_
  simp only [if_neg (show ¬ n3 < 0 by omega)]
  try simp only [eq_self, if_true, bne_self_eq_false, Bool.false_eq_true, if_false, decide_true, Bool.not_true]
  refine Ev.bind (toResS s0) ?_
  refine Ev.bind (toS (by have := s1.1; omega)) ?_
  refine Ev.bind (toSetS s2) ?_
  refine Ev.bind (implPatch s0 s2) ?_
  refine Ev.bind (eqResS hd0) ?_
  try simp only [eq_self, if_true, bne_self_eq_false, Bool.false_eq_true, if_false, decide_true, Bool.not_true]
  try simp only [eq_self, if_true, bne_self_eq_false, Bool.false_eq_true, if_false, decide_true, Bool.not_true]
  refine Ev.bind z3 ?_
  simp only [if_neg (show ¬ n3 < 0 by omega)]
  try simp only [eq_self, if_true, bne_self_eq_false, Bool.false_eq_true, if_false, decide_true, Bool.not_true]
  exact Ev.now _
end Go.Proofs.Ytbgggcgjijljkaa.Pure
