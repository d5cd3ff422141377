/- Shelves: the place of a thing, is it a shelf; as the program and the reference have it. No condition. -/
import Derived.Test.YtbgggcgjijljkaaVPutFileG22
import Derived.Test.YtbgggcgjijljkaaVPutFileG26
import Derived.Test.YtbgggcgjijljkaaVPutFileG35
import Derived.Test.YtbgggcgjijljkaaVPutFileG27
import Derived.Test.YtbgggcgjijljkaaVPutFileG23
import Derived.Test.YtbgggcgjijljkaaVPutFileG28
import Derived.Test.YtbgggcgjijljkaaVPutFileG24
import Derived.Test.YtbgggcgjijljkaaVPutFileG29
import Derived.Test.YtbgggcgjijljkaaVPutFileG25
import Derived.Test.YtbgggcgjijljkaaVPutFileG31
import Derived.Test.YtbgggcgjijljkaaVPutFileG33
import Derived.Test.YtbgggcgjijljkaaVPutFileG32
import Derived.Test.YtbgggcgjijljkaaVPutFileG30
import Derived.Test.YtbgggcgjijljkaaVPutFileG34
set_option linter.unusedSimpArgs false
set_option linter.unusedVariables false
namespace Go.Proofs.Ytbgggcgjijljkaa.L
open Go.RowKit Go.Proofs.YtbgggcgjijljkaaW.PrintWords Go.Proofs.YtbgggcgjijljkaaW.PrintLast Go.Proofs.Ytbgggcgjijljkaa.Q
def findFrom (p : List ByteArray) : List S57 → Nat → Int
 | [], _ => -1
 | r :: t, i => if r.f0 = p then (i : Int) else findFrom p t (i + 1)
def findR (t : List S57) (p : List ByteArray) : Int := findFrom p t 0
theorem findFrom_cases (p : List ByteArray) : ∀ (t : List S57) (i : Nat), findFrom p t i = -1 ∧ (∀ r ∈ t, r.f0 ≠ p) ∨ ∃ j, ∃ r, findFrom p t i = ((i + j : Nat) : Int) ∧ t[j]? = some r ∧ r.f0 = p ∧ ∀ j', j' < j → ∀ r', t[j']? = some r' → r'.f0 ≠ p := by
 intro t
 induction t with
 | nil => exact fun i => .inl ⟨rfl, by simp⟩
 | cons r t ih =>
  intro i
  by_cases e : r.f0 = p
  · refine .inr ⟨0, r, by simp [findFrom, e], rfl, e, fun j' h => absurd h (Nat.not_lt_zero _)⟩
  · rcases ih (i + 1) with ⟨h, h2⟩ | ⟨j, r', h, h2, h3, h4⟩
    · exact .inl ⟨by simp [findFrom, e, h], fun x hx => by
       rcases List.mem_cons.1 hx with rfl | hx
       · exact e
       · exact h2 x hx⟩
    · refine .inr ⟨j + 1, r', by simp [findFrom, e, h]; omega, h2, h3, fun j' hj' x hx => ?_⟩
      cases j' with
      | zero =>
       simp at hx
       rw [← hx]
       exact e
      | succ j' => exact h4 j' (by omega) x hx
theorem specFind {t : List S57} {p : List ByteArray} (ht : SmRess t) : Ev (fun k => spec_FindRes.f k t p) (findR t p) := by
 have hl : t.length ≤ maxLen := by have := ht.1; rw [maxLen_eq]; omega
 have key : ∀ (suf pre : List S57), t = pre ++ suf → Ev (fun k => spec_FindRes.l0 k t p pre.length) (findFrom p suf pre.length) := by
  intro suf
  induction suf with
  | nil =>
   intro pre h
   refine Ev.step (fun k => spec_FindRes.l0.eq_2 ..) ?_
   simp only [if_neg (end_at h)]
   exact Ev.now _
  | cons a suf ih =>
   intro pre h
   have hs := (ht.2 a (by rw [h]; simp)).1.1
   refine Ev.step (fun k => spec_FindRes.l0.eq_2 ..) ?_
   simp only [if_pos (lt_at h), if_pos (nonneg_at _), rd_implRes h]
   refine Ev.bind (specSame (by rw [maxLen_eq]; omega)) ?_
   simp only [findFrom, next_at h hl]
   by_cases e : a.f0 = p
   · simp only [e, decide_true, if_true]
     exact Ev.now _
   · simp only [e, decide_false, Bool.false_eq_true, if_false]
     have := ih (pre ++ [a]) (snoc_at h)
     rw [List.length_append, List.length_singleton] at this ⊢
     exact this
 exact key t [] rfl
theorem implFind {t : List S57} {p : List ByteArray} (ht : SmRess t) : Ev (fun k => impl_FindRes.f k t p) (findR t p) := by
 have hl : t.length ≤ maxLen := by have := ht.1; rw [maxLen_eq]; omega
 have key : ∀ (suf pre : List S57), t = pre ++ suf → Ev (fun k => impl_FindRes.l0 k p t (t.length : Int) pre.length) (findFrom p suf pre.length) := by
  intro suf
  induction suf with
  | nil =>
   intro pre h
   refine Ev.step (fun k => impl_FindRes.l0.eq_2 ..) ?_
   simp only [if_neg (end_at h)]
   exact Ev.now _
  | cons a suf ih =>
   intro pre h
   have hs := (ht.2 a (by rw [h]; simp)).1.1
   refine Ev.step (fun k => impl_FindRes.l0.eq_2 ..) ?_
   simp only [if_pos (lt_at h), if_pos (nonneg_at _), rd_implRes h]
   refine Ev.bind (implSame (by rw [maxLen_eq]; omega)) ?_
   simp only [findFrom, next_at h hl]
   by_cases e : a.f0 = p
   · simp only [e, decide_true, if_true]
     exact Ev.now _
   · simp only [e, decide_false, Bool.false_eq_true, if_false]
     have := ih (pre ++ [a]) (snoc_at h)
     rw [List.length_append, List.length_singleton] at this ⊢
     exact this
 exact key t [] rfl
def isColl (t : List S57) (p : List ByteArray) : Bool := decide (p = []) || (decide (0 ≤ findR t p) && (rd_T57 t (findR t p)).f1)
theorem findR_lt (t : List S57) (p : List ByteArray) (h : 0 ≤ findR t p) : findR t p < (t.length : Int) := by
 rcases findFrom_cases p t 0 with ⟨h1, _⟩ | ⟨j, r, h1, h2, _⟩
 · unfold findR at h; omega
 · unfold findR
   have := (List.getElem?_eq_some_iff.1 h2).1
   omega
theorem nil_len {α : Type} (p : List α) : ((p.length : Int) = 0) = (p = []) := propext ⟨fun h => List.eq_nil_of_length_eq_zero (by omega), fun h => by rw [h]; rfl⟩
theorem specIsColl {t : List S57} {p : List ByteArray} (ht : SmRess t) : Ev (fun k => spec_IsColl.f k t p) (isColl t p) := by
 unfold spec_IsColl.f
 refine Ev.bind (specFind ht) ?_
 simp only [nil_len, isColl]
 by_cases e : p = []
 · simp only [e, if_true, decide_true, Bool.true_or]
   exact Ev.now _
 · simp only [e, if_false, decide_false, Bool.false_or]
   by_cases h : 0 ≤ findR t p
   · simp only [ge_iff_le, h, if_true, if_pos (findR_lt t p h), decide_true, Bool.true_and]
     exact Ev.now _
   · simp only [ge_iff_le, h, if_false, decide_false, Bool.false_and]
     exact Ev.now _
theorem implIsColl {t : List S57} {p : List ByteArray} (ht : SmRess t) : Ev (fun k => impl_IsColl.f k t p) (isColl t p) := by
 unfold impl_IsColl.f
 simp only [nil_len, isColl]
 by_cases e : p = []
 · simp only [e, if_true, decide_true, Bool.true_or]
   exact Ev.now _
 · simp only [e, if_false, decide_false, Bool.false_or]
   refine Ev.bind (implFind ht) ?_
   by_cases h : 0 ≤ findR t p
   · simp only [ge_iff_le, h, if_true, if_pos (findR_lt t p h), decide_true, Bool.true_and]
     exact Ev.now _
   · simp only [ge_iff_le, h, if_false, decide_false, Bool.false_and]
     exact Ev.now _
end Go.Proofs.Ytbgggcgjijljkaa.L

/- Properties: are they right, and which one is of a space and a name; as the program and the reference have it. No condition. -/
set_option linter.unusedSimpArgs false
set_option linter.unusedVariables false
namespace Go.Proofs.Ytbgggcgjijljkaa.L
open Go.RowKit Go.Proofs.YtbgggcgjijljkaaW.PrintWords Go.Proofs.YtbgggcgjijljkaaW.PrintLast Go.Proofs.Ytbgggcgjijljkaa.Q
def propOk (p : S72) : Bool := decide ((p.f0.size : Int) ≤ 20) && plainL (bl p.f0) && smallName p.f1 && decide ((p.f2.size : Int) ≤ 20) && plainL (bl p.f2)
def lessProp (p q : S72) : Bool := if p.f0 = q.f0 then Op.bytesLess p.f1.toList q.f1.toList else Op.bytesLess p.f0.toList q.f0.toList
theorem bytesLess_irrefl : ∀ l : List UInt8, Op.bytesLess l l = false
 | [] => rfl
 | a :: l => by simp [Op.bytesLess, bytesLess_irrefl l]
theorem specPropOk {p : S72} (hp : SmProp p) : Ev (fun k => spec_l10Prop.f k p.f0 p.f1 p.f2) (propOk p) := by
 obtain ⟨g0, g1, g2⟩ := hp
 have h : ∀ s : ByteArray, s.size ≤ 1048576 → s.size ≤ maxLen := fun s h => by rw [maxLen_eq]; omega
 unfold spec_l10Prop.f propOk
 by_cases c0 : (p.f0.size : Int) ≤ 20
 · simp only [if_pos c0, c0, decide_true, Bool.true_and]
   refine Ev.bind (specPlain (h _ g0)) ?_
   by_cases c1 : plainL (bl p.f0) = true
   · simp only [c1, if_true, Bool.true_and]
     refine Ev.bind (specSmall (h _ g1)) ?_
     by_cases c2 : smallName p.f1 = true
     · simp only [c2, if_true, Bool.true_and]
       by_cases c3 : (p.f2.size : Int) ≤ 20
       · simp only [if_pos c3, c3, decide_true, Bool.true_and]
         exact Ev.bind (specPlain (h _ g2)) (Ev.now _)
       · simp only [if_neg c3, c3, decide_false, Bool.false_and]
         exact Ev.now _
     · simp only [c2, Bool.false_eq_true, if_false, Bool.false_and]
       exact Ev.now _
   · simp only [c1, Bool.false_eq_true, if_false, Bool.false_and]
     exact Ev.now _
 · simp only [if_neg c0, c0, decide_false, Bool.false_and]
   exact Ev.now _
theorem implPropOk {p : S72} (hp : SmProp p) : Ev (fun k => impl_propOk.f k p.f0 p.f1 p.f2) (propOk p) := by
 obtain ⟨g0, g1, g2⟩ := hp
 have h : ∀ s : ByteArray, s.size ≤ 1048576 → s.size ≤ maxLen := fun s h => by rw [maxLen_eq]; omega
 unfold impl_propOk.f propOk
 by_cases c0 : (p.f0.size : Int) ≤ 20
 · simp only [if_pos c0, c0, decide_true, Bool.true_and]
   refine Ev.bind (implPlain (h _ g0)) ?_
   by_cases c1 : plainL (bl p.f0) = true
   · simp only [c1, if_true, Bool.true_and]
     refine Ev.bind (implSmall (h _ g1)) ?_
     by_cases c2 : smallName p.f1 = true
     · simp only [c2, if_true, Bool.true_and]
       by_cases c3 : (p.f2.size : Int) ≤ 20
       · simp only [if_pos c3, c3, decide_true, Bool.true_and]
         exact Ev.bind (implPlain (h _ g2)) (Ev.now _)
       · simp only [if_neg c3, c3, decide_false, Bool.false_and]
         exact Ev.now _
     · simp only [c2, Bool.false_eq_true, if_false, Bool.false_and]
       exact Ev.now _
   · simp only [c1, Bool.false_eq_true, if_false, Bool.false_and]
     exact Ev.now _
 · simp only [if_neg c0, c0, decide_false, Bool.false_and]
   exact Ev.now _
theorem specLessProp (p q : S72) : spec_l10LessProp.f p.f0 p.f1 p.f2 q.f0 q.f1 q.f2 = some (lessProp p q) := by
 unfold spec_l10LessProp.f lessProp
 simp only [ba_eq]
 by_cases e : p.f0 = q.f0 <;> simp [e]
theorem implLessProp (p q : S72) : impl_lessProp.f p.f0 p.f1 p.f2 q.f0 q.f1 q.f2 = some (lessProp p q) := by
 unfold impl_lessProp.f lessProp
 simp only [ba_eq]
 by_cases e : p.f0 = q.f0
 · simp [e, bytesLess_irrefl]
 · simp only [if_neg e]
   cases Op.bytesLess p.f0.toList q.f0.toList <;> simp
def propsL : Option S72 → List S72 → Bool
 | _, [] => true
 | last, p :: l => propOk p && (match last with | none => true | some q => lessProp q p) && propsL (some p) l
def propsOk (l : List S72) : Bool := propsL none l && decide ((l.length : Int) ≤ 4)
theorem pred_at {α : Type} {l pre suf : List α} {a b : α} (h : l = pre ++ [b] ++ a :: suf) (hl : l.length ≤ maxLen) : wrap64 (((pre ++ [b]).length : Int) - 1) = (pre.length : Int) := by
 have : l.length = pre.length + 1 + (suf.length + 1) := by rw [h]; simp; omega
 rw [maxLen_eq] at hl
 have e : ((pre ++ [b]).length : Int) = pre.length + 1 := by simp
 rw [e, wrap_id (by omega) (by omega)]
 omega
theorem specPropsOkB {l : List S72} (hl : l.length ≤ maxLen) (hs : ∀ p ∈ l, SmProp p) : Ev (fun k => spec_PropsOk.f k l) (propsOk l) := by
 have key : ∀ (suf pre : List S72), l = pre ++ suf → Ev (fun k => spec_PropsOk.l0 k l pre.length) (propsL pre.getLast? suf && decide ((l.length : Int) ≤ 4)) := by
  intro suf
  induction suf with
  | nil =>
   intro pre h
   refine Ev.step (fun k => spec_PropsOk.l0.eq_2 ..) ?_
   simp only [if_neg (end_at h), propsL, Bool.true_and]
   exact Ev.now _
  | cons a suf ih =>
   intro pre h
   have hn := ih (pre ++ [a]) (snoc_at h)
   rw [List.getLast?_append] at hn
   simp only [List.getLast?_singleton, Option.some_or] at hn
   refine Ev.step (fun k => spec_PropsOk.l0.eq_2 ..) ?_
   simp only [if_pos (lt_at h), if_pos (nonneg_at _), rd_implProp h]
   refine Ev.bind (specPropOk (hs a (by rw [h]; simp))) ?_
   simp only [propsL]
   by_cases c0 : propOk a = true
   · simp only [c0, if_true, Bool.true_and]
     rcases List.eq_nil_or_concat pre with rfl | ⟨pre', b, rfl⟩
     · simp only [List.length_nil, Int.natCast_zero, show ¬ (0 : Int) > 0 by omega, if_false, List.getLast?_nil, Bool.true_and]
       have := next_at h hl
       simp only [List.length_nil, Int.natCast_zero] at this
       rw [this]
       exact hn
     · rw [List.concat_eq_append] at h hn ⊢
       have hp := pred_at h hl
       have h2 : l = pre' ++ b :: (a :: suf) := by rw [h]; simp
       simp only [show (((pre' ++ [b]).length : Nat) : Int) > 0 by first | (simp; done) | (simp; omega), if_true, hp, if_pos (nonneg_at _), if_pos (lt_at h2), rd_implProp h2, specLessProp, Option.bind_some, List.getLast?_append, List.getLast?_singleton, Option.some_or, next_at h hl]
       by_cases c1 : lessProp b a = true
       · simp only [c1, if_true, Bool.true_and]
         exact hn
       · simp only [c1, Bool.false_eq_true, if_false, Bool.false_and]
         exact Ev.now _
   · simp only [c0, Bool.false_eq_true, if_false, Bool.false_and]
     exact Ev.now _
 exact key l [] rfl
theorem implPropsOkB {l : List S72} (hl : l.length ≤ maxLen) (hs : ∀ p ∈ l, SmProp p) : Ev (fun k => impl_PropsOk.f k l) (propsOk l) := by
 have key : ∀ (suf pre : List S72), l = pre ++ suf → Ev (fun k => impl_PropsOk.l0 k l l (l.length : Int) pre.length) (propsL pre.getLast? suf && decide ((l.length : Int) ≤ 4)) := by
  intro suf
  induction suf with
  | nil =>
   intro pre h
   refine Ev.step (fun k => impl_PropsOk.l0.eq_2 ..) ?_
   simp only [if_neg (end_at h), propsL, Bool.true_and]
   exact Ev.now _
  | cons a suf ih =>
   intro pre h
   have hn := ih (pre ++ [a]) (snoc_at h)
   rw [List.getLast?_append] at hn
   simp only [List.getLast?_singleton, Option.some_or] at hn
   refine Ev.step (fun k => impl_PropsOk.l0.eq_2 ..) ?_
   simp only [if_pos (lt_at h), if_pos (nonneg_at _), rd_implProp h]
   refine Ev.bind (implPropOk (hs a (by rw [h]; simp))) ?_
   simp only [propsL]
   by_cases c0 : propOk a = true
   · simp only [c0, if_true, Bool.true_and]
     rcases List.eq_nil_or_concat pre with rfl | ⟨pre', b, rfl⟩
     · simp only [List.length_nil, Int.natCast_zero, show ¬ (0 : Int) > 0 by omega, if_false, List.getLast?_nil, Bool.true_and]
       have := next_at h hl
       simp only [List.length_nil, Int.natCast_zero] at this
       rw [this]
       exact hn
     · rw [List.concat_eq_append] at h hn ⊢
       have hp := pred_at h hl
       have h2 : l = pre' ++ b :: (a :: suf) := by rw [h]; simp
       simp only [show (((pre' ++ [b]).length : Nat) : Int) > 0 by first | (simp; done) | (simp; omega), if_true, hp, if_pos (nonneg_at _), if_pos (lt_at h2), rd_implProp h2, implLessProp, Option.bind_some, List.getLast?_append, List.getLast?_singleton, Option.some_or, next_at h hl]
       by_cases c1 : lessProp b a = true
       · simp only [c1, if_true, Bool.true_and]
         exact hn
       · simp only [c1, Bool.false_eq_true, if_false, Bool.false_and]
         exact Ev.now _
   · simp only [c0, Bool.false_eq_true, if_false, Bool.false_and]
     exact Ev.now _
 exact key l [] rfl
theorem specPropsOk {l : List S72} (hs : SmProps l) : Ev (fun k => spec_PropsOk.f k l) (propsOk l) := specPropsOkB (by have := hs.1; rw [maxLen_eq]; omega) hs.2
theorem implPropsOk {l : List S72} (hs : SmProps l) : Ev (fun k => impl_PropsOk.f k l) (propsOk l) := implPropsOkB (by have := hs.1; rw [maxLen_eq]; omega) hs.2
end Go.Proofs.Ytbgggcgjijljkaa.L

/- Paths, one ahead of the other: what the program and the reference say. No condition. -/
set_option linter.unusedSimpArgs false
set_option linter.unusedVariables false
namespace Go.Proofs.Ytbgggcgjijljkaa.L
open Go.RowKit Go.Proofs.YtbgggcgjijljkaaW.PrintWords Go.Proofs.YtbgggcgjijljkaaW.PrintLast Go.Proofs.Ytbgggcgjijljkaa.Q
def lessP : List ByteArray → List ByteArray → Bool
 | [], [] => false
 | [], _ :: _ => true
 | _ :: _, [] => false
 | x :: a, y :: b => if x = y then lessP a b else Op.bytesLess x.toList y.toList
theorem len_lt {α : Type} {l m pu pv su sv : List α} (h : l = pu ++ su) (h' : m = pv ++ sv) (hp : pu.length = pv.length) : ((l.length : Int) < (m.length : Int)) = (su.length < sv.length) := by
 subst h; subst h'; simp [hp]
theorem implLess_loop {a b : List ByteArray} (hl : a.length ≤ maxLen) : ∀ (su sv pu pv : List ByteArray), a = pu ++ su → b = pv ++ sv → pu.length = pv.length → Ev (fun k => impl_LessPath.l0 k a b pu.length) (lessP su sv) := by
 intro su
 induction su with
 | nil =>
  intro sv pu pv h h' hp
  refine Ev.step (fun k => impl_LessPath.l0.eq_2 ..) ?_
  simp only [if_neg (end_at h)]
  refine Ev.step (fun k => impl_LessPath.j1.eq_2 ..) ?_
  simp only [Bool.false_eq_true, if_false, len_lt h h' hp]
  cases sv <;> simp only [lessP] <;> exact Ev.now _
 | cons x su ih =>
  intro sv pu pv h h' hp
  refine Ev.step (fun k => impl_LessPath.l0.eq_2 ..) ?_
  simp only [if_pos (lt_at h)]
  refine Ev.step (fun k => impl_LessPath.j1.eq_2 ..) ?_
  cases sv with
  | nil =>
   have h4 := end_at h'
   rw [← hp] at h4
   simp only [h4, decide_false, Bool.false_eq_true, if_false, len_lt h h' hp, lessP]
   exact Ev.now _
  | cons y sv =>
   have h3 := rd_at ByteArray.empty h'
   have h4 := lt_at h'
   rw [← hp] at h3 h4
   by_cases e : x = y
   · subst e
     simp only [h4, decide_true, if_true, if_pos (lt_at h), if_pos (nonneg_at _), rd_at _ h, h3, next_at h hl, lessP]
     exact ih sv (pu ++ [x]) (pv ++ [x]) (snoc_at h) (snoc_at h') (by simp [hp])
   · simp only [h4, decide_true, if_true, if_pos (lt_at h), if_pos (nonneg_at _), rd_at _ h, h3, ba_eq, if_neg e, lessP]
     exact Ev.now _
theorem implLess {a b : List ByteArray} (hl : a.length ≤ maxLen) : Ev (fun k => impl_LessPath.f k a b) (lessP a b) := implLess_loop hl a b [] [] rfl rfl rfl
theorem specLess_loop {a b : List ByteArray} (hl : a.length ≤ maxLen) : ∀ (su sv pu pv : List ByteArray), a = pu ++ su → b = pv ++ sv → pu.length = pv.length → Ev (fun k => spec_LessPath.l0 k a b pu.length) (lessP su sv) := by
 intro su
 induction su with
 | nil =>
  intro sv pu pv h h' hp
  refine Ev.step (fun k => spec_LessPath.l0.eq_2 ..) ?_
  simp only [if_neg (end_at h)]
  refine Ev.step (fun k => spec_LessPath.j1.eq_2 ..) ?_
  simp only [Bool.false_eq_true, if_false, len_lt h h' hp]
  cases sv <;> simp only [lessP] <;> exact Ev.now _
 | cons x su ih =>
  intro sv pu pv h h' hp
  refine Ev.step (fun k => spec_LessPath.l0.eq_2 ..) ?_
  simp only [if_pos (lt_at h)]
  refine Ev.step (fun k => spec_LessPath.j1.eq_2 ..) ?_
  cases sv with
  | nil =>
   have h4 := end_at h'
   rw [← hp] at h4
   simp only [h4, decide_false, Bool.false_eq_true, if_false, len_lt h h' hp, lessP]
   exact Ev.now _
  | cons y sv =>
   have h3 := rd_at ByteArray.empty h'
   have h4 := lt_at h'
   rw [← hp] at h3 h4
   by_cases e : x = y
   · subst e
     simp only [h4, decide_true, if_true, if_pos (lt_at h), if_pos (nonneg_at _), rd_at _ h, h3, next_at h hl, lessP]
     exact ih sv (pu ++ [x]) (pv ++ [x]) (snoc_at h) (snoc_at h') (by simp [hp])
   · simp only [h4, decide_true, if_true, if_pos (lt_at h), if_pos (nonneg_at _), rd_at _ h, h3, ba_eq, if_neg e, lessP]
     exact Ev.now _
theorem specLess {a b : List ByteArray} (hl : a.length ≤ maxLen) : Ev (fun k => spec_LessPath.f k a b) (lessP a b) := specLess_loop hl a b [] [] rfl rfl rfl
end Go.Proofs.Ytbgggcgjijljkaa.L

/- Shelves: are they right; as the program and the reference have it. No condition. -/
set_option linter.unusedSimpArgs false
set_option linter.unusedVariables false
namespace Go.Proofs.Ytbgggcgjijljkaa.L
open Go.RowKit Go.Proofs.YtbgggcgjijljkaaW.PrintWords Go.Proofs.YtbgggcgjijljkaaW.PrintLast Go.Proofs.Ytbgggcgjijljkaa.Q
theorem size0 (s : ByteArray) : (s.toList = ([] : List UInt8)) = (bl s = []) := by rw [ba_toList]
def resOk (r : S57) : Bool := decide (r.f0 ≠ []) && (pathOk r.f0 && (decide (r.f1 = true → bl r.f2 = []) && (decide ((r.f2.size : Int) ≤ 200) && (decide (0 ≤ r.f3 ∧ r.f3 ≤ 99999) && propsOk r.f4))))
theorem implResOk {r : S57} (hr : SmRes r) : Ev (fun k => impl_resOk.f k r.f0 r.f1 r.f2 r.f3 r.f4) (resOk r) := by
 obtain ⟨g0, _, g2, g3, g4⟩ := hr
 unfold impl_resOk.f resOk
 by_cases c0 : r.f0 = []
 · simp only [c0, List.length_nil, Int.natCast_zero, gt_iff_lt, Int.lt_irrefl, if_false, ne_eq, not_true_eq_false, decide_false, Bool.false_and]
   exact Ev.now _
 have h0 : (r.f0.length : Int) > 0 := by have := List.length_pos_iff.2 c0; omega
 simp only [if_pos h0, ne_eq, c0, not_false_eq_true, decide_true, Bool.true_and]
 refine Ev.bind (implPathOk g0) ?_
 by_cases c1 : pathOk r.f0 = true
 rotate_left
 · simp only [c1, Bool.false_eq_true, if_false, Bool.false_and]; exact Ev.now _
 simp only [c1, if_true, Bool.true_and, size0, implIn, Option.bind_some, decide_eq_true_eq]
 have tail : Ev (fun n => if (r.f2.size : Int) ≤ 200 then (if 0 ≤ r.f3 ∧ r.f3 ≤ 99999 then ((impl_PropsOk.f n r.f4).bind fun t609 => some t609) else some false) else some false) (decide ((r.f2.size : Int) ≤ 200) && (decide (0 ≤ r.f3 ∧ r.f3 ≤ 99999) && propsOk r.f4)) := by
  by_cases c2 : (r.f2.size : Int) ≤ 200
  · simp only [c2, if_true, decide_true, Bool.true_and]
    by_cases c3 : 0 ≤ r.f3 ∧ r.f3 ≤ 99999
    · simp only [c3, and_self, if_true, decide_true, Bool.true_and]
      exact Ev.bind (implPropsOk g4) (Ev.now _)
    · simp only [c3, if_false, decide_false, Bool.false_and]
      exact Ev.now _
  · simp only [c2, if_false, decide_false, Bool.false_and]
    exact Ev.now _
 by_cases c4 : r.f1 = true
 · simp only [c4, if_true, true_imp_iff]
   by_cases c5 : bl r.f2 = []
   · simp only [c5, if_true, decide_true, Bool.true_and]
     exact tail
   · simp only [c5, if_false, decide_false, Bool.false_and]
     exact Ev.now _
 · simp only [c4, Bool.false_eq_true, if_false, false_imp_iff, decide_true, Bool.true_and]
   exact tail
def treeL (t : List S57) : Option S57 → List S57 → Bool
 | _, [] => true
 | last, r :: l => resOk r && ((match last with | none => true | some q => lessP q.f0 r.f0) && (isColl t (above r.f0) && treeL t (some r) l))
def treeOk (t : List S57) : Bool := treeL t none t && decide ((t.length : Int) ≤ 12)
theorem specTreeOk {t : List S57} (ht : SmRess t) : Ev (fun k => spec_TreeOk.f k t) (treeOk t) := by
 have hl : t.length ≤ maxLen := by have := ht.1; rw [maxLen_eq]; omega
 have key : ∀ (suf pre : List S57), t = pre ++ suf → Ev (fun k => spec_TreeOk.l0 k t pre.length) (treeL t pre.getLast? suf && decide ((t.length : Int) ≤ 12)) := by
  intro suf
  induction suf with
  | nil =>
   intro pre h
   refine Ev.step (fun k => spec_TreeOk.l0.eq_2 ..) ?_
   simp only [if_neg (end_at h), treeL, Bool.true_and]
   exact Ev.now _
  | cons a suf ih =>
   intro pre h
   have hn := ih (pre ++ [a]) (snoc_at h)
   rw [List.getLast?_append] at hn
   simp only [List.getLast?_singleton, Option.some_or] at hn
   have ha := ht.2 a (by rw [h]; simp)
   obtain ⟨g0, _, g2, g3, g4⟩ := ha
   have hla : a.f0.length ≤ maxLen := by have := g0.1; rw [maxLen_eq]; omega
   have join : ∀ b : Bool, b = (!resOk a) → Ev (fun k => spec_TreeOk.j1 k t pre.length b a.f0 a.f1 a.f2 a.f3 a.f4) (treeL t pre.getLast? (a :: suf) && decide ((t.length : Int) ≤ 12)) := by
    intro b hb
    refine Ev.step (fun k => spec_TreeOk.j1.eq_2 ..) ?_
    simp only [treeL, hb]
    by_cases c0 : resOk a = true
    rotate_left
    · simp only [c0, Bool.not_false, if_true, Bool.false_and]; exact Ev.now _
    simp only [c0, Bool.not_true, Bool.false_eq_true, if_false, Bool.true_and]
    have fin : Ev (fun n => (spec_Above.f a.f0).bind fun t593 => (spec_IsColl.f n t t593).bind fun t596 => if t596 = true then spec_TreeOk.l0 n t (wrap64 ((pre.length : Int) + 1)) else some false) (isColl t (above a.f0) && treeL t (some a) suf && decide ((t.length : Int) ≤ 12)) := by
     simp only [specAbove g0.1, Option.bind_some]
     refine Ev.bind (specIsColl ht) ?_
     by_cases c2 : isColl t (above a.f0) = true
     · simp only [c2, if_true, Bool.true_and, next_at h hl]; exact hn
     · simp only [c2, Bool.false_eq_true, if_false, Bool.false_and]; exact Ev.now _
    rcases List.eq_nil_or_concat pre with rfl | ⟨pre', b', rfl⟩
    · simp only [List.length_nil, Int.natCast_zero, show ¬ (0 : Int) > 0 by omega, if_false, List.getLast?_nil, Bool.true_and]
      exact fin
    · rw [List.concat_eq_append] at h hn fin ⊢
      have hp := pred_at h hl
      have h2 : t = pre' ++ b' :: (a :: suf) := by rw [h]; simp
      have hb' := (ht.2 b' (by rw [h]; simp)).1.1
      simp only [show (((pre' ++ [b']).length : Nat) : Int) > 0 by first | (simp; done) | (simp; omega), if_true, hp, if_pos (nonneg_at _), if_pos (lt_at h2), rd_implRes h2, List.getLast?_append, List.getLast?_singleton, Option.some_or]
      refine Ev.bind (specLess (by rw [maxLen_eq]; omega)) ?_
      by_cases c1 : lessP b'.f0 a.f0 = true
      · simp only [c1, if_true, Bool.true_and]
        exact fin
      · simp only [c1, Bool.false_eq_true, if_false, Bool.false_and]
        exact Ev.now _
   refine Ev.step (fun k => spec_TreeOk.l0.eq_2 ..) ?_
   simp only [if_pos (lt_at h), if_pos (nonneg_at _), rd_implRes h, nil_len, size0, specIn, Option.bind_some, decide_eq_true_eq]
   unfold resOk at join
   by_cases c0 : a.f0 = []
   · simp only [if_pos c0]
     exact join true (by simp [c0])
   simp only [if_neg c0]
   refine Ev.bind (specPathOk g0) ?_
   by_cases c1 : pathOk a.f0 = true
   rotate_left
   · simp only [c1, Bool.false_eq_true, if_false]
     exact join true (by simp [c1])
   simp only [c1, if_true]
   by_cases c2 : (a.f2.size : Int) > 200
   · simp only [if_pos c2]
     exact join true (by simp [show ¬ (a.f2.size : Int) ≤ 200 by omega])
   simp only [if_neg c2]
   have c2' : (a.f2.size : Int) ≤ 200 := by omega
   have tail : (a.f1 = true → bl a.f2 = []) → Ev (fun n => if 0 ≤ a.f3 ∧ a.f3 ≤ 99999 then ((spec_PropsOk.f n a.f4).bind fun t588 => spec_TreeOk.j1 n t (pre.length : Int) (!t588) a.f0 a.f1 a.f2 a.f3 a.f4) else spec_TreeOk.j1 n t (pre.length : Int) true a.f0 a.f1 a.f2 a.f3 a.f4) (treeL t pre.getLast? (a :: suf) && decide ((t.length : Int) ≤ 12)) := by
    intro c5
    by_cases c3 : 0 ≤ a.f3 ∧ a.f3 ≤ 99999
    · simp only [if_pos c3]
      refine Ev.bind (specPropsOk g4) ?_
      refine join _ ?_
      simp only [ne_eq, c0, not_false_eq_true, decide_true, c1, c2', c3, and_self, Bool.true_and, decide_eq_true c5]
    · simp only [if_neg c3]
      exact join true (by simp only [c3, decide_false, Bool.false_and, Bool.and_false, Bool.not_false])
   by_cases c4 : a.f1 = true
   · simp only [c4, if_true] at tail join ⊢
     by_cases c5 : bl a.f2 = []
     · simp only [if_pos c5]
       exact tail (fun _ => c5)
     · simp only [if_neg c5]
       exact join true (by simp [c5])
   · simp only [c4, Bool.false_eq_true, if_false] at tail join ⊢
     exact tail (fun h => h.elim)
 exact key t [] rfl
theorem implTreeOk {t : List S57} (ht : SmRess t) : Ev (fun k => impl_TreeOk.f k t) (treeOk t) := by
 have hl : t.length ≤ maxLen := by have := ht.1; rw [maxLen_eq]; omega
 have key : ∀ (suf pre : List S57), t = pre ++ suf → Ev (fun k => impl_TreeOk.l0 k t t (t.length : Int) pre.length) (treeL t pre.getLast? suf && decide ((t.length : Int) ≤ 12)) := by
  intro suf
  induction suf with
  | nil =>
   intro pre h
   refine Ev.step (fun k => impl_TreeOk.l0.eq_2 ..) ?_
   simp only [if_neg (end_at h), treeL, Bool.true_and]
   exact Ev.now _
  | cons a suf ih =>
   intro pre h
   have hn := ih (pre ++ [a]) (snoc_at h)
   rw [List.getLast?_append] at hn
   simp only [List.getLast?_singleton, Option.some_or] at hn
   have ha := ht.2 a (by rw [h]; simp)
   have g0 := ha.1
   refine Ev.step (fun k => impl_TreeOk.l0.eq_2 ..) ?_
   simp only [if_pos (lt_at h), if_pos (nonneg_at _), rd_implRes h]
   refine Ev.bind (implResOk ha) ?_
   simp only [treeL]
   by_cases c0 : resOk a = true
   rotate_left
   · simp only [c0, Bool.false_eq_true, if_false, Bool.false_and]; exact Ev.now _
   simp only [c0, if_true, Bool.true_and]
   have fin : Ev (fun n => (impl_Above.f a.f0).bind fun t593 => (impl_IsColl.f n t t593).bind fun t596 => if t596 = true then impl_TreeOk.l0 n t t (t.length : Int) (wrap64 ((pre.length : Int) + 1)) else some false) (isColl t (above a.f0) && treeL t (some a) suf && decide ((t.length : Int) ≤ 12)) := by
    simp only [implAbove g0.1, Option.bind_some]
    refine Ev.bind (implIsColl ht) ?_
    by_cases c2 : isColl t (above a.f0) = true
    · simp only [c2, if_true, Bool.true_and, next_at h hl]; exact hn
    · simp only [c2, Bool.false_eq_true, if_false, Bool.false_and]; exact Ev.now _
   rcases List.eq_nil_or_concat pre with rfl | ⟨pre', b', rfl⟩
   · simp only [List.length_nil, Int.natCast_zero, show ¬ (0 : Int) > 0 by omega, if_false, List.getLast?_nil, Bool.true_and]
     exact fin
   · rw [List.concat_eq_append] at h hn fin ⊢
     have hp := pred_at h hl
     have h2 : t = pre' ++ b' :: (a :: suf) := by rw [h]; simp
     have hb' := (ht.2 b' (by rw [h]; simp)).1.1
     simp only [show (((pre' ++ [b']).length : Nat) : Int) > 0 by first | (simp; done) | (simp; omega), if_true, hp, if_pos (nonneg_at _), if_pos (lt_at h2), rd_implRes h2, List.getLast?_append, List.getLast?_singleton, Option.some_or]
     refine Ev.bind (implLess (by rw [maxLen_eq]; omega)) ?_
     by_cases c1 : lessP b'.f0 a.f0 = true
     · simp only [c1, if_true, Bool.true_and]
       exact fin
     · simp only [c1, Bool.false_eq_true, if_false, Bool.false_and]
       exact Ev.now _
 exact key t [] rfl
end Go.Proofs.Ytbgggcgjijljkaa.L

/- Is a path under another one; as the program and the reference have it. No condition. -/
set_option linter.unusedSimpArgs false
set_option linter.unusedVariables false
namespace Go.Proofs.Ytbgggcgjijljkaa.L
open Go.RowKit Go.Proofs.YtbgggcgjijljkaaW.PrintWords Go.Proofs.YtbgggcgjijljkaaW.PrintLast Go.Proofs.Ytbgggcgjijljkaa.Q
end Go.Proofs.Ytbgggcgjijljkaa.L

/- What turns shelves: copies, what is left without a thing, the first code, Remove; as the program and the reference have it. No condition. -/
set_option linter.unusedSimpArgs false
set_option linter.unusedVariables false
namespace Go.Proofs.Ytbgggcgjijljkaa.L
open Go.RowKit Go.Proofs.YtbgggcgjijljkaaW.PrintWords Go.Proofs.YtbgggcgjijljkaaW.PrintLast Go.Proofs.Ytbgggcgjijljkaa.Q
theorem implCopyRes {a : S57} (ha : SmRes a) : impl_copyRes.f a.f0 a.f1 a.f2 a.f3 a.f4 = some (a.f0, a.f1, a.f2, a.f3, a.f4) := by
 have ha0 := ha.1.1
 have ha4 := ha.2.2.2.2.1
 unfold impl_copyRes.f
 simp only [implCopyPath ha0, Option.bind_some, List.length_nil, Nat.zero_add, List.nil_append]
 rw [if_pos (by omega)]
theorem specCopyRes {a : S57} (ha : SmRes a) : spec_l10Copy.f a.f0 a.f1 a.f2 a.f3 a.f4 = some (a.f0, a.f1, a.f2, a.f3, a.f4) := by
 have ha0 := ha.1.1
 have ha4 := ha.2.2.2.2.1
 unfold spec_l10Copy.f
 simp only [Option.bind_some, List.length_nil, Nat.zero_add, List.nil_append]
 rw [if_pos (by omega), if_pos (by omega)]
theorem implCopyTree {t : List S57} (ht : SmRess t) : Ev (fun k => impl_copyTree.f k t) t := by
 have hl0 := ht.1
 have hl : t.length ≤ maxLen := by rw [maxLen_eq]; omega
 have key : ∀ (suf pre out : List S57), t = pre ++ suf → out.length ≤ pre.length → Ev (fun k => impl_copyTree.l0 k out t (t.length : Int) pre.length) (out ++ suf) := by
  intro suf
  induction suf with
  | nil =>
   intro pre out h ho
   refine Ev.step (fun k => impl_copyTree.l0.eq_2 ..) ?_
   simp only [if_neg (end_at h), List.append_nil]
   exact Ev.now _
  | cons a suf ih =>
   intro pre out h ho
   have hpl : pre.length ≤ 1048576 := by have : t.length = pre.length + (suf.length + 1) := by rw [h]; simp
                                         omega
   have ha := ht.2 a (by rw [h]; simp)
   refine Ev.step (fun k => impl_copyTree.l0.eq_2 ..) ?_
   simp only [if_pos (lt_at h), if_pos (nonneg_at _), rd_implRes h, next_at h hl, implCopyRes ha, Option.bind_some, show out.length < 1759218604441 by omega, if_true]
   exact ev_cast (ih (pre ++ [a]) _ (snoc_at h) (by simp; omega)) (by simp)
 exact key t [] [] rfl (by simp)
theorem specCopyAll {t : List S57} (ht : SmRess t) : Ev (fun k => spec_l10CopyAll.f k t) t := by
 have hl0 := ht.1
 have hl : t.length ≤ maxLen := by rw [maxLen_eq]; omega
 have key : ∀ (suf pre out : List S57), t = pre ++ suf → out.length ≤ pre.length → Ev (fun k => spec_l10CopyAll.l0 k t out pre.length) (out ++ suf) := by
  intro suf
  induction suf with
  | nil =>
   intro pre out h ho
   refine Ev.step (fun k => spec_l10CopyAll.l0.eq_2 ..) ?_
   simp only [if_neg (end_at h), List.append_nil]
   exact Ev.now _
  | cons a suf ih =>
   intro pre out h ho
   have hpl : pre.length ≤ 1048576 := by have : t.length = pre.length + (suf.length + 1) := by rw [h]; simp
                                         omega
   have ha := ht.2 a (by rw [h]; simp)
   refine Ev.step (fun k => spec_l10CopyAll.l0.eq_2 ..) ?_
   simp only [if_pos (lt_at h), if_pos (nonneg_at _), rd_implRes h, next_at h hl, specCopyRes ha, Option.bind_some, show out.length < 1759218604441 by omega, if_true]
   exact ev_cast (ih (pre ++ [a]) _ (snoc_at h) (by simp; omega)) (by simp)
 exact key t [] [] rfl (by simp)
def mayC (t : List S57) (ps : List (List ByteArray)) (ver : Int) : Int := if treeOk t = true then (if ps.all pathOk = true then (if 0 ≤ ver ∧ ver ≤ 99999 then 0 else 507) else 400) else 500
theorem specMay {t : List S57} {p : List ByteArray} {ver : Int} (ht : SmRess t) (hp : SmS p) : Ev (fun k => spec_l11May.f k t p ver) (mayC t [p] ver) := by
 unfold spec_l11May.f mayC
 refine Ev.bind (specTreeOk ht) ?_
 by_cases c0 : treeOk t = true
 · simp only [if_pos c0, List.all_cons, List.all_nil, Bool.and_true]
   refine Ev.bind (specPathOk hp) ?_
   by_cases c1 : pathOk p = true
   · simp only [if_pos c1, specIn, Option.bind_some, decide_eq_true_eq]
     by_cases c2 : 0 ≤ ver ∧ ver ≤ 99999
     · simp only [if_pos c2]; exact Ev.now _
     · simp only [if_neg c2]; exact Ev.now _
   · simp only [if_neg c1]; exact Ev.now _
 · simp only [if_neg c0]; exact Ev.now _
theorem implMay {t : List S57} {ps : List (List ByteArray)} {ver : Int} (ht : SmRess t) (hn : ps.length ≤ 2) (hp : ∀ p ∈ ps, SmS p) : Ev (fun k => impl_opForm.f k t ver ps) (mayC t ps ver) := by
 have hl : ps.length ≤ maxLen := by rw [maxLen_eq]; omega
 unfold impl_opForm.f mayC
 refine Ev.bind (implTreeOk ht) ?_
 by_cases c0 : treeOk t = true
 · simp only [if_pos c0]
   have key : ∀ (suf pre : List (List ByteArray)), ps = pre ++ suf → Ev (fun k => impl_opForm.l0 k ver ps (ps.length : Int) pre.length) (if suf.all pathOk = true then (if 0 ≤ ver ∧ ver ≤ 99999 then 0 else 507) else 400) := by
    intro suf
    induction suf with
    | nil =>
     intro pre h
     refine Ev.step (fun k => impl_opForm.l0.eq_2 ..) ?_
     simp only [if_neg (end_at h), List.all_nil, if_true, implIn, Option.bind_some, decide_eq_true_eq]
     by_cases c2 : 0 ≤ ver ∧ ver ≤ 99999
     · simp only [if_pos c2]; exact Ev.now _
     · simp only [if_neg c2]; exact Ev.now _
    | cons a suf ih =>
     intro pre h
     refine Ev.step (fun k => impl_opForm.l0.eq_2 ..) ?_
     simp only [if_pos (lt_at h), if_pos (nonneg_at _), show rd_L2 ps ((pre.length : Nat) : Int) = a from getD_at _ h, List.all_cons, next_at h hl]
     refine Ev.bind (implPathOk (hp a (by rw [h]; simp))) ?_
     by_cases c1 : pathOk a = true
     · simp only [c1, if_true, Bool.true_and]; exact ih (pre ++ [a]) (snoc_at h)
     · simp only [c1, Bool.false_eq_true, if_false, Bool.false_and]; exact Ev.now _
   exact key ps [] rfl
 · simp only [if_neg c0]; exact Ev.now _
end Go.Proofs.Ytbgggcgjijljkaa.L

/- A thing put in its place, a shelf made; as the program and the reference have it. No condition. -/
set_option linter.unusedSimpArgs false
set_option linter.unusedVariables false
namespace Go.Proofs.Ytbgggcgjijljkaa.L
open Go.RowKit Go.Proofs.YtbgggcgjijljkaaW.PrintWords Go.Proofs.YtbgggcgjijljkaaW.PrintLast Go.Proofs.Ytbgggcgjijljkaa.Q
def putAt (x : S57) : List S57 → List S57
 | [] => [x]
 | a :: t => if lessP a.f0 x.f0 = true then a :: putAt x t else x :: a :: t
theorem putAt_length (x : S57) : ∀ t : List S57, (putAt x t).length = t.length + 1
 | [] => rfl
 | a :: t => by
  unfold putAt
  by_cases c : lessP a.f0 x.f0 = true
  · simp only [if_pos c, List.length_cons, putAt_length x t]
  · simp only [if_neg c, List.length_cons]
theorem putAt_mem (x : S57) : ∀ (t : List S57) (b : S57), b ∈ putAt x t → b = x ∨ b ∈ t
 | [], b, h => by simpa [putAt] using h
 | a :: t, b, h => by
  unfold putAt at h
  by_cases c : lessP a.f0 x.f0 = true
  · simp only [if_pos c, List.mem_cons] at h
    rcases h with rfl | h
    · exact .inr (by simp)
    · rcases putAt_mem x t b h with h | h
      · exact .inl h
      · exact .inr (by simp [h])
  · simp only [if_neg c, List.mem_cons] at h
    rcases h with h | h | h
    · exact .inl h
    · exact .inr (by simp [h])
    · exact .inr (by simp [h])
theorem implWithRes {t : List S57} {x : S57} (ht : SmRess t) : Ev (fun k => impl_withRes.f k t x.f0 x.f1 x.f2 x.f3 x.f4) (putAt x t) := by
 have hl0 := ht.1
 have hl : t.length ≤ maxLen := by rw [maxLen_eq]; omega
 have key : ∀ (suf pre : List S57), t = pre ++ suf → Ev (fun k => impl_withRes.l0 k t pre.length x.f0 x.f1 x.f2 x.f3 x.f4) (pre ++ putAt x suf) := by
  intro suf
  induction suf with
  | nil =>
   intro pre h
   have h1 : t.take ((pre.length : Nat) : Int).toNat = pre := by rw [h]; simp
   have h2 : t.drop ((pre.length : Nat) : Int).toNat = [] := by rw [h]; simp
   have hp : pre.length = t.length := by rw [h]; simp
   refine Ev.step (fun k => impl_withRes.l0.eq_2 ..) ?_
   simp only [if_neg (end_at h), if_pos (nonneg_at _), if_pos (show ((pre.length : Nat) : Int) ≤ (t.length : Int) by omega), h1, h2, Option.bind_some, List.length_nil, Nat.zero_add, List.nil_append, if_pos (show pre.length < 1759218604441 by omega), List.length_singleton, if_pos (show pre.length + 1 < 1759218604441 by omega), List.length_append, Nat.add_zero, List.append_nil]
   exact Ev.now _
  | cons a suf ih =>
   intro pre h
   have hpl : t.length = pre.length + (suf.length + 1) := by rw [h]; simp
   have h1 : t.take ((pre.length : Nat) : Int).toNat = pre := by rw [h]; simp
   have h2 : t.drop ((pre.length : Nat) : Int).toNat = a :: suf := by rw [h]; simp
   have ha0 := (ht.2 a (by rw [h]; simp)).1.1
   refine Ev.step (fun k => impl_withRes.l0.eq_2 ..) ?_
   simp only [if_pos (lt_at h), if_pos (nonneg_at _), rd_implRes h, next_at h hl]
   refine Ev.bind (implLess (by rw [maxLen_eq]; omega)) ?_
   by_cases c : lessP a.f0 x.f0 = true
   · simp only [c, if_true]
     exact ev_cast (ih (pre ++ [a]) (snoc_at h)) (by simp [putAt, c])
   · simp only [c, Bool.false_eq_true, if_false, if_pos (show ((pre.length : Nat) : Int) ≤ (t.length : Int) by omega), h1, h2, Option.bind_some, List.length_nil, Nat.zero_add, List.nil_append, if_pos (show pre.length < 1759218604441 by omega), List.length_singleton, if_pos (show pre.length + 1 < 1759218604441 by omega), List.length_append, List.length_cons, if_pos (show pre.length + 1 + (suf.length + 1) < 1759218604441 by omega)]
     exact ev_cast (Ev.now _) (by simp [putAt, c])
 exact key t [] rfl
def putS (x : S57) : Bool → List S57 → List S57
 | d, [] => if d = true then [] else [x]
 | d, a :: t => (if d = true then [] else if lessP a.f0 x.f0 = true then [] else [x]) ++ (if a.f0 = x.f0 then [] else [a]) ++ putS x (d || !lessP a.f0 x.f0) t
theorem specPut {t : List S57} {x : S57} (ht : SmRess t) (hx : SmRes x) : Ev (fun k => spec_l11Put.f k t x.f0 x.f1 x.f2 x.f3 x.f4) (putS x false t) := by
 have hl0 := ht.1
 have hl : t.length ≤ maxLen := by rw [maxLen_eq]; omega
 have key : ∀ (suf pre out : List S57) (d : Bool), t = pre ++ suf → out.length ≤ 2 * pre.length → Ev (fun k => spec_l11Put.l0 k t out d pre.length x.f0 x.f1 x.f2 x.f3 x.f4) (out ++ putS x d suf) := by
  intro suf
  induction suf with
  | nil =>
   intro pre out d h ho
   have hp : pre.length = t.length := by rw [h]; simp
   refine Ev.step (fun k => spec_l11Put.l0.eq_2 ..) ?_
   simp only [if_neg (end_at h), putS]
   by_cases c : d = true
   · simp only [if_pos c, List.append_nil]; exact Ev.now _
   · simp only [if_neg c, specCopyRes hx, Option.bind_some, show out.length < 1759218604441 by omega, if_true]; exact Ev.now _
  | cons a suf ih =>
   intro pre out d h ho
   have hpl : t.length = pre.length + (suf.length + 1) := by rw [h]; simp
   have ha := ht.2 a (by rw [h]; simp)
   have ha0 := ha.1.1
   have hj2 : ∀ (o : List S57) (d' : Bool), o.length ≤ 2 * pre.length + 1 → Ev (fun k => spec_l11Put.j2 k t o d' pre.length x.f0 x.f1 x.f2 x.f3 x.f4) (o ++ ((if a.f0 = x.f0 then [] else [a]) ++ putS x d' suf)) := by
    intro o d' ho'
    refine Ev.step (fun k => spec_l11Put.j2.eq_2 ..) ?_
    simp only [if_pos (lt_at h), if_pos (nonneg_at _), rd_implRes h, next_at h hl, specCopyRes ha, Option.bind_some]
    refine Ev.bind (specSame (by rw [maxLen_eq]; omega)) ?_
    by_cases c : a.f0 = x.f0
    · simp only [c, decide_true, if_true, List.nil_append]
      exact ih (pre ++ [a]) o d' (snoc_at h) (by simp; omega)
    · simp only [c, decide_false, Bool.false_eq_true, if_false, show o.length < 1759218604441 by omega, if_true]
      exact ev_cast (ih (pre ++ [a]) (o ++ [a]) d' (snoc_at h) (by simp; omega)) (by simp)
   have hj1 : ∀ b : Bool, Ev (fun k => spec_l11Put.j1 k t out d pre.length b x.f0 x.f1 x.f2 x.f3 x.f4) (out ++ ((if b = true then [x] else []) ++ ((if a.f0 = x.f0 then [] else [a]) ++ putS x (d || b) suf))) := by
    intro b
    refine Ev.step (fun k => spec_l11Put.j1.eq_2 ..) ?_
    by_cases c : b = true
    · subst c
      simp only [if_true, specCopyRes hx, Option.bind_some, show out.length < 1759218604441 by omega, Bool.or_true]
      exact ev_cast (hj2 (out ++ [x]) true (by simp; omega)) (by simp)
    · have c' : b = false := by simpa using c
      subst c'
      simp only [Bool.false_eq_true, if_false, List.nil_append, Bool.or_false]
      exact hj2 out d (by omega)
   refine Ev.step (fun k => spec_l11Put.l0.eq_2 ..) ?_
   simp only [if_pos (lt_at h), if_pos (nonneg_at _), rd_implRes h, putS]
   by_cases c : d = true
   · subst c
     simp only [if_true]
     exact ev_cast (hj1 false) (by simp)
   · have c' : d = false := by simpa using c
     subst c'
     simp only [Bool.false_eq_true, if_false]
     refine Ev.bind (specLess (by rw [maxLen_eq]; omega)) ?_
     refine ev_cast (hj1 (!lessP a.f0 x.f0)) ?_
     by_cases c2 : lessP a.f0 x.f0 = true
     · simp [c2]
     · simp [c2]
 exact key t [] [] false rfl (by simp)
theorem putS_done {x : S57} : ∀ {t : List S57}, (∀ r ∈ t, r.f0 ≠ x.f0) → putS x true t = t
 | [], _ => by simp [putS]
 | a :: t, h => by
  have h0 := h a (by simp)
  have ih := putS_done (x := x) (t := t) (fun r hr => h r (by simp [hr]))
  simp [putS, h0, ih]
theorem putS_new {x : S57} : ∀ {t : List S57}, (∀ r ∈ t, r.f0 ≠ x.f0) → putS x false t = putAt x t
 | [], _ => by simp [putS, putAt]
 | a :: t, h => by
  have h0 := h a (by simp)
  have hr := fun r hr => h r (List.mem_cons_of_mem a hr)
  have ih := putS_new (x := x) (t := t) hr
  have id := putS_done (x := x) (t := t) hr
  by_cases c : lessP a.f0 x.f0 = true
  · simp [putS, putAt, h0, ih, c]
  · simp [putS, putAt, h0, id, c]
theorem find_none {t : List S57} {p : List ByteArray} (h : findR t p < 0) : ∀ r ∈ t, r.f0 ≠ p := by
 rcases findFrom_cases p t 0 with ⟨_, h2⟩ | ⟨j, r, h1, _⟩
 · exact h2
 · unfold findR at h; rw [h1] at h; omega
end Go.Proofs.Ytbgggcgjijljkaa.L

/- Paths, one ahead of the other: an order; right shelves stand in it. No condition. -/
set_option linter.unusedSimpArgs false
set_option linter.unusedVariables false
namespace Go.Proofs.Ytbgggcgjijljkaa.L
open Go.RowKit Go.Proofs.YtbgggcgjijljkaaW.PrintWords Go.Proofs.YtbgggcgjijljkaaW.PrintLast Go.Proofs.Ytbgggcgjijljkaa.Q
theorem bytesLess_trans : ∀ {x y z : List UInt8}, Op.bytesLess x y = true → Op.bytesLess y z = true → Op.bytesLess x z = true
 | _, _, [], _, h => by cases ‹List UInt8› <;> simp [Op.bytesLess] at h
 | [], _, _ :: _, _, _ => by simp [Op.bytesLess]
 | _ :: _, [], _ :: _, h, _ => by simp [Op.bytesLess] at h
 | a :: x, b :: y, c :: z, h, h' => by
  simp only [Op.bytesLess, Bool.or_eq_true, Bool.and_eq_true, decide_eq_true_eq, beq_iff_eq] at h h' ⊢
  rcases h with h | ⟨rfl, h⟩
  · rcases h' with h' | ⟨rfl, _⟩
    · exact .inl (UInt8.lt_trans h h')
    · exact .inl h
  · rcases h' with h' | ⟨rfl, h'⟩
    · exact .inl h'
    · exact .inr ⟨rfl, bytesLess_trans h h'⟩
theorem lessP_irrefl : ∀ a : List ByteArray, lessP a a = false
 | [] => rfl
 | x :: a => by simp [lessP, lessP_irrefl a]
theorem lessP_trans : ∀ {a b c : List ByteArray}, lessP a b = true → lessP b c = true → lessP a c = true
 | [], [], _, h, _ => by simp [lessP] at h
 | [], _ :: _, [], _, h => by simp [lessP] at h
 | [], _ :: _, _ :: _, _, _ => by simp [lessP]
 | _ :: _, [], _, h, _ => by simp [lessP] at h
 | _ :: _, _ :: _, [], _, h => by simp [lessP] at h
 | x :: a, y :: b, z :: c, h, h' => by
  simp only [lessP] at h h' ⊢
  by_cases e : x = y
  · subst e
    by_cases e' : x = z
    · subst e'
      simp only [if_true] at h h' ⊢
      exact lessP_trans h h'
    · rw [if_neg e'] at h' ⊢
      exact h'
  · rw [if_neg e] at h
    by_cases e' : y = z
    · subst e'
      rw [if_neg e]
      exact h
    · rw [if_neg e'] at h'
      have ht := bytesLess_trans h h'
      by_cases e2 : x = z
      · subst e2
        rw [bytesLess_irrefl] at ht
        cases ht
      · rw [if_neg e2]
        exact ht
theorem lessP_ne {a b : List ByteArray} (h : lessP a b = true) : a ≠ b := by
 intro e
 rw [e, lessP_irrefl] at h
 cases h
theorem treeL_pair (t : List S57) : ∀ (l : List S57) (q : Option S57), treeL t q l = true → (match q with | none => True | some q => ∀ r ∈ l, lessP q.f0 r.f0 = true) ∧ l.Pairwise (fun a b => lessP a.f0 b.f0 = true)
 | [], q, _ => by cases q <;> simp
 | r :: l, q, h => by
  simp only [treeL, Bool.and_eq_true] at h
  obtain ⟨_, h1, _, h2⟩ := h
  obtain ⟨h3, h4⟩ := treeL_pair t l (some r) h2
  simp only at h3
  refine ⟨?_, List.pairwise_cons.2 ⟨h3, h4⟩⟩
  cases q with
  | none => trivial
  | some q =>
   intro x hx
   simp only at h1
   rcases List.mem_cons.1 hx with rfl | hx
   · exact h1
   · exact lessP_trans h1 (h3 x hx)
theorem treeOk_pair {t : List S57} (h : treeOk t = true) : t.Pairwise (fun a b => lessP a.f0 b.f0 = true) := by
 unfold treeOk at h
 exact (treeL_pair t t none (Bool.and_eq_true_iff.1 h).1).2
theorem putS_at {x r : S57} (e : r.f0 = x.f0) {suf : List S57} : ∀ {pre : List S57}, (pre ++ r :: suf).Pairwise (fun a b => lessP a.f0 b.f0 = true) → putS x false (pre ++ r :: suf) = pre ++ x :: suf
 | [], h => by
  have h1 := (List.pairwise_cons.1 h).1
  have hd := putS_done (x := x) (t := suf) (fun a ha => by rw [← e]; exact (lessP_ne (h1 a ha)).symm)
  simp [putS, e, lessP_irrefl, hd]
 | a :: pre, h => by
  have h1 := (List.pairwise_cons.1 h).1
  have h2 : lessP a.f0 x.f0 = true := by rw [← e]; exact h1 r (by simp)
  have ih := putS_at (x := x) e (List.pairwise_cons.1 h).2
  simp [putS, h2, lessP_ne h2, ih]
end Go.Proofs.Ytbgggcgjijljkaa.L

/- A text put; as the program and the reference have it. No condition. -/
set_option linter.unusedSimpArgs false
set_option linter.unusedVariables false
namespace Go.Proofs.Ytbgggcgjijljkaa.L
open Go.RowKit Go.Proofs.YtbgggcgjijljkaaW.PrintWords Go.Proofs.YtbgggcgjijljkaaW.PrintLast Go.Proofs.Ytbgggcgjijljkaa.Q
theorem find_at {t : List S57} {p : List ByteArray} (h : ¬ findR t p < 0) : ∃ pre r suf, t = pre ++ r :: suf ∧ findR t p = (pre.length : Int) ∧ r.f0 = p := by
 rcases findFrom_cases p t 0 with ⟨h1, _⟩ | ⟨j, r, h1, h2, h3, _⟩
 · unfold findR at h; rw [h1] at h; exact absurd (by decide) h
 · refine ⟨t.take j, r, t.drop (j + 1), ?_, ?_, h3⟩
   · have hj := (List.getElem?_eq_some_iff.1 h2).1
     have he : t[j] = r := (List.getElem?_eq_some_iff.1 h2).2
     rw [← he, List.getElem_cons_drop, List.take_append_drop]
   · have hj := (List.getElem?_eq_some_iff.1 h2).1
     unfold findR; rw [h1, List.length_take]; omega
def newFile (p : List ByteArray) (body : ByteArray) (ver : Int) : S57 := ⟨p, false, body, ver, []⟩
def putFR (t : List S57) (p : List ByteArray) (body : ByteArray) (ver : Int) : List S57 × Int :=
 if mayC t [p] ver = 0 then (if isColl t p = true then (t, 405) else if isColl t (above p) = true then (if (body.size : Int) > 200 then (t, 413) else
  if findR t p < 0 then (if (t.length : Int) ≥ 12 then (t, 507) else (putAt (newFile p body ver) t, 201))
  else (t.set (findR t p).toNat ⟨(t.getD (findR t p).toNat z57).f0, (t.getD (findR t p).toNat z57).f1, body, ver, (t.getD (findR t p).toNat z57).f4⟩, 204)) else (t, 409)) else (t, mayC t [p] ver)
theorem newFile_sm {p : List ByteArray} {body : ByteArray} {ver : Int} (hp : SmS p) (hb : body.size ≤ 1048576) (hv : IntOk ver) : SmRes (newFile p body ver) := ⟨hp, trivial, hb, hv, by show (0 : Nat) ≤ 1048576; omega, fun _ h => by cases h⟩
theorem putF_sm {p : List ByteArray} {t : List S57} {body : ByteArray} {ver : Int} (ht : SmRess t) (hp : SmS p) (hb : body.size ≤ 1048576) (hv : IntOk ver) : SmRess (putFR t p body ver).1 := by
 unfold putFR
 repeat' split
 all_goals first | exact ht | skip
 · refine ⟨by rw [putAt_length]; omega, fun r hr => ?_⟩
   rcases putAt_mem _ _ _ hr with rfl | hr
   · exact newFile_sm hp hb hv
   · exact ht.2 r hr
 · rename_i hn
   obtain ⟨pre, r, suf, e, f, _⟩ := find_at hn
   have hg : t.getD (findR t p).toNat z57 = r := by rw [f]; exact getD_at _ e
   rw [hg, f, set_at e]
   have hr := ht.2 r (by rw [e]; simp)
   refine ⟨by have := ht.1; rw [e] at this; simpa using this, fun x hx => ?_⟩
   simp only [List.append_assoc, List.cons_append, List.nil_append, List.mem_append, List.mem_cons] at hx
   rcases hx with hx | rfl | hx
   · exact ht.2 x (by rw [e]; simp [hx])
   · exact ⟨hr.1, trivial, hb, hv, hr.2.2.2.2⟩
   · exact ht.2 x (by rw [e]; simp [hx])
theorem mayC_tree {t : List S57} {ps : List (List ByteArray)} {ver : Int} (h : mayC t ps ver = 0) : treeOk t = true := by
 unfold mayC at h
 by_cases c : treeOk t = true
 · exact c
 · rw [if_neg c] at h; omega
theorem specPutF {t : List S57} {p : List ByteArray} {body : ByteArray} {ver : Int} (ht : SmRess t) (hp : SmS p) (hb : body.size ≤ 1048576) (hv : IntOk ver) : Ev (fun k => spec_PutFileX.f k t p body ver) (putFR t p body ver) := by
 have hp0 := hp.1
 show Ev (fun k => spec_PutFile.f k t p body ver) _
 unfold spec_PutFile.f putFR
 refine Ev.bind (specMay ht hp) ?_
 refine Ev.bind (specFind ht) ?_
 have hc : ∀ c : Int, c ≠ 0 → Ev (fun k => spec_PutFile.j0 k t p body ver c (findR t p)) (t, c) := fun c h => by
  refine Ev.step (fun k => spec_PutFile.j0.eq_2 ..) ?_
  simp only [if_neg h]
  exact Ev.bind (specCopyAll ht) (Ev.now _)
 by_cases c0 : mayC t [p] ver = 0
 · simp only [c0, if_true]
   refine Ev.bind (specIsColl ht) ?_
   by_cases c1 : isColl t p = true
   · simp only [if_pos c1]; exact hc 405 (by decide)
   · simp only [if_neg c1, specAbove hp0, Option.bind_some]
     refine Ev.bind (specIsColl ht) ?_
     by_cases c3 : isColl t (above p) = true
     · simp only [if_pos c3]
       by_cases c4 : (body.size : Int) > 200
       · simp only [if_pos c4]; exact hc 413 (by decide)
       · simp only [if_neg c4]
         by_cases c5 : findR t p < 0
         · simp only [if_pos c5]
           by_cases c6 : (t.length : Int) ≥ 12
           · simp only [if_pos c6]; exact hc 507 (by decide)
           · simp only [if_neg c6]
             refine Ev.step (fun k => spec_PutFile.j0.eq_2 ..) ?_
             simp only [if_true, if_pos c5]
             have h1 := specPut (x := newFile p body ver) ht (newFile_sm hp hb hv)
             rw [putS_new (show ∀ r ∈ t, r.f0 ≠ (newFile p body ver).f0 from find_none (p := p) c5)] at h1
             exact Ev.bind h1 (Ev.now _)
         · simp only [if_neg c5]
           obtain ⟨pre, r, suf, e, f, hrp⟩ := find_at c5
           have hg : t.getD (findR t p).toNat z57 = r := by rw [f]; exact getD_at _ e
           have hr := ht.2 r (by rw [e]; simp)
           have hcoll : r.f1 = false := by
            have h2 : rd_T57 t (findR t p) = r := by rw [f]; exact rd_implRes e
            unfold isColl at c1
            rw [h2, decide_eq_true (show 0 ≤ findR t p by omega), Bool.true_and] at c1
            cases h3 : r.f1 with
            | false => rfl
            | true => rw [h3] at c1; simp at c1
           refine Ev.step (fun k => spec_PutFile.j0.eq_2 ..) ?_
           have h1 := specPut (x := (⟨p, false, body, ver, r.f4⟩ : S57)) ht ⟨hp, trivial, hb, hv, hr.2.2.2.2⟩
           have hord := treeOk_pair (mayC_tree c0)
           have h4 : putS (⟨p, false, body, ver, r.f4⟩ : S57) false t = (pre ++ [(⟨p, false, body, ver, r.f4⟩ : S57)]) ++ suf := by
            rw [e] at hord ⊢
            rw [putS_at (x := (⟨p, false, body, ver, r.f4⟩ : S57)) hrp hord]
            simp
           rw [h4] at h1
           simp only [if_true, if_neg c5, hg]
           rw [f]
           simp only [if_pos (nonneg_at _), if_pos (lt_at e), rd_implRes e, set_at e, hrp, hcoll]
           exact Ev.bind h1 (Ev.now _)
     · simp only [if_neg c3]; exact hc 409 (by decide)
 · simp only [if_neg c0]; exact hc _ c0
theorem implPutF {t : List S57} {p : List ByteArray} {body : ByteArray} {ver : Int} (ht : SmRess t) (hp : SmS p) : Ev (fun k => impl_PutFileX.f k t p body ver) (putFR t p body ver) := by
 have hp0 := hp.1
 show Ev (fun k => impl_PutFile.f k t p body ver) _
 unfold impl_PutFile.f putFR
 refine Ev.bind (implCopyTree ht) ?_
 refine Ev.bind (implMay ht (by simp) (fun q hq => by rw [List.mem_singleton.1 hq]; exact hp)) ?_
 by_cases c0 : mayC t [p] ver = 0
 · simp only [c0, if_true]
   refine Ev.bind (implFind ht) ?_
   refine Ev.bind (implIsColl ht) ?_
   by_cases c1 : isColl t p = true
   · simp only [if_pos c1]; exact Ev.now _
   · simp only [if_neg c1, implAbove hp0, Option.bind_some]
     refine Ev.bind (implIsColl ht) ?_
     by_cases c3 : isColl t (above p) = true
     · simp only [if_pos c3]
       by_cases c4 : (body.size : Int) > 200
       · simp only [if_pos c4]; exact Ev.now _
       · simp only [if_neg c4]
         by_cases c5 : findR t p < 0
         · simp only [if_pos c5, if_neg (show ¬ findR t p ≥ 0 by omega)]
           by_cases c6 : (t.length : Int) ≥ 12
           · simp only [if_pos c6]; exact Ev.now _
           · simp only [if_neg c6, implCopyPath hp0, Option.bind_some]
             exact Ev.bind (implWithRes (x := newFile p body ver) ht) (Ev.now _)
         · simp only [if_neg c5, if_pos (show findR t p ≥ 0 by omega)]
           obtain ⟨pre, r, suf, e, f, hrp⟩ := find_at c5
           have hg : t.getD (findR t p).toNat z57 = r := by rw [f]; exact getD_at _ e
           simp only [hg]
           rw [f]
           have e2 : ∀ y : S57, (pre ++ [y]) ++ suf = pre ++ y :: suf := fun y => by simp
           simp only [if_pos (nonneg_at _), if_pos (lt_at e), rd_implRes e, set_at e, Option.bind_some]
           simp only [rd_implRes (e2 _), set_at (e2 _)]
           exact Ev.now _
     · simp only [if_neg c3]; exact Ev.now _
 · simp only [if_neg c0]; exact Ev.now _
end Go.Proofs.Ytbgggcgjijljkaa.L

/- The laws' marks on lists of texts: what they write, and that it is found again. No condition. -/
set_option linter.unusedSimpArgs false
set_option linter.unusedVariables false
namespace Go.Proofs.Ytbgggcgjijljkaa.L
open Go.RowKit Go.Proofs.YtbgggcgjijljkaaW.PrintWords Go.Proofs.YtbgggcgjijljkaaW.PrintLast Go.Proofs.Ytbgggcgjijljkaa.Q
theorem strOfNums_size (n : Int) : (strOfNums [n]).size = 1 := rfl
theorem mark_loop : ∀ (d : Nat) (k : Nat) (i : Int) (s : ByteArray), 0 ≤ i → i < 10 ^ d → i < 9223372036854775808 → d < k → s.size + d + 1 ≤ 9223372036854775807 → ∃ t, laws_markText.l0 k i s = some t := by
 intro d
 induction d with
 | zero =>
  intro k i s h0 h1 hb hk hs
  obtain ⟨k, rfl⟩ : ∃ m, k = m + 1 := ⟨k - 1, by omega⟩
  simp only [laws_markText.l0]
  rw [if_neg (by simp at h1; omega), if_pos (by omega)]
  exact ⟨_, rfl⟩
 | succ d ih =>
  intro k i s h0 h1 hb hk hs
  obtain ⟨k, rfl⟩ : ∃ m, k = m + 1 := ⟨k - 1, by omega⟩
  simp only [laws_markText.l0, Option.bind_some]
  by_cases hi : i > 0
  · rw [if_pos hi, if_pos (by rw [strOfNums_size]; omega)]
    have hd : Int.tdiv i 10 = i / 10 := Int.tdiv_eq_ediv_of_nonneg h0
    have hq : 0 ≤ i / 10 ∧ i / 10 ≤ i := ⟨by omega, by omega⟩
    rw [hd, wrap_id (by omega) (by omega)]
    refine ih k _ _ hq.1 ?_ (by omega) (by omega) ?_
    · rw [Int.pow_succ] at h1; omega
    · rw [ByteArray.size_append, strOfNums_size]; omega
  · rw [if_neg hi, if_pos (by omega)]
    exact ⟨_, rfl⟩
theorem mark_some {i : Int} (h0 : 0 ≤ i) (h1 : i < 1152921504606846976) : ∃ t, ∀ k, 32 ≤ k → laws_markText.f k i = some t := by
 have h : ∃ t, laws_markText.f 32 i = some t := by
  unfold laws_markText.f
  by_cases e : i ≤ 0
  · rw [if_pos e]; exact ⟨_, rfl⟩
  · rw [if_neg e]
    exact mark_loop 19 32 i _ h0 (by omega) (by omega) (by omega) (by show 0 + 19 + 1 ≤ _; omega)
 obtain ⟨t, ht⟩ := h
 exact ⟨t, fun k hk => at_rounds (fun k => laws_markText.mono i k) hk ht⟩
noncomputable def mt (i : Int) : ByteArray := by
 classical
 exact if h : 0 ≤ i ∧ i < 1152921504606846976 then Classical.choose (mark_some h.1 h.2) else ⟨#[]⟩
theorem mt_spec {i : Int} (h0 : 0 ≤ i) (h1 : i < 1152921504606846976) {k : Nat} (hk : 32 ≤ k) : laws_markText.f k i = some (mt i) := by
 unfold mt
 rw [dif_pos ⟨h0, h1⟩]
 exact Classical.choose_spec (mark_some h0 h1) k hk
theorem mt_ev {i : Int} (h0 : 0 ≤ i) (h1 : i < 1152921504606846976) : Ev (fun k => laws_markText.f k i) (mt i) := ⟨32, fun _ hk => mt_spec h0 h1 hk⟩
noncomputable def marks : Nat → Int → List ByteArray
 | 0, _ => []
 | n + 1, i => mt i :: marks n (i + 1)
theorem marks_length (n : Nat) (i : Int) : (marks n i).length = n := by
 induction n generalizing i with
 | zero => rfl
 | succ n ih => simp [marks, ih]
theorem markS {l : List ByteArray} (hl : l.length ≤ 1048576) {a : Int} (h0 : 0 ≤ a) (h1 : a ≤ 70368744177664) : Ev (fun k => laws_markStringS.f k l a) (a + l.length, marks l.length a) := by
 have key : ∀ (suf pre : List ByteArray) (x : List ByteArray) (i : Int), x = pre ++ suf → x.length ≤ 1048576 → 0 ≤ i → i + suf.length ≤ 70368745226240 → Ev (fun k => laws_markStringS.l0 k x i pre.length) (i + suf.length, pre ++ marks suf.length i) := by
  intro suf
  induction suf with
  | nil =>
   intro pre x i h hx h0 h1
   refine Ev.step (fun k => laws_markStringS.l0.eq_2 ..) ?_
   simp only [if_neg (end_at h)]
   rw [List.append_nil] at h
   rw [h]
   simp only [List.length_nil, Int.natCast_zero, Int.add_zero, marks, List.append_nil]
   exact Ev.now _
  | cons b suf ih =>
   intro pre x i h hx h0 h1
   rw [List.length_cons] at h1
   refine Ev.step (fun k => laws_markStringS.l0.eq_2 ..) ?_
   simp only [if_pos (lt_at h)]
   refine Ev.bind (mt_ev h0 (by omega)) ?_
   simp only [if_pos (nonneg_at _), set_at h, next_at h (show x.length ≤ maxLen by rw [maxLen_eq]; omega), wrap_id (x := i + 1) (by omega) (by omega)]
   have := ih (pre ++ [mt i]) (pre ++ [mt i] ++ suf) (i + 1) rfl (by rw [h] at hx; simpa using hx) (by omega) (by omega)
   rw [show (pre ++ [b]).length = (pre ++ [mt i]).length by simp]
   refine ev_cast this ?_
   simp only [List.length_cons, marks, Prod.mk.injEq]
   exact ⟨by omega, by simp⟩
 have := key l [] l a rfl hl h0 (by omega)
 simpa [laws_markStringS.f] using this
theorem heldS {n : Nat} (hn : n ≤ 1048576) {a : Int} (h0 : 0 ≤ a) (h1 : a ≤ 70368744177664) : Ev (fun k => laws_heldStringS.f k (marks n a) a) (a + n) := by
 have key : ∀ (m : Nat) (pre x : List ByteArray) (i : Int), x = pre ++ marks m i → x.length ≤ 1048576 → 0 ≤ i → i + m ≤ 70368745226240 → Ev (fun k => laws_heldStringS.l0 k x i pre.length) (i + m) := by
  intro m
  induction m with
  | zero =>
   intro pre x i h hx h0 h1
   refine Ev.step (fun k => laws_heldStringS.l0.eq_2 ..) ?_
   simp only [if_neg (end_at h)]
   exact ev_cast (Ev.now _) (by simp)
  | succ m ih =>
   intro pre x i h hx h0 h1
   simp only [marks] at h
   refine Ev.step (fun k => laws_heldStringS.l0.eq_2 ..) ?_
   simp only [if_pos (lt_at h), if_pos (nonneg_at _)]
   refine Ev.bind (mt_ev h0 (by omega)) ?_
   simp only [rd_at _ h, if_true, next_at h (show x.length ≤ maxLen by rw [maxLen_eq]; omega), wrap_id (x := i + 1) (by omega) (by omega)]
   refine ev_cast (ih (pre ++ [mt i]) x (i + 1) (snoc_at h) hx (by omega) (by omega)) ?_
   omega
 exact key n [] _ a rfl (by rw [marks_length]; exact hn) h0 (by omega)
end Go.Proofs.Ytbgggcgjijljkaa.L

/- Marks that are found again: a loop that marks, a loop that looks. No condition. -/
set_option linter.unusedSimpArgs false
set_option linter.unusedVariables false
namespace Go.Proofs.Ytbgggcgjijljkaa.L
open Go.RowKit Go.Proofs.YtbgggcgjijljkaaW.PrintWords Go.Proofs.YtbgggcgjijljkaaW.PrintLast Go.Proofs.Ytbgggcgjijljkaa.Q
def MH {α : Type} (mk : Nat → List α → Int → Option (Int × List α)) (hd : Nat → List α → Int → Option Int) (l : List α) (i C : Int) : Prop :=
 ∃ n l', l'.length = l.length ∧ i ≤ n ∧ n ≤ i + C ∧ Ev (fun k => mk k l i) (n, l') ∧ Ev (fun k => hd k l' i) n
theorem mh_loop {α : Type} (mk : Nat → List α → Int → Int → Option (Int × List α)) (hd : Nat → List α → Int → Int → Option Int) (P : α → Prop) (C : Int) (hC : 0 ≤ C)
 (me : ∀ (x : List α) i, Ev (fun k => mk k x i x.length) (i, x)) (he : ∀ (y : List α) i, Ev (fun k => hd k y i y.length) i)
 (st : ∀ a i, P a → 0 ≤ i → i + C ≤ 70368744177664 → ∃ n a', i ≤ n ∧ n ≤ i + C ∧
  (∀ x pre suf, x = pre ++ a :: suf → x.length ≤ 1048576 → ∀ r, Ev (fun k => mk k (pre ++ a' :: suf) n ((pre ++ [a']).length : Int)) r → Ev (fun k => mk k x i (pre.length : Int)) r) ∧
  (∀ y pre suf, y = pre ++ a' :: suf → y.length ≤ 1048576 → ∀ r, Ev (fun k => hd k y n ((pre ++ [a']).length : Int)) r → Ev (fun k => hd k y i (pre.length : Int)) r)) :
 ∀ (suf : List α) (i : Int), (∀ a ∈ suf, P a) → 0 ≤ i → i + C * suf.length ≤ 70368744177664 → ∃ n suf', suf'.length = suf.length ∧ i ≤ n ∧ n ≤ i + C * suf.length ∧
  (∀ pre : List α, (pre ++ suf).length ≤ 1048576 → Ev (fun k => mk k (pre ++ suf) i pre.length) (n, pre ++ suf')) ∧ (∀ pre : List α, (pre ++ suf').length ≤ 1048576 → Ev (fun k => hd k (pre ++ suf') i pre.length) n) := by
 intro suf
 induction suf with
 | nil =>
  intro i _ h0 h1
  refine ⟨i, [], rfl, Int.le_refl _, by simp, fun pre _ => ?_, fun pre _ => ?_⟩
  · have := me pre i; simpa using this
  · have := he pre i; simpa using this
 | cons a suf ih =>
  intro i hP h0 h1
  have hm : C * ((a :: suf).length : Int) = C * suf.length + C := by rw [List.length_cons, Int.natCast_add, Int.mul_add]; simp
  have hp : 0 ≤ C * (suf.length : Int) := Int.mul_nonneg hC (Int.natCast_nonneg _)
  rw [hm] at h1 ⊢
  obtain ⟨n, a', hn0, hn1, hmk, hhd⟩ := st a i (hP a (by simp)) h0 (by omega)
  obtain ⟨n2, suf', hl, hn2, hn3, hmk2, hhd2⟩ := ih n (fun x hx => hP x (by simp [hx])) (by omega) (by omega)
  refine ⟨n2, a' :: suf', by simp [hl], by omega, by omega, fun pre hpre => ?_, fun pre hpre => ?_⟩
  · refine hmk _ pre suf rfl hpre _ ?_
    have := hmk2 (pre ++ [a']) (by simp at hpre ⊢; omega)
    simpa using this
  · refine hhd _ pre suf' rfl hpre _ ?_
    have := hhd2 (pre ++ [a']) (by simp at hpre ⊢; omega)
    simpa using this
theorem mhS {l : List ByteArray} (hl : l.length ≤ 1048576) {i : Int} (h0 : 0 ≤ i) (h1 : i + 1048576 ≤ 70368744177664) : MH laws_markStringS.f laws_heldStringS.f l i 1048576 := by
 refine ⟨i + l.length, marks l.length i, marks_length _ _, by omega, by omega, ?_, ?_⟩
 · exact markS hl h0 (by omega)
 · exact heldS hl h0 (by omega)
end Go.Proofs.Ytbgggcgjijljkaa.L

/- Marks on properties and shelves, found again. No condition. -/
set_option linter.unusedSimpArgs false
set_option linter.unusedVariables false
namespace Go.Proofs.Ytbgggcgjijljkaa.L
open Go.RowKit Go.Proofs.YtbgggcgjijljkaaW.PrintWords Go.Proofs.YtbgggcgjijljkaaW.PrintLast Go.Proofs.Ytbgggcgjijljkaa.Q
theorem mhProp {l : List S72} (hl : l.length ≤ 1048576) {i : Int} (h0 : 0 ≤ i) (h1 : i + 3145728 ≤ 70368744177664) : MH laws_markPropS.f laws_heldPropS.f l i 3145728 := by
 obtain ⟨n, l', e0, e1, e2, e3, e4⟩ := mh_loop (fun k x i j => laws_markPropS.l0 k x i j) (fun k x i j => laws_heldPropS.l0 k x i j) (fun _ => True) 3 (by omega)
  (fun x i => by
   refine Ev.step (fun k => laws_markPropS.l0.eq_2 ..) ?_
   simp only [Int.lt_irrefl, if_false]; exact Ev.now _)
  (fun x i => by
   refine Ev.step (fun k => laws_heldPropS.l0.eq_2 ..) ?_
   simp only [Int.lt_irrefl, if_false]; exact Ev.now _)
  (fun a i _ h0 h1 => by
   have w1 : wrap64 (i + 1) = i + 1 := wrap_id (by omega) (by omega)
   have w2 : wrap64 (i + 1 + 1) = i + 1 + 1 := wrap_id (by omega) (by omega)
   have w3 : wrap64 (i + 1 + 1 + 1) = i + 1 + 1 + 1 := wrap_id (by omega) (by omega)
   refine ⟨i + 1 + 1 + 1, ⟨mt i, mt (i + 1), mt (i + 1 + 1)⟩, by omega, by omega, fun x pre suf h hx r hr => ?_, fun y pre suf h hy r hr => ?_⟩
   · have hx2 : x.length ≤ maxLen := by rw [maxLen_eq]; omega
     refine Ev.step (fun k => laws_markPropS.l0.eq_2 ..) ?_
     simp only [if_pos (lt_at h)]
     refine Ev.bind (mt_ev h0 (by omega)) ?_
     simp only [if_pos (nonneg_at _), Option.bind_some, set_at h, rd_implProp h, w1]
     refine Ev.bind (mt_ev (by omega) (by omega)) ?_
     have h2 : pre ++ [⟨mt i, a.f1, a.f2⟩] ++ suf = pre ++ (⟨mt i, a.f1, a.f2⟩ : S72) :: suf := by simp
     simp only [Option.bind_some, set_at h2, rd_implProp h2, w2]
     refine Ev.bind (mt_ev (by omega) (by omega)) ?_
     have h3 : pre ++ [⟨mt i, mt (i + 1), a.f2⟩] ++ suf = pre ++ (⟨mt i, mt (i + 1), a.f2⟩ : S72) :: suf := by simp
     simp only [set_at h3, rd_implProp h3, w3, next_at h hx2]
     simpa using hr
   · have hy2 : y.length ≤ maxLen := by rw [maxLen_eq]; omega
     refine Ev.step (fun k => laws_heldPropS.l0.eq_2 ..) ?_
     simp only [if_pos (lt_at h), if_pos (nonneg_at _), rd_implProp h, w1, w2, w3]
     refine Ev.bind (mt_ev h0 (by omega)) ?_
     simp only [if_true]
     refine Ev.bind (mt_ev (by omega) (by omega)) ?_
     simp only [if_true]
     refine Ev.bind (mt_ev (by omega) (by omega)) ?_
     simp only [if_true, next_at h hy2]
     simpa using hr) l i (fun _ _ => trivial) h0 (by omega)
 refine ⟨n, l', e0, e1, by omega, ?_, ?_⟩
 · exact e3 [] (by simpa using hl)
 · exact e4 [] (by simp; omega)
theorem mhRes {l : List S57} (hl : SmRess l) {i : Int} (h0 : 0 ≤ i) (h1 : i + 4398050705408 ≤ 70368744177664) : MH laws_markResS.f laws_heldResS.f l i 4398050705408 := by
 have hl0 := hl.1
 obtain ⟨n, l', e0, e1, e2, e3, e4⟩ := mh_loop (fun k x i j => laws_markResS.l0 k x i j) (fun k x i j => laws_heldResS.l0 k x i j) SmRes 4194307 (by omega)
  (fun x i => by
   refine Ev.step (fun k => laws_markResS.l0.eq_2 ..) ?_
   simp only [Int.lt_irrefl, if_false]; exact Ev.now _)
  (fun x i => by
   refine Ev.step (fun k => laws_heldResS.l0.eq_2 ..) ?_
   simp only [Int.lt_irrefl, if_false]; exact Ev.now _)
  (fun a i ha h0 h1 => by
   obtain ⟨g0, _, _, _, g4⟩ := ha
   obtain ⟨n1, p', _, a1, a2, a3, a4⟩ := mhS g0.1 h0 (by omega)
   have w1 : wrap64 (n1 + 1) = n1 + 1 := wrap_id (by omega) (by omega)
   have w2 : wrap64 (n1 + 1 + 1) = n1 + 1 + 1 := wrap_id (by omega) (by omega)
   have w3 : wrap64 (n1 + 1 + 1 + 1) = n1 + 1 + 1 + 1 := wrap_id (by omega) (by omega)
   obtain ⟨n2, q', _, b1, b2, b3, b4⟩ := mhProp g4.1 (i := n1 + 1 + 1 + 1) (by omega) (by omega)
   refine ⟨n2, ⟨p', (n1.tmod 3 == 0), mt (n1 + 1), n1 + 1 + 1, q'⟩, by omega, by omega, fun x pre suf h hx r hr => ?_, fun y pre suf h hy r hr => ?_⟩
   · have hx2 : x.length ≤ maxLen := by rw [maxLen_eq]; omega
     refine Ev.step (fun k => laws_markResS.l0.eq_2 ..) ?_
     simp only [if_pos (lt_at h), if_pos (nonneg_at _), rd_implRes h]
     refine Ev.bind a3 ?_
     simp only [w1, w2, w3]
     refine Ev.bind (mt_ev (by omega) (by omega)) ?_
     refine Ev.bind b3 ?_
     simp only [set_at h, next_at h hx2]
     simpa using hr
   · have hy2 : y.length ≤ maxLen := by rw [maxLen_eq]; omega
     refine Ev.step (fun k => laws_heldResS.l0.eq_2 ..) ?_
     simp only [if_pos (lt_at h), if_pos (nonneg_at _), rd_implRes h]
     refine Ev.bind a4 ?_
     simp only [if_neg (show ¬ n1 < 0 by omega), bne_self_eq_false, Bool.false_eq_true, if_false, w1, w2, w3]
     refine Ev.bind (mt_ev (by omega) (by omega)) ?_
     simp only [if_true]
     refine Ev.bind b4 ?_
     simp only [if_neg (show ¬ n2 < 0 by omega), next_at h hy2]
     simpa using hr) l i hl.2 h0 (by omega)
 refine ⟨n, l', e0, e1, by omega, ?_, ?_⟩
 · exact e3 [] (by simpa using hl.1)
 · exact e4 [] (by simp; omega)
end Go.Proofs.Ytbgggcgjijljkaa.L

/- The law FnExactPutFile computes true: the program and the reference say the same, the arguments stay, and nothing is shared. No condition. -/
set_option linter.unusedSimpArgs false
set_option linter.unusedVariables false
namespace Go.Proofs.Ytbgggcgjijljkaa.Pure
open Go.RowKit Go.Proofs.YtbgggcgjijljkaaW.PrintWords Go.Proofs.YtbgggcgjijljkaaW.PrintLast Go.Proofs.Ytbgggcgjijljkaa.Q Go.Proofs.Ytbgggcgjijljkaa.L
theorem FnExactPutFile : ∀ (x0 : List (S79)) (x1 : List ByteArray) (x2 : ByteArray) (x3 : Int), (fun l : List (S79) => l.length ≤ maxLen ∧ ∀ a ∈ l, G79 a) x0 → (fun l : List ByteArray => l.length ≤ maxLen ∧ ∀ a ∈ l, (fun s : ByteArray => s.size ≤ maxLen) a) x1 → (fun s : ByteArray => s.size ≤ maxLen) x2 → (fun x : Int => (Lit.int .i64 x).wf = true) x3 → ∃ k, laws_FnExactPutFile.f k x0 x1 x2 x3 = some true := by
 intro x0 x1 x2 x3 g0 g1 g2 g3
 apply Ev.rounds
 unfold laws_FnExactPutFile.f
 have hm : ∀ m : Nat, m ≤ 1048576 → m ≤ maxLen := fun m h => by rw [maxLen_eq]; omega
 by_cases c2 : (x2.size : Int) > 1048576
 · simp only [if_pos c2]; exact Ev.now _
 simp only [if_neg c2]
 have s2 : x2.size ≤ 1048576 := by omega
 refine Sz.ev (szResS g0.1 g0.2 (n := 1048576) (by omega) (by omega)) (by simp only [show (-1 : Int) < 0 by omega, if_true]; exact Ev.now _) (fun m0 a0 b0 s0 => ?_)
 simp only [if_neg (show ¬ m0 < 0 by omega)]
 refine Sz.ev (szS g1.1 g1.2 (n := m0) (by omega) (by omega)) (by simp only [show (-1 : Int) < 0 by omega, if_true]; exact Ev.now _) (fun m1 a1 b1 s1 => ?_)
 simp only [if_neg (show ¬ m1 < 0 by omega)]
 have hd0 := putF_sm (p := x1) (body := x2) (ver := x3) s0 s1 s2 (wf_int g3)
 refine Ev.bind (toResS s0) ?_
 refine Ev.bind (toS (by have := s1.1; omega)) ?_
 refine Ev.bind (specPutF s0 s1 s2 (wf_int g3)) ?_
 refine Ev.bind (toResS s0) ?_
 refine Ev.bind (toS (by have := s1.1; omega)) ?_
 refine Ev.bind (implPutF s0 s1) ?_
 refine Ev.bind (eqResS hd0) ?_
 try simp only [eq_self, if_true, bne_self_eq_false, Bool.false_eq_true, if_false, decide_true, Bool.not_true]
 try simp only [eq_self, if_true, bne_self_eq_false, Bool.false_eq_true, if_false, decide_true, Bool.not_true]
 refine Ev.bind (toResS s0) ?_
 refine Ev.bind (eqResS s0) ?_
 try simp only [eq_self, if_true, bne_self_eq_false, Bool.false_eq_true, if_false, decide_true, Bool.not_true]
 refine Ev.bind (toS (by have := s1.1; omega)) ?_
 refine Ev.bind (eqS g1.1) ?_
 try simp only [eq_self, if_true, bne_self_eq_false, Bool.false_eq_true, if_false, decide_true, Bool.not_true]
 obtain ⟨n0, l0, _, u0, v0, w0, _⟩ := mhRes s0 (i := 1) (by omega) (by omega)
 refine Ev.bind w0 ?_
 obtain ⟨n1, l1, _, u1, v1, w1, _⟩ := mhS s1.1 (i := n0) (by omega) (by omega)
 refine Ev.bind w1 ?_
 simp only [if_neg (show ¬ n1 < 0 by omega)]
 refine Ev.bind (eqResS hd0) ?_
 try simp only [eq_self, if_true, bne_self_eq_false, Bool.false_eq_true, if_false, decide_true, Bool.not_true]
 try simp only [eq_self, if_true, bne_self_eq_false, Bool.false_eq_true, if_false, decide_true, Bool.not_true]
 obtain ⟨n2, l2, _, u2, v2, w2, z2⟩ := mhRes hd0 (i := 1) (by omega) (by omega)
 refine Ev.bind w2 ?_
 refine Ev.bind z2 ?_
 simp only [if_neg (show ¬ n2 < 0 by omega)]
 try simp only [eq_self, if_true, bne_self_eq_false, Bool.false_eq_true, if_false, decide_true, Bool.not_true]
 refine Ev.bind (toResS s0) ?_
 refine Ev.bind (toS (by have := s1.1; omega)) ?_
 refine Ev.bind (implPutF s0 s1) ?_
 refine Ev.bind (eqResS hd0) ?_
 try simp only [eq_self, if_true, bne_self_eq_false, Bool.false_eq_true, if_false, decide_true, Bool.not_true]
 try simp only [eq_self, if_true, bne_self_eq_false, Bool.false_eq_true, if_false, decide_true, Bool.not_true]
 refine Ev.bind z2 ?_
 simp only [if_neg (show ¬ n2 < 0 by omega)]
 try simp only [eq_self, if_true, bne_self_eq_false, Bool.false_eq_true, if_false, decide_true, Bool.not_true]
 exact Ev.now _
end Go.Proofs.Ytbgggcgjijljkaa.Pure
