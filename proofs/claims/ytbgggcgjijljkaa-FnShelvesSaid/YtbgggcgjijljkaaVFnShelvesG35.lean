/- A text put; as the program and the reference have it. No condition. -/
import Derived.Test.YtbgggcgjijljkaaVFnShelvesG34
import Derived.Test.YtbgggcgjijljkaaVFnShelvesG22
import Derived.Test.YtbgggcgjijljkaaVFnShelvesG28
import Derived.Test.YtbgggcgjijljkaaVFnShelvesG32
import Derived.Test.YtbgggcgjijljkaaVFnShelvesG30
import Derived.Test.YtbgggcgjijljkaaVFnShelvesG31
import Derived.Test.YtbgggcgjijljkaaVFnShelvesG29
set_option linter.unusedSimpArgs false
set_option linter.unusedVariables false
namespace Go.Proofs.Ytbgggcgjijljkaa.L
open Go.RowKit Go.Proofs.YtbgggcgjijljkaaW.PrintWords Go.Proofs.YtbgggcgjijljkaaW.PrintLast Go.Proofs.Ytbgggcgjijljkaa.Q
theorem find_at {t : List S57} {p : List ByteArray} (h : ¬ findR t p < 0) : ∃ pre r suf, t = pre ++ r :: suf ∧ findR t p = (pre.length : Int) ∧ r.f0 = p := by
  rcases findFrom_cases p t 0 with ⟨h1, _⟩ | ⟨j, r, h1, h2, h3, _⟩
  · unfold findR at h; rw [h1] at h; exact absurd (by decide) h
  · refine ⟨t.take j, r, t.drop (j + 1), ?_, ?_, h3⟩
    · have hj := (List.getElem?_eq_some_iff.1 h2).1
      have he : t[j] = r := (List.getElem?_eq_some_iff.1 h2).2
      rw [← he, List.getElem_cons_drop, List.take_append_drop]
    · have hj := (List.getElem?_eq_some_iff.1 h2).1
      unfold findR; rw [h1, List.length_take]; omega
def newFile (p : List ByteArray) (body : ByteArray) (ver : Int) : S57 := ⟨p, false, body, ver, []⟩
def putFR (t : List S57) (p : List ByteArray) (body : ByteArray) (ver : Int) : List S57 × Int :=
  if mayC t [p] ver = 0 then (if isColl t p = true then (t, 405) else if isColl t (above p) = true then (if (body.size : Int) > 200 then (t, 413) else
    if findR t p < 0 then (if (t.length : Int) ≥ 12 then (t, 507) else (putAt (newFile p body ver) t, 201))
    else (t.set (findR t p).toNat ⟨(t.getD (findR t p).toNat z57).f0, (t.getD (findR t p).toNat z57).f1, body, ver, (t.getD (findR t p).toNat z57).f4⟩, 204)) else (t, 409)) else (t, mayC t [p] ver)
theorem newFile_sm {p : List ByteArray} {body : ByteArray} {ver : Int} (hp : SmS p) (hb : body.size ≤ 1048576) (hv : IntOk ver) : SmRes (newFile p body ver) := ⟨hp, trivial, hb, hv, by show (0 : Nat) ≤ 1048576; omega, fun _ h => by cases h⟩
theorem putF_sm {p : List ByteArray} {t : List S57} {body : ByteArray} {ver : Int} (ht : SmRess t) (hp : SmS p) (hb : body.size ≤ 1048576) (hv : IntOk ver) : SmRess (putFR t p body ver).1 := by
  unfold putFR
  repeat' split
  all_goals first | exact ht | skip
  · refine ⟨by rw [putAt_length]; omega, fun r hr => ?_⟩
    rcases putAt_mem _ _ _ hr with rfl | hr
    · exact newFile_sm hp hb hv
    · exact ht.2 r hr
  · rename_i hn
    obtain ⟨pre, r, suf, e, f, _⟩ := find_at hn
    have hg : t.getD (findR t p).toNat z57 = r := by rw [f]; exact getD_at _ e
    rw [hg, f, set_at e]
    have hr := ht.2 r (by rw [e]; simp)
    refine ⟨by have := ht.1; rw [e] at this; simpa using this, fun x hx => ?_⟩
    simp only [List.append_assoc, List.cons_append, List.nil_append, List.mem_append, List.mem_cons] at hx
    rcases hx with hx | rfl | hx
    · exact ht.2 x (by rw [e]; simp [hx])
    · exact ⟨hr.1, trivial, hb, hv, hr.2.2.2.2⟩
    · exact ht.2 x (by rw [e]; simp [hx])
theorem mayC_tree {t : List S57} {ps : List (List ByteArray)} {ver : Int} (h : mayC t ps ver = 0) : treeOk t = true := by
  unfold mayC at h
  by_cases c : treeOk t = true
  · exact c
  · rw [if_neg c] at h; omega
theorem specPutF {t : List S57} {p : List ByteArray} {body : ByteArray} {ver : Int} (ht : SmRess t) (hp : SmS p) (hb : body.size ≤ 1048576) (hv : IntOk ver) : Ev (fun k => spec_PutFileX.f k t p body ver) (putFR t p body ver) := by
  have hp0 := hp.1
  show Ev (fun k => spec_PutFile.f k t p body ver) _
  unfold spec_PutFile.f putFR
  refine Ev.bind (specMay ht hp) ?_
  refine Ev.bind (specFind ht) ?_
  have hc : ∀ c : Int, c ≠ 0 → Ev (fun k => spec_PutFile.j0 k t p body ver c (findR t p)) (t, c) := fun c h => by
    refine Ev.step (fun k => spec_PutFile.j0.eq_2 ..) ?_
    simp only [if_neg h]
    exact Ev.bind (specCopyAll ht) (Ev.now _)
  by_cases c0 : mayC t [p] ver = 0
  · simp only [c0, if_true]
    refine Ev.bind (specIsColl ht) ?_
    by_cases c1 : isColl t p = true
    · simp only [if_pos c1]; exact hc 405 (by decide)
    · simp only [if_neg c1, specAbove hp0, Option.bind_some]
      refine Ev.bind (specIsColl ht) ?_
      by_cases c3 : isColl t (above p) = true
      · simp only [if_pos c3]
        by_cases c4 : (body.size : Int) > 200
        · simp only [if_pos c4]; exact hc 413 (by decide)
        · simp only [if_neg c4]
          by_cases c5 : findR t p < 0
          · simp only [if_pos c5]
            by_cases c6 : (t.length : Int) ≥ 12
            · simp only [if_pos c6]; exact hc 507 (by decide)
            · simp only [if_neg c6]
              refine Ev.step (fun k => spec_PutFile.j0.eq_2 ..) ?_
              simp only [if_true, if_pos c5]
              have h1 := specPut (x := newFile p body ver) ht (newFile_sm hp hb hv)
              rw [putS_new (show ∀ r ∈ t, r.f0 ≠ (newFile p body ver).f0 from find_none (p := p) c5)] at h1
              exact Ev.bind h1 (Ev.now _)
          · simp only [if_neg c5]
            obtain ⟨pre, r, suf, e, f, hrp⟩ := find_at c5
            have hg : t.getD (findR t p).toNat z57 = r := by rw [f]; exact getD_at _ e
            have hr := ht.2 r (by rw [e]; simp)
            have hcoll : r.f1 = false := by
              have h2 : rd_T57 t (findR t p) = r := by rw [f]; exact rd_implRes e
              unfold isColl at c1
              rw [h2, decide_eq_true (show 0 ≤ findR t p by omega), Bool.true_and] at c1
              cases h3 : r.f1 with
              | false => rfl
              | true => rw [h3] at c1; simp at c1
            refine Ev.step (fun k => spec_PutFile.j0.eq_2 ..) ?_
            have h1 := specPut (x := (⟨p, false, body, ver, r.f4⟩ : S57)) ht ⟨hp, trivial, hb, hv, hr.2.2.2.2⟩
            have hord := treeOk_pair (mayC_tree c0)
            have h4 : putS (⟨p, false, body, ver, r.f4⟩ : S57) false t = (pre ++ [(⟨p, false, body, ver, r.f4⟩ : S57)]) ++ suf := by
              rw [e] at hord ⊢
              rw [putS_at (x := (⟨p, false, body, ver, r.f4⟩ : S57)) hrp hord]
              simp
            rw [h4] at h1
            simp only [if_true, if_neg c5, hg]
            rw [f]
            simp only [if_pos (nonneg_at _), if_pos (lt_at e), rd_implRes e, set_at e, hrp, hcoll]
            exact Ev.bind h1 (Ev.now _)
      · simp only [if_neg c3]; exact hc 409 (by decide)
  · simp only [if_neg c0]; exact hc _ c0
theorem implPutF {t : List S57} {p : List ByteArray} {body : ByteArray} {ver : Int} (ht : SmRess t) (hp : SmS p) : Ev (fun k => impl_PutFileX.f k t p body ver) (putFR t p body ver) := by
  have hp0 := hp.1
  show Ev (fun k => impl_PutFile.f k t p body ver) _
  unfold impl_PutFile.f putFR
  refine Ev.bind (implCopyTree ht) ?_
  refine Ev.bind (implMay ht (by simp) (fun q hq => by rw [List.mem_singleton.1 hq]; exact hp)) ?_
  by_cases c0 : mayC t [p] ver = 0
  · simp only [c0, if_true]
    refine Ev.bind (implFind ht) ?_
    refine Ev.bind (implIsColl ht) ?_
    by_cases c1 : isColl t p = true
    · simp only [if_pos c1]; exact Ev.now _
    · simp only [if_neg c1, implAbove hp0, Option.bind_some]
      refine Ev.bind (implIsColl ht) ?_
      by_cases c3 : isColl t (above p) = true
      · simp only [if_pos c3]
        by_cases c4 : (body.size : Int) > 200
        · simp only [if_pos c4]; exact Ev.now _
        · simp only [if_neg c4]
          by_cases c5 : findR t p < 0
          · simp only [if_pos c5, if_neg (show ¬ findR t p ≥ 0 by omega)]
            by_cases c6 : (t.length : Int) ≥ 12
            · simp only [if_pos c6]; exact Ev.now _
            · simp only [if_neg c6, implCopyPath hp0, Option.bind_some]
              exact Ev.bind (implWithRes (x := newFile p body ver) ht) (Ev.now _)
          · simp only [if_neg c5, if_pos (show findR t p ≥ 0 by omega)]
            obtain ⟨pre, r, suf, e, f, hrp⟩ := find_at c5
            have hg : t.getD (findR t p).toNat z57 = r := by rw [f]; exact getD_at _ e
            simp only [hg]
            rw [f]
            have e2 : ∀ y : S57, (pre ++ [y]) ++ suf = pre ++ y :: suf := fun y => by simp
            simp only [if_pos (nonneg_at _), if_pos (lt_at e), rd_implRes e, set_at e, Option.bind_some]
            simp only [rd_implRes (e2 _), set_at (e2 _)]
            exact Ev.now _
      · simp only [if_neg c3]; exact Ev.now _
  · simp only [if_neg c0]; exact Ev.now _
end Go.Proofs.Ytbgggcgjijljkaa.L

/- Right shelves stay right: a shelf made, a text put, a thing taken away, what is known set. No condition. -/
set_option linter.unusedSimpArgs false
set_option linter.unusedVariables false
namespace Go.Proofs.Ytbgggcgjijljkaa.L
open Go.RowKit Go.Proofs.YtbgggcgjijljkaaW.PrintWords Go.Proofs.YtbgggcgjijljkaaW.PrintLast Go.Proofs.Ytbgggcgjijljkaa.Q
def Ord (t : List S57) : Prop := t.Pairwise (fun a b => lessP a.f0 b.f0 = true)
theorem bytesLess_total : ∀ {x y : List UInt8}, x ≠ y → Op.bytesLess x y = true ∨ Op.bytesLess y x = true
  | [], [], h => absurd rfl h
  | [], _ :: _, _ => .inl (by simp [Op.bytesLess])
  | _ :: _, [], _ => .inr (by simp [Op.bytesLess])
  | a :: x, b :: y, h => by
    simp only [Op.bytesLess, Bool.or_eq_true, Bool.and_eq_true, decide_eq_true_eq, beq_iff_eq]
    by_cases e : a = b
    · subst e
      rcases bytesLess_total (show x ≠ y from fun e => h (by rw [e])) with h1 | h1
      · exact .inl (.inr ⟨rfl, h1⟩)
      · exact .inr (.inr ⟨rfl, h1⟩)
    · rcases UInt8.lt_or_lt_of_ne e with h1 | h1
      · exact .inl (.inl h1)
      · exact .inr (.inl h1)
theorem lessP_total : ∀ {a b : List ByteArray}, a ≠ b → lessP a b = true ∨ lessP b a = true
  | [], [], h => absurd rfl h
  | [], _ :: _, _ => .inl rfl
  | _ :: _, [], _ => .inr rfl
  | x :: a, y :: b, h => by
    simp only [lessP]
    by_cases e : x = y
    · subst e
      simp only [if_true]
      exact lessP_total (fun e => h (by rw [e]))
    · rw [if_neg e, if_neg (fun e' => e e'.symm)]
      exact bytesLess_total (fun e' => e (ba_inj e'))
theorem ord_uniq {t : List S57} (h : Ord t) {a b : S57} (ha : a ∈ t) (hb : b ∈ t) (e : a.f0 = b.f0) : a = b := by
  induction t with
  | nil => cases ha
  | cons r t ih =>
    have h1 := (List.pairwise_cons.1 h).1
    rcases List.mem_cons.1 ha with rfl | ha'
    · rcases List.mem_cons.1 hb with rfl | hb'
      · rfl
      · exact absurd e (lessP_ne (h1 b hb'))
    · rcases List.mem_cons.1 hb with rfl | hb'
      · exact absurd e.symm (lessP_ne (h1 a ha'))
      · exact ih (List.pairwise_cons.1 h).2 ha' hb'
theorem find_neg {t : List S57} {p : List ByteArray} : findR t p < 0 ↔ ∀ r ∈ t, r.f0 ≠ p := by
  constructor
  · exact find_none
  · intro h
    by_cases c : findR t p < 0
    · exact c
    · obtain ⟨pre, r, suf, e, _, hr⟩ := find_at c
      exact absurd hr (h r (by rw [e]; simp))
theorem isColl_iff {t : List S57} (ho : Ord t) {p : List ByteArray} : isColl t p = true ↔ p = [] ∨ ∃ r ∈ t, r.f0 = p ∧ r.f1 = true := by
  unfold isColl
  by_cases e : p = []
  · simp [e]
  · simp only [e, decide_false, Bool.false_or, false_or, Bool.and_eq_true, decide_eq_true_eq]
    constructor
    · rintro ⟨h1, h2⟩
      obtain ⟨pre, r, suf, et, f, hr⟩ := find_at (show ¬ findR t p < 0 by omega)
      rw [f, rd_implRes et] at h2
      exact ⟨r, by rw [et]; simp, hr, h2⟩
    · rintro ⟨r, hm, h1, h2⟩
      have hn : ¬ findR t p < 0 := fun h => find_none h r hm h1
      obtain ⟨pre, r', suf, et, f, hr⟩ := find_at hn
      have hu := ord_uniq ho (show r' ∈ t by rw [et]; simp) hm (by rw [hr, h1])
      refine ⟨by omega, ?_⟩
      rw [f, rd_implRes et, hu]
      exact h2
theorem treeL_iff (t : List S57) : ∀ (l : List S57) (q : Option S57), treeL t q l = true ↔ (∀ r ∈ l, resOk r = true ∧ isColl t (above r.f0) = true) ∧ (match q with | none => True | some q => ∀ r ∈ l, lessP q.f0 r.f0 = true) ∧ Ord l
  | [], q => by cases q <;> simp [treeL, Ord]
  | r :: l, q => by
    have ih := treeL_iff t l (some r)
    constructor
    · intro h
      obtain ⟨h3, h4⟩ := treeL_pair t (r :: l) q h
      simp only [treeL, Bool.and_eq_true] at h
      obtain ⟨h0, _, h1, h2⟩ := h
      refine ⟨fun x hx => ?_, ?_, h4⟩
      · rcases List.mem_cons.1 hx with rfl | hx
        · exact ⟨h0, h1⟩
        · exact (ih.1 h2).1 x hx
      · cases q with
        | none => trivial
        | some q => exact h3
    · rintro ⟨h1, h2, h3⟩
      simp only [treeL, Bool.and_eq_true]
      refine ⟨(h1 r (by simp)).1, ?_, (h1 r (by simp)).2, ih.2 ⟨fun x hx => h1 x (by simp [hx]), (List.pairwise_cons.1 h3).1, (List.pairwise_cons.1 h3).2⟩⟩
      cases q with
      | none => rfl
      | some q => exact h2 r (by simp)
theorem treeOk_iff {t : List S57} : treeOk t = true ↔ (∀ r ∈ t, resOk r = true ∧ isColl t (above r.f0) = true) ∧ Ord t ∧ t.length ≤ 12 := by
  unfold treeOk
  rw [Bool.and_eq_true, treeL_iff, decide_eq_true_eq]
  constructor
  · rintro ⟨⟨h1, _, h2⟩, h3⟩; exact ⟨h1, h2, by omega⟩
  · rintro ⟨h1, h2, h3⟩; exact ⟨⟨h1, trivial, h2⟩, by omega⟩
theorem mem_putAt (x : S57) : ∀ (t : List S57) (b : S57), b ∈ putAt x t ↔ b = x ∨ b ∈ t
  | [], b => by simp [putAt]
  | a :: t, b => by
    unfold putAt
    by_cases c : lessP a.f0 x.f0 = true
    · simp only [if_pos c, List.mem_cons, mem_putAt x t b]
      constructor
      · rintro (h | h | h)
        · exact .inr (.inl h)
        · exact .inl h
        · exact .inr (.inr h)
      · rintro (h | h | h)
        · exact .inr (.inl h)
        · exact .inl h
        · exact .inr (.inr h)
    · simp only [if_neg c, List.mem_cons]
theorem ord_putAt {x : S57} : ∀ {t : List S57}, Ord t → (∀ r ∈ t, r.f0 ≠ x.f0) → Ord (putAt x t)
  | [], _, _ => by simp [putAt, Ord]
  | a :: t, h, hn => by
    have h1 := (List.pairwise_cons.1 h).1
    have h2 := (List.pairwise_cons.1 h).2
    unfold putAt
    by_cases c : lessP a.f0 x.f0 = true
    · simp only [if_pos c]
      refine List.pairwise_cons.2 ⟨fun b hb => ?_, ord_putAt h2 (fun r hr => hn r (by simp [hr]))⟩
      rcases (mem_putAt x t b).1 hb with rfl | hb
      · exact c
      · exact h1 b hb
    · simp only [if_neg c]
      have hx : lessP x.f0 a.f0 = true := by
        rcases lessP_total (hn a (by simp)) with h3 | h3
        · exact absurd h3 c
        · exact h3
      refine List.pairwise_cons.2 ⟨fun b hb => ?_, h⟩
      rcases List.mem_cons.1 hb with rfl | hb
      · exact hx
      · exact lessP_trans hx (h1 b hb)
theorem putAt_ok {t : List S57} {x : S57} (h : treeOk t = true) (hx : resOk x = true) (hc : isColl t (above x.f0) = true) (hn : ∀ r ∈ t, r.f0 ≠ x.f0) (hl : t.length < 12) : treeOk (putAt x t) = true := by
  obtain ⟨h1, h2, h3⟩ := treeOk_iff.1 h
  have ho := ord_putAt (x := x) h2 hn
  have hmono : ∀ p, isColl t p = true → isColl (putAt x t) p = true := fun p hp => by
    rcases (isColl_iff h2).1 hp with e | ⟨r, hr, e⟩
    · exact (isColl_iff ho).2 (.inl e)
    · exact (isColl_iff ho).2 (.inr ⟨r, (mem_putAt x t r).2 (.inr hr), e⟩)
  refine treeOk_iff.2 ⟨fun r hr => ?_, ho, by rw [putAt_length]; omega⟩
  rcases (mem_putAt x t r).1 hr with rfl | hr
  · exact ⟨hx, hmono _ hc⟩
  · exact ⟨(h1 r hr).1, hmono _ (h1 r hr).2⟩
theorem ord_map {t u : List S57} (e : t.map (·.f0) = u.map (·.f0)) (h : Ord t) : Ord u := by
  have h1 : (t.map (·.f0)).Pairwise (fun a b => lessP a b = true) := List.pairwise_map.2 h
  rw [e] at h1
  exact List.pairwise_map.1 h1
theorem set_ok {pre suf : List S57} {r x : S57} (h : treeOk (pre ++ r :: suf) = true) (hx : resOk x = true) (e0 : x.f0 = r.f0) (e1 : x.f1 = r.f1) : treeOk (pre ++ x :: suf) = true := by
  obtain ⟨h1, h2, h3⟩ := treeOk_iff.1 h
  have ho : Ord (pre ++ x :: suf) := ord_map (by simp [e0]) h2
  have hmono : ∀ p, isColl (pre ++ r :: suf) p = true → isColl (pre ++ x :: suf) p = true := fun p hp => by
    rcases (isColl_iff h2).1 hp with e | ⟨q, hq, e⟩
    · exact (isColl_iff ho).2 (.inl e)
    · refine (isColl_iff ho).2 (.inr ?_)
      rcases List.mem_append.1 hq with hq | hq
      · exact ⟨q, by simp [hq], e⟩
      · rcases List.mem_cons.1 hq with rfl | hq
        · exact ⟨x, by simp, by rw [e0, e1]; exact e⟩
        · exact ⟨q, by simp [hq], e⟩
  refine treeOk_iff.2 ⟨fun q hq => ?_, ho, by simpa using h3⟩
  rcases List.mem_append.1 hq with hq | hq
  · exact ⟨(h1 q (by simp [hq])).1, hmono _ (h1 q (by simp [hq])).2⟩
  · rcases List.mem_cons.1 hq with rfl | hq
    · exact ⟨hx, by rw [e0]; exact hmono _ (h1 r (by simp)).2⟩
    · exact ⟨(h1 q (by simp [hq])).1, hmono _ (h1 q (by simp [hq])).2⟩
theorem mayC_zero {t : List S57} {p : List ByteArray} {ver : Int} (h : mayC t [p] ver = 0) : treeOk t = true ∧ pathOk p = true ∧ 0 ≤ ver ∧ ver ≤ 99999 := by
  unfold mayC at h
  by_cases c0 : treeOk t = true
  · rw [if_pos c0] at h
    by_cases c1 : [p].all pathOk = true
    · rw [if_pos c1] at h
      by_cases c2 : 0 ≤ ver ∧ ver ≤ 99999
      · exact ⟨c0, by simpa using c1, c2⟩
      · rw [if_neg c2] at h; omega
    · rw [if_neg c1] at h; omega
  · rw [if_neg c0] at h; omega
theorem make_ok {t : List S57} {p : List ByteArray} {ver : Int} (h : treeOk t = true) : treeOk (makeR t p ver).1 = true := by
  unfold makeR
  repeat' split
  all_goals first | exact h | skip
  rename_i c0 c1 c2 c3 c4
  obtain ⟨_, hp, hv⟩ := mayC_zero c0
  refine putAt_ok h ?_ c3 (find_neg.1 (show findR t p < 0 by omega)) (by omega)
  unfold resOk newRes
  simp [c1, hp, hv.1, hv.2, propsOk, propsL]
  decide
theorem putF_ok {t : List S57} {p : List ByteArray} {body : ByteArray} {ver : Int} (h : treeOk t = true) : treeOk (putFR t p body ver).1 = true := by
  unfold putFR
  repeat' split
  all_goals first | exact h | skip
  · rename_i c0 c1 c2 c3 c4 c5
    obtain ⟨_, hp, hv⟩ := mayC_zero c0
    have hne : p ≠ [] := fun e => c1 (by rw [e]; rfl)
    refine putAt_ok h ?_ c2 (find_neg.1 c4) (by omega)
    unfold resOk newFile
    simp [hne, hp, hv.1, hv.2, propsOk, propsL]
    omega
  · rename_i c0 c1 c2 c3 c4
    obtain ⟨_, hp, hv⟩ := mayC_zero c0
    obtain ⟨pre, r, suf, e, f, hr⟩ := find_at c4
    have hg : t.getD (findR t p).toNat z57 = r := by rw [f]; exact getD_at _ e
    rw [hg, f, set_at e]
    have hrok := ((treeOk_iff.1 h).1 r (by rw [e]; simp)).1
    have hf1 : r.f1 = false := by
      cases h3 : r.f1 with
      | false => rfl
      | true => exact absurd ((isColl_iff (treeOk_iff.1 h).2.1).2 (.inr ⟨r, by rw [e]; simp, hr, h3⟩)) c1
    rw [show pre ++ [(⟨r.f0, r.f1, body, ver, r.f4⟩ : S57)] ++ suf = pre ++ (⟨r.f0, r.f1, body, ver, r.f4⟩ : S57) :: suf by simp]
    refine set_ok (r := r) (by rw [← e]; exact h) ?_ rfl rfl
    unfold resOk at hrok ⊢
    simp only [Bool.and_eq_true, decide_eq_true_eq] at hrok ⊢
    exact ⟨hrok.1, hrok.2.1, fun hh => by rw [hf1] at hh; (cases hh), by omega, hv, hrok.2.2.2.2.2⟩
theorem nil_ok : treeOk ([] : List S57) = true := treeOk_iff.2 ⟨by simp, List.Pairwise.nil, by simp⟩
theorem pathOk_sm {p : List ByteArray} (h : pathOk p = true) : p.length ≤ 4 ∧ ∀ s ∈ p, s.size ≤ 8 := by
  unfold pathOk at h
  simp only [Bool.and_eq_true, decide_eq_true_eq, List.all_eq_true] at h
  refine ⟨by omega, fun s hs => ?_⟩
  have := h.1 s hs
  unfold nameOk at this
  simp only [Bool.and_eq_true, decide_eq_true_eq] at this
  omega
theorem tree_path {t : List S57} (h : treeOk t = true) {r : S57} (hr : r ∈ t) : r.f0 ≠ [] ∧ pathOk r.f0 = true := by
  have h1 := ((treeOk_iff.1 h).1 r hr).1
  unfold resOk at h1
  simp only [Bool.and_eq_true, decide_eq_true_eq] at h1
  exact ⟨h1.1, h1.2.1⟩
end Go.Proofs.Ytbgggcgjijljkaa.L

/- Draws of paths and of shelves; drawn shelves are right. No condition. -/
set_option linter.unusedSimpArgs false
set_option linter.unusedVariables false
namespace Go.Proofs.Ytbgggcgjijljkaa.L
open Go.RowKit Go.Proofs.YtbgggcgjijljkaaW.PrintWords Go.Proofs.YtbgggcgjijljkaaW.PrintLast Go.Proofs.Ytbgggcgjijljkaa.Q
theorem pathD {b : List Int} {p : Int} (h : Cur b p) (s : Int) {t : List S57} (ht : treeOk t = true) : ∃ l p' s', Ev (fun k => spec_l10Path.f k b p s t) (l, p', s') ∧ SmP 5 l ∧ Cur b p' := by
  have ht12 := (treeOk_iff.1 ht).2.2
  have hdraw : ∀ {q : Int}, Cur b q → ∀ u, ∃ l p' s', Ev (fun k => spec_l10Path.j0 k t false b q u) (l, p', s') ∧ SmP 5 l ∧ Cur b p' := fun hq u => by
    obtain ⟨l, q1, u1, e, hl, hq1⟩ := l2DrawD hq u
    refine ⟨l, q1, u1, ?_, ⟨by have := hl.1; omega, hl.2⟩, hq1⟩
    refine Ev.step (fun k => spec_l10Path.j0.eq_2 ..) ?_
    simp only [Bool.false_eq_true, if_false]
    exact Ev.bind e (Ev.now _)
  unfold spec_l10Path.f
  by_cases c : (t.length : Int) > 0
  · simp only [if_pos c]
    obtain ⟨d, p1, s1, e1, h1⟩ := onceD h s 3
    cases d with
    | true =>
      obtain ⟨l, p2, s2, e2, hl, h2⟩ := hdraw h1 s1
      refine ⟨l, p2, s2, ?_, hl, h2⟩
      simp only [e1, Option.bind_some, Bool.not_true]
      exact e2
    | false =>
      obtain ⟨v, p2, s2, e2, v0, v1, h2⟩ := belowD h1 s1 (n := (t.length : Int)) (by omega)
      obtain ⟨pre, r, suf, et, ei⟩ := split_at v0 v1
      have hr := (tree_path ht (show r ∈ t by rw [et]; simp)).2
      obtain ⟨hr1, hr2⟩ := pathOk_sm hr
      obtain ⟨d, p3, s3, e3, h3⟩ := onceD h2 s2 3
      subst ei
      have hrd := rd_implRes et
      have hlt := lt_at et
      cases d with
      | true =>
        obtain ⟨x, p4, s4, e4, m, h4⟩ := nameD h3 s3
        refine ⟨r.f0 ++ [x], p4, s4, ?_, ⟨by simp; omega, fun y hy => ?_⟩, h4⟩
        · simp only [e1, Option.bind_some, Bool.not_false]
          refine Ev.step (fun k => spec_l10Path.j0.eq_2 ..) ?_
          simp only [if_true, Option.bind_some, e2, if_pos (nonneg_at _), if_pos hlt, hrd, List.length_nil, Nat.zero_add, if_pos (show r.f0.length < 8796093022208 by omega), e3, e4, List.nil_append]
          exact Ev.now _
        · rcases List.mem_append.1 hy with hy | hy
          · have := hr2 y hy; omega
          · simp at hy; subst hy; exact m
      | false =>
        refine ⟨r.f0, p3, s3, ?_, ⟨by omega, fun y hy => by have := hr2 y hy; omega⟩, h3⟩
        simp only [e1, Option.bind_some, Bool.not_false]
        refine Ev.step (fun k => spec_l10Path.j0.eq_2 ..) ?_
        simp only [if_true, Option.bind_some, e2, if_pos (nonneg_at _), if_pos hlt, hrd, List.length_nil, Nat.zero_add, if_pos (show r.f0.length < 8796093022208 by omega), e3, Bool.false_eq_true, if_false, List.nil_append]
        exact Ev.now _
  · simp only [if_neg c]
    exact hdraw h s
theorem small_int {v n : Int} (h0 : 0 ≤ v) (h1 : v < n) (hn : n ≤ 1000) : IntOk v := by unfold IntOk; omega
theorem drawD {b : List Int} {p : Int} (h : Cur b p) (s : Int) : ∃ t p' s', Ev (fun k => spec_l10Draw.f k b p s) (t, p', s') ∧ (treeOk t = true ∧ SmRess t) ∧ Cur b p' := by
  unfold spec_l10Draw.f
  obtain ⟨v, p1, s1, e, v0, v1, h1⟩ := belowD h s (n := 10) (by omega)
  simp only [e, Option.bind_some]
  have key : ∀ (n : Nat) (t : List S57) (q u : Int), n ≤ 1000 → (treeOk t = true ∧ SmRess t) → Cur b q → ∃ t' p' s', Ev (fun k => spec_l10Draw.l0 k t (n : Int) b q u) (t', p', s') ∧ (treeOk t' = true ∧ SmRess t') ∧ Cur b p' := by
    intro n
    induction n with
    | zero =>
      intro t q u _ ht hq
      refine ⟨t, q, u, ?_, ht, hq⟩
      refine Ev.step (fun k => spec_l10Draw.l0.eq_2 ..) ?_
      simp only [if_neg (show ¬ ((0 : Nat) : Int) > 0 by decide)]
      exact Ev.now _
    | succ n ih =>
      intro t q u hn ht hq
      have hw : wrap64 (((n + 1 : Nat) : Int) - 1) = (n : Int) := by rw [wrap_id (by omega) (by omega)]; omega
      have hj2f : ∀ {t : List S57} {q : Int} (u : Int), (treeOk t = true ∧ SmRess t) → Cur b q → ∃ t' p' s', Ev (fun k => spec_l10Draw.j2 k t ((n + 1 : Nat) : Int) false b q u) (t', p', s') ∧ (treeOk t' = true ∧ SmRess t') ∧ Cur b p' := fun {t q} u ht hq => by
        obtain ⟨t', q', u', e, hh⟩ := ih t q u (by omega) ht hq
        refine ⟨t', q', u', ?_, hh⟩
        refine Ev.step (fun k => spec_l10Draw.j2.eq_2 ..) ?_
        simp only [Bool.false_eq_true, if_false, hw]
        exact e
      have hj1 : ∀ {t : List S57} {q : Int} (u : Int), (treeOk t = true ∧ SmRess t) → Cur b q → ∃ t' p' s', Ev (fun k => spec_l10Draw.j1 k t ((n + 1 : Nat) : Int) b q u) (t', p', s') ∧ (treeOk t' = true ∧ SmRess t') ∧ Cur b p' := fun {t q} u ht hq => by
        by_cases c : (t.length : Int) > 0
        · obtain ⟨d, q1, u1, e1, hq1⟩ := onceD hq u 3
          cases d with
          | false =>
            obtain ⟨t', q', u', e, hh⟩ := hj2f u1 ht hq1
            refine ⟨t', q', u', ?_, hh⟩
            refine Ev.step (fun k => spec_l10Draw.j1.eq_2 ..) ?_
            simp only [if_pos c, e1, Option.bind_some]
            exact e
          | true =>
            obtain ⟨v, q2, u2, e2, v0, v1, hq2⟩ := belowD hq1 u1 (n := (t.length : Int)) (by omega)
            obtain ⟨pre, r, suf, et, ei⟩ := split_at v0 v1
            obtain ⟨l, q3, u3, e3, ⟨hl, hm, hpo⟩, hq3⟩ := propsD hq2 u2
            subst ei
            have hr := (treeOk_iff.1 ht.1).1 r (by rw [et]; simp)
            have hrs := ht.2.2 r (by rw [et]; simp)
            have hnew : (treeOk (pre ++ (⟨r.f0, r.f1, r.f2, r.f3, l⟩ : S57) :: suf) = true ∧ SmRess (pre ++ (⟨r.f0, r.f1, r.f2, r.f3, l⟩ : S57) :: suf)) := by
              refine ⟨set_ok (r := r) (by rw [← et]; exact ht.1) ?_ rfl rfl, ?_, fun x hx => ?_⟩
              · have h1 := hr.1
                unfold resOk at h1 ⊢
                simp only [Bool.and_eq_true, decide_eq_true_eq] at h1 ⊢
                exact ⟨h1.1, h1.2.1, h1.2.2.1, h1.2.2.2.1, h1.2.2.2.2.1, hpo⟩
              · have := ht.2.1; rw [et] at this; simpa using this
              · rcases List.mem_append.1 hx with hx | hx
                · exact ht.2.2 x (by rw [et]; simp [hx])
                · rcases List.mem_cons.1 hx with rfl | hx
                  · exact ⟨hrs.1, hrs.2.1, hrs.2.2.1, hrs.2.2.2.1, by show l.length ≤ 1048576; omega, hm⟩
                  · exact ht.2.2 x (by rw [et]; simp [hx])
            obtain ⟨t', q', u', e, hh⟩ := ih _ q3 u3 (by omega) hnew hq3
            refine ⟨t', q', u', ?_, hh⟩
            refine Ev.step (fun k => spec_l10Draw.j1.eq_2 ..) ?_
            simp only [if_pos c, e1, Option.bind_some]
            refine Ev.step (fun k => spec_l10Draw.j2.eq_2 ..) ?_
            simp only [if_true, e2, Option.bind_some]
            refine Ev.bind e3 ?_
            simp only [if_pos (nonneg_at _), if_pos (lt_at et), rd_implRes et, set_at et, hw, List.append_assoc, List.singleton_append]
            exact e
        · obtain ⟨t', q', u', e, hh⟩ := hj2f u ht hq
          refine ⟨t', q', u', ?_, hh⟩
          refine Ev.step (fun k => spec_l10Draw.j1.eq_2 ..) ?_
          simp only [if_neg c]
          exact e
      obtain ⟨pt, q1, u1, e1, hp, hq1⟩ := pathD hq u ht.1
      have hps := hp.sm (by omega)
      obtain ⟨d, q2, u2, e2, hq2⟩ := onceD hq1 u1 2
      cases d with
      | true =>
        obtain ⟨v, q3, u3, e3, v0, v1, hq3⟩ := belowD hq2 u2 (n := 9) (by omega)
        have hv := small_int v0 v1 (by omega)
        obtain ⟨t', q', u', e, hh⟩ := hj1 u3 ⟨make_ok (p := pt) (ver := v) ht.1, make_sm ht.2 hps hv⟩ hq3
        refine ⟨t', q', u', ?_, hh⟩
        refine Ev.step (fun k => spec_l10Draw.l0.eq_2 ..) ?_
        simp only [if_pos (show ((n + 1 : Nat) : Int) > 0 by omega)]
        refine Ev.bind e1 ?_
        simp only [e2, e3, Option.bind_some, if_true]
        exact Ev.bind (specMake ht.2 hps hv) e
      | false =>
        obtain ⟨x, q3, u3, e3, m, hq3⟩ := strD hq2 u2 (l := [(⟨#[]⟩ : ByteArray), (⟨#[120]⟩ : ByteArray), (⟨#[104, 101, 108, 108, 111]⟩ : ByteArray)]) (by simp)
        have m1 := mem_sz m (by decide)
        obtain ⟨v, q4, u4, e4, v0, v1, hq4⟩ := belowD hq3 u3 (n := 9) (by omega)
        have hv := small_int v0 v1 (by omega)
        obtain ⟨t', q', u', e, hh⟩ := hj1 u4 ⟨putF_ok (p := pt) (body := x) (ver := v) ht.1, putF_sm ht.2 hps m1 hv⟩ hq4
        refine ⟨t', q', u', ?_, hh⟩
        refine Ev.step (fun k => spec_l10Draw.l0.eq_2 ..) ?_
        simp only [if_pos (show ((n + 1 : Nat) : Int) > 0 by omega)]
        refine Ev.bind e1 ?_
        simp only [e2, e3, e4, Option.bind_some, Bool.false_eq_true, if_false]
        exact Ev.bind (specPutF ht.2 hps m1 hv) e
  obtain ⟨n, rfl⟩ := Int.eq_ofNat_of_zero_le v0
  exact key n [] p1 s1 (by omega) ⟨nil_ok, by simp, by simp⟩ h1
theorem shelvesD {code : List Int} (hc : code.length ≤ 1048576) : ∃ t p q, Ev (fun k => spec_DrawShelves.f k code) (t, p, q) ∧ (treeOk t = true ∧ SmRess t) ∧ SmS p ∧ SmS q := by
  unfold spec_DrawShelves.f
  obtain ⟨s0, e0⟩ := newD hc
  obtain ⟨t, p1, s1, e1, ht, h1⟩ := drawD (cur0 hc) s0
  obtain ⟨p, p2, s2, e2, hp, h2⟩ := pathD h1 s1 ht.1
  obtain ⟨q, p3, s3, e3, hq, h3⟩ := pathD h2 s2 ht.1
  exact ⟨t, p, q, Ev.bind e0 (Ev.bind e1 (Ev.bind e2 (Ev.bind e3 (Ev.now _)))), ht, hp.sm (by omega), hq.sm (by omega)⟩
end Go.Proofs.Ytbgggcgjijljkaa.L

/- The laws' own 'is it the same'. No condition. -/
set_option linter.unusedSimpArgs false
set_option linter.unusedVariables false
namespace Go.Proofs.Ytbgggcgjijljkaa.L
open Go.RowKit Go.Proofs.YtbgggcgjijljkaaW.PrintWords Go.Proofs.YtbgggcgjijljkaaW.PrintLast Go.Proofs.Ytbgggcgjijljkaa.Q
theorem sameTextsD {a b : List ByteArray} (hl : a.length ≤ 1048576) : Ev (fun k => laws_sameTexts.f k a b) (decide (a = b)) := by
  have hm : a.length ≤ maxLen := by rw [maxLen_eq]; omega
  unfold laws_sameTexts.f
  by_cases e : (a.length : Int) = (b.length : Int)
  · simp only [if_pos e]
    refine eq_loop (a := a) (b := b) (fun k i => laws_sameTexts.l0 k a b i) ?_ ?_ a b [] [] rfl rfl rfl (by omega)
    · show Ev (fun k => laws_sameTexts.l0 k a b a.length) true
      refine Ev.step (fun k => laws_sameTexts.l0.eq_2 ..) ?_
      simp only [Int.lt_irrefl, if_false]
      exact Ev.now _
    · intro pre x su pre' y sv h h' hp
      have h3 := rd_at ByteArray.empty h'
      have h4 := lt_at h'
      rw [← hp] at h3 h4
      refine ⟨fun hne => ?_, fun heq r hr => ?_⟩
      · refine Ev.step (fun k => laws_sameTexts.l0.eq_2 ..) ?_
        simp only [if_pos (lt_at h), if_pos (nonneg_at _), if_pos h4, rd_at ByteArray.empty h, h3, ba_eq, if_neg hne]
        exact Ev.now _
      · refine Ev.step (fun k => laws_sameTexts.l0.eq_2 ..) ?_
        simp only [if_pos (lt_at h), if_pos (nonneg_at _), if_pos h4, rd_at ByteArray.empty h, h3, ba_eq, if_pos heq, next_at h hm]
        exact hr
  · simp only [if_neg e]
    rw [show decide (a = b) = false from decide_eq_false (fun h => e (by rw [h]))]
    exact Ev.now _
theorem samePropsD (l : List S72) (hl : l.length ≤ 1048576) : Ev (fun k => laws_sameProps.f k l l) true := by
  unfold laws_sameProps.f
  simp only [if_true]
  have key : ∀ (suf pre : List S72), l = pre ++ suf → Ev (fun k => laws_sameProps.l0 k l l pre.length) true := by
    intro suf
    induction suf with
    | nil =>
      intro pre h
      refine Ev.step (fun k => laws_sameProps.l0.eq_2 ..) ?_
      simp only [if_neg (end_at h)]
      exact Ev.now _
    | cons a suf ih =>
      intro pre h
      refine Ev.step (fun k => laws_sameProps.l0.eq_2 ..) ?_
      simp only [if_pos (lt_at h), if_pos (nonneg_at _), beq_self_eq_true, Bool.not_true, Bool.or_self, Bool.false_eq_true, if_false, next_at h (show l.length ≤ maxLen by rw [maxLen_eq]; omega)]
      exact ih (pre ++ [a]) (snoc_at h)
  exact key l [] rfl
theorem sameResD {r : S57} (h : SmRes r) : Ev (fun k => laws_sameRes.f k r.f0 r.f1 r.f2 r.f3 r.f4 r.f0 r.f1 r.f2 r.f3 r.f4) true := by
  unfold laws_sameRes.f
  refine Ev.bind (sameTextsD (by have := h.1.1; omega)) ?_
  simp only [decide_true, beq_self_eq_true, if_true]
  exact Ev.bind (samePropsD _ h.2.2.2.2.1) (Ev.now _)
theorem sameTreeD {t : List S57} (ht : SmRess t) : Ev (fun k => laws_sameTree.f k t t) true := by
  have hl : t.length ≤ maxLen := by have := ht.1; rw [maxLen_eq]; omega
  unfold laws_sameTree.f
  simp only [if_true]
  have key : ∀ (suf pre : List S57), t = pre ++ suf → Ev (fun k => laws_sameTree.l0 k t t pre.length) true := by
    intro suf
    induction suf with
    | nil =>
      intro pre h
      refine Ev.step (fun k => laws_sameTree.l0.eq_2 ..) ?_
      simp only [if_neg (end_at h)]
      exact Ev.now _
    | cons a suf ih =>
      intro pre h
      refine Ev.step (fun k => laws_sameTree.l0.eq_2 ..) ?_
      simp only [if_pos (lt_at h), if_pos (nonneg_at _), rd_implRes h, next_at h hl]
      refine Ev.bind (sameResD (ht.2 a (by rw [h]; simp))) ?_
      simp only [if_true]
      exact ih (pre ++ [a]) (snoc_at h)
  exact key t [] rfl
end Go.Proofs.Ytbgggcgjijljkaa.L

/- Printed walks. No condition. -/
namespace Go.Proofs.Ytbgggcgjijljkaa.Q
open Go.RowKit Go.Proofs.YtbgggcgjijljkaaW.PrintWords Go.Proofs.YtbgggcgjijljkaaW.PrintLast Go.Proofs.YtbgggcgjijljkaaW.PrintMore
attribute [local go_sem] max2_int min2_int max_two min_two max_three min_three max_four min_four
set_option linter.unusedVariables false
set_option linter.unusedSimpArgs false
theorem bIHDraw1_ {P : Prop} (h : P := by repeat (first | (with_reducible first | exact HB.out | apply below_alloc | apply pw_below_drewN | apply below_drew1 | refine below_set ?_ (IsS116.ge HI0.out)) | exact HB.out)) : P := h
theorem bIHDraw2_ {P : Prop} (h : P := by repeat (first | (with_reducible first | exact HI0.out | apply IsS116.alloc | apply IsS116.drewN | apply IsS116.drew | apply IsS116.set_1 | apply IsS116.set_2) | exact HI0.out)) : P := h
theorem spec_PutFile.calls (k : Nat) (A0 : Option Addr) (c0 : Nat) (l0 : List (S57)) (A1 : Option Addr) (c1 : Nat) (l1 : List ByteArray) (a2 : ByteArray) (a3 : Int) (r1 : List (S57)) (r2 : Int) (w : World) (hr0 : Kd.C k57 w A0 l0.length l0) (hc0 : l0.length ≤ c0) (hr1 : Kd.C Kd.string w A1 l1.length l1) (hc1 : l1.length ≤ c1) (h : spec_PutFile.f k l0 l1 a2 a3 = some (r1, r2)) :
 Calls Try.prog 26 #[.slice A0 l0.length c0, .slice A1 l1.length c1, .string a2, .int .i64 a3] w fun e w' => ∃ v0_ : Value, e = .returned (.tuple #[v0_, .int .i64 r2]) ∧ Kd.S k57 57 w' w.heap.size (fun _ => True) v0_ r1 ∧ Below w.heap.size w w' := by
 exact spec_PutFileX.calls k A0 c0 l0 A1 c1 l1 a2 a3 r1 r2 w hr0 hc0 hr1 hc1 h
set_option maxHeartbeats 16000000 in
set_option maxRecDepth 100000 in
theorem spec_l10Draw.calls (k : Nat) (g : Nat) (s0_0 : List Int) (s0_1 : Int) (s0_2 : Int) (r1 : List (S57)) (r2 : Int) (r3 : Int) (w0 w : World) (hI : IsS116 w0 w g s0_0 s0_1 s0_2) (hB : Below w0.heap.size w0 w) (h : spec_l10Draw.f k s0_0 s0_1 s0_2 = some (r1, r2, r3)) :
 Calls Try.prog 85 #[.pointer (some ⟨g, 0, none⟩)] w fun e w' => ∃ v0_ : Value, e = .returned (v0_) ∧ Kd.S k57 57 w' w.heap.size (fun _ => True) v0_ r1 ∧ IsS116 w0 w' g s0_0 r2 r3 ∧ Below w0.heap.size w0 w' ∧ KeepBut w w' g none := by
 have HI0 := Aside0.mk hI
 have HK := A_ (KeepBut.refl w g none)
 have HL := Aside0.mk hB.size
 clear hI
 have HW0 := Aside0.mk hB.size
 have HB := Aside0.mk hB
 clear hB
 have H : ((spec_l1Below.f s0_0 s0_1 s0_2 10).bind fun bt1175 => (spec_l10Draw.l0 k (([] : List (S57))) bt1175.1 s0_0 bt1175.2.1 bt1175.2.2)) = some (r1, r2, r3) := h
 clear h
 obtain ⟨y1172, hy1172⟩ : ∃ y_ : List (S57), y_ = (([] : List (S57))) := ⟨_, rfl⟩
 replace H : ((spec_l1Below.f s0_0 s0_1 s0_2 10).bind fun bt1175 => (spec_l10Draw.l0 k y1172 bt1175.1 s0_0 bt1175.2.1 bt1175.2.2)) = some (r1, r2, r3) := hy_ hy1172 H
 have Ny1172 := Aside0.mk hy1172
 clear hy1172
 obtain ⟨⟨t1175, t1176, t1177⟩, A2, H⟩ := bo_ H
 (try dsimp only at H)
 have H' := Aside0.mk H
 clear H
 go_enter Try.func85, Try.ntmps85
 go_wp2_with (first | ((with_reducible refine gate_dst (N := 6) rfl ?_); refine Kd.S_lit k57 _ 57 ?hg (N := 6) ?hd (xs := ([] : List (S57))) (inner := []) (ok := fun _ => True) (okp := fun _ => True) ?hr ?hp (fun _ hk => hk) trivial (Below.refl _ _) (Nat.le_refl _) (by simp) ?_; (case hd => rfl); (case hg => rfl); (case hr => first | (go_simp; done) | (go_simp; rfl)); (case hp => exact (Reps.none _ _)); intro v1173 w3 ho4 hb hg_ hnew_; clear hg_ hnew_; (first | rw [← Ny1172.out] at ho4 | (simp only [Int.reduceToNat] at ho4; rw [← Ny1172.out] at ho4)); have HO1174 := A_ (Kd.S_lower ho4 (keep_size (w := w) (g := g) (row := none) bK_)); replace HK := A_ (KeepBut.trans bK_ (KeepBut.of_below hb g none) (.inl rfl)); replace HB := A_ (below_step bIHDraw1_ hb); replace HI0 := A_ (IsS116.below bIHDraw2_ hb); clear hb ho4) | ((with_reducible refine gate_callee (f := 117) rfl ?_); refine gL_ (some 8) Try.func117 #[.pointer (some ⟨g, 0, none⟩), .int .i64 10] ?_; (with_reducible refine (spec_l1Below.calls g s0_0 s0_1 s0_2 10 t1175 t1176 t1177 w0 _ ?s1 ?s2 A2.out).mono ?_); (case s1 => exact bIHDraw2_); (case s2 => exact bIHDraw1_); rintro e w5 ⟨rfl, hi, hb, hk⟩; refine ⟨_, rfl, ?_⟩; replace HO1174 := A_ (Kd.S_mono (Kd.S_keep (IsS116.apartS (show IsS116 w0 _ g s0_0 s0_1 s0_2 from bIHDraw2_) (vS_ HO1174.out) (by decide)) hk (fun _ h => h.2)) (fun _ h => h.1)); replace HK := A_ (KeepBut.trans bK_ hk (.inl rfl)); replace HB := A_ (hb); replace HI0 := A_ (hi); (try clear hb); (try clear hk); (try clear hi)))
 go_loopg [3, 4] k (fun kq v3 v4 w' => ∃ (x3_1 : List (S57)) (x4_1 : Int) (x1001_1 : Int) (x1002_1 : Int), v4 = .int .i64 x4_1 ∧ Aside0 (spec_l10Draw.l0 kq x3_1 x4_1 s0_0 x1001_1 x1002_1 = some (r1, r2, r3)) ∧ Aside0 (kq ≤ k) ∧ Aside0 (Kd.S k57 57 w' w.heap.size (fun _ => True) v3 x3_1) ∧ Aside0 (IsS116 w0 w' g s0_0 x1001_1 x1002_1) ∧ Aside0 (KeepBut w w' g none) ∧ Aside0 (Below w0.heap.size w0 w'))
 case atStart => exact ⟨(y1172), (t1175), (t1176), (t1177), rs_, H', ⟨Nat.le_refl _⟩, ⟨vS_ HO1174.out⟩, ⟨bIHDraw2_⟩, ⟨bK_⟩, ⟨bIHDraw1_⟩⟩
 case round =>
  clear H'
  try clear c1
  try clear p2
  obtain ⟨x3_1, x4_1, x1001_1, x1002_1, rfl, HA, HK1, HO_3, HI0, HK, HB⟩ := hrel
  cases gk with
  | zero => exact absurd HA.out (by simp [spec_l10Draw.l0])
  | succ k1 =>
   have H := HA.out
   clear HA
   simp only [spec_l10Draw.l0] at H
   by_cases c6 : x4_1 > 0
   rotate_left
   · rw [if_neg c6] at H
     have c6b0 : decide (0 < x4_1) = false := decide_eq_false c6
     clear c6
     simp only [Option.some.injEq, Prod.mk.injEq] at H
     obtain ⟨rfl, rfl, rfl⟩ := H
     go_wp2
     go_ret
     exact ⟨_, rr_, by (with_reducible repeat (first | apply Kd.S_alloc | apply Kd.S_drewN | apply Kd.S_drew)); exact HO_3.out, bIHDraw2_, bIHDraw1_, bK_⟩
   rw [if_pos c6] at H
   have c6b0 : decide (0 < x4_1) = true := decide_eq_true c6
   clear c6
   obtain ⟨⟨t1178, t1181, t1182⟩, A7, H⟩ := bo_ H
   (try dsimp only at H)
   obtain ⟨⟨t1183, t1184, t1185⟩, A8, H⟩ := bo_ H
   (try dsimp only at H)
   have HC9 := Aside0.mk H
   clear H
   obtain ⟨Ao10, co10, eo10⟩ := Kd.S_slice HO_3.out
   subst eo10
   go_upto_if 17 with (first | ((with_reducible refine gate_callee (f := 86) rfl ?_); refine gL_ (some 15) Try.func86 #[.pointer (some ⟨g, 0, none⟩), .slice Ao10 x3_1.length co10] ?_; (with_reducible refine (spec_l10Path.calls k1 g s0_0 x1001_1 x1002_1 _ _ x3_1 t1178 t1181 t1182 w0 _ ?s1 ?s2 ?s3 ?s4 A7.out).mono ?_); (case s1 => exact bIHDraw2_); (case s2 => exact bIHDraw1_); (case s3 => exact Kd.C_foot_own ((Kd.S_R (IsS116.apartS (show IsS116 w0 _ g s0_0 x1001_1 x1002_1 from bIHDraw2_) (vS_ HO_3.out) (by decide)))) (fun _ h_ => h_.2)); (case s4 => exact (Kd.S_reads' HO_3.out).2.1); rintro e w11 ⟨v1179, rfl, ho0, hi, hb, hk⟩; refine ⟨_, rfl, ?_⟩; replace HO_3 := A_ (Kd.S_mono (Kd.S_told (Kd.S_oldK (IsS116.apartS (show IsS116 w0 _ g s0_0 x1001_1 x1002_1 from bIHDraw2_) (vS_ HO_3.out) (by decide)) hk) (kb_ ho0)) (fun _ h_ => h_.1)); have HO1180 := A_ (Kd.R_lower ho0 (keep_size (w := w) (g := g) (row := none) bK_)); replace HK := A_ (KeepBut.trans bK_ hk (.inl rfl)); replace HB := A_ (hb); replace HI0 := A_ (hi); (try clear hb); (try clear hk); (try clear hi); (try clear ho0)) | ((with_reducible refine gate_callee (f := 118) rfl ?_); refine gL_ (some 17) Try.func118 #[.pointer (some ⟨g, 0, none⟩), .int .i64 2] ?_; (with_reducible refine (spec_l1Once.calls g s0_0 t1181 t1182 2 t1183 t1184 t1185 w0 _ ?s1 ?s2 A8.out).mono ?_); (case s1 => exact bIHDraw2_); (case s2 => exact bIHDraw1_); rintro e w12 ⟨rfl, hi, hb, hk⟩; refine ⟨_, rfl, ?_⟩; replace HO_3 := A_ (Kd.S_mono (Kd.S_keep (IsS116.apartS (show IsS116 w0 _ g s0_0 t1181 t1182 from bIHDraw2_) (vS_ HO_3.out) (by decide)) hk (fun _ h => h.2)) (fun _ h => h.1)); replace HO1180 := A_ (Kd.R_mono (Kd.R_keep (IsS116.apart (show IsS116 w0 _ g s0_0 t1181 t1182 from bIHDraw2_) (vR_ HO1180.out) (by decide)) hk (fun _ h => h.2)) (fun _ h => h.1)); replace HK := A_ (KeepBut.trans bK_ hk (.inl rfl)); replace HB := A_ (hb); replace HI0 := A_ (hi); (try clear hb); (try clear hk); (try clear hi)))
   (try simp only [Act.put, List.setIfInBounds_toArray, List.set_cons_zero, List.set_cons_succ])
   go_cut [3] (fun v3 wc => ∃ (kq : Nat) (x3_8 : List (S57)) (x1001_8 : Int) (x1002_8 : Int), Aside0 (spec_l10Draw.j1 kq x3_8 x4_1 s0_0 x1001_8 x1002_8 = some (r1, r2, r3)) ∧ Aside0 (kq ≤ k1) ∧ Aside0 (Kd.S k57 57 wc w.heap.size (fun _ => True) v3 x3_8) ∧ Aside0 (IsS116 w0 wc g s0_0 x1001_8 x1002_8) ∧ Aside0 (KeepBut w wc g none) ∧ Aside0 (Below w0.heap.size w0 wc))
   case first =>
    have H := HC9.out
    clear HC9
    by_cases c13 : t1183 = true
    · subst c13
      rw [if_pos rfl] at H
      obtain ⟨⟨t1186, t1187, t1188⟩, A14, H⟩ := bo_ H
      (try dsimp only at H)
      obtain ⟨⟨t1189, t1192⟩, A15, H⟩ := bo_ H
      (try dsimp only at H)
      have H' := Aside0.mk H
      clear H
      go_wp2_with (first | ((with_reducible refine gate_callee (f := 117) rfl ?_); refine gL_ (some 22) Try.func117 #[.pointer (some ⟨g, 0, none⟩), .int .i64 9] ?_; (with_reducible refine (spec_l1Below.calls g s0_0 t1184 t1185 9 t1186 t1187 t1188 w0 _ ?s1 ?s2 A14.out).mono ?_); (case s1 => exact bIHDraw2_); (case s2 => exact bIHDraw1_); rintro e w16 ⟨rfl, hi, hb, hk⟩; refine ⟨_, rfl, ?_⟩; replace HO_3 := A_ (Kd.S_mono (Kd.S_keep (IsS116.apartS (show IsS116 w0 _ g s0_0 t1184 t1185 from bIHDraw2_) (vS_ HO_3.out) (by decide)) hk (fun _ h => h.2)) (fun _ h => h.1)); replace HO1180 := A_ (Kd.R_mono (Kd.R_keep (IsS116.apart (show IsS116 w0 _ g s0_0 t1184 t1185 from bIHDraw2_) (vR_ HO1180.out) (by decide)) hk (fun _ h => h.2)) (fun _ h => h.1)); replace HK := A_ (KeepBut.trans bK_ hk (.inl rfl)); replace HB := A_ (hb); replace HI0 := A_ (hi); (try clear hb); (try clear hk); (try clear hi); obtain ⟨Ao17, co17, eo17⟩ := Kd.R_slice HO1180.out; subst eo17) | ((with_reducible refine gate_callee (f := 24) rfl ?_); refine gL_ (some 23) Try.func24 #[.slice Ao10 x3_1.length co10, .slice Ao17 t1178.length co17, .int .i64 t1186] ?_; (with_reducible refine (spec_MakeColl.calls k1 (fun k_ => ((True ∧ some k_ ≠ (.slice Ao17 t1178.length co17 : Value).ownBlock) ∧ k_ ≠ g)) _ _ x3_1 (fun k_ => some k_ = (.slice Ao17 t1178.length co17 : Value).ownBlock) _ _ t1178 t1186 t1189 t1192 _ ?s1 ?s2 A15.out).mono ?_); (case s1 => exact Kd.S_V (IsS116.apartS HI0.out (HO_3.out) (by decide))); (case s2 => exact Kd.R_V (Kd.R_tight rfl (IsS116.apart HI0.out (Kd.R_apart' (HO1180.out) (Kd.S_typed HO_3.out) (by decide)) (by decide)))); rintro e w18 ⟨v1190, rfl, ho0, hb⟩; refine ⟨_, rfl, ?_⟩; have HO1191 := A_ (Kd.S_lower (Kd.S_new' (Kd.S_new' (Kd.S_mono (ok' := fun k_ => True) ho0 (fun _ hk_ => trivial)) (Kd.S_lt (vS_ HO_3.out))) (Kd.R_lt (vR_ HO1180.out))) (keep_size (w := w) (g := g) (row := none) bK_)); replace HO_3 := A_ (Kd.S_elder' (vS_ HO_3.out) (kb_ ho0) hb); replace HO1180 := A_ (Kd.R_below (vR_ HO1180.out) hb); replace HK := A_ (KeepBut.trans bK_ (KeepBut.of_below hb g none) (.inl rfl)); replace HB := A_ (below_step bIHDraw1_ hb); replace HI0 := A_ (IsS116.below bIHDraw2_ hb); (try clear hb); (try clear hk); (try clear hi); (try clear ho0)))
      go_meet
      case rel => exact ⟨_, (t1189), (t1187), (t1188), H', ⟨by have := HK1.out; first | omega | exact Nat.le_refl _⟩, ⟨by (with_reducible repeat (first | apply Kd.S_alloc | apply Kd.S_drewN | apply Kd.S_drew)); exact Kd.S_mono HO1191.out (fun _ hk => trivial)⟩, ⟨bIHDraw2_⟩, ⟨bK_⟩, ⟨bIHDraw1_⟩⟩
    · replace c13 := Bool.eq_false_iff.mpr c13
      subst c13
      rw [if_neg nf_] at H
      obtain ⟨y1193, hy1193⟩ : ∃ y_ : List ByteArray, y_ = (([(⟨#[]⟩ : ByteArray), (⟨#[120]⟩ : ByteArray), (⟨#[104, 101, 108, 108, 111]⟩ : ByteArray)] : List ByteArray)) := ⟨_, rfl⟩
      replace H : ((spec_l1Str.f s0_0 t1184 t1185 y1193).bind fun bt1196 => ((spec_l1Below.f s0_0 bt1196.2.1 bt1196.2.2 9).bind fun bt1199 => ((spec_PutFile.f k1 x3_1 t1178 bt1196.1 bt1199.1).bind fun bt1202 => (spec_l10Draw.j1 k1 bt1202.1 x4_1 s0_0 bt1199.2.1 bt1199.2.2)))) = some (r1, r2, r3) := hy_ hy1193 H
      have Ny1193 := Aside0.mk hy1193
      clear hy1193
      obtain ⟨⟨t1196, t1197, t1198⟩, A19, H⟩ := bo_ H
      (try dsimp only at H)
      obtain ⟨⟨t1199, t1200, t1201⟩, A20, H⟩ := bo_ H
      (try dsimp only at H)
      obtain ⟨⟨t1202, t1203⟩, A21, H⟩ := bo_ H
      (try dsimp only at H)
      have H' := Aside0.mk H
      clear H
      go_wp2_with (first | ((with_reducible refine gate_dst (N := 30) rfl ?_); refine Kd.R_lit Kd.string _ 9 ?hg (N := 30) ?hd (xs := ([(⟨#[]⟩ : ByteArray), (⟨#[120]⟩ : ByteArray), (⟨#[104, 101, 108, 108, 111]⟩ : ByteArray)] : List ByteArray)) (inner := [.string (⟨#[]⟩ : ByteArray), .string (⟨#[120]⟩ : ByteArray), .string (⟨#[104, 101, 108, 108, 111]⟩ : ByteArray)]) (ok := fun _ => True) (okp := fun _ => True) ?hr ?hp (fun _ hk => hk) trivial (Below.refl _ _) (Nat.le_refl _) (by simp) ?_; (case hd => rfl); (case hg => rfl); (case hr => first | (go_simp; done) | (go_simp; rfl)); (case hp => exact (Reps.one (show Kd.M Kd.string _ _ _ (⟨#[]⟩ : ByteArray) [.string (⟨#[]⟩ : ByteArray)] from rfl) (Reps.one (show Kd.M Kd.string _ _ _ (⟨#[120]⟩ : ByteArray) [.string (⟨#[120]⟩ : ByteArray)] from rfl) (Reps.one (show Kd.M Kd.string _ _ _ (⟨#[104, 101, 108, 108, 111]⟩ : ByteArray) [.string (⟨#[104, 101, 108, 108, 111]⟩ : ByteArray)] from rfl) (Reps.none _ _))))); intro v1194 w22 ho23 hb hg_ hnew_; clear hg_ hnew_; (first | rw [← Ny1193.out] at ho23 | (simp only [Int.reduceToNat] at ho23; rw [← Ny1193.out] at ho23)); replace HO_3 := A_ (Kd.S_elder' (vS_ HO_3.out) (kb_ ho23) hb); have HO1195 := A_ (Kd.R_lower (Kd.R_new' ho23 (Kd.R_lt (vR_ HO1180.out))) (keep_size (w := w) (g := g) (row := none) bK_)); replace HO1180 := A_ (Kd.R_elder' (vR_ HO1180.out) (kb_ ho23) hb); replace HK := A_ (KeepBut.trans bK_ (KeepBut.of_below hb g none) (.inl rfl)); replace HB := A_ (below_step bIHDraw1_ hb); replace HI0 := A_ (IsS116.below bIHDraw2_ hb); clear hb ho23; obtain ⟨Ao24, co24, eo24⟩ := Kd.R_slice HO1195.out; subst eo24) | ((with_reducible refine gate_callee (f := 99) rfl ?_); refine gL_ (some 31) Try.func99 #[.pointer (some ⟨g, 0, none⟩), .slice Ao24 y1193.length co24] ?_; (with_reducible refine (spec_l1Str.calls g s0_0 t1184 t1185 _ _ y1193 t1196 t1197 t1198 w0 _ ?s1 ?s2 ?s3 ?s4 ?s5 A19.out).mono ?_); (case s1 => exact bIHDraw2_); (case s2 => exact bIHDraw1_); (case s3 => exact cC_ (Kd.R_reads' HO1195.out).2.2); (case s4 => exact (Kd.R_reads' HO1195.out).2.1); (case s5 => exact far_slice (IsS116.own_ne HI0.out HO1195.out (by decide))); rintro e w25 ⟨rfl, hi, hb, hk⟩; refine ⟨_, rfl, ?_⟩; replace HO_3 := A_ (Kd.S_mono (Kd.S_keep (IsS116.apartS (show IsS116 w0 _ g s0_0 t1184 t1185 from bIHDraw2_) (vS_ HO_3.out) (by decide)) hk (fun _ h => h.2)) (fun _ h => h.1)); replace HO1180 := A_ (Kd.R_mono (Kd.R_keep (IsS116.apart (show IsS116 w0 _ g s0_0 t1184 t1185 from bIHDraw2_) (vR_ HO1180.out) (by decide)) hk (fun _ h => h.2)) (fun _ h => h.1)); replace HO1195 := A_ (Kd.R_mono (Kd.R_keep (IsS116.apart (show IsS116 w0 _ g s0_0 t1184 t1185 from bIHDraw2_) (vR_ HO1195.out) (by decide)) hk (fun _ h => h.2)) (fun _ h => h.1)); replace HK := A_ (KeepBut.trans bK_ hk (.inl rfl)); replace HB := A_ (hb); replace HI0 := A_ (hi); (try clear hb); (try clear hk); (try clear hi)) | ((with_reducible refine gate_callee (f := 117) rfl ?_); refine gL_ (some 33) Try.func117 #[.pointer (some ⟨g, 0, none⟩), .int .i64 9] ?_; (with_reducible refine (spec_l1Below.calls g s0_0 t1197 t1198 9 t1199 t1200 t1201 w0 _ ?s1 ?s2 A20.out).mono ?_); (case s1 => exact bIHDraw2_); (case s2 => exact bIHDraw1_); rintro e w26 ⟨rfl, hi, hb, hk⟩; refine ⟨_, rfl, ?_⟩; replace HO_3 := A_ (Kd.S_mono (Kd.S_keep (IsS116.apartS (show IsS116 w0 _ g s0_0 t1197 t1198 from bIHDraw2_) (vS_ HO_3.out) (by decide)) hk (fun _ h => h.2)) (fun _ h => h.1)); replace HO1180 := A_ (Kd.R_mono (Kd.R_keep (IsS116.apart (show IsS116 w0 _ g s0_0 t1197 t1198 from bIHDraw2_) (vR_ HO1180.out) (by decide)) hk (fun _ h => h.2)) (fun _ h => h.1)); replace HO1195 := A_ (Kd.R_mono (Kd.R_keep (IsS116.apart (show IsS116 w0 _ g s0_0 t1197 t1198 from bIHDraw2_) (vR_ HO1195.out) (by decide)) hk (fun _ h => h.2)) (fun _ h => h.1)); replace HK := A_ (KeepBut.trans bK_ hk (.inl rfl)); replace HB := A_ (hb); replace HI0 := A_ (hi); (try clear hb); (try clear hk); (try clear hi); obtain ⟨Ao27, co27, eo27⟩ := Kd.R_slice HO1180.out; subst eo27) | ((with_reducible refine gate_callee (f := 26) rfl ?_); refine gL_ (some 34) Try.func26 #[.slice Ao10 x3_1.length co10, .slice Ao27 t1178.length co27, .string t1196, .int .i64 t1199] ?_; (with_reducible refine (spec_PutFile.calls k1 _ _ x3_1 _ _ t1178 t1196 t1199 t1202 t1203 _ ?s1 ?s2 ?s3 ?s4 A21.out).mono ?_); (case s1 => exact cC_ (Kd.S_reads' HO_3.out).2.2); (case s2 => exact (Kd.S_reads' HO_3.out).2.1); (case s3 => exact cC_ (Kd.R_reads' HO1180.out).2.2); (case s4 => exact (Kd.R_reads' HO1180.out).2.1); rintro e w28 ⟨v1204, rfl, ho0, hb⟩; refine ⟨_, rfl, ?_⟩; have HO1205 := A_ (Kd.S_lower (Kd.S_new' (Kd.S_new' (Kd.S_new' ho0 (Kd.S_lt (vS_ HO_3.out))) (Kd.R_lt (vR_ HO1180.out))) (Kd.R_lt (vR_ HO1195.out))) (keep_size (w := w) (g := g) (row := none) bK_)); replace HO_3 := A_ (Kd.S_elder' (vS_ HO_3.out) (kb_ ho0) hb); replace HO1180 := A_ (Kd.R_below (vR_ HO1180.out) hb); replace HO1195 := A_ (Kd.R_below (vR_ HO1195.out) hb); replace HK := A_ (KeepBut.trans bK_ (KeepBut.of_below hb g none) (.inl rfl)); replace HB := A_ (below_step bIHDraw1_ hb); replace HI0 := A_ (IsS116.below bIHDraw2_ hb); (try clear hb); (try clear hk); (try clear hi); (try clear ho0)))
      go_meet
      case rel => exact ⟨_, (t1202), (t1200), (t1201), H', ⟨by have := HK1.out; first | omega | exact Nat.le_refl _⟩, ⟨by (with_reducible repeat (first | apply Kd.S_alloc | apply Kd.S_drewN | apply Kd.S_drew)); exact Kd.S_mono HO1205.out (fun _ hk => trivial)⟩, ⟨bIHDraw2_⟩, ⟨bK_⟩, ⟨bIHDraw1_⟩⟩
   case rest =>
    clear HC9
    try clear c1
    try clear c2
    try clear p2
    try clear c6
    try clear c6b0
    try clear c8
    try clear c9
    try clear c11
    try clear c13
    try clear c24
    try clear c26
    try clear p2
    obtain ⟨kq, x3_8, x1001_8, x1002_8, HA, HJ8, HO_3, HI0, HK, HB⟩ := hcut
    cases kq with
    | zero => exact absurd HA.out (by simp [spec_l10Draw.j1])
    | succ kj8 =>
     have H := HA.out
     clear HA
     simp only [spec_l10Draw.j1] at H
     have HC29 := Aside0.mk H
     clear H
     go_upto_region 9 with (fail)
     go_cut [43] (fun v43 wc => ∃ (kq : Nat) (x43_28 : Bool) (x1001_28 : Int) (x1002_28 : Int), v43 = .bool x43_28 ∧ Aside0 (spec_l10Draw.j2 kq x3_8 x4_1 x43_28 s0_0 x1001_28 x1002_28 = some (r1, r2, r3)) ∧ Aside0 (kq ≤ kj8) ∧ Aside0 (Kd.S k57 57 wc w.heap.size (fun _ => True) u3 x3_8) ∧ Aside0 (IsS116 w0 wc g s0_0 x1001_28 x1002_28) ∧ Aside0 (KeepBut w wc g none) ∧ Aside0 (Below w0.heap.size w0 wc))
     case first =>
      have H := HC29.out
      clear HC29
      by_cases c30 : (x3_8.length : Int) > 0
      rotate_left
      · rw [if_neg c30] at H
        have c30b0 : decide (0 < (x3_8.length : Int)) = false := decide_eq_false c30
        have c30b1 : decide (0 < x3_8.length) = false := decide_eq_false (by omega)
        clear c30
        (first | rw [c30b0] | (simp only [i64_w, i32_w]; rw [c30b0]) | skip)
        have H' := Aside0.mk H
        clear H
        obtain ⟨Ao34, co34, eo34⟩ := Kd.S_slice HO_3.out
        subst eo34
        go_wp2
        go_meet
        case rel => exact ⟨_, (false), (x1001_8), (x1002_8), rs_, H', ⟨by have := HK1.out; have := HJ8.out; first | omega | exact Nat.le_refl _⟩, ⟨vS_ HO_3.out⟩, ⟨bIHDraw2_⟩, ⟨bK_⟩, ⟨bIHDraw1_⟩⟩
      rw [if_pos c30] at H
      have c30b0 : decide (0 < (x3_8.length : Int)) = true := decide_eq_true c30
      have c30b1 : decide (0 < x3_8.length) = true := decide_eq_true (by omega)
      clear c30
      (first | rw [c30b0] | (simp only [i64_w, i32_w]; rw [c30b0]) | skip)
      obtain ⟨⟨t1206, t1207, t1208⟩, A31, H⟩ := bo_ H
      (try dsimp only at H)
      have H' := Aside0.mk H
      clear H
      obtain ⟨Ao32, co32, eo32⟩ := Kd.S_slice HO_3.out
      subst eo32
      go_wp2_with (first | (go_at_call 118; (with_reducible refine (spec_l1Once.calls g s0_0 x1001_8 x1002_8 3 t1206 t1207 t1208 w0 _ ?s1 ?s2 A31.out).mono ?_); (case s1 => exact bIHDraw2_); (case s2 => exact bIHDraw1_); rintro e w33 ⟨rfl, hi, hb, hk⟩; replace HO_3 := A_ (Kd.S_mono (Kd.S_keep (IsS116.apartS (show IsS116 w0 _ g s0_0 x1001_8 x1002_8 from bIHDraw2_) (vS_ HO_3.out) (by decide)) hk (fun _ h => h.2)) (fun _ h => h.1)); replace HK := A_ (KeepBut.trans bK_ hk (.inl rfl)); replace HB := A_ (hb); replace HI0 := A_ (hi); (try clear hb); (try clear hk); (try clear hi)))
      go_meet
      case rel => exact ⟨_, (t1206), (t1207), (t1208), rs_, H', ⟨by have := HK1.out; have := HJ8.out; first | omega | exact Nat.le_refl _⟩, ⟨vS_ HO_3.out⟩, ⟨bIHDraw2_⟩, ⟨bK_⟩, ⟨bIHDraw1_⟩⟩
     case rest =>
      clear HC29
      try clear c1
      try clear c2
      try clear p2
      try clear c3
      try clear c6
      try clear c6b0
      try clear c8
      try clear c9
      try clear c11
      try clear c13
      try clear c24
      try clear c26
      try clear c30
      try clear c30b0
      try clear c30b1
      try clear p2
      obtain ⟨kq, x43_28, x1001_28, x1002_28, rfl, HA, HJ28, HO_3, HI0, HK, HB⟩ := hcut
      cases kq with
      | zero => exact absurd HA.out (by simp [spec_l10Draw.j2])
      | succ kj28 =>
       have H := HA.out
       clear HA
       simp only [spec_l10Draw.j2] at H
       by_cases c35 : x43_28 = true
       · subst c35
         rw [if_pos rfl] at H
         obtain ⟨⟨t1209, t1210, t1211⟩, A36, H⟩ := bo_ H
         (try dsimp only at H)
         obtain ⟨⟨t1212, t1215, t1216⟩, A37, H⟩ := bo_ H
         (try dsimp only at H)
         by_cases c38 : 0 ≤ t1209
         rotate_left
         · exact absurd H (by rw [if_neg c38]; simp)
         rw [if_pos c38] at H
         have c38b0 : decide (0 ≤ t1209) = true := decide_eq_true c38
         clear c38
         by_cases c39 : t1209 < (x3_8.length : Int)
         rotate_left
         · exact absurd H (by rw [if_neg c39]; simp)
         rw [if_pos c39] at H
         have c39b0 : decide (t1209 < (x3_8.length : Int)) = true := decide_eq_true c39
         clear c39
         obtain ⟨y1217, hy1217⟩ : ∃ y_ : List (S57), y_ = (x3_8.set (t1209 : Int).toNat (⟨(rd_T57 x3_8 t1209).f0, (rd_T57 x3_8 t1209).f1, (rd_T57 x3_8 t1209).f2, (rd_T57 x3_8 t1209).f3, t1212⟩ : S57)) := ⟨_, rfl⟩
         replace H : (spec_l10Draw.l0 kj28 y1217 (wrap64 (x4_1 - 1)) s0_0 t1215 t1216) = some (r1, r2, r3) := hy_ hy1217 H
         have Ny1217 := Aside0.mk hy1217
         clear hy1217
         have H' := Aside0.mk H
         clear H
         obtain ⟨Ao41, co41, eo41⟩ := Kd.S_slice HO_3.out
         subst eo41
         go_wp2_with (first | ((with_reducible refine gate_callee (f := 117) rfl ?_); refine gL_ (some 48) Try.func117 #[.pointer (some ⟨g, 0, none⟩), .int .i64 (x3_8.length : Int)] ?_; (with_reducible refine (spec_l1Below.calls g s0_0 x1001_28 x1002_28 (x3_8.length : Int) t1209 t1210 t1211 w0 _ ?s1 ?s2 A36.out).mono ?_); (case s1 => exact bIHDraw2_); (case s2 => exact bIHDraw1_); rintro e w42 ⟨rfl, hi, hb, hk⟩; refine ⟨_, rfl, ?_⟩; replace HO_3 := A_ (Kd.S_mono (Kd.S_keep (IsS116.apartS (show IsS116 w0 _ g s0_0 x1001_28 x1002_28 from bIHDraw2_) (vS_ HO_3.out) (by decide)) hk (fun _ h => h.2)) (fun _ h => h.1)); replace HK := A_ (KeepBut.trans bK_ hk (.inl rfl)); replace HB := A_ (hb); replace HI0 := A_ (hi); (try clear hb); (try clear hk); (try clear hi)) | ((with_reducible refine gate_callee (f := 98) rfl ?_); refine gL_ (some 50) Try.func98 #[.pointer (some ⟨g, 0, none⟩)] ?_; (with_reducible refine (spec_l10Props.calls kj28 g s0_0 t1210 t1211 t1212 t1215 t1216 w0 _ ?s1 ?s2 A37.out).mono ?_); (case s1 => exact bIHDraw2_); (case s2 => exact bIHDraw1_); rintro e w43 ⟨v1213, rfl, ho0, hi, hb, hk⟩; refine ⟨_, rfl, ?_⟩; replace HO_3 := A_ (Kd.S_mono (Kd.S_told (Kd.S_oldK (IsS116.apartS (show IsS116 w0 _ g s0_0 t1210 t1211 from bIHDraw2_) (vS_ HO_3.out) (by decide)) hk) (kb_ ho0)) (fun _ h_ => h_.1)); have HO1214 := A_ (Kd.R_lower ho0 (keep_size (w := w) (g := g) (row := none) bK_)); replace HK := A_ (KeepBut.trans bK_ hk (.inl rfl)); replace HB := A_ (hb); replace HI0 := A_ (hi); (try clear hb); (try clear hk); (try clear hi); (try clear ho0); have p40 : 0 ≤ (t1209 : Int) := of_decide_eq_true as_; have q40 : (t1209 : Int) < ((x3_8.length : Int) : Int) := of_decide_eq_true as_; obtain ⟨go40, co40, eo40, gb40, gl40, cl40, HG40⟩ := Kd.S_form HO_3.out (by omega); (first | cases eo40 | (injection eo40 with ea_ en_ ec_; (first | subst ea_ | (injection ea_ with ea_; subst ea_)); subst ec_; clear en_)); have GB40 := Aside0.mk gb40; have GG40 := Aside0.mk HG40; clear gb40 gl40 HG40; obtain ⟨_, ce40, hcl40, hM40, hcc40, hfr40, _, _⟩ := Kd.S_elem HO_3.out z57 (t1209 : Int) p40 q40; obtain ⟨ve40_0, ve40_4, rfl, ge40_0, ge40_4⟩ := k57_openM hM40; have hx40_0 : w43.cell? ⟨go40, (t1209 : Int).toNat * 5, none⟩ = some (ve40_0) := hcc40 0 _ rfl; have hx40_1 : w43.cell? ⟨go40, (t1209 : Int).toNat * 5 + 1, none⟩ = some (.bool ((rd_T57 x3_8 t1209).f1)) := hcc40 1 _ rfl; have hx40_2 : w43.cell? ⟨go40, (t1209 : Int).toNat * 5 + 2, none⟩ = some (.string ((rd_T57 x3_8 t1209).f2)) := hcc40 2 _ rfl; have hx40_3 : w43.cell? ⟨go40, (t1209 : Int).toNat * 5 + 3, none⟩ = some (.int .i64 ((rd_T57 x3_8 t1209).f3)) := hcc40 3 _ rfl; have hx40_4 : w43.cell? ⟨go40, (t1209 : Int).toNat * 5 + 4, none⟩ = some (ve40_4) := hcc40 4 _ rfl; have hf40_0 : w43.frozen? ⟨go40, (t1209 : Int).toNat * 5, none⟩ = false := hfr40 0; have hf40_1 : w43.frozen? ⟨go40, (t1209 : Int).toNat * 5 + 1, none⟩ = false := hfr40 1; have hf40_2 : w43.frozen? ⟨go40, (t1209 : Int).toNat * 5 + 2, none⟩ = false := hfr40 2; have hf40_3 : w43.frozen? ⟨go40, (t1209 : Int).toNat * 5 + 3, none⟩ = false := hfr40 3; have hf40_4 : w43.frozen? ⟨go40, (t1209 : Int).toNat * 5 + 4, none⟩ = false := hfr40 4; (try clear hcl40); (try clear hcc40); (try clear hfr40); (try clear hM40); replace p40 := eq_true p40; replace q40 := eq_true q40; obtain ⟨Ao46, co46, eo46⟩ := Kd.R_slice HO1214.out; subst eo46; have n_ := A_ (Kd.S_mono (ok' := (fun k_ => some k_ ≠ (.slice Ao46 t1212.length co46 : Value).ownBlock)) HO_3.out (fun k_ hk => hk.2)); clear HO_3; have HO_3 := n_; clear n_; have HX44 := A_ (show Kd.S k57 57 w43 w.heap.size (fun k_ => ((fun _ => True)) k_ ∧ ¬ ((fun k_ => some k_ = (.slice Ao46 t1212.length co46 : Value).ownBlock)) k_) (.slice (some ⟨go40, 0, none⟩) x3_8.length co41) x3_8 from (by (with_reducible repeat (first | apply Kd.S_alloc | apply Kd.S_drewN | apply Kd.S_drew)); exact Kd.S_mono HO_3.out (fun k_ hk => ⟨trivial, fun e_ => hk e_⟩))); obtain ⟨oki44, ce44, hcl44, hM44, hcc44, hfr44, hoki44, hH44⟩ := Kd.S_elem HX44.out z57 (t1209 : Int) (of_decide_eq_true as_) (by have h_ : (t1209 : Int) < ((x3_8.length : Int) : Int) := of_decide_eq_true as_; first | exact h_ | (have e_ := (Kd.S_reads' HO_3.out).1; omega) | simpa using h_); obtain ⟨ve44_0, ve44_4, rfl, ge44_0, ge44_4⟩ := k57_openM hM44; have HP44 := Kd.S_seg hH44 (of_decide_eq_true as_) (by have h_ : (t1209 : Int) < ((x3_8.length : Int) : Int) := of_decide_eq_true as_; first | exact h_ | (have e_ := (Kd.S_reads' HO_3.out).1; omega) | simpa using h_) (seg := [.slice Ao46 t1212.length co46]) (j := 4) (show 5 ≤ 5 from by decide) (x' := (⟨(rd_T57 x3_8 t1209).f0, (rd_T57 x3_8 t1209).f1, (rd_T57 x3_8 t1209).f2, (rd_T57 x3_8 t1209).f3, t1212⟩ : S57)) (k57_mkM _ _ _ (⟨(rd_T57 x3_8 t1209).f0, (rd_T57 x3_8 t1209).f1, (rd_T57 x3_8 t1209).f2, (rd_T57 x3_8 t1209).f3, t1212⟩ : S57) (Kd.R_mono ge44_0 (fun _ h_ => Or.inl h_)) (Kd.R_mono (Kd.R_tight rfl (Kd.R_mono (ok' := fun k_ => ((fun _ => True)) k_ ∧ k_ ≠ go40) (Kd.R_apart' (HO1214.out) (Kd.S_typed HO_3.out) (by decide)) (fun k_ hk => ⟨trivial, fun e_ => (hk.2) (by rw [e_]; rfl)⟩))) (fun _ h_ => Or.inr (h_)))) (fun _ hk => hk) (fun k_ hk_ => ((Kd.R_mono (ok' := fun k_ => ((fun _ => True)) k_ ∧ k_ ≠ go40) (Kd.R_apart' (HO1214.out) (Kd.S_typed HO_3.out) (by decide)) (fun k_ hk => ⟨trivial, fun e_ => (hk.2) (by rw [e_]; rfl)⟩))).1 k_ hk_.symm); have hx44_4 := hcc44 4 _ rfl; (try simp only [show (k57).sz = 5 from rfl, Nat.mul_one, Nat.add_zero] at hx44_4); have hf44_4 := hfr44 4; (try simp only [show (k57).sz = 5 from rfl, Nat.mul_one, Nat.add_zero] at hf44_4); (try clear hcl44); (try clear hcc44); (try clear hfr44); (try clear hM44); (try clear hoki44); (try clear hH44)) | ((with_reducible refine gate_store (t := 55) (p := 52) rfl ?_); refine store_event (t := 55) (p := 52) (v := ?vo_w45) (w1 := (w43.setCell ⟨go40, (t1209 : Int).toNat * 5 + 4, none⟩ (.slice Ao46 t1212.length co46))) ?hg ?ho ?hn ?hr ?_; (case ho => rfl); (case hg => rfl); (case hn => rfl); (case hr => first | (go_simp; done) | (go_simp; rfl)); intro w45 hw; have hg : w43.grownBy w45 (some go40) := (by rw [hw]; exact HP44.2); have hp_ : Kd.S k57 57 w45 w.heap.size (fun _ => True) (.slice (some ⟨go40, 0, none⟩) x3_8.length co41) y1217 := (by rw [hw, Ny1217.out]; exact HP44.1); clear HP44; replace HI0 := A_ (IsS116.grown bIHDraw2_ hg (IsS116.own_neS HI0.out HO_3.out (by decide))); replace HB := A_ ((by rw [hw]; exact below_set (HB.out) (Nat.le_trans HL.out GB40.out) : Below w0.heap.size w0 w45)); replace HK := A_ (KeepBut.trans bK_ (KeepBut.of_grown hg g) (Kd.S_base2 HO_3.out)); replace HO_3 := A_ (hp_); clear HO1214; clear hg hw hp_))
         go_roundg kj28
         case measure => have := HK1.out; have := HJ8.out; have := HJ28.out; omega
         case rel => exact ⟨(y1217), (wrap64 (x4_1 - 1)), (t1215), (t1216), rs_, H', ⟨by have := HK1.out; have := HJ8.out; have := HJ28.out; omega⟩, ⟨vS_ HO_3.out⟩, ⟨bIHDraw2_⟩, ⟨bK_⟩, ⟨bIHDraw1_⟩⟩
       · replace c35 := Bool.eq_false_iff.mpr c35
         subst c35
         rw [if_neg nf_] at H
         have H' := Aside0.mk H
         clear H
         go_wp2
         go_roundg kj28
         case measure => have := HK1.out; have := HJ8.out; have := HJ28.out; omega
         case rel => exact ⟨(x3_8), (wrap64 (x4_1 - 1)), (x1001_28), (x1002_28), rs_, H', ⟨by have := HK1.out; have := HJ8.out; have := HJ28.out; omega⟩, ⟨vS_ HO_3.out⟩, ⟨bIHDraw2_⟩, ⟨bK_⟩, ⟨bIHDraw1_⟩⟩
set_option maxHeartbeats 16000000 in
set_option maxRecDepth 100000 in
theorem spec_DrawShelves.calls (k : Nat) (A0 : Option Addr) (c0 : Nat) (l0 : List Int) (r1 : List (S57)) (r2 : List ByteArray) (r3 : List ByteArray) (w : World) (hr0 : Kd.C (Kd.int .u8) w A0 l0.length l0) (hc0 : l0.length ≤ c0) (h : spec_DrawShelves.f k l0 = some (r1, r2, r3)) :
 Calls Try.prog 39 #[.slice A0 l0.length c0] w fun e w' => ∃ v0_ v1_ v2_ : Value, e = .returned (.tuple #[v0_, v1_, v2_]) ∧ Kd.S k57 57 w' w.heap.size (fun k_ => some k_ ≠ (v1_ : Value).ownBlock ∧ some k_ ≠ (v2_ : Value).ownBlock) v0_ r1 ∧ Kd.R Kd.string 9 w' w.heap.size (fun k_ => some k_ ≠ (v2_ : Value).ownBlock) v1_ r2 ∧ Kd.R Kd.string 9 w' w.heap.size (fun k_ => some k_ ≠ (v1_ : Value).ownBlock) v2_ r3 ∧ Below w.heap.size w w' := by
 have HR0 := Aside0.mk hr0
 have HC0 := Aside0.mk hc0
 clear hr0 hc0
 have HB := A_ (Below.refl w.heap.size w)
 have H : ((spec_l1New.f k l0).bind fun bt1218 => ((spec_l10Draw.f k bt1218.1 bt1218.2.1 bt1218.2.2).bind fun bt1222 => ((spec_l10Path.f k bt1218.1 bt1222.2.1 bt1222.2.2 bt1222.1).bind fun bt1227 => ((spec_l10Path.f k bt1218.1 bt1227.2.1 bt1227.2.2 bt1222.1).bind fun bt1232 => (some (bt1222.1, bt1227.1, bt1232.1)))))) = some (r1, r2, r3) := h
 clear h
 obtain ⟨⟨t1218, t1219, t1220⟩, A2, H⟩ := bo_ H
 (try dsimp only at H)
 obtain ⟨⟨t1222, t1225, t1226⟩, A3, H⟩ := bo_ H
 (try dsimp only at H)
 obtain ⟨⟨t1227, t1230, t1231⟩, A4, H⟩ := bo_ H
 (try dsimp only at H)
 obtain ⟨⟨t1232, t1235, t1236⟩, A5, H⟩ := bo_ H
 (try dsimp only at H)
 simp only [Option.some.injEq, Prod.mk.injEq] at H
 obtain ⟨rfl, rfl, rfl⟩ := H
 go_enter Try.func39, Try.ntmps39
 go_wp2_with (first | ((with_reducible refine gate_callee (f := 84) rfl ?_); refine gL_ (some 9) Try.func84 #[.slice A0 l0.length c0] ?_; (with_reducible refine (spec_l1New.calls k _ _ l0 t1218 t1219 t1220 w _ ?s1 ?s2 ?s3 A2.out).mono ?_); (case s1 => repeat (first | (with_reducible first | exact HB.out | apply below_alloc | apply pw_below_drewN | apply below_drew1) | exact HB.out)); (case s2 => exact HR0.out); (case s3 => exact HC0.out); rintro e w6 ⟨g1221, rfl, hi, hb, hb2⟩; refine ⟨_, rfl, ?_⟩; replace HB := A_ (hb); have HI1221 := A_ (hi); (try clear hb); (try clear hb2); (try clear hk); (try clear hi)) | ((with_reducible refine gate_callee (f := 85) rfl ?_); refine gL_ (some 11) Try.func85 #[.pointer (some ⟨g1221, 0, none⟩)] ?_; (with_reducible refine (spec_l10Draw.calls k g1221 t1218 t1219 t1220 t1222 t1225 t1226 w _ ?s1 ?s2 A3.out).mono ?_); (case s1 => repeat (first | (with_reducible first | exact HI1221.out | apply IsS116.alloc | apply IsS116.drewN | apply IsS116.drew | apply IsS116.set_1 | apply IsS116.set_2) | exact HI1221.out)); (case s2 => repeat (first | (with_reducible first | exact HB.out | apply below_alloc | apply pw_below_drewN | apply below_drew1 | refine below_set ?_ (IsS116.ge HI1221.out)) | exact HB.out)); rintro e w7 ⟨v1223, rfl, ho0, hi, hb, hk⟩; refine ⟨_, rfl, ?_⟩; have HO1224 := A_ (Kd.S_lower ho0 (below_size (by repeat (first | (with_reducible first | exact HB.out | apply below_alloc | apply pw_below_drewN | apply below_drew1 | refine below_set ?_ (IsS116.ge HI1221.out)) | exact HB.out)))); replace HB := A_ (hb); replace HI1221 := A_ (hi); (try clear hb); (try clear hb2); (try clear hk); (try clear hi); (try clear ho0); obtain ⟨Ao8, co8, eo8⟩ := Kd.S_slice HO1224.out; subst eo8) | ((with_reducible refine gate_callee (f := 86) rfl ?_); refine gL_ (some 14) Try.func86 #[.pointer (some ⟨g1221, 0, none⟩), .slice Ao8 t1222.length co8] ?_; (with_reducible refine (spec_l10Path.calls k g1221 t1218 t1225 t1226 _ _ t1222 t1227 t1230 t1231 w _ ?s1 ?s2 ?s3 ?s4 A4.out).mono ?_); (case s1 => repeat (first | (with_reducible first | exact HI1221.out | apply IsS116.alloc | apply IsS116.drewN | apply IsS116.drew | apply IsS116.set_1 | apply IsS116.set_2) | exact HI1221.out)); (case s2 => repeat (first | (with_reducible first | exact HB.out | apply below_alloc | apply pw_below_drewN | apply below_drew1 | refine below_set ?_ (IsS116.ge HI1221.out)) | exact HB.out)); (case s3 => exact Kd.C_foot_own ((Kd.S_R (IsS116.apartS (show IsS116 w _ g1221 t1218 t1225 t1226 from by repeat (first | (with_reducible first | exact HI1221.out | apply IsS116.alloc | apply IsS116.drewN | apply IsS116.drew | apply IsS116.set_1 | apply IsS116.set_2) | exact HI1221.out)) (vS_ HO1224.out) (by decide)))) (fun _ h_ => h_.2)); (case s4 => exact (Kd.S_reads' HO1224.out).2.1); rintro e w9 ⟨v1228, rfl, ho0, hi, hb, hk⟩; refine ⟨_, rfl, ?_⟩; replace HO1224 := A_ (Kd.S_mono (Kd.S_told (Kd.S_oldK (IsS116.apartS (show IsS116 w _ g1221 t1218 t1225 t1226 from by repeat (first | (with_reducible first | exact HI1221.out | apply IsS116.alloc | apply IsS116.drewN | apply IsS116.drew | apply IsS116.set_1 | apply IsS116.set_2) | exact HI1221.out)) (vS_ HO1224.out) (by decide)) hk) (kb_ ho0)) (fun _ h_ => h_.1)); have HO1229 := A_ (Kd.R_lower ho0 (below_size (by repeat (first | (with_reducible first | exact HB.out | apply below_alloc | apply pw_below_drewN | apply below_drew1 | refine below_set ?_ (IsS116.ge HI1221.out)) | exact HB.out)))); replace HB := A_ (hb); replace HI1221 := A_ (hi); (try clear hb); (try clear hb2); (try clear hk); (try clear hi); (try clear ho0)) | ((with_reducible refine gate_callee (f := 86) rfl ?_); refine gL_ (some 19) Try.func86 #[.pointer (some ⟨g1221, 0, none⟩), .slice Ao8 t1222.length co8] ?_; (with_reducible refine (spec_l10Path.calls k g1221 t1218 t1230 t1231 _ _ t1222 t1232 t1235 t1236 w _ ?s1 ?s2 ?s3 ?s4 A5.out).mono ?_); (case s1 => repeat (first | (with_reducible first | exact HI1221.out | apply IsS116.alloc | apply IsS116.drewN | apply IsS116.drew | apply IsS116.set_1 | apply IsS116.set_2) | exact HI1221.out)); (case s2 => repeat (first | (with_reducible first | exact HB.out | apply below_alloc | apply pw_below_drewN | apply below_drew1 | refine below_set ?_ (IsS116.ge HI1221.out)) | exact HB.out)); (case s3 => exact Kd.C_foot_own ((Kd.S_R (IsS116.apartS (show IsS116 w _ g1221 t1218 t1230 t1231 from by repeat (first | (with_reducible first | exact HI1221.out | apply IsS116.alloc | apply IsS116.drewN | apply IsS116.drew | apply IsS116.set_1 | apply IsS116.set_2) | exact HI1221.out)) (vS_ HO1224.out) (by decide)))) (fun _ h_ => h_.2)); (case s4 => exact (Kd.S_reads' HO1224.out).2.1); rintro e w10 ⟨v1233, rfl, ho0, hi, hb, hk⟩; refine ⟨_, rfl, ?_⟩; replace HO1224 := A_ (Kd.S_mono (Kd.S_told (Kd.S_oldK (IsS116.apartS (show IsS116 w _ g1221 t1218 t1230 t1231 from by repeat (first | (with_reducible first | exact HI1221.out | apply IsS116.alloc | apply IsS116.drewN | apply IsS116.drew | apply IsS116.set_1 | apply IsS116.set_2) | exact HI1221.out)) (vS_ HO1224.out) (by decide)) hk) (kb_ ho0)) (fun _ h_ => h_.1)); have HO1234 := A_ (Kd.R_lower (Kd.R_new' ho0 (Kd.R_lt (vR_ HO1229.out))) (below_size (by repeat (first | (with_reducible first | exact HB.out | apply below_alloc | apply pw_below_drewN | apply below_drew1 | refine below_set ?_ (IsS116.ge HI1221.out)) | exact HB.out)))); replace HO1229 := A_ (Kd.R_mono (Kd.R_told (Kd.R_oldK (IsS116.apart (show IsS116 w _ g1221 t1218 t1230 t1231 from by repeat (first | (with_reducible first | exact HI1221.out | apply IsS116.alloc | apply IsS116.drewN | apply IsS116.drew | apply IsS116.set_1 | apply IsS116.set_2) | exact HI1221.out)) (vR_ HO1229.out) (by decide)) hk) (kb_ ho0)) (fun _ h_ => h_.1)); replace HB := A_ (hb); replace HI1221 := A_ (hi); (try clear hb); (try clear hb2); (try clear hk); (try clear hi); (try clear ho0)))
 go_ret3
 exact ⟨_, _, _, rr_, by (with_reducible repeat (first | apply Kd.S_alloc | apply Kd.S_drewN | apply Kd.S_drew)); exact Kd.S_mono HO1224.out (fun _ hk => ⟨hk.1.2, hk.2⟩), by (with_reducible repeat (first | apply Kd.R_alloc | apply Kd.R_drewN | apply Kd.R_drew)); exact Kd.R_mono HO1229.out (fun _ hk => hk.2), by (with_reducible repeat (first | apply Kd.R_alloc | apply Kd.R_drewN | apply Kd.R_drew)); exact Kd.R_mono HO1234.out (fun _ hk => hk.2), by repeat (first | (with_reducible first | exact HB.out | apply below_alloc | apply pw_below_drewN | apply below_drew1 | refine below_set ?_ (IsS116.ge HI1221.out)) | exact HB.out)⟩
end Go.Proofs.Ytbgggcgjijljkaa.Q

/- Printed walks. No condition. -/
namespace Go.Proofs.Ytbgggcgjijljkaa.Q
open Go.RowKit Go.Proofs.YtbgggcgjijljkaaW.PrintWords Go.Proofs.YtbgggcgjijljkaaW.PrintLast Go.Proofs.YtbgggcgjijljkaaW.PrintMore
attribute [local go_sem] max2_int min2_int max_two min_two max_three min_three max_four min_four
set_option linter.unusedVariables false
set_option linter.unusedSimpArgs false
theorem S_fresh {α : Type} {d : Kd α} {e base : Nat} {w : World} {ok : Nat → Prop} {v : Value} {xs : List α} (h : Kd.S d e w base ok v xs) : Kd.S d e w base (fun k => base ≤ k) v xs := by
  obtain ⟨f, h0, ho⟩ := h
  exact ⟨f, fun k hk => Kd.R_base ⟨h0, ho⟩ k hk, ho.imp_ (fun _ _ hp => (Kd.tag f d).M_mono (fun k hk => ⟨hk.2.1, hk.1.2⟩) ((Kd.tag f d).M_bound hp))⟩
theorem impl_PutFile.calls (k : Nat) (A0 : Option Addr) (c0 : Nat) (l0 : List (S57)) (P1_ : Nat → Prop) (A1 : Option Addr) (c1 : Nat) (l1 : List ByteArray) (a2 : ByteArray) (a3 : Int) (r1 : List (S57)) (r2 : Int) (w : World) (hr0 : Kd.C k57 w A0 l0.length l0) (hc0 : l0.length ≤ c0) (hs1 : Kd.V Kd.string 9 w w.heap.size (fun k_ => P1_ k_) (.slice A1 l1.length c1) l1) (h : impl_PutFile.f k l0 l1 a2 a3 = some (r1, r2)) :
    Calls Try.prog 27 #[.slice A0 l0.length c0, .slice A1 l1.length c1, .string a2, .int .i64 a3] w fun e w' => ∃ v0_ : Value, e = .returned (.tuple #[v0_, .int .i64 r2]) ∧ Kd.N k57 57 w' w.heap.size (fun k_ => (P1_ k_ ∨ w.heap.size ≤ k_)) v0_ r1 ∧ Below w.heap.size w w' := by
  refine (impl_PutFileV.calls k A0 c0 l0 P1_ A1 c1 l1 a2 a3 r1 r2 w hr0 hc0 hs1 h).mono ?_
  rintro e w' ⟨v, e1, h2, hb⟩
  exact ⟨v, e1, Kd.S_N (Kd.S_mono (S_fresh h2) (fun _ hk => .inr hk)), hb⟩
end Go.Proofs.Ytbgggcgjijljkaa.Q
