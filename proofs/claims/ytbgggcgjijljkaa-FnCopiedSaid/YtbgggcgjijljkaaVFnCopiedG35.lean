/- Right shelves stay right: a shelf made, a text put, a thing taken away, what is known set. No condition. -/
import Derived.Test.YtbgggcgjijljkaaVFnCopiedG34
set_option linter.unusedSimpArgs false
set_option linter.unusedVariables false
namespace Go.Proofs.Ytbgggcgjijljkaa.L
open Go.RowKit Go.Proofs.YtbgggcgjijljkaaW.PrintWords Go.Proofs.YtbgggcgjijljkaaW.PrintLast Go.Proofs.Ytbgggcgjijljkaa.Q
def Ord (t : List S57) : Prop := t.Pairwise (fun a b => lessP a.f0 b.f0 = true)
theorem bytesLess_total : ∀ {x y : List UInt8}, x ≠ y -> Op.bytesLess x y = true \/ Op.bytesLess y x = true
  | [], [], h => absurd rfl h
  | [], _ :: _, _ => .inl (by simp [Op.bytesLess])
  | _ :: _, [], _ => .inr (by simp [Op.bytesLess])
  | a :: x, b :: y, h => by
    simp only [Op.bytesLess, Bool.or_eq_true, Bool.and_eq_true, decide_eq_true_eq, beq_iff_eq]
    by_cases e : a = b
    . subst e
      rcases bytesLess_total (show x ≠ y from fun e => h (by rw [e])) with h1 | h1
      . exact .inl (.inr ⟨rfl, h1⟩)
      . exact .inr (.inr ⟨rfl, h1⟩)
    . rcases UInt8.lt_or_lt_of_ne e with h1 | h1
      . exact .inl (.inl h1)
      . exact .inr (.inl h1)
theorem lessP_total : ∀ {a b : List ByteArray}, a ≠ b -> lessP a b = true \/ lessP b a = true
  | [], [], h => absurd rfl h
  | [], _ :: _, _ => .inl rfl
  | _ :: _, [], _ => .inr rfl
  | x :: a, y :: b, h => by
    simp only [lessP]
    by_cases e : x = y
    . subst e
      simp only [if_true]
      exact lessP_total (fun e => h (by rw [e]))
    . rw [if_neg e, if_neg (fun e' => e e'.symm)]
      exact bytesLess_total (fun e' => e (ba_inj e'))
theorem ord_uniq {t : List S57} (h : Ord t) {a b : S57} (ha : a ∈ t) (hb : b ∈ t) (e : a.f0 = b.f0) : a = b := by
  induction t with
  | nil => cases ha
  | cons r t ih =>
    have h1 := (List.pairwise_cons.1 h).1
    rcases List.mem_cons.1 ha with rfl | ha'
    . rcases List.mem_cons.1 hb with rfl | hb'
      . rfl
      . exact absurd e (lessP_ne (h1 b hb'))
    . rcases List.mem_cons.1 hb with rfl | hb'
      . exact absurd e.symm (lessP_ne (h1 a ha'))
      . exact ih (List.pairwise_cons.1 h).2 ha' hb'
theorem find_neg {t : List S57} {p : List ByteArray} : findR t p < 0 ↔ ∀ r ∈ t, r.f0 ≠ p := by
  constructor
  . exact find_none
  . intro h
    by_cases c : findR t p < 0
    . exact c
    . obtain ⟨pre, r, suf, e, _, hr⟩ := find_at c
      exact absurd hr (h r (by rw [e]; simp))
theorem isColl_iff {t : List S57} (ho : Ord t) {p : List ByteArray} : isColl t p = true ↔ p = [] \/ ∃ r ∈ t, r.f0 = p /\ r.f1 = true := by
  unfold isColl
  by_cases e : p = []
  . simp [e]
  . simp only [e, decide_false, Bool.false_or, false_or, Bool.and_eq_true, decide_eq_true_eq]
    constructor
    . rintro ⟨h1, h2⟩
      obtain ⟨pre, r, suf, et, f, hr⟩ := find_at (show ¬ findR t p < 0 by omega)
      rw [f, rd_implRes et] at h2
      exact ⟨r, by rw [et]; simp, hr, h2⟩
    . rintro ⟨r, hm, h1, h2⟩
      have hn : ¬ findR t p < 0 := fun h => find_none h r hm h1
      obtain ⟨pre, r', suf, et, f, hr⟩ := find_at hn
      have hu := ord_uniq ho (show r' ∈ t by rw [et]; simp) hm (by rw [hr, h1])
      refine ⟨by omega, ?_⟩
      rw [f, rd_implRes et, hu]
      exact h2
theorem treeL_iff (t : List S57) : ∀ (l : List S57) (q : Option S57), treeL t q l = true ↔ (∀ r ∈ l, resOk r = true /\ isColl t (above r.f0) = true) /\ (match q with | none => True | some q => ∀ r ∈ l, lessP q.f0 r.f0 = true) /\ Ord l
  | [], q => by cases q <;> simp [treeL, Ord]
  | r :: l, q => by
    have ih := treeL_iff t l (some r)
    constructor
    . intro h
      obtain ⟨h3, h4⟩ := treeL_pair t (r :: l) q h
      simp only [treeL, Bool.and_eq_true] at h
      obtain ⟨h0, _, h1, h2⟩ := h
      refine ⟨fun x hx => ?_, ?_, h4⟩
      . rcases List.mem_cons.1 hx with rfl | hx
        . exact ⟨h0, h1⟩
        . exact (ih.1 h2).1 x hx
      . cases q with
        | none => trivial
        | some q => exact h3
    . rintro ⟨h1, h2, h3⟩
      simp only [treeL, Bool.and_eq_true]
      refine ⟨(h1 r (by simp)).1, ?_, (h1 r (by simp)).2, ih.2 ⟨fun x hx => h1 x (by simp [hx]), (List.pairwise_cons.1 h3).1, (List.pairwise_cons.1 h3).2⟩⟩
      cases q with
      | none => rfl
      | some q => exact h2 r (by simp)
theorem treeOk_iff {t : List S57} : treeOk t = true ↔ (∀ r ∈ t, resOk r = true /\ isColl t (above r.f0) = true) /\ Ord t /\ t.length <= 12 := by
  unfold treeOk
  rw [Bool.and_eq_true, treeL_iff, decide_eq_true_eq]
  constructor
  . rintro ⟨⟨h1, _, h2⟩, h3⟩; exact ⟨h1, h2, by omega⟩
  . rintro ⟨h1, h2, h3⟩; exact ⟨⟨h1, trivial, h2⟩, by omega⟩
theorem mem_putAt (x : S57) : ∀ (t : List S57) (b : S57), b ∈ putAt x t ↔ b = x \/ b ∈ t
  | [], b => by simp [putAt]
  | a :: t, b => by
    unfold putAt
    by_cases c : lessP a.f0 x.f0 = true
    . simp only [if_pos c, List.mem_cons, mem_putAt x t b]
      constructor
      . rintro (h | h | h)
        . exact .inr (.inl h)
        . exact .inl h
        . exact .inr (.inr h)
      . rintro (h | h | h)
        . exact .inr (.inl h)
        . exact .inl h
        . exact .inr (.inr h)
    . simp only [if_neg c, List.mem_cons]
theorem ord_putAt {x : S57} : ∀ {t : List S57}, Ord t -> (∀ r ∈ t, r.f0 ≠ x.f0) -> Ord (putAt x t)
  | [], _, _ => by simp [putAt, Ord]
  | a :: t, h, hn => by
    have h1 := (List.pairwise_cons.1 h).1
    have h2 := (List.pairwise_cons.1 h).2
    unfold putAt
    by_cases c : lessP a.f0 x.f0 = true
    . simp only [if_pos c]
      refine List.pairwise_cons.2 ⟨fun b hb => ?_, ord_putAt h2 (fun r hr => hn r (by simp [hr]))⟩
      rcases (mem_putAt x t b).1 hb with rfl | hb
      . exact c
      . exact h1 b hb
    . simp only [if_neg c]
      have hx : lessP x.f0 a.f0 = true := by
        rcases lessP_total (hn a (by simp)) with h3 | h3
        . exact absurd h3 c
        . exact h3
      refine List.pairwise_cons.2 ⟨fun b hb => ?_, h⟩
      rcases List.mem_cons.1 hb with rfl | hb
      . exact hx
      . exact lessP_trans hx (h1 b hb)
theorem putAt_ok {t : List S57} {x : S57} (h : treeOk t = true) (hx : resOk x = true) (hc : isColl t (above x.f0) = true) (hn : ∀ r ∈ t, r.f0 ≠ x.f0) (hl : t.length < 12) : treeOk (putAt x t) = true := by
  obtain ⟨h1, h2, h3⟩ := treeOk_iff.1 h
  have ho := ord_putAt (x := x) h2 hn
  have hmono : ∀ p, isColl t p = true -> isColl (putAt x t) p = true := fun p hp => by
    rcases (isColl_iff h2).1 hp with e | ⟨r, hr, e⟩
    . exact (isColl_iff ho).2 (.inl e)
    . exact (isColl_iff ho).2 (.inr ⟨r, (mem_putAt x t r).2 (.inr hr), e⟩)
  refine treeOk_iff.2 ⟨fun r hr => ?_, ho, by rw [putAt_length]; omega⟩
  rcases (mem_putAt x t r).1 hr with rfl | hr
  . exact ⟨hx, hmono _ hc⟩
  . exact ⟨(h1 r hr).1, hmono _ (h1 r hr).2⟩
theorem ord_map {t u : List S57} (e : t.map (·.f0) = u.map (·.f0)) (h : Ord t) : Ord u := by
  have h1 : (t.map (·.f0)).Pairwise (fun a b => lessP a b = true) := List.pairwise_map.2 h
  rw [e] at h1
  exact List.pairwise_map.1 h1
theorem set_ok {pre suf : List S57} {r x : S57} (h : treeOk (pre ++ r :: suf) = true) (hx : resOk x = true) (e0 : x.f0 = r.f0) (e1 : x.f1 = r.f1) : treeOk (pre ++ x :: suf) = true := by
  obtain ⟨h1, h2, h3⟩ := treeOk_iff.1 h
  have ho : Ord (pre ++ x :: suf) := ord_map (by simp [e0]) h2
  have hmono : ∀ p, isColl (pre ++ r :: suf) p = true -> isColl (pre ++ x :: suf) p = true := fun p hp => by
    rcases (isColl_iff h2).1 hp with e | ⟨q, hq, e⟩
    . exact (isColl_iff ho).2 (.inl e)
    . refine (isColl_iff ho).2 (.inr ?_)
      rcases List.mem_append.1 hq with hq | hq
      . exact ⟨q, by simp [hq], e⟩
      . rcases List.mem_cons.1 hq with rfl | hq
        . exact ⟨x, by simp, by rw [e0, e1]; exact e⟩
        . exact ⟨q, by simp [hq], e⟩
  refine treeOk_iff.2 ⟨fun q hq => ?_, ho, by simpa using h3⟩
  rcases List.mem_append.1 hq with hq | hq
  . exact ⟨(h1 q (by simp [hq])).1, hmono _ (h1 q (by simp [hq])).2⟩
  . rcases List.mem_cons.1 hq with rfl | hq
    . exact ⟨hx, by rw [e0]; exact hmono _ (h1 r (by simp)).2⟩
    . exact ⟨(h1 q (by simp [hq])).1, hmono _ (h1 q (by simp [hq])).2⟩
theorem above_under {p q : List ByteArray} (hp : p ≠ []) (h : above q = p \/ under (above q) p = true) : under q p = true := by
  unfold under above at *
  have hlen : (q.take (q.length - 1)).length = q.length - 1 := by simp
  rcases h with h | h
  . have h1 : p.length = q.length - 1 := by rw [← h, hlen]
    have h2 : 0 < p.length := List.length_pos_iff.2 hp
    rw [Bool.and_eq_true, decide_eq_true_eq, decide_eq_true_eq]
    refine ⟨by omega, ?_⟩
    rw [h1, h]
  . rw [Bool.and_eq_true, decide_eq_true_eq, decide_eq_true_eq] at h ⊢
    obtain ⟨h1, h2⟩ := h
    rw [hlen] at h1
    refine ⟨by omega, ?_⟩
    rw [List.take_take, Nat.min_eq_left (by omega)] at h2
    exact h2
theorem without_ok {t : List S57} {p : List ByteArray} (h : treeOk t = true) (hp : p ≠ []) : treeOk (withoutP p t) = true := by
  obtain ⟨h1, h2, h3⟩ := treeOk_iff.1 h
  have ho : Ord (withoutP p t) := List.Pairwise.filter _ h2
  refine treeOk_iff.2 ⟨fun r hr => ?_, ho, Nat.le_trans (without_length p t) h3⟩
  obtain ⟨hm, hg⟩ := List.mem_filter.1 hr
  refine ⟨(h1 r hm).1, ?_⟩
  rcases (isColl_iff h2).1 (h1 r hm).2 with e | ⟨q, hq, e, e'⟩
  . exact (isColl_iff ho).2 (.inl e)
  . refine (isColl_iff ho).2 (.inr ⟨q, List.mem_filter.2 ⟨hq, ?_⟩, e, e'⟩)
    simp only [Bool.not_eq_true', Bool.or_eq_false_iff, decide_eq_false_iff_not] at hg ⊢
    have hn : ¬ (above r.f0 = p \/ under (above r.f0) p = true) := fun hh => by
      have := above_under hp hh
      rw [hg.2] at this
      cases this
    rw [← e] at hn
    exact ⟨fun hh => hn (.inl hh), Bool.eq_false_iff.mpr (fun hh => hn (.inr hh))⟩
theorem mayC_zero {t : List S57} {p : List ByteArray} {ver : Int} (h : mayC t [p] ver = 0) : treeOk t = true /\ pathOk p = true /\ 0 <= ver /\ ver <= 99999 := by
  unfold mayC at h
  by_cases c0 : treeOk t = true
  . rw [if_pos c0] at h
    by_cases c1 : [p].all pathOk = true
    . rw [if_pos c1] at h
      by_cases c2 : 0 <= ver /\ ver <= 99999
      . exact ⟨c0, by simpa using c1, c2⟩
      . rw [if_neg c2] at h; omega
    . rw [if_neg c1] at h; omega
  . rw [if_neg c0] at h; omega
theorem make_ok {t : List S57} {p : List ByteArray} {ver : Int} (h : treeOk t = true) : treeOk (makeR t p ver).1 = true := by
  unfold makeR
  repeat' split
  all_goals first | exact h | skip
  rename_i c0 c1 c2 c3 c4
  obtain ⟨_, hp, hv⟩ := mayC_zero c0
  refine putAt_ok h ?_ c3 (find_neg.1 (show findR t p < 0 by omega)) (by omega)
  unfold resOk newRes
  simp [c1, hp, hv.1, hv.2, propsOk, propsL]
  decide
theorem putF_ok {t : List S57} {p : List ByteArray} {body : ByteArray} {ver : Int} (h : treeOk t = true) : treeOk (putFR t p body ver).1 = true := by
  unfold putFR
  repeat' split
  all_goals first | exact h | skip
  . rename_i c0 c1 c2 c3 c4 c5
    obtain ⟨_, hp, hv⟩ := mayC_zero c0
    have hne : p ≠ [] := fun e => c1 (by rw [e]; rfl)
    refine putAt_ok h ?_ c2 (find_neg.1 c4) (by omega)
    unfold resOk newFile
    simp [hne, hp, hv.1, hv.2, propsOk, propsL]
    omega
  . rename_i c0 c1 c2 c3 c4
    obtain ⟨_, hp, hv⟩ := mayC_zero c0
    obtain ⟨pre, r, suf, e, f, hr⟩ := find_at c4
    have hg : t.getD (findR t p).toNat z57 = r := by rw [f]; exact getD_at _ e
    rw [hg, f, set_at e]
    have hrok := ((treeOk_iff.1 h).1 r (by rw [e]; simp)).1
    have hf1 : r.f1 = false := by
      cases h3 : r.f1 with
      | false => rfl
      | true => exact absurd ((isColl_iff (treeOk_iff.1 h).2.1).2 (.inr ⟨r, by rw [e]; simp, hr, h3⟩)) c1
    rw [show pre ++ [(⟨r.f0, r.f1, body, ver, r.f4⟩ : S57)] ++ suf = pre ++ (⟨r.f0, r.f1, body, ver, r.f4⟩ : S57) :: suf by simp]
    refine set_ok (r := r) (by rw [← e]; exact h) ?_ rfl rfl
    unfold resOk at hrok ⊢
    simp only [Bool.and_eq_true, decide_eq_true_eq] at hrok ⊢
    exact ⟨hrok.1, hrok.2.1, fun hh => by rw [hf1] at hh; (cases hh), by omega, hv, hrok.2.2.2.2.2⟩
theorem nil_ok : treeOk ([] : List S57) = true := treeOk_iff.2 ⟨by simp, List.Pairwise.nil, by simp⟩
theorem pathOk_sm {p : List ByteArray} (h : pathOk p = true) : p.length <= 4 /\ ∀ s ∈ p, s.size <= 8 := by
  unfold pathOk at h
  simp only [Bool.and_eq_true, decide_eq_true_eq, List.all_eq_true] at h
  refine ⟨by omega, fun s hs => ?_⟩
  have := h.1 s hs
  unfold nameOk at this
  simp only [Bool.and_eq_true, decide_eq_true_eq] at this
  omega
theorem tree_path {t : List S57} (h : treeOk t = true) {r : S57} (hr : r ∈ t) : r.f0 ≠ [] /\ pathOk r.f0 = true := by
  have h1 := ((treeOk_iff.1 h).1 r hr).1
  unfold resOk at h1
  simp only [Bool.and_eq_true, decide_eq_true_eq] at h1
  exact ⟨h1.1, h1.2.1⟩
end Go.Proofs.Ytbgggcgjijljkaa.L

/- A tree copied, or moved; as the program and the reference have it. No condition. -/
set_option linter.unusedSimpArgs false
set_option linter.unusedVariables false
namespace Go.Proofs.Ytbgggcgjijljkaa.L
open Go.RowKit Go.Proofs.YtbgggcgjijljkaaW.PrintWords Go.Proofs.YtbgggcgjijljkaaW.PrintLast Go.Proofs.Ytbgggcgjijljkaa.Q
def atP (a p : List ByteArray) : Bool := decide (a = p) || under a p
theorem atP_iff {a p : List ByteArray} : atP a p = true ↔ p <+: a := by
  unfold atP under
  simp only [Bool.or_eq_true, Bool.and_eq_true, decide_eq_true_eq]
  constructor
  . rintro (rfl | ⟨_, h⟩)
    . exact List.prefix_refl _
    . have h2 := List.take_append_drop p.length a
      rw [h] at h2
      exact ⟨_, h2⟩
  . rintro ⟨s, rfl⟩
    cases s with
    | nil => exact .inl (by rw [List.append_nil])
    | cons x s => exact .inr ⟨by rw [List.length_append, List.length_cons]; omega, by rw [List.take_left]⟩
def newR (tg : List ByteArray) (n : Nat) (ver : Int) (r : S57) : S57 := ⟨tg ++ r.f0.drop n, r.f1, r.f2, ver, r.f4⟩
def foldPut (tg : List ByteArray) (n : Nat) (ver : Int) : List S57 -> List S57 -> List S57
  | rest, [] => rest
  | rest, r :: l => foldPut tg n ver (putAt (newR tg n ver r) rest) l
def longR (fr tg : List ByteArray) (r : S57) : Bool := decide (4 < ((r.f0.length : Int) - (fr.length : Int)) + (tg.length : Int))
def bad4 (fr tg : List ByteArray) : Bool := decide (fr = []) || (decide (tg = []) || (atP fr tg || atP tg fr))
def restR (mv : Bool) (t : List S57) (fr tg : List ByteArray) : List S57 := if mv = true then withoutP fr (withoutP tg t) else withoutP tg t
def overC (t : List S57) (tg : List ByteArray) : Int := if 0 <= findR t tg then 204 else 201
def farR (mv : Bool) (t : List S57) (fr tg : List ByteArray) (over : Bool) (ver : Int) : List S57 × Int :=
  if mayC t [fr, tg] ver = 0 then
    (if fr ≠ [] /\ findR t fr < 0 then (t, 404) else if bad4 fr tg = true then (t, 403) else if 0 <= findR t tg /\ over = false then (t, 412)
    else if isColl t (above tg) = true then (if (deepOf fr t).any (longR fr tg) = true then (t, 409)
      else if 12 < ((restR mv t fr tg).length : Int) + ((deepOf fr t).length : Int) then (t, 507) else (foldPut tg fr.length ver (restR mv t fr tg) (deepOf fr t), overC t tg))
    else (t, 409))
  else (t, mayC t [fr, tg] ver)
theorem foldPut_length (tg : List ByteArray) (n : Nat) (ver : Int) : ∀ (l rest : List S57), (foldPut tg n ver rest l).length = rest.length + l.length
  | [], rest => by simp [foldPut]
  | r :: l, rest => by
    rw [foldPut, foldPut_length tg n ver l, putAt_length]
    simp only [List.length_cons]
    omega
theorem foldPut_mem (tg : List ByteArray) (n : Nat) (ver : Int) : ∀ (l rest : List S57) (x : S57), x ∈ foldPut tg n ver rest l ↔ x ∈ rest \/ ∃ r ∈ l, x = newR tg n ver r
  | [], rest, x => by simp [foldPut]
  | r :: l, rest, x => by
    rw [foldPut, foldPut_mem tg n ver l, mem_putAt]
    simp only [List.mem_cons]
    constructor
    . rintro ((h | h) | ⟨y, h, e⟩)
      . exact .inr ⟨r, .inl rfl, h⟩
      . exact .inl h
      . exact .inr ⟨y, .inr h, e⟩
    . rintro (h | ⟨y, rfl | h, e⟩)
      . exact .inl (.inr h)
      . exact .inl (.inl e)
      . exact .inr ⟨y, h, e⟩
def Fresh (tg : List ByteArray) (n : Nat) (ver : Int) (rest l : List S57) : Prop :=
  (∀ r ∈ l, ∀ x ∈ rest, x.f0 ≠ (newR tg n ver r).f0) /\ l.Pairwise (fun a b => (newR tg n ver a).f0 ≠ (newR tg n ver b).f0)
theorem Fresh.next {tg : List ByteArray} {n : Nat} {ver : Int} {rest l : List S57} {a : S57} (h : Fresh tg n ver rest (a :: l)) : Fresh tg n ver (putAt (newR tg n ver a) rest) l := by
  obtain ⟨h1, h2⟩ := h
  rw [List.pairwise_cons] at h2
  refine ⟨fun r hr x hx => ?_, h2.2⟩
  rcases (mem_putAt _ _ _).1 hx with rfl | hx
  . exact h2.1 r hr
  . exact h1 r (by simp [hr]) x hx
theorem deep_pre {fr : List ByteArray} {t : List S57} {r : S57} (h : r ∈ deepOf fr t) : fr <+: r.f0 := atP_iff.1 (List.mem_filter.1 h).2
theorem without_mem {p : List ByteArray} {t : List S57} {r : S57} : r ∈ withoutP p t ↔ r ∈ t /\ ¬ p <+: r.f0 := by
  unfold withoutP
  rw [List.mem_filter]
  refine and_congr_right (fun _ => ?_)
  rw [← atP_iff]
  unfold atP
  simp
theorem fresh_first {t : List S57} {fr tg : List ByteArray} {ver : Int} (ho : Ord t) : Fresh tg fr.length ver (withoutP tg t) (deepOf fr t) := by
  refine ⟨fun r _ x hx e => ?_, ?_⟩
  . have h2 := (without_mem.1 hx).2
    rw [e] at h2
    exact h2 (List.prefix_append _ _)
  . unfold deepOf
    refine List.Pairwise.imp_of_mem ?_ (List.Pairwise.filter _ ho)
    intro a b ha hb hab e
    obtain ⟨s1, e1⟩ := deep_pre ha
    obtain ⟨s2, e2⟩ := deep_pre hb
    have e3 := List.append_cancel_left (show tg ++ a.f0.drop fr.length = tg ++ b.f0.drop fr.length from e)
    rw [← e1, ← e2, List.drop_left, List.drop_left] at e3
    exact lessP_ne hab (by rw [← e1, ← e2, e3])
theorem ord_without {t : List S57} (p : List ByteArray) (h : Ord t) : Ord (withoutP p t) := List.Pairwise.filter _ h
theorem putAt_first {x : S57} : ∀ {s : List S57}, (∀ b ∈ s, ¬ lessP b.f0 x.f0 = true) -> putAt x s = x :: s
  | [], _ => rfl
  | a :: s, h => by unfold putAt; rw [if_neg (h a (by simp))]
theorem without_cons (p : List ByteArray) (a : S57) (s : List S57) : withoutP p (a :: s) = if atP a.f0 p = true then withoutP p s else a :: withoutP p s := by
  unfold withoutP atP
  rw [List.filter_cons]
  by_cases c : (decide (a.f0 = p) || under a.f0 p) = true
  . rw [if_pos c, if_neg (by rw [c]; simp)]
  . rw [if_neg c, if_pos (by rw [Bool.eq_false_iff.mpr c]; rfl)]
theorem putAt_without {fr : List ByteArray} {x : S57} (hx : ¬ atP x.f0 fr = true) : ∀ {s : List S57}, Ord s -> withoutP fr (putAt x s) = putAt x (withoutP fr s)
  | [], _ => by
    show withoutP fr [x] = putAt x []
    rw [without_cons, if_neg hx]
    rfl
  | a :: s, ho => by
    have h1 := (List.pairwise_cons.1 ho).1
    have ih := putAt_without hx (List.pairwise_cons.1 ho).2
    by_cases c : lessP a.f0 x.f0 = true
    . rw [show putAt x (a :: s) = a :: putAt x s from by rw [putAt, if_pos c], without_cons, without_cons]
      by_cases d : atP a.f0 fr = true
      . rw [if_pos d, if_pos d, ih]
      . rw [if_neg d, if_neg d, ih, show putAt x (a :: withoutP fr s) = a :: putAt x (withoutP fr s) from by rw [putAt, if_pos c]]
    . rw [show putAt x (a :: s) = x :: a :: s from by rw [putAt, if_neg c], without_cons, if_neg hx]
      symm
      apply putAt_first
      intro b hb hl
      have hb' := (without_mem.1 hb).1
      rcases List.mem_cons.1 hb' with rfl | hb'
      . exact c hl
      . exact c (lessP_trans (h1 b hb') hl)
theorem foldPut_without {fr tg : List ByteArray} {n : Nat} {ver : Int} (hb : atP tg fr = false /\ atP fr tg = false) : ∀ {l rest : List S57}, Ord rest -> Fresh tg n ver rest l -> withoutP fr (foldPut tg n ver rest l) = foldPut tg n ver (withoutP fr rest) l
  | [], _, _, _ => rfl
  | r :: l, rest, ho, hf => by
    have hx : ¬ atP (newR tg n ver r).f0 fr = true := by
      intro h
      have h1 := atP_iff.1 h
      rcases List.prefix_or_prefix_of_prefix h1 (List.prefix_append tg (r.f0.drop n)) with h2 | h2
      . rw [atP_iff.2 h2] at hb; exact absurd hb.1 (by simp)
      . rw [atP_iff.2 h2] at hb; exact absurd hb.2 (by simp)
    rw [foldPut, foldPut, ← putAt_without hx ho]
    exact foldPut_without hb (ord_putAt ho (fun y hy => hf.1 r (by simp) y hy)) hf.next
theorem treePath {t : List S57} (h : treeOk t = true) {r : S57} (hr : r ∈ t) : pathOk r.f0 = true := by
  have := ((treeOk_iff.1 h).1 r hr).1
  unfold resOk at this
  simp only [Bool.and_eq_true] at this
  exact this.2.1
theorem mayC_parts {t : List S57} {a b : List ByteArray} {ver : Int} (h : mayC t [a, b] ver = 0) : treeOk t = true /\ pathOk a = true /\ pathOk b = true /\ 0 <= ver /\ ver <= 99999 := by
  unfold mayC at h
  by_cases c : treeOk t = true
  . rw [if_pos c] at h
    simp only [List.all_cons, List.all_nil, Bool.and_true] at h
    by_cases c2 : (pathOk a && pathOk b) = true
    . rw [if_pos c2] at h
      rw [Bool.and_eq_true] at c2
      by_cases c3 : 0 <= ver /\ ver <= 99999
      . exact ⟨c, c2.1, c2.2, c3.1, c3.2⟩
      . rw [if_neg c3] at h; omega
    . rw [if_neg c2] at h; omega
  . rw [if_neg c] at h; omega
theorem pathOk_len {p : List ByteArray} (h : pathOk p = true) : p.length <= 4 := by
  unfold pathOk at h
  rw [Bool.and_eq_true, decide_eq_true_eq] at h
  omega
theorem new_path {fr tg : List ByteArray} {r : S57} (hr : pathOk r.f0 = true) (ht : pathOk tg = true) (hp : fr <+: r.f0) : pathOk (tg ++ r.f0.drop fr.length) = !longR fr tg r := by
  obtain ⟨s, e⟩ := hp
  have hl : r.f0.length = fr.length + s.length := by rw [← e]; simp
  unfold pathOk at hr ht ⊢
  rw [Bool.and_eq_true, List.all_eq_true] at hr ht
  have h1 : (tg ++ r.f0.drop fr.length).all nameOk = true := by
    rw [List.all_eq_true]
    intro x hx
    rcases List.mem_append.1 hx with hx | hx
    . exact ht.1 x hx
    . exact hr.1 x (List.mem_of_mem_drop hx)
  rw [h1, Bool.true_and]
  unfold longR
  have h2 : (tg ++ r.f0.drop fr.length).length = tg.length + s.length := by rw [← e]; simp
  rw [h2]
  by_cases c : ((tg.length + s.length : Nat) : Int) <= 4
  . rw [decide_eq_true c, decide_eq_false (by omega)]; rfl
  . rw [decide_eq_false c, decide_eq_true (by omega)]; rfl
theorem new_sm {tg : List ByteArray} {n : Nat} {ver : Int} {r : S57} (hr : SmRes r) (ht : SmS tg) (hv : IntOk ver) (hl : tg.length <= 4) (hl2 : r.f0.length <= 4) : SmRes (newR tg n ver r) := by
  refine ⟨⟨?_, fun s hs => ?_⟩, trivial, hr.2.2.1, hv, hr.2.2.2.2⟩
  . show (tg ++ r.f0.drop n).length <= 1048576
    rw [List.length_append, List.length_drop]; omega
  . rcases List.mem_append.1 (show s ∈ tg ++ r.f0.drop n from hs) with hs | hs
    . exact ht.2 s hs
    . exact hr.1.2 s (List.mem_of_mem_drop hs)
theorem copyPath_id {p : List ByteArray} (h : p.length <= 1048576) : impl_copyPath.f p = some p := by
  unfold impl_copyPath.f
  rw [List.length_nil, Nat.zero_add, if_pos (by omega), List.nil_append]
theorem pre_len {a b : List ByteArray} (h : a <+: b) : a.length <= b.length := h.length_le
theorem implFarLoop {l : List S57} {fr tg : List ByteArray} {ver : Int} {b : Bool} (hl : SmRess l) (h4 : ∀ r ∈ l, r.f0.length <= 4 /\ fr <+: r.f0) (hok : ∀ r ∈ l, pathOk r.f0 = true) (hto : pathOk tg = true) (ht : SmS tg) (ht4 : tg.length <= 4) (hv : IntOk ver) :
    ∀ (suf pre rest : List S57), l = pre ++ suf -> SmRess rest -> rest.length + suf.length <= 1048576 -> Ev (fun k => impl_copied.l0 k fr tg ver b rest l (l.length : Int) pre.length) (if suf.any (longR fr tg) = true then ([], 409) else (foldPut tg fr.length ver rest suf, if b = true then 204 else 201)) := by
  have hlm : l.length <= maxLen := by have := hl.1; rw [maxLen_eq]; omega
  intro suf
  induction suf with
  | nil =>
    intro pre rest h _ _
    refine Ev.step (fun k => impl_copied.l0.eq_2 ..) ?_
    simp only [if_neg (end_at h), foldPut, List.any_nil, Bool.false_eq_true, if_false]
    by_cases c : b = true
    . simp only [if_pos c]; exact Ev.now _
    . simp only [if_neg c]; exact Ev.now _
  | cons a suf ih =>
    intro pre rest h hr hlen
    have hm : a ∈ l := by rw [h]; simp
    have ha := hl.2 a hm
    have ha4 := h4 a hm
    have hpl := pre_len ha4.2
    have hn := new_sm (n := fr.length) ha ht hv ht4 ha4.1
    have ht0 := ht.1
    have hdl : (a.f0.drop fr.length).length <= 4 := by rw [List.length_drop]; omega
    have hpo := new_path (hok a hm) hto ha4.2
    refine Ev.step (fun k => impl_copied.l0.eq_2 ..) ?_
    simp only [if_pos (lt_at h), if_pos (nonneg_at _), rd_implRes h, next_at h hlm, Option.bind_some, copyPath_id ht0, if_pos (show (fr.length : Int) <= (a.f0.length : Int) by omega), Int.toNat_natCast, if_pos (show tg.length + (a.f0.drop fr.length).length < 8796093022208 by omega), foldPut, List.any_cons]
    refine Ev.bind (implPathOk (p := tg ++ a.f0.drop fr.length) hn.1) ?_
    rw [hpo]
    by_cases c : longR fr tg a = true
    . simp only [c, Bool.not_true, Bool.false_eq_true, if_false, Bool.true_or, if_true]; exact Ev.now _
    . simp only [Bool.eq_false_iff.mpr c, Bool.not_false, if_true, Bool.false_or]
      refine Ev.bind (implWithRes (x := newR tg fr.length ver a) hr) ?_
      refine ih (pre ++ [a]) _ (snoc_at h) ⟨by rw [putAt_length]; simp only [List.length_cons] at hlen; omega, fun y hy => ?_⟩ (by rw [putAt_length]; simp only [List.length_cons] at hlen; omega)
      rcases (mem_putAt _ _ _).1 hy with rfl | hy
      . exact hn
      . exact hr.2 y hy
def copiedR (t : List S57) (fr tg : List ByteArray) (over : Bool) (ver : Int) : List S57 × Int :=
  if fr ≠ [] /\ findR t fr < 0 then ([], 404) else if bad4 fr tg = true then ([], 403) else if 0 <= findR t tg /\ over = false then ([], 412)
    else if isColl t (above tg) = true then (if (deepOf fr t).any (longR fr tg) = true then ([], 409)
      else (foldPut tg fr.length ver (withoutP tg t) (deepOf fr t), overC t tg))
    else ([], 409)
theorem implCopied {over : Bool} {t : List S57} {fr tg : List ByteArray} {ver : Int} (ht : SmRess t) (hp : SmS fr) (hq : SmS tg) (hv : IntOk ver) (c0 : mayC t [fr, tg] ver = 0) : Ev (fun k => impl_copied.f k t fr tg over ver) (copiedR t fr tg over ver) := by
  have hp0 := hp.1
  have hq0 := hq.1
  obtain ⟨hto, hpf, hpt, hv0, hv1⟩ := mayC_parts c0
  have hf4 := pathOk_len hpf
  have ht4 := pathOk_len hpt
  have h12 := (treeOk_iff.1 hto).2.2
  unfold impl_copied.f copiedR
  refine Ev.bind (implFind ht) ?_
  have h3 : ∀ b : Bool, Ev (fun k => impl_copied.j0 k t fr tg over ver (decide (findR t tg >= 0)) b)
      (if b = true then ([], 404) else if bad4 fr tg = true then ([], 403) else if 0 <= findR t tg /\ over = false then ([], 412)
        else if isColl t (above tg) = true then (if (deepOf fr t).any (longR fr tg) = true then ([], 409)
        else (foldPut tg fr.length ver (withoutP tg t) (deepOf fr t), overC t tg))
        else ([], 409)) := by
    intro b
    refine Ev.step (fun k => impl_copied.j0.eq_2 ..) ?_
    by_cases cb : b = true
    . simp only [if_pos cb]; exact Ev.now _
    . simp only [if_neg cb]
      have h4 : ∀ d : Bool, Ev (fun k => impl_copied.j1 k t fr tg over ver (decide (findR t tg >= 0)) d)
          (if d = true then ([], 403) else if 0 <= findR t tg /\ over = false then ([], 412)
            else if isColl t (above tg) = true then (if (deepOf fr t).any (longR fr tg) = true then ([], 409)
            else (foldPut tg fr.length ver (withoutP tg t) (deepOf fr t), overC t tg))
            else ([], 409)) := by
        intro d
        refine Ev.step (fun k => impl_copied.j1.eq_2 ..) ?_
        by_cases cd : d = true
        . simp only [if_pos cd]; exact Ev.now _
        . simp only [if_neg cd]
          have h5 : ∀ q : Bool, Ev (fun k => impl_copied.j2 k t fr tg ver (decide (findR t tg >= 0)) q)
              (if q = true then ([], 412) else if isColl t (above tg) = true then (if (deepOf fr t).any (longR fr tg) = true then ([], 409)
                else (foldPut tg fr.length ver (withoutP tg t) (deepOf fr t), overC t tg))
                else ([], 409)) := by
            intro q
            refine Ev.step (fun k => impl_copied.j2.eq_2 ..) ?_
            by_cases cq : q = true
            . simp only [if_pos cq]; exact Ev.now _
            . simp only [if_neg cq, implAbove hq0, Option.bind_some]
              refine Ev.bind (implIsColl ht) ?_
              by_cases c3 : isColl t (above tg) = true
              . simp only [if_pos c3]
                refine Ev.bind (implWithout ht (by omega)) ?_
                refine Ev.bind (implDeep ht (by omega)) ?_
                have hrl := without_length tg t
                have hdl := deep_length fr t
                refine ev_cast (implFarLoop (b := decide (findR t tg >= 0)) (deep_sm ht) (fun r hr => ⟨pathOk_len (treePath hto (List.mem_filter.1 hr).1), deep_pre hr⟩) (fun r hr => treePath hto (List.mem_filter.1 hr).1) hpt hq ht4 hv (deepOf fr t) [] _ rfl (without_sm ht) (by omega)) ?_
                unfold overC
                by_cases co : findR t tg >= 0
                . simp [co]
                . simp [co]
              . simp only [if_neg c3]; exact Ev.now _
          by_cases co : findR t tg >= 0
          . simp only [decide_eq_true co, if_true]
            refine ev_cast (by simpa only [decide_eq_true co] using h5 (!over)) ?_
            cases over <;> simp [co]
          . simp only [decide_eq_false co, Bool.false_eq_true, if_false]
            refine ev_cast (by simpa only [decide_eq_false co] using h5 false) ?_
            simp [co]
      unfold bad4
      by_cases e1 : fr = []
      . simp only [nil_len, if_pos e1, decide_eq_true e1, Bool.true_or]; exact h4 true
      . simp only [nil_len, if_neg e1, decide_eq_false e1, Bool.false_or]
        by_cases e2 : tg = []
        . simp only [if_pos e2, decide_eq_true e2, Bool.true_or]; exact h4 true
        . simp only [if_neg e2, decide_eq_false e2, Bool.false_or]
          refine Ev.bind (implIsAt (by omega)) ?_
          by_cases e3 : (decide (fr = tg) || under fr tg) = true
          . simp only [if_pos e3]
            refine ev_cast (h4 true) ?_
            rw [show atP fr tg = true from e3]
            simp
          . simp only [if_neg e3]
            refine Ev.bind (implIsAt (by omega)) ?_
            refine ev_cast (h4 _) ?_
            rw [show atP fr tg = false from Bool.eq_false_iff.mpr e3, Bool.false_or]
            rfl
  by_cases e1 : (fr.length : Int) > 0
  . simp only [if_pos e1]
    refine Ev.bind (implFind ht) ?_
    refine ev_cast (h3 _) ?_
    have e2 : fr ≠ [] := by intro e; rw [e] at e1; simp at e1
    simp only [decide_eq_true_eq, ne_eq, e2, not_false_eq_true, true_and]
  . simp only [if_neg e1]
    refine ev_cast (h3 false) ?_
    have e2 : fr = [] := by apply List.eq_nil_of_length_eq_zero; omega
    simp [e2]
theorem over_lt (t : List S57) (tg : List ByteArray) : overC t tg < 400 := by unfold overC; split <;> omega
theorem copied_cases (t : List S57) (fr tg : List ByteArray) (over : Bool) (ver : Int) (c0 : mayC t [fr, tg] ver = 0) :
    (∃ c, 400 <= c /\ copiedR t fr tg over ver = ([], c) /\ ∀ mv, farR mv t fr tg over ver = (t, c)) \/
    (copiedR t fr tg over ver = (foldPut tg fr.length ver (withoutP tg t) (deepOf fr t), overC t tg) /\ bad4 fr tg = false /\ (∀ mv, farR mv t fr tg over ver = if 12 < ((restR mv t fr tg).length : Int) + ((deepOf fr t).length : Int) then (t, 507) else (foldPut tg fr.length ver (restR mv t fr tg) (deepOf fr t), overC t tg))) := by
  unfold copiedR farR
  simp only [if_pos c0]
  by_cases c1 : fr ≠ [] /\ findR t fr < 0
  . exact .inl ⟨404, by omega, by rw [if_pos c1], fun mv => by rw [if_pos c1]⟩
  . by_cases c2 : bad4 fr tg = true
    . exact .inl ⟨403, by omega, by rw [if_neg c1, if_pos c2], fun mv => by rw [if_neg c1, if_pos c2]⟩
    . by_cases c3 : 0 <= findR t tg /\ over = false
      . exact .inl ⟨412, by omega, by rw [if_neg c1, if_neg c2, if_pos c3], fun mv => by rw [if_neg c1, if_neg c2, if_pos c3]⟩
      . by_cases c4 : isColl t (above tg) = true
        . by_cases c5 : (deepOf fr t).any (longR fr tg) = true
          . exact .inl ⟨409, by omega, by rw [if_neg c1, if_neg c2, if_neg c3, if_pos c4, if_pos c5], fun mv => by rw [if_neg c1, if_neg c2, if_neg c3, if_pos c4, if_pos c5]⟩
          . exact .inr ⟨by rw [if_neg c1, if_neg c2, if_neg c3, if_pos c4, if_neg c5], Bool.eq_false_iff.mpr c2, fun mv => by rw [if_neg c1, if_neg c2, if_neg c3, if_pos c4, if_neg c5]⟩
        . exact .inl ⟨409, by omega, by rw [if_neg c1, if_neg c2, if_neg c3, if_neg c4], fun mv => by rw [if_neg c1, if_neg c2, if_neg c3, if_neg c4]⟩
theorem implCopyT {over : Bool} {t : List S57} {fr tg : List ByteArray} {ver : Int} (ht : SmRess t) (hp : SmS fr) (hq : SmS tg) (hv : IntOk ver) : Ev (fun k => impl_CopyTreeX.f k t fr tg over ver) (farR false t fr tg over ver) := by
  show Ev (fun k => impl_CopyTree.f k t fr tg over ver) _
  unfold impl_CopyTree.f
  refine Ev.bind (implMay ht (by simp) (fun q hq' => by rcases List.mem_cons.1 hq' with rfl | hq'; exact hp; rw [List.mem_singleton.1 hq']; exact hq)) ?_
  by_cases c0 : mayC t [fr, tg] ver = 0
  . simp only [if_pos c0]
    refine Ev.bind (implCopied ht hp hq hv c0) ?_
    rcases copied_cases t fr tg over ver c0 with ⟨c, hc, h1, h2⟩ | ⟨h1, hb, h2⟩
    . simp only [h1, h2 false, if_neg (show ¬ c < 400 by omega)]
      refine Ev.step (fun k => impl_CopyTree.j0.eq_2 ..) ?_
      simp only [Bool.false_eq_true, if_false, if_pos (show c >= 400 by omega)]
      exact Ev.bind (implCopyTree ht) (Ev.now _)
    . have ho := over_lt t tg
      simp only [h1, h2 false, if_pos ho, foldPut_length]
      rw [show restR false t fr tg = withoutP tg t from by unfold restR; simp]
      refine Ev.step (fun k => impl_CopyTree.j0.eq_2 ..) ?_
      by_cases cl : (12 : Int) < ((withoutP tg t).length : Int) + ((deepOf fr t).length : Int)
      . simp only [decide_eq_true (show (((withoutP tg t).length + (deepOf fr t).length : Nat) : Int) > 12 by omega), if_true, if_pos cl]
        exact Ev.bind (implCopyTree ht) (Ev.now _)
      . simp only [decide_eq_false (show ¬ (((withoutP tg t).length + (deepOf fr t).length : Nat) : Int) > 12 by omega), Bool.false_eq_true, if_false, if_neg (show ¬ overC t tg >= 400 by omega), if_neg cl]
        exact Ev.now _
  . simp only [if_neg c0]
    refine ev_cast (Ev.bind (implCopyTree ht) (Ev.now _)) ?_
    unfold farR
    rw [if_neg c0]
theorem implMoveT {over : Bool} {t : List S57} {fr tg : List ByteArray} {ver : Int} (ht : SmRess t) (hp : SmS fr) (hq : SmS tg) (hv : IntOk ver) : Ev (fun k => impl_MoveTreeX.f k t fr tg over ver) (farR true t fr tg over ver) := by
  have hp0 := hp.1
  show Ev (fun k => impl_MoveTree.f k t fr tg over ver) _
  unfold impl_MoveTree.f
  refine Ev.bind (implMay ht (by simp) (fun q hq' => by rcases List.mem_cons.1 hq' with rfl | hq'; exact hp; rw [List.mem_singleton.1 hq']; exact hq)) ?_
  by_cases c0 : mayC t [fr, tg] ver = 0
  . simp only [if_pos c0]
    refine Ev.bind (implCopied ht hp hq hv c0) ?_
    rcases copied_cases t fr tg over ver c0 with ⟨c, hc, h1, h2⟩ | ⟨h1, hb, h2⟩
    . simp only [h1, h2 true, if_pos (show c >= 400 by omega)]
      exact Ev.bind (implCopyTree ht) (Ev.now _)
    . have ho := over_lt t tg
      obtain ⟨hto, hpf, hpt, hv0, hv1⟩ := mayC_parts c0
      have hord := (treeOk_iff.1 hto).2.1
      have h12 := (treeOk_iff.1 hto).2.2
      have hdl := deep_length fr t
      have hrl := without_length tg t
      have hb2 : atP tg fr = false /\ atP fr tg = false := by
        unfold bad4 at hb
        simp only [Bool.or_eq_false_iff] at hb
        exact ⟨hb.2.2.2, hb.2.2.1⟩
      have hsm : SmRess (foldPut tg fr.length ver (withoutP tg t) (deepOf fr t)) := by
        refine ⟨by rw [foldPut_length]; omega, fun x hx => ?_⟩
        rcases (foldPut_mem _ _ _ _ _ _).1 hx with hx | ⟨r, hr, rfl⟩
        . exact ht.2 x (without_mem.1 hx).1
        . have hrt := (List.mem_filter.1 hr).1
          exact new_sm (ht.2 r hrt) hq hv (pathOk_len hpt) (pathOk_len (treePath hto hrt))
      simp only [h1, h2 true, if_neg (show ¬ overC t tg >= 400 by omega)]
      refine Ev.bind (implWithout hsm (by omega)) ?_
      rw [foldPut_without hb2 (ord_without tg hord) (fresh_first hord), show withoutP fr (withoutP tg t) = restR true t fr tg from by unfold restR; simp]
      simp only [foldPut_length]
      by_cases cl : (12 : Int) < ((restR true t fr tg).length : Int) + ((deepOf fr t).length : Int)
      . simp only [if_pos (show (((restR true t fr tg).length + (deepOf fr t).length : Nat) : Int) > 12 by omega), if_pos cl]
        exact Ev.bind (implCopyTree ht) (Ev.now _)
      . simp only [if_neg (show ¬ (((restR true t fr tg).length + (deepOf fr t).length : Nat) : Int) > 12 by omega), if_neg cl]
        exact Ev.now _
  . simp only [if_neg c0]
    refine ev_cast (Ev.bind (implCopyTree ht) (Ev.now _)) ?_
    unfold farR
    rw [if_neg c0]
end Go.Proofs.Ytbgggcgjijljkaa.L

/- Draws from a code: the cursor's bytes and its place. No condition. -/
set_option linter.unusedSimpArgs false
set_option linter.unusedVariables false
namespace Go.Proofs.Ytbgggcgjijljkaa.L
open Go.RowKit Go.Proofs.YtbgggcgjijljkaaW.PrintWords Go.Proofs.YtbgggcgjijljkaaW.PrintLast Go.Proofs.Ytbgggcgjijljkaa.Q
def Cur (b : List Int) (p : Int) : Prop := 0 <= p /\ p <= (b.length : Int) /\ b.length <= 1048576
theorem wrapI64 {x : Int} (h0 : -9223372036854775808 <= x) (h1 : x < 9223372036854775808) : IntKind.i64.wrap x = x := by
  rw [i64_w, wrap_id h0 h1]
theorem and255 (x : Int) : 0 <= Go.bits .and .i64 x 255 /\ Go.bits .and .i64 x 255 <= 255 := by
  unfold Go.bits
  have h : (BitVec.ofInt IntKind.i64.bits x &&& BitVec.ofInt IntKind.i64.bits 255).toNat <= 255 := by
    rw [BitVec.toNat_and]
    exact Nat.le_trans Nat.and_le_right (by decide)
  simp only
  rw [wrapI64 (by omega) (by omega)]
  omega
theorem byteD {b : List Int} {p : Int} (h : Cur b p) (s : Int) : ∃ v p' s', spec_l1Byte.f b p s = some (v, p', s') /\ 0 <= v /\ v <= 255 /\ Cur b p' := by
  obtain ⟨h0, h1, h2⟩ := h
  unfold spec_l1Byte.f
  by_cases c : p < (b.length : Int)
  . rw [if_pos c, if_pos h0]
    refine ⟨_, _, _, rfl, (and255 _).1, (and255 _).2, ?_⟩
    rw [wrap_id (by omega) (by omega)]
    exact ⟨by omega, by omega, h2⟩
  . rw [if_neg c]
    exact ⟨_, _, _, rfl, (and255 _).1, (and255 _).2, h0, h1, h2⟩
theorem belowD {b : List Int} {p : Int} (h : Cur b p) (s : Int) {n : Int} (hn : 0 < n) : ∃ v p' s', spec_l1Below.f b p s n = some (v, p', s') /\ 0 <= v /\ v < n /\ Cur b p' := by
  unfold spec_l1Below.f
  rw [if_neg (by omega)]
  by_cases c : n <= 256
  . rw [if_pos c]
    obtain ⟨v, p1, s1, e, v0, v1, h'⟩ := byteD h s
    simp only [e, Option.bind_some, if_neg (show ¬ n = 0 by omega)]
    exact ⟨_, _, _, rfl, Int.tmod_nonneg _ v0, Int.tmod_lt_of_pos _ hn, h'⟩
  . rw [if_neg c]
    obtain ⟨v, p1, s1, e, v0, v1, h1⟩ := byteD h s
    simp only [e, Option.bind_some]
    obtain ⟨v', p2, s2, e, v0', v1', h2⟩ := byteD h1 s1
    simp only [e, Option.bind_some]
    obtain ⟨v'', p3, s3, e, v0'', v1'', h3⟩ := byteD h2 s2
    simp only [e, Option.bind_some, if_neg (show ¬ n = 0 by omega)]
    rw [wrap_id (x := v * 65536) (by omega) (by omega), wrap_id (x := v' * 256) (by omega) (by omega), wrap_id (x := v * 65536 + v' * 256) (by omega) (by omega), wrap_id (by omega) (by omega)]
    exact ⟨_, _, _, rfl, Int.tmod_nonneg _ (by omega), Int.tmod_lt_of_pos _ hn, h3⟩
theorem belowD0 {b : List Int} {p : Int} (h : Cur b p) (s n : Int) : ∃ v p' s', spec_l1Below.f b p s n = some (v, p', s') /\ 0 <= v /\ Cur b p' := by
  by_cases c : 0 < n
  . obtain ⟨v, p', s', e, h0, _, h'⟩ := belowD h s c
    exact ⟨v, p', s', e, h0, h'⟩
  . unfold spec_l1Below.f
    rw [if_pos (by omega)]
    exact ⟨_, _, _, rfl, Int.le_refl _, h⟩
theorem onceD {b : List Int} {p : Int} (h : Cur b p) (s n : Int) : ∃ v p' s', spec_l1Once.f b p s n = some (v, p', s') /\ Cur b p' := by
  obtain ⟨v, p', s', e, h0, h'⟩ := belowD0 h s n
  unfold spec_l1Once.f
  rw [e]
  exact ⟨_, _, _, rfl, h'⟩
theorem strD {b : List Int} {p : Int} (h : Cur b p) (s : Int) {l : List ByteArray} (hl : l ≠ []) : ∃ v p' s', spec_l1Str.f b p s l = some (v, p', s') /\ v ∈ l /\ Cur b p' := by
  have hpos : 0 < l.length := List.length_pos_iff.2 hl
  obtain ⟨v, p', s', e, h0, h1, h'⟩ := belowD h s (n := (l.length : Int)) (by omega)
  unfold spec_l1Str.f
  rw [e]
  simp only [Option.bind_some, if_pos h0, if_pos h1]
  refine ⟨_, _, _, rfl, ?_, h'⟩
  have hlt : v.toNat < l.length := by omega
  unfold rdOf
  rw [List.getD_eq_getElem?_getD, List.getElem?_eq_getElem hlt]
  exact List.getElem_mem hlt
theorem newD {l : List Int} (hl : l.length <= 1048576) : ∃ s, Ev (fun k => spec_l1New.f k l) (l, 0, s) := by
  have key : ∀ (suf pre : List Int) (x : Int), l = pre ++ suf -> ∃ s, Ev (fun k => spec_l1New.l0 k l x pre.length) (l, 0, s) := by
    intro suf
    induction suf with
    | nil =>
      intro pre x h
      refine ⟨x, ?_⟩
      refine Ev.step (fun k => spec_l1New.l0.eq_2 ..) ?_
      simp only [if_neg (end_at h)]
      exact Ev.now _
    | cons a suf ih =>
      intro pre x h
      by_cases c : (pre.length : Int) < 4000
      . obtain ⟨s, hs⟩ := ih (pre ++ [a]) _ (snoc_at h)
        refine ⟨s, ?_⟩
        refine Ev.step (fun k => spec_l1New.l0.eq_2 ..) ?_
        simp only [if_pos (lt_at h), if_pos c, if_pos (nonneg_at _), next_at h (show l.length <= maxLen by rw [maxLen_eq]; omega)]
        exact hs
      . refine ⟨x, ?_⟩
        refine Ev.step (fun k => spec_l1New.l0.eq_2 ..) ?_
        simp only [if_pos (lt_at h), if_neg c]
        exact Ev.now _
  exact key l [] _ rfl
theorem cur0 {l : List Int} (hl : l.length <= 1048576) : Cur l 0 := ⟨Int.le_refl _, by omega, hl⟩
end Go.Proofs.Ytbgggcgjijljkaa.L

/- Draws of paths. No condition. -/
set_option linter.unusedSimpArgs false
set_option linter.unusedVariables false
namespace Go.Proofs.Ytbgggcgjijljkaa.L
open Go.RowKit Go.Proofs.YtbgggcgjijljkaaW.PrintWords Go.Proofs.YtbgggcgjijljkaaW.PrintLast Go.Proofs.Ytbgggcgjijljkaa.Q
theorem split_at {α : Type} {t : List α} {i : Int} (h0 : 0 <= i) (h1 : i < (t.length : Int)) : ∃ pre r suf, t = pre ++ r :: suf /\ i = (pre.length : Int) := by
  have hj : i.toNat < t.length := by omega
  refine ⟨t.take i.toNat, t[i.toNat], t.drop (i.toNat + 1), ?_, ?_⟩
  . rw [List.getElem_cons_drop, List.take_append_drop]
  . rw [List.length_take]; omega
def SmP (n : Nat) (l : List ByteArray) : Prop := l.length <= n /\ ∀ x ∈ l, x.size <= 1000
theorem SmP.sm {n : Nat} {l : List ByteArray} (h : SmP n l) (hn : n <= 1048576) : SmS l := ⟨Nat.le_trans h.1 hn, fun x hx => Nat.le_trans (h.2 x hx) (by omega)⟩
theorem mem_sz2 {v : ByteArray} {l : List ByteArray} (h : v ∈ l) (hl : l.all (fun x => decide (x.size <= 1000)) = true) : v.size <= 1000 := of_decide_eq_true (List.all_eq_true.1 hl v h)
theorem nameD {b : List Int} {p : Int} (h : Cur b p) (s : Int) : ∃ v p' s', spec_l2Name.f b p s = some (v, p', s') /\ v.size <= 1000 /\ Cur b p' := by
  unfold spec_l2Name.f
  obtain ⟨v, p1, s1, e, m, h1⟩ := strD h s (l := [(⟨#[97]⟩ : ByteArray), (⟨#[98]⟩ : ByteArray), (⟨#[99]⟩ : ByteArray), (⟨#[97, 32, 98]⟩ : ByteArray), (⟨#[120, 37, 121]⟩ : ByteArray), (⟨#[97]⟩ : ByteArray), (⟨#[98]⟩ : ByteArray)]) (by simp)
  simp only [e, Option.bind_some]
  exact ⟨_, _, _, rfl, mem_sz2 m (by decide), h1⟩
theorem l2DrawD {b : List Int} {p : Int} (h : Cur b p) (s : Int) : ∃ l p' s', Ev (fun k => spec_l2Draw.f k b p s) (l, p', s') /\ SmP 3 l /\ Cur b p' := by
  unfold spec_l2Draw.f
  obtain ⟨v, p1, s1, e, v0, v1, h1⟩ := belowD h s (n := 4) (by omega)
  simp only [e, Option.bind_some]
  have key : ∀ (n : Nat) (out : List ByteArray) (q t : Int), (out.length + n <= 3 /\ ∀ x ∈ out, x.size <= 1000) -> Cur b q -> ∃ l p' s', Ev (fun k => spec_l2Draw.l0 k out (n : Int) b q t) (l, p', s') /\ SmP 3 l /\ Cur b p' := by
    intro n
    induction n with
    | zero =>
      intro out q t ho hq
      refine ⟨out, q, t, ?_, ⟨by omega, ho.2⟩, hq⟩
      refine Ev.step (fun k => spec_l2Draw.l0.eq_2 ..) ?_
      simp only [if_neg (show ¬ ((0 : Nat) : Int) > 0 by decide)]
      exact Ev.now _
    | succ n ih =>
      intro out q t ho hq
      obtain ⟨x, q1, t1, e, m, hq1⟩ := nameD hq t
      obtain ⟨l, q2, t2, he, hl, hq2⟩ := ih (out ++ [x]) q1 t1 ⟨by simp; omega, fun y hy => by
        rcases List.mem_append.1 hy with hy | hy
        . exact ho.2 y hy
        . simp at hy; subst hy; exact m⟩ hq1
      refine ⟨l, q2, t2, ?_, hl, hq2⟩
      refine Ev.step (fun k => spec_l2Draw.l0.eq_2 ..) ?_
      simp only [if_pos (show ((n + 1 : Nat) : Int) > 0 by omega), e, Option.bind_some, if_pos (show out.length < 8796093022208 by omega)]
      rw [show wrap64 (((n + 1 : Nat) : Int) - 1) = (n : Int) by rw [wrap_id (by omega) (by omega)]; omega]
      exact he
  obtain ⟨n, rfl⟩ := Int.eq_ofNat_of_zero_le v0
  exact key n [] p1 s1 ⟨by simp; omega, by simp⟩ h1
end Go.Proofs.Ytbgggcgjijljkaa.L

/- Draws of properties. No condition. -/
set_option linter.unusedSimpArgs false
set_option linter.unusedVariables false
namespace Go.Proofs.Ytbgggcgjijljkaa.L
open Go.RowKit Go.Proofs.YtbgggcgjijljkaaW.PrintWords Go.Proofs.YtbgggcgjijljkaaW.PrintLast Go.Proofs.Ytbgggcgjijljkaa.Q
theorem setAll_few {n : Nat} (hn : 4 <= n) {l0 : List S72} (h0 : l0.length <= n /\ ∀ p ∈ l0, SmProp p) : ∀ (sets : List S74) (out : List S72), (∀ s ∈ sets, SmSet s) -> (∀ p ∈ out, SmProp p) -> (setAll l0 out sets).1.length <= n /\ ∀ p ∈ (setAll l0 out sets).1, SmProp p
  | [], out, _, ho => by
    unfold setAll
    by_cases c : propsOk out = true
    . simp only [if_pos c]
      refine ⟨?_, ho⟩
      unfold propsOk at c
      have := of_decide_eq_true (Bool.and_eq_true_iff.1 c).2
      omega
    . simp only [if_neg c]; exact h0
  | s :: sets, out, hs, ho => by
    unfold setAll
    by_cases c : propOk s.f1 = true
    . simp only [if_pos c]
      refine setAll_few hn h0 sets _ (fun x hx => hs x (by simp [hx])) (fun p hp => ?_)
      rcases setS_mem s out _ p hp with rfl | hp
      . exact (hs s (by simp)).2
      . exact ho p hp
    . simp only [if_neg c]; exact h0
theorem mem_sz {v : ByteArray} {l : List ByteArray} (h : v ∈ l) (hl : l.all (fun x => decide (x.size <= 1048576)) = true) : v.size <= 1048576 := of_decide_eq_true (List.all_eq_true.1 hl v h)
theorem onePropD {b : List Int} {p : Int} (h : Cur b p) (s : Int) : ∃ x y z p' s', spec_l10OneProp.f b p s = some (x, y, z, p', s') /\ SmProp (⟨x, y, z⟩ : S72) /\ Cur b p' := by
  unfold spec_l10OneProp.f
  obtain ⟨v, p1, s1, e, m, h1⟩ := strD h s (l := [(⟨#[68, 65, 86, 58]⟩ : ByteArray), (⟨#[117, 58, 120]⟩ : ByteArray), (⟨#[]⟩ : ByteArray)]) (by simp)
  have m1 := mem_sz m (by decide)
  simp only [e, Option.bind_some]
  obtain ⟨v', p2, s2, e, m, h2⟩ := strD h1 s1 (l := [(⟨#[97]⟩ : ByteArray), (⟨#[99, 111, 108, 111, 114]⟩ : ByteArray), (⟨#[98]⟩ : ByteArray)]) (by simp)
  have m2 := mem_sz m (by decide)
  simp only [e, Option.bind_some]
  obtain ⟨v'', p3, s3, e, m, h3⟩ := strD h2 s2 (l := [(⟨#[]⟩ : ByteArray), (⟨#[114, 101, 100]⟩ : ByteArray), (⟨#[97, 60, 98]⟩ : ByteArray)]) (by simp)
  have m3 := mem_sz m (by decide)
  simp only [e, Option.bind_some]
  exact ⟨_, _, _, _, _, rfl, ⟨m1, m2, m3⟩, h3⟩
theorem setAll_ok (l0 : List S72) : ∀ (sets : List S74) (out : List S72), (setAll l0 out sets).2 = true -> propsOk (setAll l0 out sets).1 = true
  | [], out, h => by
    unfold setAll at h ⊢
    by_cases c : propsOk out = true
    . simp only [if_pos c]; exact c
    . simp only [if_neg c] at h; cases h
  | t :: sets, out, h => by
    unfold setAll at h ⊢
    by_cases c : propOk t.f1 = true
    . simp only [if_pos c] at h ⊢
      exact setAll_ok l0 sets _ h
    . simp only [if_neg c] at h; cases h
theorem setAll_no (l0 : List S72) : ∀ (sets : List S74) (out : List S72), ¬ (setAll l0 out sets).2 = true -> (setAll l0 out sets).1 = l0
  | [], out, h => by
    unfold setAll at h ⊢
    by_cases c : propsOk out = true
    . rw [if_pos c] at h; exact absurd rfl h
    . simp only [if_neg c]
  | t :: sets, out, h => by
    unfold setAll at h ⊢
    by_cases c : propOk t.f1 = true
    . simp only [if_pos c] at h ⊢
      exact setAll_no l0 sets _ h
    . simp only [if_neg c]
theorem propsD {b : List Int} {p : Int} (h : Cur b p) (s : Int) : ∃ l p' s', Ev (fun k => spec_l10Props.f k b p s) (l, p', s') /\ (l.length <= 4 /\ (∀ x ∈ l, SmProp x) /\ propsOk l = true) /\ Cur b p' := by
  unfold spec_l10Props.f
  obtain ⟨v, p1, s1, e, v0, v1, h1⟩ := belowD h s (n := 3) (by omega)
  simp only [e, Option.bind_some]
  have key : ∀ (n : Nat) (out : List S72) (q t : Int), n <= 1000 -> (out.length <= 4 /\ (∀ x ∈ out, SmProp x) /\ propsOk out = true) -> Cur b q -> ∃ l p' s', Ev (fun k => spec_l10Props.l0 k out (n : Int) b q t) (l, p', s') /\ (l.length <= 4 /\ (∀ x ∈ l, SmProp x) /\ propsOk l = true) /\ Cur b p' := by
    intro n
    induction n with
    | zero =>
      intro out q t _ ho hq
      refine ⟨out, q, t, ?_, ho, hq⟩
      refine Ev.step (fun k => spec_l10Props.l0.eq_2 ..) ?_
      simp only [if_neg (show ¬ ((0 : Nat) : Int) > 0 by decide)]
      exact Ev.now _
    | succ n ih =>
      intro out q t hn ho hq
      obtain ⟨x, y, z, q1, t1, e, m, hq1⟩ := onePropD hq t
      have hset : SmSets [(⟨false, (⟨x, y, z⟩ : S72)⟩ : S74)] := ⟨by simp, by intro c hc; simp at hc; subst hc; exact ⟨trivial, m⟩⟩
      have hpo : propsOk (setAll out out [(⟨false, (⟨x, y, z⟩ : S72)⟩ : S74)]).1 = true := by
        by_cases c : (setAll out out [(⟨false, (⟨x, y, z⟩ : S72)⟩ : S74)]).2 = true
        . exact setAll_ok out _ out c
        . rw [setAll_no out _ out c]; exact ho.2.2
      obtain ⟨l, q2, t2, he, hl, hq2⟩ := ih (setAll out out [(⟨false, (⟨x, y, z⟩ : S72)⟩ : S74)]).1 q1 t1 (by omega) ⟨(setAll_few (Nat.le_refl 4) ⟨ho.1, ho.2.1⟩ _ _ hset.2 ho.2.1).1, (setAll_few (Nat.le_refl 4) ⟨ho.1, ho.2.1⟩ _ _ hset.2 ho.2.1).2, hpo⟩ hq1
      refine ⟨l, q2, t2, ?_, hl, hq2⟩
      refine Ev.step (fun k => spec_l10Props.l0.eq_2 ..) ?_
      simp only [if_pos (show ((n + 1 : Nat) : Int) > 0 by omega), e, Option.bind_some]
      refine Ev.bind (specSetAll ⟨by have := ho.1; omega, ho.2.1⟩ hset) ?_
      rw [show wrap64 (((n + 1 : Nat) : Int) - 1) = (n : Int) by rw [wrap_id (by omega) (by omega)]; omega]
      exact he
  obtain ⟨n, rfl⟩ := Int.eq_ofNat_of_zero_le v0
  exact key n [] p1 s1 (by omega) ⟨by simp, by simp, by decide⟩ h1
end Go.Proofs.Ytbgggcgjijljkaa.L

/- Draws of paths and of shelves; drawn shelves are right. No condition. -/
set_option linter.unusedSimpArgs false
set_option linter.unusedVariables false
namespace Go.Proofs.Ytbgggcgjijljkaa.L
open Go.RowKit Go.Proofs.YtbgggcgjijljkaaW.PrintWords Go.Proofs.YtbgggcgjijljkaaW.PrintLast Go.Proofs.Ytbgggcgjijljkaa.Q
theorem pathD {b : List Int} {p : Int} (h : Cur b p) (s : Int) {t : List S57} (ht : treeOk t = true) : ∃ l p' s', Ev (fun k => spec_l10Path.f k b p s t) (l, p', s') /\ SmP 5 l /\ Cur b p' := by
  have ht12 := (treeOk_iff.1 ht).2.2
  have hdraw : ∀ {q : Int}, Cur b q -> ∀ u, ∃ l p' s', Ev (fun k => spec_l10Path.j0 k t false b q u) (l, p', s') /\ SmP 5 l /\ Cur b p' := fun hq u => by
    obtain ⟨l, q1, u1, e, hl, hq1⟩ := l2DrawD hq u
    refine ⟨l, q1, u1, ?_, ⟨by have := hl.1; omega, hl.2⟩, hq1⟩
    refine Ev.step (fun k => spec_l10Path.j0.eq_2 ..) ?_
    simp only [Bool.false_eq_true, if_false]
    exact Ev.bind e (Ev.now _)
  unfold spec_l10Path.f
  by_cases c : (t.length : Int) > 0
  . simp only [if_pos c]
    obtain ⟨d, p1, s1, e1, h1⟩ := onceD h s 3
    cases d with
    | true =>
      obtain ⟨l, p2, s2, e2, hl, h2⟩ := hdraw h1 s1
      refine ⟨l, p2, s2, ?_, hl, h2⟩
      simp only [e1, Option.bind_some, Bool.not_true]
      exact e2
    | false =>
      obtain ⟨v, p2, s2, e2, v0, v1, h2⟩ := belowD h1 s1 (n := (t.length : Int)) (by omega)
      obtain ⟨pre, r, suf, et, ei⟩ := split_at v0 v1
      have hr := (tree_path ht (show r ∈ t by rw [et]; simp)).2
      obtain ⟨hr1, hr2⟩ := pathOk_sm hr
      obtain ⟨d, p3, s3, e3, h3⟩ := onceD h2 s2 3
      subst ei
      have hrd := rd_implRes et
      have hlt := lt_at et
      cases d with
      | true =>
        obtain ⟨x, p4, s4, e4, m, h4⟩ := nameD h3 s3
        refine ⟨r.f0 ++ [x], p4, s4, ?_, ⟨by simp; omega, fun y hy => ?_⟩, h4⟩
        . simp only [e1, Option.bind_some, Bool.not_false]
          refine Ev.step (fun k => spec_l10Path.j0.eq_2 ..) ?_
          simp only [if_true, Option.bind_some, e2, if_pos (nonneg_at _), if_pos hlt, hrd, List.length_nil, Nat.zero_add, if_pos (show r.f0.length < 8796093022208 by omega), e3, e4, List.nil_append]
          exact Ev.now _
        . rcases List.mem_append.1 hy with hy | hy
          . have := hr2 y hy; omega
          . simp at hy; subst hy; exact m
      | false =>
        refine ⟨r.f0, p3, s3, ?_, ⟨by omega, fun y hy => by have := hr2 y hy; omega⟩, h3⟩
        simp only [e1, Option.bind_some, Bool.not_false]
        refine Ev.step (fun k => spec_l10Path.j0.eq_2 ..) ?_
        simp only [if_true, Option.bind_some, e2, if_pos (nonneg_at _), if_pos hlt, hrd, List.length_nil, Nat.zero_add, if_pos (show r.f0.length < 8796093022208 by omega), e3, Bool.false_eq_true, if_false, List.nil_append]
        exact Ev.now _
  . simp only [if_neg c]
    exact hdraw h s
theorem small_int {v n : Int} (h0 : 0 <= v) (h1 : v < n) (hn : n <= 1000) : IntOk v := by unfold IntOk; omega
theorem drawD {b : List Int} {p : Int} (h : Cur b p) (s : Int) : ∃ t p' s', Ev (fun k => spec_l10Draw.f k b p s) (t, p', s') /\ (treeOk t = true /\ SmRess t) /\ Cur b p' := by
  unfold spec_l10Draw.f
  obtain ⟨v, p1, s1, e, v0, v1, h1⟩ := belowD h s (n := 10) (by omega)
  simp only [e, Option.bind_some]
  have key : ∀ (n : Nat) (t : List S57) (q u : Int), n <= 1000 -> (treeOk t = true /\ SmRess t) -> Cur b q -> ∃ t' p' s', Ev (fun k => spec_l10Draw.l0 k t (n : Int) b q u) (t', p', s') /\ (treeOk t' = true /\ SmRess t') /\ Cur b p' := by
    intro n
    induction n with
    | zero =>
      intro t q u _ ht hq
      refine ⟨t, q, u, ?_, ht, hq⟩
      refine Ev.step (fun k => spec_l10Draw.l0.eq_2 ..) ?_
      simp only [if_neg (show ¬ ((0 : Nat) : Int) > 0 by decide)]
      exact Ev.now _
    | succ n ih =>
      intro t q u hn ht hq
      have hw : wrap64 (((n + 1 : Nat) : Int) - 1) = (n : Int) := by rw [wrap_id (by omega) (by omega)]; omega
      have hj2f : ∀ {t : List S57} {q : Int} (u : Int), (treeOk t = true /\ SmRess t) -> Cur b q -> ∃ t' p' s', Ev (fun k => spec_l10Draw.j2 k t ((n + 1 : Nat) : Int) false b q u) (t', p', s') /\ (treeOk t' = true /\ SmRess t') /\ Cur b p' := fun {t q} u ht hq => by
        obtain ⟨t', q', u', e, hh⟩ := ih t q u (by omega) ht hq
        refine ⟨t', q', u', ?_, hh⟩
        refine Ev.step (fun k => spec_l10Draw.j2.eq_2 ..) ?_
        simp only [Bool.false_eq_true, if_false, hw]
        exact e
      have hj1 : ∀ {t : List S57} {q : Int} (u : Int), (treeOk t = true /\ SmRess t) -> Cur b q -> ∃ t' p' s', Ev (fun k => spec_l10Draw.j1 k t ((n + 1 : Nat) : Int) b q u) (t', p', s') /\ (treeOk t' = true /\ SmRess t') /\ Cur b p' := fun {t q} u ht hq => by
        by_cases c : (t.length : Int) > 0
        . obtain ⟨d, q1, u1, e1, hq1⟩ := onceD hq u 3
          cases d with
          | false =>
            obtain ⟨t', q', u', e, hh⟩ := hj2f u1 ht hq1
            refine ⟨t', q', u', ?_, hh⟩
            refine Ev.step (fun k => spec_l10Draw.j1.eq_2 ..) ?_
            simp only [if_pos c, e1, Option.bind_some]
            exact e
          | true =>
            obtain ⟨v, q2, u2, e2, v0, v1, hq2⟩ := belowD hq1 u1 (n := (t.length : Int)) (by omega)
            obtain ⟨pre, r, suf, et, ei⟩ := split_at v0 v1
            obtain ⟨l, q3, u3, e3, ⟨hl, hm, hpo⟩, hq3⟩ := propsD hq2 u2
            subst ei
            have hr := (treeOk_iff.1 ht.1).1 r (by rw [et]; simp)
            have hrs := ht.2.2 r (by rw [et]; simp)
            have hnew : (treeOk (pre ++ (⟨r.f0, r.f1, r.f2, r.f3, l⟩ : S57) :: suf) = true /\ SmRess (pre ++ (⟨r.f0, r.f1, r.f2, r.f3, l⟩ : S57) :: suf)) := by
              refine ⟨set_ok (r := r) (by rw [← et]; exact ht.1) ?_ rfl rfl, ?_, fun x hx => ?_⟩
              . have h1 := hr.1
                unfold resOk at h1 ⊢
                simp only [Bool.and_eq_true, decide_eq_true_eq] at h1 ⊢
                exact ⟨h1.1, h1.2.1, h1.2.2.1, h1.2.2.2.1, h1.2.2.2.2.1, hpo⟩
              . have := ht.2.1; rw [et] at this; simpa using this
              . rcases List.mem_append.1 hx with hx | hx
                . exact ht.2.2 x (by rw [et]; simp [hx])
                . rcases List.mem_cons.1 hx with rfl | hx
                  . exact ⟨hrs.1, hrs.2.1, hrs.2.2.1, hrs.2.2.2.1, by show l.length <= 1048576; omega, hm⟩
                  . exact ht.2.2 x (by rw [et]; simp [hx])
            obtain ⟨t', q', u', e, hh⟩ := ih _ q3 u3 (by omega) hnew hq3
            refine ⟨t', q', u', ?_, hh⟩
            refine Ev.step (fun k => spec_l10Draw.j1.eq_2 ..) ?_
            simp only [if_pos c, e1, Option.bind_some]
            refine Ev.step (fun k => spec_l10Draw.j2.eq_2 ..) ?_
            simp only [if_true, e2, Option.bind_some]
            refine Ev.bind e3 ?_
            simp only [if_pos (nonneg_at _), if_pos (lt_at et), rd_implRes et, set_at et, hw, List.append_assoc, List.singleton_append]
            exact e
        . obtain ⟨t', q', u', e, hh⟩ := hj2f u ht hq
          refine ⟨t', q', u', ?_, hh⟩
          refine Ev.step (fun k => spec_l10Draw.j1.eq_2 ..) ?_
          simp only [if_neg c]
          exact e
      obtain ⟨pt, q1, u1, e1, hp, hq1⟩ := pathD hq u ht.1
      have hps := hp.sm (by omega)
      obtain ⟨d, q2, u2, e2, hq2⟩ := onceD hq1 u1 2
      cases d with
      | true =>
        obtain ⟨v, q3, u3, e3, v0, v1, hq3⟩ := belowD hq2 u2 (n := 9) (by omega)
        have hv := small_int v0 v1 (by omega)
        obtain ⟨t', q', u', e, hh⟩ := hj1 u3 ⟨make_ok (p := pt) (ver := v) ht.1, make_sm ht.2 hps hv⟩ hq3
        refine ⟨t', q', u', ?_, hh⟩
        refine Ev.step (fun k => spec_l10Draw.l0.eq_2 ..) ?_
        simp only [if_pos (show ((n + 1 : Nat) : Int) > 0 by omega)]
        refine Ev.bind e1 ?_
        simp only [e2, e3, Option.bind_some, if_true]
        exact Ev.bind (specMake ht.2 hps hv) e
      | false =>
        obtain ⟨x, q3, u3, e3, m, hq3⟩ := strD hq2 u2 (l := [(⟨#[]⟩ : ByteArray), (⟨#[120]⟩ : ByteArray), (⟨#[104, 101, 108, 108, 111]⟩ : ByteArray)]) (by simp)
        have m1 := mem_sz m (by decide)
        obtain ⟨v, q4, u4, e4, v0, v1, hq4⟩ := belowD hq3 u3 (n := 9) (by omega)
        have hv := small_int v0 v1 (by omega)
        obtain ⟨t', q', u', e, hh⟩ := hj1 u4 ⟨putF_ok (p := pt) (body := x) (ver := v) ht.1, putF_sm ht.2 hps m1 hv⟩ hq4
        refine ⟨t', q', u', ?_, hh⟩
        refine Ev.step (fun k => spec_l10Draw.l0.eq_2 ..) ?_
        simp only [if_pos (show ((n + 1 : Nat) : Int) > 0 by omega)]
        refine Ev.bind e1 ?_
        simp only [e2, e3, e4, Option.bind_some, Bool.false_eq_true, if_false]
        exact Ev.bind (specPutF ht.2 hps m1 hv) e
  obtain ⟨n, rfl⟩ := Int.eq_ofNat_of_zero_le v0
  exact key n [] p1 s1 (by omega) ⟨nil_ok, by simp, by simp⟩ h1
theorem shelvesD {code : List Int} (hc : code.length <= 1048576) : ∃ t p q, Ev (fun k => spec_DrawShelves.f k code) (t, p, q) /\ (treeOk t = true /\ SmRess t) /\ SmS p /\ SmS q := by
  unfold spec_DrawShelves.f
  obtain ⟨s0, e0⟩ := newD hc
  obtain ⟨t, p1, s1, e1, ht, h1⟩ := drawD (cur0 hc) s0
  obtain ⟨p, p2, s2, e2, hp, h2⟩ := pathD h1 s1 ht.1
  obtain ⟨q, p3, s3, e3, hq, h3⟩ := pathD h2 s2 ht.1
  exact ⟨t, p, q, Ev.bind e0 (Ev.bind e1 (Ev.bind e2 (Ev.bind e3 (Ev.now _)))), ht, hp.sm (by omega), hq.sm (by omega)⟩
end Go.Proofs.Ytbgggcgjijljkaa.L

/- The laws' own 'is it the same'. No condition. -/
set_option linter.unusedSimpArgs false
set_option linter.unusedVariables false
namespace Go.Proofs.Ytbgggcgjijljkaa.L
open Go.RowKit Go.Proofs.YtbgggcgjijljkaaW.PrintWords Go.Proofs.YtbgggcgjijljkaaW.PrintLast Go.Proofs.Ytbgggcgjijljkaa.Q
theorem sameTextsD {a b : List ByteArray} (hl : a.length <= 1048576) : Ev (fun k => laws_sameTexts.f k a b) (decide (a = b)) := by
  have hm : a.length <= maxLen := by rw [maxLen_eq]; omega
  unfold laws_sameTexts.f
  by_cases e : (a.length : Int) = (b.length : Int)
  . simp only [if_pos e]
    refine eq_loop (a := a) (b := b) (fun k i => laws_sameTexts.l0 k a b i) ?_ ?_ a b [] [] rfl rfl rfl (by omega)
    . show Ev (fun k => laws_sameTexts.l0 k a b a.length) true
      refine Ev.step (fun k => laws_sameTexts.l0.eq_2 ..) ?_
      simp only [Int.lt_irrefl, if_false]
      exact Ev.now _
    . intro pre x su pre' y sv h h' hp
      have h3 := rd_at ByteArray.empty h'
      have h4 := lt_at h'
      rw [← hp] at h3 h4
      refine ⟨fun hne => ?_, fun heq r hr => ?_⟩
      . refine Ev.step (fun k => laws_sameTexts.l0.eq_2 ..) ?_
        simp only [if_pos (lt_at h), if_pos (nonneg_at _), if_pos h4, rd_at ByteArray.empty h, h3, ba_eq, if_neg hne]
        exact Ev.now _
      . refine Ev.step (fun k => laws_sameTexts.l0.eq_2 ..) ?_
        simp only [if_pos (lt_at h), if_pos (nonneg_at _), if_pos h4, rd_at ByteArray.empty h, h3, ba_eq, if_pos heq, next_at h hm]
        exact hr
  . simp only [if_neg e]
    rw [show decide (a = b) = false from decide_eq_false (fun h => e (by rw [h]))]
    exact Ev.now _
theorem samePropsD (l : List S72) (hl : l.length <= 1048576) : Ev (fun k => laws_sameProps.f k l l) true := by
  unfold laws_sameProps.f
  simp only [if_true]
  have key : ∀ (suf pre : List S72), l = pre ++ suf -> Ev (fun k => laws_sameProps.l0 k l l pre.length) true := by
    intro suf
    induction suf with
    | nil =>
      intro pre h
      refine Ev.step (fun k => laws_sameProps.l0.eq_2 ..) ?_
      simp only [if_neg (end_at h)]
      exact Ev.now _
    | cons a suf ih =>
      intro pre h
      refine Ev.step (fun k => laws_sameProps.l0.eq_2 ..) ?_
      simp only [if_pos (lt_at h), if_pos (nonneg_at _), beq_self_eq_true, Bool.not_true, Bool.or_self, Bool.false_eq_true, if_false, next_at h (show l.length <= maxLen by rw [maxLen_eq]; omega)]
      exact ih (pre ++ [a]) (snoc_at h)
  exact key l [] rfl
theorem sameResD {r : S57} (h : SmRes r) : Ev (fun k => laws_sameRes.f k r.f0 r.f1 r.f2 r.f3 r.f4 r.f0 r.f1 r.f2 r.f3 r.f4) true := by
  unfold laws_sameRes.f
  refine Ev.bind (sameTextsD (by have := h.1.1; omega)) ?_
  simp only [decide_true, beq_self_eq_true, if_true]
  exact Ev.bind (samePropsD _ h.2.2.2.2.1) (Ev.now _)
theorem sameTreeD {t : List S57} (ht : SmRess t) : Ev (fun k => laws_sameTree.f k t t) true := by
  have hl : t.length <= maxLen := by have := ht.1; rw [maxLen_eq]; omega
  unfold laws_sameTree.f
  simp only [if_true]
  have key : ∀ (suf pre : List S57), t = pre ++ suf -> Ev (fun k => laws_sameTree.l0 k t t pre.length) true := by
    intro suf
    induction suf with
    | nil =>
      intro pre h
      refine Ev.step (fun k => laws_sameTree.l0.eq_2 ..) ?_
      simp only [if_neg (end_at h)]
      exact Ev.now _
    | cons a suf ih =>
      intro pre h
      refine Ev.step (fun k => laws_sameTree.l0.eq_2 ..) ?_
      simp only [if_pos (lt_at h), if_pos (nonneg_at _), rd_implRes h, next_at h hl]
      refine Ev.bind (sameResD (ht.2 a (by rw [h]; simp))) ?_
      simp only [if_true]
      exact ih (pre ++ [a]) (snoc_at h)
  exact key t [] rfl
end Go.Proofs.Ytbgggcgjijljkaa.L

/- The law FnCopied computes true: a copy has all that was copied, at its paths, and what was copied stays; a move is a copy, and then taking away. No condition. -/
set_option linter.unusedSimpArgs false
set_option linter.unusedVariables false
namespace Go.Proofs.Ytbgggcgjijljkaa.Pure
open Go.RowKit Go.Proofs.YtbgggcgjijljkaaW.PrintWords Go.Proofs.YtbgggcgjijljkaaW.PrintLast Go.Proofs.Ytbgggcgjijljkaa.Q Go.Proofs.Ytbgggcgjijljkaa.L
theorem ord_foldPut {tg : List ByteArray} {n : Nat} {ver : Int} : ∀ {l rest : List S57}, Ord rest -> Fresh tg n ver rest l -> Ord (foldPut tg n ver rest l)
  | [], _, h, _ => h
  | r :: l, rest, h, hf => by
    rw [foldPut]
    exact ord_foldPut (ord_putAt h (fun y hy => hf.1 r (by simp) y hy)) hf.next
theorem deep_cons (p : List ByteArray) (a : S57) (s : List S57) : deepOf p (a :: s) = if atP a.f0 p = true then a :: deepOf p s else deepOf p s := by
  unfold deepOf atP
  rw [List.filter_cons]
theorem deep_putAt {q : List ByteArray} {x : S57} (hx : atP x.f0 q = true) : ∀ s : List S57, (deepOf q (putAt x s)).length = (deepOf q s).length + 1
  | [] => by
    show (deepOf q [x]).length = _
    rw [deep_cons, if_pos hx]
    rfl
  | a :: s => by
    have ih := deep_putAt hx s
    by_cases c : lessP a.f0 x.f0 = true
    . rw [show putAt x (a :: s) = a :: putAt x s from by rw [putAt, if_pos c], deep_cons, deep_cons]
      by_cases d : atP a.f0 q = true
      . rw [if_pos d, if_pos d, List.length_cons, List.length_cons, ih]
      . rw [if_neg d, if_neg d, ih]
    . rw [show putAt x (a :: s) = x :: a :: s from by rw [putAt, if_neg c], deep_cons q x, if_pos hx, List.length_cons]
theorem deep_foldPut {q : List ByteArray} {n : Nat} {ver : Int} : ∀ l rest : List S57, (deepOf q (foldPut q n ver rest l)).length = (deepOf q rest).length + l.length
  | [], _ => rfl
  | r :: l, rest => by
    rw [foldPut, deep_foldPut l, deep_putAt (atP_iff.2 (List.prefix_append _ _)), List.length_cons]
    omega
theorem deep_gone (p : List ByteArray) (t : List S57) : deepOf p (withoutP p t) = [] := by
  unfold deepOf withoutP
  rw [List.filter_filter]
  refine List.filter_eq_nil_iff.2 fun a _ h => ?_
  simp only [Bool.and_eq_true, Bool.not_eq_true'] at h
  rw [h.1] at h
  exact absurd h.2 (by simp)
theorem copied_facts {t : List S57} {p q : List ByteArray} {over : Bool} {ver : Int} {z : List S57} (h : copiedR t p q over ver = (z, overC t q)) :
    ¬ (p ≠ [] /\ findR t p < 0) /\ isColl t (above q) = true /\ (deepOf p t).any (longR p q) = false := by
  have ho := over_lt t q
  unfold copiedR at h
  by_cases c1 : p ≠ [] /\ findR t p < 0
  . rw [if_pos c1] at h; injection h with _ h; omega
  . rw [if_neg c1] at h
    by_cases c2 : bad4 p q = true
    . rw [if_pos c2] at h; injection h with _ h; omega
    . rw [if_neg c2] at h
      by_cases c3 : 0 <= findR t q /\ over = false
      . rw [if_pos c3] at h; injection h with _ h; omega
      . rw [if_neg c3] at h
        by_cases c4 : isColl t (above q) = true
        . rw [if_pos c4] at h
          by_cases c5 : (deepOf p t).any (longR p q) = true
          . rw [if_pos c5] at h; injection h with _ h; omega
          . exact ⟨c1, c4, Bool.eq_false_iff.mpr c5⟩
        . rw [if_neg c4] at h; injection h with _ h; omega
theorem above_len {q : List ByteArray} (h : q ≠ []) : (above q).length < q.length := by
  have := List.length_pos_iff.2 h
  unfold above
  rw [List.length_take]; omega
theorem above_app (u s : List ByteArray) (h : s ≠ []) : above (u ++ s) = u ++ s.take (s.length - 1) := by
  have := List.length_pos_iff.2 h
  unfold above
  rw [List.length_append, show u.length + s.length - 1 = u.length + (s.length - 1) by omega, List.take_length_add_append]
theorem copy_ok {t : List S57} {p q : List ByteArray} {ver : Int} (ht : treeOk t = true) (hq : q ≠ []) (hp : p ≠ []) (hpq : pathOk q = true) (hv : 0 <= ver /\ ver <= 99999) (hc : isColl t (above q) = true) (hl : (deepOf p t).any (longR p q) = false)
    (h12 : (withoutP q t).length + (deepOf p t).length <= 12) : treeOk (foldPut q p.length ver (withoutP q t) (deepOf p t)) = true := by
  obtain ⟨h1, h2, h3⟩ := treeOk_iff.1 ht
  obtain ⟨w1, w2, w3⟩ := treeOk_iff.1 (without_ok ht hq)
  have ho := ord_foldPut (ord_without q h2) (fresh_first (ver := ver) (fr := p) (tg := q) h2)
  have hmono : ∀ u, isColl (withoutP q t) u = true -> isColl (foldPut q p.length ver (withoutP q t) (deepOf p t)) u = true := fun u hu => by
    rcases (isColl_iff w2).1 hu with e | ⟨r, hr, e⟩
    . exact (isColl_iff ho).2 (.inl e)
    . exact (isColl_iff ho).2 (.inr ⟨r, (foldPut_mem _ _ _ _ _ _).2 (.inl hr), e⟩)
  refine treeOk_iff.2 ⟨fun r hr => ?_, ho, by rw [foldPut_length]; exact h12⟩
  rcases (foldPut_mem _ _ _ _ _ _).1 hr with hr | ⟨a, ha, rfl⟩
  . exact ⟨(w1 r hr).1, hmono _ (w1 r hr).2⟩
  . have hat := (List.mem_filter.1 ha).1
    have hpre := deep_pre ha
    obtain ⟨s, hs⟩ := hpre
    have hlong : longR p q a = false := by
      cases hh : longR p q a with
      | false => rfl
      | true => rw [List.any_eq_true.2 ⟨a, ha, hh⟩] at hl; cases hl
    have hpo := new_path (fr := p) (tg := q) (treePath ht hat) hpq ⟨s, hs⟩
    rw [hlong] at hpo
    have hra := (h1 a hat).1
    refine ⟨?_, ?_⟩
    . unfold resOk at hra ⊢
      simp only [Bool.and_eq_true, decide_eq_true_eq] at hra ⊢
      refine ⟨?_, hpo, hra.2.2.1, hra.2.2.2.1, hv, hra.2.2.2.2.2⟩
      show q ++ a.f0.drop p.length ≠ []
      intro e
      exact hq (List.append_eq_nil_iff.1 e).1
    . show isColl _ (above (q ++ a.f0.drop p.length)) = true
      rw [← hs, List.drop_left]
      by_cases e : s = []
      . subst e
        rw [List.append_nil]
        rcases (isColl_iff h2).1 hc with e | ⟨r, hr, e1, e2⟩
        . exact (isColl_iff ho).2 (.inl e)
        . refine (isColl_iff ho).2 (.inr ⟨r, (foldPut_mem _ _ _ _ _ _).2 (.inl (without_mem.2 ⟨hr, fun hh => ?_⟩)), e1, e2⟩)
          have := hh.length_le
          have := above_len hq
          rw [e1] at *
          omega
      . rw [above_app q s e]
        have hca := (h1 a hat).2
        rw [← hs, above_app p s e] at hca
        rcases (isColl_iff h2).1 hca with e0 | ⟨r, hr, e1, e2⟩
        . exact absurd (List.append_eq_nil_iff.1 e0).1 hp
        . have hrd : r ∈ deepOf p t := List.mem_filter.2 ⟨hr, atP_iff.2 (by rw [e1]; exact List.prefix_append _ _)⟩
          refine (isColl_iff ho).2 (.inr ⟨newR q p.length ver r, (foldPut_mem _ _ _ _ _ _).2 (.inr ⟨r, hrd, rfl⟩), ?_, e2⟩)
          show q ++ r.f0.drop p.length = _
          rw [e1, List.drop_left]
theorem atE (code : List Int) (hc : code.length <= 1048576) : ∃ a, laws_at.f code 2 = some a := by
  unfold laws_at.f
  by_cases c : (2 : Int) < (code.length : Int)
  . rw [if_pos c, if_pos (by decide)]; exact ⟨_, rfl⟩
  . rw [if_neg c]; exact ⟨_, rfl⟩
theorem mayC_codes {t : List S57} {ps : List (List ByteArray)} {ver : Int} (h : mayC t ps ver ≠ 0) : 400 <= mayC t ps ver := by
  unfold mayC at h ⊢
  repeat' split
  all_goals first | omega | (rename_i a b c; simp [a, b, c] at h) | (simp_all)
theorem FnCopied : ∀ (x0 : List Int), (fun l : List Int => l.length <= maxLen /\ ∀ a ∈ l, (fun x : Int => (Lit.int .u8 x).wf = true) a) x0 -> ∃ k, laws_FnCopied.f k x0 = some true := by
  intro code h0
  apply Ev.rounds
  unfold laws_FnCopied.f laws_big.f
  simp only [Option.bind_some]
  by_cases c : ((code.length : Int) > 1048576)
  . simp only [decide_eq_true c, if_true]; exact Ev.now _
  simp only [decide_eq_false c, Bool.false_eq_true, if_false]
  have hc : code.length <= 1048576 := by omega
  obtain ⟨t, p, q, e1, ⟨ht, hts⟩, hp, hq⟩ := shelvesD hc
  obtain ⟨a2, ha2⟩ := atE code hc
  have hv : IntOk 88 := by unfold IntOk; omega
  have hp0 := hp.1
  have hq0 := hq.1
  have hl0 := hts.1
  obtain ⟨over, hov⟩ : ∃ o, o = (Int.tmod a2 2 == 0) := ⟨_, rfl⟩
  refine Ev.bind e1 ?_
  simp only [ha2, Option.bind_some]
  rw [← hov]
  refine Ev.bind (implCopyT (over := over) hts hp hq hv) ?_
  refine Ev.bind (implMoveT (over := over) hts hp hq hv) ?_
  -- a copy that does not go
  have bad : ∀ (c : Int) (y : List S57) (d : Int), 400 <= c -> (d = c /\ y = t \/ c = 507 /\ d ≠ 507 \/ c = 507 /\ y = t) ->
      Ev (fun k => laws_FnCopied.j0 k t p q t c y d true) true := by
    intro c y d h4 hh
    refine Ev.step (fun k => laws_FnCopied.j0.eq_2 ..) ?_
    simp only [if_true]
    refine Ev.bind (sameTreeD hts) ?_
    simp only [if_true]
    rcases hh with ⟨rfl, rfl⟩ | ⟨rfl, h5⟩ | ⟨rfl, rfl⟩
    . simp only [if_true]
      exact Ev.bind (sameTreeD hts) (by simp only [if_true]; exact Ev.now _)
    . simp only [if_neg h5]
      exact Ev.now _
    . by_cases c5 : d = 507
      . simp only [if_pos c5]
        exact Ev.bind (sameTreeD hts) (by simp only [if_true]; exact Ev.now _)
      . simp only [if_neg c5]
        exact Ev.now _
  have out : ∀ (c : Int) (y : List S57) (d : Int), 400 <= c -> (d = c /\ y = t \/ c = 507 /\ d ≠ 507 \/ c = 507 /\ y = t) ->
      Ev (fun k => if c = 201 then laws_FnCopied.j0 k t p q t c y d false else laws_FnCopied.j0 k t p q t c y d (c != 204)) true := by
    intro c y d h4 hh
    simp only [if_neg (show ¬ c = 201 by omega), bne_iff_ne.mpr (show c ≠ 204 by omega)]
    exact bad c y d h4 hh
  by_cases c0 : mayC t [p, q] 88 = 0
  . rcases copied_cases t p q over 88 c0 with ⟨c, hc4, _, h2⟩ | ⟨h1, hb, h2⟩
    . simp only [h2 false, h2 true]
      exact out c t c hc4 (.inl ⟨rfl, rfl⟩)
    . have hov2 := over_lt t q
      obtain ⟨hto, hpf, hpt, _, _⟩ := mayC_parts c0
      have hord := (treeOk_iff.1 ht).2.1
      have h12 := (treeOk_iff.1 ht).2.2
      have hdl := deep_length p t
      rw [h2 false, h2 true]
      rw [show restR false t p q = withoutP q t from by unfold restR; simp]
      have hrt : restR true t p q = withoutP p (withoutP q t) := by unfold restR; simp
      have hrl : (restR true t p q).length <= (withoutP q t).length := by rw [hrt]; exact without_length _ _
      have hrl2 := without_length q t
      by_cases cl : (12 : Int) < ((withoutP q t).length : Int) + ((deepOf p t).length : Int)
      . simp only [if_pos cl]
        by_cases cm : (12 : Int) < ((restR true t p q).length : Int) + ((deepOf p t).length : Int)
        . simp only [if_pos cm]
          exact out 507 t 507 (by omega) (.inl ⟨rfl, rfl⟩)
        . simp only [if_neg cm]
          exact out 507 _ _ (by omega) (.inr (.inl ⟨rfl, by omega⟩))
      . simp only [if_neg cl, if_neg (show ¬ (12 : Int) < ((restR true t p q).length : Int) + ((deepOf p t).length : Int) by omega)]
        obtain ⟨f1, f2, f3⟩ := copied_facts h1
        have hb2 : p ≠ [] /\ q ≠ [] /\ atP p q = false /\ atP q p = false := by
          unfold bad4 at hb
          simp only [Bool.or_eq_false_iff, decide_eq_false_iff_not] at hb
          exact ⟨hb.1, hb.2.1, hb.2.2.1, hb.2.2.2⟩
        have hfr := fresh_first (ver := 88) (fr := p) (tg := q) hord
        have hx := copy_ok (ver := 88) ht hb2.2.1 hb2.1 hpt (by omega) f2 f3 (by omega)
        have hxo := (treeOk_iff.1 hx).2.1
        have hx12 := (treeOk_iff.1 hx).2.2
        have hapart : ∀ r : S57, p <+: r.f0 -> ¬ q <+: r.f0 := by
          intro r h3 h4
          rcases List.prefix_or_prefix_of_prefix h3 h4 with h5 | h5
          . rw [atP_iff.2 h5] at hb2; exact absurd hb2.2.2.2 (by simp)
          . rw [atP_iff.2 h5] at hb2; exact absurd hb2.2.2.1 (by simp)
        have hstay : ∀ r ∈ t, p <+: r.f0 -> r ∈ foldPut q p.length 88 (withoutP q t) (deepOf p t) := fun r hr h3 =>
          (foldPut_mem _ _ _ _ _ _).2 (.inl (without_mem.2 ⟨hr, hapart r h3⟩))
        have hxs : SmRess (foldPut q p.length 88 (withoutP q t) (deepOf p t)) := by
          refine ⟨by omega, fun x hx => ?_⟩
          rcases (foldPut_mem _ _ _ _ _ _).1 hx with hx | ⟨r, hr, rfl⟩
          . exact hts.2 x (without_mem.1 hx).1
          . have hrt := (List.mem_filter.1 hr).1
            exact new_sm (hts.2 r hrt) hq hv (pathOk_len hpt) (pathOk_len (treePath ht hrt))
        have hy : foldPut q p.length 88 (restR true t p q) (deepOf p t) = withoutP p (foldPut q p.length 88 (withoutP q t) (deepOf p t)) := by
          rw [foldPut_without ⟨hb2.2.2.2, hb2.2.2.1⟩ (ord_without q hord) hfr, hrt]
        rw [hy]
        obtain ⟨X, hX⟩ : ∃ X, X = foldPut q p.length 88 (withoutP q t) (deepOf p t) := ⟨_, rfl⟩
        have hmemX : ∀ x, x ∈ X ↔ x ∈ withoutP q t \/ ∃ r ∈ deepOf p t, x = newR q p.length 88 r := fun x => by rw [hX]; exact foldPut_mem _ _ _ _ _ _
        have hdX : (deepOf q X).length = (deepOf p t).length := by rw [hX, deep_foldPut, deep_gone]; simp
        rw [← hX] at hx hxo hx12 hstay hxs ⊢
        have hfind : ∀ r ∈ X, ∃ pre suf, X = pre ++ r :: suf /\ findR X r.f0 = (pre.length : Int) := fun r hr => by
          have hn : ¬ findR X r.f0 < 0 := fun h => find_none h r hr rfl
          obtain ⟨pre, r', suf, e, f, hr'⟩ := find_at hn
          have := ord_uniq hxo (show r' ∈ X by rw [e]; simp) hr hr'
          rw [this] at e
          exact ⟨pre, suf, e, f⟩
        have hwy := without_ok hx hb2.1
        have hwys := without_sm (p := p) hxs
        have hl : (deepOf p t).length <= maxLen := by rw [maxLen_eq]; omega
        have hds := deep_sm (p := p) hts
        have hov3 : overC t q = 201 \/ overC t q = 204 := by unfold overC; split <;> simp
        have key : ∀ (suf pre : List S57), deepOf p t = pre ++ suf -> Ev (fun k => laws_FnCopied.l0 k t p q X (overC t q) (withoutP p X) (overC t q) (deepOf p t) pre.length) true := by
          intro suf
          induction suf with
          | nil =>
            intro pre h
            refine Ev.step (fun k => laws_FnCopied.l0.eq_2 ..) ?_
            simp only [if_neg (end_at h)]
            have hrem := implRemove hxs hp
            have hpX : ¬ findR X p < 0 := by
              intro hn
              have hft : ¬ findR t p < 0 := fun h => f1 ⟨hb2.1, h⟩
              obtain ⟨pre', r, suf', e, _, hr⟩ := find_at hft
              exact find_none hn r (hstay r (by rw [e]; simp) (by rw [hr]; exact List.prefix_refl _)) hr
            unfold removeR mayC at hrem
            simp only [if_pos hx, List.all_cons, List.all_nil, Bool.and_true, if_pos hpf, if_pos (show (0 : Int) <= 0 /\ (0 : Int) <= 99999 by omega), if_true, if_neg hb2.1, if_neg hpX] at hrem
            refine Ev.bind (show Ev (fun k => impl_Remove.f k X p) _ from hrem) ?_
            simp only [if_true]
            refine Ev.bind (sameTreeD hwys) ?_
            simp only [if_true]
            refine Ev.bind (ev_cast (implTreeOk hxs) hx) ?_
            simp only [if_true]
            refine Ev.bind (ev_cast (implTreeOk hwys) hwy) ?_
            simp only [if_true]
            refine Ev.bind (implDeep hxs (by omega)) ?_
            simp only [hdX, if_true]
            refine Ev.bind (implFind hts) ?_
            refine ev_cast (Ev.now _) ?_
            unfold overC
            by_cases co : 0 <= findR t q
            . simp [co]
            . simp [co]
          | cons a suf ih =>
            intro pre h
            have hm : a ∈ deepOf p t := by rw [h]; simp
            have hat := (List.mem_filter.1 hm).1
            have hpa := deep_pre hm
            have hpal := pre_len hpa
            have ha := hts.2 a hat
            have ha4 := pathOk_len (treePath ht hat)
            have hdl2 : (a.f0.drop p.length).length <= 4 := by rw [List.length_drop]; omega
            have hn : newR q p.length 88 a ∈ X := (hmemX _).2 (.inr ⟨a, hm, rfl⟩)
            obtain ⟨u1, v1, e1, g1⟩ := hfind _ hn
            obtain ⟨u2, v2, e2, g2⟩ := hfind _ (hstay a hat hpa)
            refine Ev.step (fun k => laws_FnCopied.l0.eq_2 ..) ?_
            simp only [if_pos (lt_at h), if_pos (nonneg_at _), rd_implRes h, next_at h hl, copyPath_id hq0, Option.bind_some, if_pos (show (p.length : Int) <= (a.f0.length : Int) by omega), Int.toNat_natCast, if_pos (show q.length + (a.f0.drop p.length).length < 8796093022208 by omega)]
            refine Ev.bind (implFind hxs) ?_
            rw [show findR X (q ++ a.f0.drop p.length) = (u1.length : Int) from g1]
            refine Ev.bind (implFind hxs) ?_
            rw [g2]
            simp only [if_neg (show ¬ ((u1.length : Nat) : Int) < 0 by omega), if_neg (show ¬ ((u2.length : Nat) : Int) < 0 by omega), if_pos (nonneg_at _), if_pos (lt_at e1), rd_implRes e1, newR, if_true, bne_self_eq_false, Bool.false_eq_true, if_false]
            refine Ev.bind (samePropsD a.f4 ha.2.2.2.2.1) ?_
            simp only [if_true, if_pos (nonneg_at _), if_pos (lt_at e2), rd_implRes e2]
            refine Ev.bind (sameResD ha) ?_
            simp only [if_true]
            exact ih (pre ++ [a]) (snoc_at h)
        have hj : Ev (fun k => laws_FnCopied.j0 k t p q X (overC t q) (withoutP p X) (overC t q) false) true := by
          refine Ev.step (fun k => laws_FnCopied.j0.eq_2 ..) ?_
          simp only [Bool.false_eq_true, if_false]
          refine Ev.bind (implDeep hts (by omega)) ?_
          exact key (deepOf p t) [] rfl
        rcases hov3 with e | e
        . simp only [e, if_true] at hj ⊢; exact hj
        . simp only [e] at hj ⊢
          simp only [show ¬ (204 : Int) = 201 by decide, if_false, bne_self_eq_false]
          exact hj
  . have h4 := mayC_codes c0
    unfold farR
    simp only [if_neg c0]
    exact out _ t _ h4 (.inl ⟨rfl, rfl⟩)
end Go.Proofs.Ytbgggcgjijljkaa.Pure
