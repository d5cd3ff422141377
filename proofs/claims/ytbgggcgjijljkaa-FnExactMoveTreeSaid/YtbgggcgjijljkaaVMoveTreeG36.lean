/- A thing put in its place, a shelf made; as the program and the reference have it. No condition. -/
import Derived.Test.YtbgggcgjijljkaaVMoveTreeG35
set_option linter.unusedSimpArgs false
set_option linter.unusedVariables false
namespace Go.Proofs.Ytbgggcgjijljkaa.L
open Go.RowKit Go.Proofs.YtbgggcgjijljkaaW.PrintWords Go.Proofs.YtbgggcgjijljkaaW.PrintLast Go.Proofs.Ytbgggcgjijljkaa.Q
def putAt (x : S57) : List S57 -> List S57
  | [] => [x]
  | a :: t => if lessP a.f0 x.f0 = true then a :: putAt x t else x :: a :: t
theorem putAt_length (x : S57) : ∀ t : List S57, (putAt x t).length = t.length + 1
  | [] => rfl
  | a :: t => by
    unfold putAt
    by_cases c : lessP a.f0 x.f0 = true
    . simp only [if_pos c, List.length_cons, putAt_length x t]
    . simp only [if_neg c, List.length_cons]
theorem implWithRes {t : List S57} {x : S57} (ht : SmRess t) : Ev (fun k => impl_withRes.f k t x.f0 x.f1 x.f2 x.f3 x.f4) (putAt x t) := by
  have hl0 := ht.1
  have hl : t.length <= maxLen := by rw [maxLen_eq]; omega
  have key : ∀ (suf pre : List S57), t = pre ++ suf -> Ev (fun k => impl_withRes.l0 k t pre.length x.f0 x.f1 x.f2 x.f3 x.f4) (pre ++ putAt x suf) := by
    intro suf
    induction suf with
    | nil =>
      intro pre h
      have h1 : t.take ((pre.length : Nat) : Int).toNat = pre := by rw [h]; simp
      have h2 : t.drop ((pre.length : Nat) : Int).toNat = [] := by rw [h]; simp
      have hp : pre.length = t.length := by rw [h]; simp
      refine Ev.step (fun k => impl_withRes.l0.eq_2 ..) ?_
      simp only [if_neg (end_at h), if_pos (nonneg_at _), if_pos (show ((pre.length : Nat) : Int) <= (t.length : Int) by omega), h1, h2, Option.bind_some, List.length_nil, Nat.zero_add, List.nil_append, if_pos (show pre.length < 1759218604441 by omega), List.length_singleton, if_pos (show pre.length + 1 < 1759218604441 by omega), List.length_append, Nat.add_zero, List.append_nil]
      exact Ev.now _
    | cons a suf ih =>
      intro pre h
      have hpl : t.length = pre.length + (suf.length + 1) := by rw [h]; simp
      have h1 : t.take ((pre.length : Nat) : Int).toNat = pre := by rw [h]; simp
      have h2 : t.drop ((pre.length : Nat) : Int).toNat = a :: suf := by rw [h]; simp
      have ha0 := (ht.2 a (by rw [h]; simp)).1.1
      refine Ev.step (fun k => impl_withRes.l0.eq_2 ..) ?_
      simp only [if_pos (lt_at h), if_pos (nonneg_at _), rd_implRes h, next_at h hl]
      refine Ev.bind (implLess (by rw [maxLen_eq]; omega)) ?_
      by_cases c : lessP a.f0 x.f0 = true
      . simp only [c, if_true]
        exact ev_cast (ih (pre ++ [a]) (snoc_at h)) (by simp [putAt, c])
      . simp only [c, Bool.false_eq_true, if_false, if_pos (show ((pre.length : Nat) : Int) <= (t.length : Int) by omega), h1, h2, Option.bind_some, List.length_nil, Nat.zero_add, List.nil_append, if_pos (show pre.length < 1759218604441 by omega), List.length_singleton, if_pos (show pre.length + 1 < 1759218604441 by omega), List.length_append, List.length_cons, if_pos (show pre.length + 1 + (suf.length + 1) < 1759218604441 by omega)]
        exact ev_cast (Ev.now _) (by simp [putAt, c])
  exact key t [] rfl
def putS (x : S57) : Bool -> List S57 -> List S57
  | d, [] => if d = true then [] else [x]
  | d, a :: t => (if d = true then [] else if lessP a.f0 x.f0 = true then [] else [x]) ++ (if a.f0 = x.f0 then [] else [a]) ++ putS x (d || !lessP a.f0 x.f0) t
theorem specPut {t : List S57} {x : S57} (ht : SmRess t) (hx : SmRes x) : Ev (fun k => spec_l11Put.f k t x.f0 x.f1 x.f2 x.f3 x.f4) (putS x false t) := by
  have hl0 := ht.1
  have hl : t.length <= maxLen := by rw [maxLen_eq]; omega
  have key : ∀ (suf pre out : List S57) (d : Bool), t = pre ++ suf -> out.length <= 2 * pre.length -> Ev (fun k => spec_l11Put.l0 k t out d pre.length x.f0 x.f1 x.f2 x.f3 x.f4) (out ++ putS x d suf) := by
    intro suf
    induction suf with
    | nil =>
      intro pre out d h ho
      have hp : pre.length = t.length := by rw [h]; simp
      refine Ev.step (fun k => spec_l11Put.l0.eq_2 ..) ?_
      simp only [if_neg (end_at h), putS]
      by_cases c : d = true
      . simp only [if_pos c, List.append_nil]; exact Ev.now _
      . simp only [if_neg c, specCopyRes hx, Option.bind_some, show out.length < 1759218604441 by omega, if_true]; exact Ev.now _
    | cons a suf ih =>
      intro pre out d h ho
      have hpl : t.length = pre.length + (suf.length + 1) := by rw [h]; simp
      have ha := ht.2 a (by rw [h]; simp)
      have ha0 := ha.1.1
      have hj2 : ∀ (o : List S57) (d' : Bool), o.length <= 2 * pre.length + 1 -> Ev (fun k => spec_l11Put.j2 k t o d' pre.length x.f0 x.f1 x.f2 x.f3 x.f4) (o ++ ((if a.f0 = x.f0 then [] else [a]) ++ putS x d' suf)) := by
        intro o d' ho'
        refine Ev.step (fun k => spec_l11Put.j2.eq_2 ..) ?_
        simp only [if_pos (lt_at h), if_pos (nonneg_at _), rd_implRes h, next_at h hl, specCopyRes ha, Option.bind_some]
        refine Ev.bind (specSame (by rw [maxLen_eq]; omega)) ?_
        by_cases c : a.f0 = x.f0
        . simp only [c, decide_true, if_true, List.nil_append]
          exact ih (pre ++ [a]) o d' (snoc_at h) (by simp; omega)
        . simp only [c, decide_false, Bool.false_eq_true, if_false, show o.length < 1759218604441 by omega, if_true]
          exact ev_cast (ih (pre ++ [a]) (o ++ [a]) d' (snoc_at h) (by simp; omega)) (by simp)
      have hj1 : ∀ b : Bool, Ev (fun k => spec_l11Put.j1 k t out d pre.length b x.f0 x.f1 x.f2 x.f3 x.f4) (out ++ ((if b = true then [x] else []) ++ ((if a.f0 = x.f0 then [] else [a]) ++ putS x (d || b) suf))) := by
        intro b
        refine Ev.step (fun k => spec_l11Put.j1.eq_2 ..) ?_
        by_cases c : b = true
        . subst c
          simp only [if_true, specCopyRes hx, Option.bind_some, show out.length < 1759218604441 by omega, Bool.or_true]
          exact ev_cast (hj2 (out ++ [x]) true (by simp; omega)) (by simp)
        . have c' : b = false := by simpa using c
          subst c'
          simp only [Bool.false_eq_true, if_false, List.nil_append, Bool.or_false]
          exact hj2 out d (by omega)
      refine Ev.step (fun k => spec_l11Put.l0.eq_2 ..) ?_
      simp only [if_pos (lt_at h), if_pos (nonneg_at _), rd_implRes h, putS]
      by_cases c : d = true
      . subst c
        simp only [if_true]
        exact ev_cast (hj1 false) (by simp)
      . have c' : d = false := by simpa using c
        subst c'
        simp only [Bool.false_eq_true, if_false]
        refine Ev.bind (specLess (by rw [maxLen_eq]; omega)) ?_
        refine ev_cast (hj1 (!lessP a.f0 x.f0)) ?_
        by_cases c2 : lessP a.f0 x.f0 = true
        . simp [c2]
        . simp [c2]
  exact key t [] [] false rfl (by simp)
theorem putS_done {x : S57} : ∀ {t : List S57}, (∀ r ∈ t, r.f0 ≠ x.f0) -> putS x true t = t
  | [], _ => by simp [putS]
  | a :: t, h => by
    have h0 := h a (by simp)
    have ih := putS_done (x := x) (t := t) (fun r hr => h r (by simp [hr]))
    simp [putS, h0, ih]
theorem putS_new {x : S57} : ∀ {t : List S57}, (∀ r ∈ t, r.f0 ≠ x.f0) -> putS x false t = putAt x t
  | [], _ => by simp [putS, putAt]
  | a :: t, h => by
    have h0 := h a (by simp)
    have hr := fun r hr => h r (List.mem_cons_of_mem a hr)
    have ih := putS_new (x := x) (t := t) hr
    have id := putS_done (x := x) (t := t) hr
    by_cases c : lessP a.f0 x.f0 = true
    . simp [putS, putAt, h0, ih, c]
    . simp [putS, putAt, h0, id, c]
end Go.Proofs.Ytbgggcgjijljkaa.L

/- Paths, one ahead of the other: an order; right shelves stand in it. No condition. -/
set_option linter.unusedSimpArgs false
set_option linter.unusedVariables false
namespace Go.Proofs.Ytbgggcgjijljkaa.L
open Go.RowKit Go.Proofs.YtbgggcgjijljkaaW.PrintWords Go.Proofs.YtbgggcgjijljkaaW.PrintLast Go.Proofs.Ytbgggcgjijljkaa.Q
theorem bytesLess_trans : ∀ {x y z : List UInt8}, Op.bytesLess x y = true -> Op.bytesLess y z = true -> Op.bytesLess x z = true
  | _, _, [], _, h => by cases ‹List UInt8› <;> simp [Op.bytesLess] at h
  | [], _, _ :: _, _, _ => by simp [Op.bytesLess]
  | _ :: _, [], _ :: _, h, _ => by simp [Op.bytesLess] at h
  | a :: x, b :: y, c :: z, h, h' => by
    simp only [Op.bytesLess, Bool.or_eq_true, Bool.and_eq_true, decide_eq_true_eq, beq_iff_eq] at h h' ⊢
    rcases h with h | ⟨rfl, h⟩
    . rcases h' with h' | ⟨rfl, _⟩
      . exact .inl (UInt8.lt_trans h h')
      . exact .inl h
    . rcases h' with h' | ⟨rfl, h'⟩
      . exact .inl h'
      . exact .inr ⟨rfl, bytesLess_trans h h'⟩
theorem lessP_irrefl : ∀ a : List ByteArray, lessP a a = false
  | [] => rfl
  | x :: a => by simp [lessP, lessP_irrefl a]
theorem lessP_trans : ∀ {a b c : List ByteArray}, lessP a b = true -> lessP b c = true -> lessP a c = true
  | [], [], _, h, _ => by simp [lessP] at h
  | [], _ :: _, [], _, h => by simp [lessP] at h
  | [], _ :: _, _ :: _, _, _ => by simp [lessP]
  | _ :: _, [], _, h, _ => by simp [lessP] at h
  | _ :: _, _ :: _, [], _, h => by simp [lessP] at h
  | x :: a, y :: b, z :: c, h, h' => by
    simp only [lessP] at h h' ⊢
    by_cases e : x = y
    . subst e
      by_cases e' : x = z
      . subst e'
        simp only [if_true] at h h' ⊢
        exact lessP_trans h h'
      . rw [if_neg e'] at h' ⊢
        exact h'
    . rw [if_neg e] at h
      by_cases e' : y = z
      . subst e'
        rw [if_neg e]
        exact h
      . rw [if_neg e'] at h'
        have ht := bytesLess_trans h h'
        by_cases e2 : x = z
        . subst e2
          rw [bytesLess_irrefl] at ht
          cases ht
        . rw [if_neg e2]
          exact ht
theorem lessP_ne {a b : List ByteArray} (h : lessP a b = true) : a ≠ b := by
  intro e
  rw [e, lessP_irrefl] at h
  cases h
theorem treeL_pair (t : List S57) : ∀ (l : List S57) (q : Option S57), treeL t q l = true -> (match q with | none => True | some q => ∀ r ∈ l, lessP q.f0 r.f0 = true) /\ l.Pairwise (fun a b => lessP a.f0 b.f0 = true)
  | [], q, _ => by cases q <;> simp
  | r :: l, q, h => by
    simp only [treeL, Bool.and_eq_true] at h
    obtain ⟨_, h1, _, h2⟩ := h
    obtain ⟨h3, h4⟩ := treeL_pair t l (some r) h2
    simp only at h3
    refine ⟨?_, List.pairwise_cons.2 ⟨h3, h4⟩⟩
    cases q with
    | none => trivial
    | some q =>
      intro x hx
      simp only at h1
      rcases List.mem_cons.1 hx with rfl | hx
      . exact h1
      . exact lessP_trans h1 (h3 x hx)
end Go.Proofs.Ytbgggcgjijljkaa.L

/- Right shelves stay right: a shelf made, a text put, a thing taken away, what is known set. No condition. -/
set_option linter.unusedSimpArgs false
set_option linter.unusedVariables false
namespace Go.Proofs.Ytbgggcgjijljkaa.L
open Go.RowKit Go.Proofs.YtbgggcgjijljkaaW.PrintWords Go.Proofs.YtbgggcgjijljkaaW.PrintLast Go.Proofs.Ytbgggcgjijljkaa.Q
def Ord (t : List S57) : Prop := t.Pairwise (fun a b => lessP a.f0 b.f0 = true)
theorem bytesLess_total : ∀ {x y : List UInt8}, x ≠ y -> Op.bytesLess x y = true \/ Op.bytesLess y x = true
  | [], [], h => absurd rfl h
  | [], _ :: _, _ => .inl (by simp [Op.bytesLess])
  | _ :: _, [], _ => .inr (by simp [Op.bytesLess])
  | a :: x, b :: y, h => by
    simp only [Op.bytesLess, Bool.or_eq_true, Bool.and_eq_true, decide_eq_true_eq, beq_iff_eq]
    by_cases e : a = b
    . subst e
      rcases bytesLess_total (show x ≠ y from fun e => h (by rw [e])) with h1 | h1
      . exact .inl (.inr ⟨rfl, h1⟩)
      . exact .inr (.inr ⟨rfl, h1⟩)
    . rcases UInt8.lt_or_lt_of_ne e with h1 | h1
      . exact .inl (.inl h1)
      . exact .inr (.inl h1)
theorem lessP_total : ∀ {a b : List ByteArray}, a ≠ b -> lessP a b = true \/ lessP b a = true
  | [], [], h => absurd rfl h
  | [], _ :: _, _ => .inl rfl
  | _ :: _, [], _ => .inr rfl
  | x :: a, y :: b, h => by
    simp only [lessP]
    by_cases e : x = y
    . subst e
      simp only [if_true]
      exact lessP_total (fun e => h (by rw [e]))
    . rw [if_neg e, if_neg (fun e' => e e'.symm)]
      exact bytesLess_total (fun e' => e (ba_inj e'))
theorem treeL_iff (t : List S57) : ∀ (l : List S57) (q : Option S57), treeL t q l = true ↔ (∀ r ∈ l, resOk r = true /\ isColl t (above r.f0) = true) /\ (match q with | none => True | some q => ∀ r ∈ l, lessP q.f0 r.f0 = true) /\ Ord l
  | [], q => by cases q <;> simp [treeL, Ord]
  | r :: l, q => by
    have ih := treeL_iff t l (some r)
    constructor
    . intro h
      obtain ⟨h3, h4⟩ := treeL_pair t (r :: l) q h
      simp only [treeL, Bool.and_eq_true] at h
      obtain ⟨h0, _, h1, h2⟩ := h
      refine ⟨fun x hx => ?_, ?_, h4⟩
      . rcases List.mem_cons.1 hx with rfl | hx
        . exact ⟨h0, h1⟩
        . exact (ih.1 h2).1 x hx
      . cases q with
        | none => trivial
        | some q => exact h3
    . rintro ⟨h1, h2, h3⟩
      simp only [treeL, Bool.and_eq_true]
      refine ⟨(h1 r (by simp)).1, ?_, (h1 r (by simp)).2, ih.2 ⟨fun x hx => h1 x (by simp [hx]), (List.pairwise_cons.1 h3).1, (List.pairwise_cons.1 h3).2⟩⟩
      cases q with
      | none => rfl
      | some q => exact h2 r (by simp)
theorem treeOk_iff {t : List S57} : treeOk t = true ↔ (∀ r ∈ t, resOk r = true /\ isColl t (above r.f0) = true) /\ Ord t /\ t.length <= 12 := by
  unfold treeOk
  rw [Bool.and_eq_true, treeL_iff, decide_eq_true_eq]
  constructor
  . rintro ⟨⟨h1, _, h2⟩, h3⟩; exact ⟨h1, h2, by omega⟩
  . rintro ⟨h1, h2, h3⟩; exact ⟨⟨h1, trivial, h2⟩, by omega⟩
theorem mem_putAt (x : S57) : ∀ (t : List S57) (b : S57), b ∈ putAt x t ↔ b = x \/ b ∈ t
  | [], b => by simp [putAt]
  | a :: t, b => by
    unfold putAt
    by_cases c : lessP a.f0 x.f0 = true
    . simp only [if_pos c, List.mem_cons, mem_putAt x t b]
      constructor
      . rintro (h | h | h)
        . exact .inr (.inl h)
        . exact .inl h
        . exact .inr (.inr h)
      . rintro (h | h | h)
        . exact .inr (.inl h)
        . exact .inl h
        . exact .inr (.inr h)
    . simp only [if_neg c, List.mem_cons]
theorem ord_putAt {x : S57} : ∀ {t : List S57}, Ord t -> (∀ r ∈ t, r.f0 ≠ x.f0) -> Ord (putAt x t)
  | [], _, _ => by simp [putAt, Ord]
  | a :: t, h, hn => by
    have h1 := (List.pairwise_cons.1 h).1
    have h2 := (List.pairwise_cons.1 h).2
    unfold putAt
    by_cases c : lessP a.f0 x.f0 = true
    . simp only [if_pos c]
      refine List.pairwise_cons.2 ⟨fun b hb => ?_, ord_putAt h2 (fun r hr => hn r (by simp [hr]))⟩
      rcases (mem_putAt x t b).1 hb with rfl | hb
      . exact c
      . exact h1 b hb
    . simp only [if_neg c]
      have hx : lessP x.f0 a.f0 = true := by
        rcases lessP_total (hn a (by simp)) with h3 | h3
        . exact absurd h3 c
        . exact h3
      refine List.pairwise_cons.2 ⟨fun b hb => ?_, h⟩
      rcases List.mem_cons.1 hb with rfl | hb
      . exact hx
      . exact lessP_trans hx (h1 b hb)
end Go.Proofs.Ytbgggcgjijljkaa.L

/- A tree copied, or moved; as the program and the reference have it. No condition. -/
set_option linter.unusedSimpArgs false
set_option linter.unusedVariables false
namespace Go.Proofs.Ytbgggcgjijljkaa.L
open Go.RowKit Go.Proofs.YtbgggcgjijljkaaW.PrintWords Go.Proofs.YtbgggcgjijljkaaW.PrintLast Go.Proofs.Ytbgggcgjijljkaa.Q
def atP (a p : List ByteArray) : Bool := decide (a = p) || under a p
theorem atP_iff {a p : List ByteArray} : atP a p = true ↔ p <+: a := by
  unfold atP under
  simp only [Bool.or_eq_true, Bool.and_eq_true, decide_eq_true_eq]
  constructor
  . rintro (rfl | ⟨_, h⟩)
    . exact List.prefix_refl _
    . have h2 := List.take_append_drop p.length a
      rw [h] at h2
      exact ⟨_, h2⟩
  . rintro ⟨s, rfl⟩
    cases s with
    | nil => exact .inl (by rw [List.append_nil])
    | cons x s => exact .inr ⟨by rw [List.length_append, List.length_cons]; omega, by rw [List.take_left]⟩
def newR (tg : List ByteArray) (n : Nat) (ver : Int) (r : S57) : S57 := ⟨tg ++ r.f0.drop n, r.f1, r.f2, ver, r.f4⟩
def foldPut (tg : List ByteArray) (n : Nat) (ver : Int) : List S57 -> List S57 -> List S57
  | rest, [] => rest
  | rest, r :: l => foldPut tg n ver (putAt (newR tg n ver r) rest) l
def longR (fr tg : List ByteArray) (r : S57) : Bool := decide (4 < ((r.f0.length : Int) - (fr.length : Int)) + (tg.length : Int))
def bad4 (fr tg : List ByteArray) : Bool := decide (fr = []) || (decide (tg = []) || (atP fr tg || atP tg fr))
def restR (mv : Bool) (t : List S57) (fr tg : List ByteArray) : List S57 := if mv = true then withoutP fr (withoutP tg t) else withoutP tg t
def overC (t : List S57) (tg : List ByteArray) : Int := if 0 <= findR t tg then 204 else 201
def farR (mv : Bool) (t : List S57) (fr tg : List ByteArray) (over : Bool) (ver : Int) : List S57 × Int :=
  if mayC t [fr, tg] ver = 0 then
    (if fr ≠ [] /\ findR t fr < 0 then (t, 404) else if bad4 fr tg = true then (t, 403) else if 0 <= findR t tg /\ over = false then (t, 412)
    else if isColl t (above tg) = true then (if (deepOf fr t).any (longR fr tg) = true then (t, 409)
      else if 12 < ((restR mv t fr tg).length : Int) + ((deepOf fr t).length : Int) then (t, 507) else (foldPut tg fr.length ver (restR mv t fr tg) (deepOf fr t), overC t tg))
    else (t, 409))
  else (t, mayC t [fr, tg] ver)
theorem foldPut_length (tg : List ByteArray) (n : Nat) (ver : Int) : ∀ (l rest : List S57), (foldPut tg n ver rest l).length = rest.length + l.length
  | [], rest => by simp [foldPut]
  | r :: l, rest => by
    rw [foldPut, foldPut_length tg n ver l, putAt_length]
    simp only [List.length_cons]
    omega
theorem foldPut_mem (tg : List ByteArray) (n : Nat) (ver : Int) : ∀ (l rest : List S57) (x : S57), x ∈ foldPut tg n ver rest l ↔ x ∈ rest \/ ∃ r ∈ l, x = newR tg n ver r
  | [], rest, x => by simp [foldPut]
  | r :: l, rest, x => by
    rw [foldPut, foldPut_mem tg n ver l, mem_putAt]
    simp only [List.mem_cons]
    constructor
    . rintro ((h | h) | ⟨y, h, e⟩)
      . exact .inr ⟨r, .inl rfl, h⟩
      . exact .inl h
      . exact .inr ⟨y, .inr h, e⟩
    . rintro (h | ⟨y, rfl | h, e⟩)
      . exact .inl (.inr h)
      . exact .inl (.inl e)
      . exact .inr ⟨y, h, e⟩
def Fresh (tg : List ByteArray) (n : Nat) (ver : Int) (rest l : List S57) : Prop :=
  (∀ r ∈ l, ∀ x ∈ rest, x.f0 ≠ (newR tg n ver r).f0) /\ l.Pairwise (fun a b => (newR tg n ver a).f0 ≠ (newR tg n ver b).f0)
theorem Fresh.next {tg : List ByteArray} {n : Nat} {ver : Int} {rest l : List S57} {a : S57} (h : Fresh tg n ver rest (a :: l)) : Fresh tg n ver (putAt (newR tg n ver a) rest) l := by
  obtain ⟨h1, h2⟩ := h
  rw [List.pairwise_cons] at h2
  refine ⟨fun r hr x hx => ?_, h2.2⟩
  rcases (mem_putAt _ _ _).1 hx with rfl | hx
  . exact h2.1 r hr
  . exact h1 r (by simp [hr]) x hx
theorem Fresh.sub {tg : List ByteArray} {n : Nat} {ver : Int} {rest rest' l : List S57} (h : Fresh tg n ver rest l) (hs : ∀ x ∈ rest', x ∈ rest) : Fresh tg n ver rest' l :=
  ⟨fun r hr x hx => h.1 r hr x (hs x hx), h.2⟩
theorem deep_pre {fr : List ByteArray} {t : List S57} {r : S57} (h : r ∈ deepOf fr t) : fr <+: r.f0 := atP_iff.1 (List.mem_filter.1 h).2
theorem without_mem {p : List ByteArray} {t : List S57} {r : S57} : r ∈ withoutP p t ↔ r ∈ t /\ ¬ p <+: r.f0 := by
  unfold withoutP
  rw [List.mem_filter]
  refine and_congr_right (fun _ => ?_)
  rw [← atP_iff]
  unfold atP
  simp
theorem fresh_first {t : List S57} {fr tg : List ByteArray} {ver : Int} (ho : Ord t) : Fresh tg fr.length ver (withoutP tg t) (deepOf fr t) := by
  refine ⟨fun r _ x hx e => ?_, ?_⟩
  . have h2 := (without_mem.1 hx).2
    rw [e] at h2
    exact h2 (List.prefix_append _ _)
  . unfold deepOf
    refine List.Pairwise.imp_of_mem ?_ (List.Pairwise.filter _ ho)
    intro a b ha hb hab e
    obtain ⟨s1, e1⟩ := deep_pre ha
    obtain ⟨s2, e2⟩ := deep_pre hb
    have e3 := List.append_cancel_left (show tg ++ a.f0.drop fr.length = tg ++ b.f0.drop fr.length from e)
    rw [← e1, ← e2, List.drop_left, List.drop_left] at e3
    exact lessP_ne hab (by rw [← e1, ← e2, e3])
theorem ord_without {t : List S57} (p : List ByteArray) (h : Ord t) : Ord (withoutP p t) := List.Pairwise.filter _ h
theorem putAt_first {x : S57} : ∀ {s : List S57}, (∀ b ∈ s, ¬ lessP b.f0 x.f0 = true) -> putAt x s = x :: s
  | [], _ => rfl
  | a :: s, h => by unfold putAt; rw [if_neg (h a (by simp))]
theorem without_cons (p : List ByteArray) (a : S57) (s : List S57) : withoutP p (a :: s) = if atP a.f0 p = true then withoutP p s else a :: withoutP p s := by
  unfold withoutP atP
  rw [List.filter_cons]
  by_cases c : (decide (a.f0 = p) || under a.f0 p) = true
  . rw [if_pos c, if_neg (by rw [c]; simp)]
  . rw [if_neg c, if_pos (by rw [Bool.eq_false_iff.mpr c]; rfl)]
theorem putAt_without {fr : List ByteArray} {x : S57} (hx : ¬ atP x.f0 fr = true) : ∀ {s : List S57}, Ord s -> withoutP fr (putAt x s) = putAt x (withoutP fr s)
  | [], _ => by
    show withoutP fr [x] = putAt x []
    rw [without_cons, if_neg hx]
    rfl
  | a :: s, ho => by
    have h1 := (List.pairwise_cons.1 ho).1
    have ih := putAt_without hx (List.pairwise_cons.1 ho).2
    by_cases c : lessP a.f0 x.f0 = true
    . rw [show putAt x (a :: s) = a :: putAt x s from by rw [putAt, if_pos c], without_cons, without_cons]
      by_cases d : atP a.f0 fr = true
      . rw [if_pos d, if_pos d, ih]
      . rw [if_neg d, if_neg d, ih, show putAt x (a :: withoutP fr s) = a :: putAt x (withoutP fr s) from by rw [putAt, if_pos c]]
    . rw [show putAt x (a :: s) = x :: a :: s from by rw [putAt, if_neg c], without_cons, if_neg hx]
      symm
      apply putAt_first
      intro b hb hl
      have hb' := (without_mem.1 hb).1
      rcases List.mem_cons.1 hb' with rfl | hb'
      . exact c hl
      . exact c (lessP_trans (h1 b hb') hl)
theorem foldPut_without {fr tg : List ByteArray} {n : Nat} {ver : Int} (hb : atP tg fr = false /\ atP fr tg = false) : ∀ {l rest : List S57}, Ord rest -> Fresh tg n ver rest l -> withoutP fr (foldPut tg n ver rest l) = foldPut tg n ver (withoutP fr rest) l
  | [], _, _, _ => rfl
  | r :: l, rest, ho, hf => by
    have hx : ¬ atP (newR tg n ver r).f0 fr = true := by
      intro h
      have h1 := atP_iff.1 h
      rcases List.prefix_or_prefix_of_prefix h1 (List.prefix_append tg (r.f0.drop n)) with h2 | h2
      . rw [atP_iff.2 h2] at hb; exact absurd hb.1 (by simp)
      . rw [atP_iff.2 h2] at hb; exact absurd hb.2 (by simp)
    rw [foldPut, foldPut, ← putAt_without hx ho]
    exact foldPut_without hb (ord_putAt ho (fun y hy => hf.1 r (by simp) y hy)) hf.next
theorem treePath {t : List S57} (h : treeOk t = true) {r : S57} (hr : r ∈ t) : pathOk r.f0 = true := by
  have := ((treeOk_iff.1 h).1 r hr).1
  unfold resOk at this
  simp only [Bool.and_eq_true] at this
  exact this.2.1
theorem mayC_parts {t : List S57} {a b : List ByteArray} {ver : Int} (h : mayC t [a, b] ver = 0) : treeOk t = true /\ pathOk a = true /\ pathOk b = true /\ 0 <= ver /\ ver <= 99999 := by
  unfold mayC at h
  by_cases c : treeOk t = true
  . rw [if_pos c] at h
    simp only [List.all_cons, List.all_nil, Bool.and_true] at h
    by_cases c2 : (pathOk a && pathOk b) = true
    . rw [if_pos c2] at h
      rw [Bool.and_eq_true] at c2
      by_cases c3 : 0 <= ver /\ ver <= 99999
      . exact ⟨c, c2.1, c2.2, c3.1, c3.2⟩
      . rw [if_neg c3] at h; omega
    . rw [if_neg c2] at h; omega
  . rw [if_neg c] at h; omega
theorem pathOk_len {p : List ByteArray} (h : pathOk p = true) : p.length <= 4 := by
  unfold pathOk at h
  rw [Bool.and_eq_true, decide_eq_true_eq] at h
  omega
theorem new_path {fr tg : List ByteArray} {r : S57} (hr : pathOk r.f0 = true) (ht : pathOk tg = true) (hp : fr <+: r.f0) : pathOk (tg ++ r.f0.drop fr.length) = !longR fr tg r := by
  obtain ⟨s, e⟩ := hp
  have hl : r.f0.length = fr.length + s.length := by rw [← e]; simp
  unfold pathOk at hr ht ⊢
  rw [Bool.and_eq_true, List.all_eq_true] at hr ht
  have h1 : (tg ++ r.f0.drop fr.length).all nameOk = true := by
    rw [List.all_eq_true]
    intro x hx
    rcases List.mem_append.1 hx with hx | hx
    . exact ht.1 x hx
    . exact hr.1 x (List.mem_of_mem_drop hx)
  rw [h1, Bool.true_and]
  unfold longR
  have h2 : (tg ++ r.f0.drop fr.length).length = tg.length + s.length := by rw [← e]; simp
  rw [h2]
  by_cases c : ((tg.length + s.length : Nat) : Int) <= 4
  . rw [decide_eq_true c, decide_eq_false (by omega)]; rfl
  . rw [decide_eq_false c, decide_eq_true (by omega)]; rfl
theorem new_sm {tg : List ByteArray} {n : Nat} {ver : Int} {r : S57} (hr : SmRes r) (ht : SmS tg) (hv : IntOk ver) (hl : tg.length <= 4) (hl2 : r.f0.length <= 4) : SmRes (newR tg n ver r) := by
  refine ⟨⟨?_, fun s hs => ?_⟩, trivial, hr.2.2.1, hv, hr.2.2.2.2⟩
  . show (tg ++ r.f0.drop n).length <= 1048576
    rw [List.length_append, List.length_drop]; omega
  . rcases List.mem_append.1 (show s ∈ tg ++ r.f0.drop n from hs) with hs | hs
    . exact ht.2 s hs
    . exact hr.1.2 s (List.mem_of_mem_drop hs)
theorem specLong {l : List S57} {fr tg : List ByteArray} (hl : l.length <= 1048576) (h4 : ∀ r ∈ l, r.f0.length <= 4) (hf : fr.length <= 4) (ht : tg.length <= 4) : Ev (fun k => spec_l11Long.f k l fr tg) (l.any (longR fr tg)) := by
  have hlm : l.length <= maxLen := by rw [maxLen_eq]; omega
  have key : ∀ (suf pre : List S57), l = pre ++ suf -> Ev (fun k => spec_l11Long.l0 k l fr tg pre.length) (suf.any (longR fr tg)) := by
    intro suf
    induction suf with
    | nil =>
      intro pre h
      refine Ev.step (fun k => spec_l11Long.l0.eq_2 ..) ?_
      simp only [if_neg (end_at h), List.any_nil]
      exact Ev.now _
    | cons a suf ih =>
      intro pre h
      have ha := h4 a (by rw [h]; simp)
      have hw : wrap64 (wrap64 ((a.f0.length : Int) - (fr.length : Int)) + (tg.length : Int)) = ((a.f0.length : Int) - (fr.length : Int)) + (tg.length : Int) := by
        rw [wrap_id (x := (a.f0.length : Int) - (fr.length : Int)) (by omega) (by omega), wrap_id (by omega) (by omega)]
      refine Ev.step (fun k => spec_l11Long.l0.eq_2 ..) ?_
      simp only [if_pos (lt_at h), if_pos (nonneg_at _), rd_implRes h, next_at h hlm, hw, List.any_cons]
      by_cases c : 4 < ((a.f0.length : Int) - (fr.length : Int)) + (tg.length : Int)
      . simp only [show longR fr tg a = true from decide_eq_true c, Bool.true_or, if_pos (show ((a.f0.length : Int) - (fr.length : Int)) + (tg.length : Int) > 4 from c)]; exact Ev.now _
      . simp only [show longR fr tg a = false from decide_eq_false c, Bool.false_or, if_neg (show ¬ ((a.f0.length : Int) - (fr.length : Int)) + (tg.length : Int) > 4 from c)]; exact ih (pre ++ [a]) (snoc_at h)
  exact key l [] rfl
theorem copyPath_id {p : List ByteArray} (h : p.length <= 1048576) : impl_copyPath.f p = some p := by
  unfold impl_copyPath.f
  rw [List.length_nil, Nat.zero_add, if_pos (by omega), List.nil_append]
theorem pre_len {a b : List ByteArray} (h : a <+: b) : a.length <= b.length := h.length_le
theorem specFarLoop {l : List S57} {fr tg : List ByteArray} {ver : Int} {b : Bool} (hl : SmRess l) (h4 : ∀ r ∈ l, r.f0.length <= 4 /\ fr <+: r.f0) (ht : SmS tg) (ht4 : tg.length <= 4) (hv : IntOk ver) :
    ∀ (suf pre rest : List S57), l = pre ++ suf -> SmRess rest -> rest.length + suf.length <= 1048576 -> Fresh tg fr.length ver rest suf -> Ev (fun k => spec_l11Far.l0 k fr tg ver b l rest pre.length) (foldPut tg fr.length ver rest suf, if b = true then 204 else 201) := by
  have hlm : l.length <= maxLen := by have := hl.1; rw [maxLen_eq]; omega
  intro suf
  induction suf with
  | nil =>
    intro pre rest h _ _ _
    refine Ev.step (fun k => spec_l11Far.l0.eq_2 ..) ?_
    simp only [if_neg (end_at h), foldPut]
    by_cases c : b = true
    . simp only [if_pos c]; exact Ev.now _
    . simp only [if_neg c]; exact Ev.now _
  | cons a suf ih =>
    intro pre rest h hr hlen hf
    have ha := hl.2 a (by rw [h]; simp)
    have ha4 := h4 a (by rw [h]; simp)
    have hpl := pre_len ha4.2
    have hn := new_sm (n := fr.length) ha ht hv ht4 ha4.1
    have ht0 := ht.1
    have hdl : (a.f0.drop fr.length).length <= 4 := by rw [List.length_drop]; omega
    refine Ev.step (fun k => spec_l11Far.l0.eq_2 ..) ?_
    simp only [if_pos (lt_at h), if_pos (nonneg_at _), rd_implRes h, next_at h hlm, specCopyRes ha, Option.bind_some, copyPath_id ht0, if_pos (show (fr.length : Int) <= (a.f0.length : Int) by omega), Int.toNat_natCast, if_pos (show tg.length + (a.f0.drop fr.length).length < 8796093022208 by omega), foldPut]
    have hp := specPut (x := newR tg fr.length ver a) hr hn
    rw [putS_new (fun r hr => hf.1 a (by simp) r hr)] at hp
    refine Ev.bind hp ?_
    refine ih (pre ++ [a]) _ (snoc_at h) ⟨by rw [putAt_length]; simp only [List.length_cons] at hlen; omega, fun y hy => ?_⟩ (by rw [putAt_length]; simp only [List.length_cons] at hlen; omega) hf.next
    rcases (mem_putAt _ _ _).1 hy with rfl | hy
    . exact hn
    . exact hr.2 y hy
theorem implFarLoop {l : List S57} {fr tg : List ByteArray} {ver : Int} {b : Bool} (hl : SmRess l) (h4 : ∀ r ∈ l, r.f0.length <= 4 /\ fr <+: r.f0) (hok : ∀ r ∈ l, pathOk r.f0 = true) (hto : pathOk tg = true) (ht : SmS tg) (ht4 : tg.length <= 4) (hv : IntOk ver) :
    ∀ (suf pre rest : List S57), l = pre ++ suf -> SmRess rest -> rest.length + suf.length <= 1048576 -> Ev (fun k => impl_copied.l0 k fr tg ver b rest l (l.length : Int) pre.length) (if suf.any (longR fr tg) = true then ([], 409) else (foldPut tg fr.length ver rest suf, if b = true then 204 else 201)) := by
  have hlm : l.length <= maxLen := by have := hl.1; rw [maxLen_eq]; omega
  intro suf
  induction suf with
  | nil =>
    intro pre rest h _ _
    refine Ev.step (fun k => impl_copied.l0.eq_2 ..) ?_
    simp only [if_neg (end_at h), foldPut, List.any_nil, Bool.false_eq_true, if_false]
    by_cases c : b = true
    . simp only [if_pos c]; exact Ev.now _
    . simp only [if_neg c]; exact Ev.now _
  | cons a suf ih =>
    intro pre rest h hr hlen
    have hm : a ∈ l := by rw [h]; simp
    have ha := hl.2 a hm
    have ha4 := h4 a hm
    have hpl := pre_len ha4.2
    have hn := new_sm (n := fr.length) ha ht hv ht4 ha4.1
    have ht0 := ht.1
    have hdl : (a.f0.drop fr.length).length <= 4 := by rw [List.length_drop]; omega
    have hpo := new_path (hok a hm) hto ha4.2
    refine Ev.step (fun k => impl_copied.l0.eq_2 ..) ?_
    simp only [if_pos (lt_at h), if_pos (nonneg_at _), rd_implRes h, next_at h hlm, Option.bind_some, copyPath_id ht0, if_pos (show (fr.length : Int) <= (a.f0.length : Int) by omega), Int.toNat_natCast, if_pos (show tg.length + (a.f0.drop fr.length).length < 8796093022208 by omega), foldPut, List.any_cons]
    refine Ev.bind (implPathOk (p := tg ++ a.f0.drop fr.length) hn.1) ?_
    rw [hpo]
    by_cases c : longR fr tg a = true
    . simp only [c, Bool.not_true, Bool.false_eq_true, if_false, Bool.true_or, if_true]; exact Ev.now _
    . simp only [Bool.eq_false_iff.mpr c, Bool.not_false, if_true, Bool.false_or]
      refine Ev.bind (implWithRes (x := newR tg fr.length ver a) hr) ?_
      refine ih (pre ++ [a]) _ (snoc_at h) ⟨by rw [putAt_length]; simp only [List.length_cons] at hlen; omega, fun y hy => ?_⟩ (by rw [putAt_length]; simp only [List.length_cons] at hlen; omega)
      rcases (mem_putAt _ _ _).1 hy with rfl | hy
      . exact hn
      . exact hr.2 y hy
theorem rest_le (mv : Bool) (t : List S57) (fr tg : List ByteArray) : (restR mv t fr tg).length <= t.length := by
  unfold restR
  split
  . exact Nat.le_trans (without_length _ _) (without_length _ _)
  . exact without_length _ _
theorem rest_sub (mv : Bool) (t : List S57) (fr tg : List ByteArray) : ∀ x ∈ restR mv t fr tg, x ∈ withoutP tg t := by
  unfold restR
  split
  . exact fun x hx => (without_mem.1 hx).1
  . exact fun x hx => hx
theorem rest_sm (mv : Bool) {t : List S57} (fr tg : List ByteArray) (ht : SmRess t) : SmRess (restR mv t fr tg) := by
  unfold restR
  split
  . exact without_sm (without_sm ht)
  . exact without_sm ht
theorem specFar {mv over : Bool} {t : List S57} {fr tg : List ByteArray} {ver : Int} (ht : SmRess t) (hp : SmS fr) (hq : SmS tg) (hv : IntOk ver) : Ev (fun k => spec_l11Far.f k t fr tg over ver mv) (farR mv t fr tg over ver) := by
  have hp0 := hp.1
  have hq0 := hq.1
  have h7 : ∀ (c : Int) (b : Bool) (x y : List S57), c ≠ 0 -> Ev (fun k => spec_l11Far.j7 k t fr tg ver c b x y) (t, c) := fun c b x y h => by
    refine Ev.step (fun k => spec_l11Far.j7.eq_2 ..) ?_
    simp only [if_neg h]
    exact Ev.bind (specCopyAll ht) (Ev.now _)
  have h1 : ∀ (c : Int) (r : List S57 × Int), Ev (fun k => spec_l11Far.j2 k t fr tg over ver c (decide (findR t tg >= 0)) (deepOf fr t) (restR mv t fr tg)) r -> Ev (fun k => spec_l11Far.j1 k t fr tg over ver mv c) r := fun c r h => by
    refine Ev.step (fun k => spec_l11Far.j1.eq_2 ..) ?_
    refine Ev.bind (specFind ht) ?_
    refine Ev.bind (specDeep ht (by omega)) ?_
    refine Ev.bind (specWithout ht (by omega)) ?_
    unfold restR at h
    by_cases c : mv = true
    . simp only [if_pos c] at h ⊢
      exact Ev.bind (specWithout (without_sm ht) (by omega)) h
    . simp only [if_neg c] at h ⊢
      exact h
  have h1c : ∀ c : Int, c ≠ 0 -> Ev (fun k => spec_l11Far.j1 k t fr tg over ver mv c) (t, c) := fun c h => by
    refine h1 c _ ?_
    refine Ev.step (fun k => spec_l11Far.j2.eq_2 ..) ?_
    simp only [if_neg h]
    exact h7 c _ _ _ h
  have hc : mayC t [fr, tg] ver = (if mayC t [fr] ver = 0 \/ mayC t [fr] ver = 507 then (if mayC t [tg] ver = 0 then mayC t [fr] ver else if mayC t [fr] ver = 0 then mayC t [tg] ver else if mayC t [tg] ver < mayC t [fr] ver then mayC t [tg] ver else mayC t [fr] ver) else mayC t [fr] ver) := by
    unfold mayC
    simp only [List.all_cons, List.all_nil, Bool.and_true]
    by_cases c : treeOk t = true
    . by_cases c1 : pathOk fr = true
      . by_cases c2 : pathOk tg = true
        . by_cases c3 : 0 <= ver /\ ver <= 99999 <;> simp [c, c1, c2, c3]
        . by_cases c3 : 0 <= ver /\ ver <= 99999 <;> simp [c, c1, c2, c3]
      . simp [c, c1]
    . simp [c]
  have hm : ∀ r, Ev (fun k => spec_l11Far.j1 k t fr tg over ver mv (mayC t [fr, tg] ver)) r -> Ev (fun k => spec_l11Far.f k t fr tg over ver mv) r := fun r h => by
    unfold spec_l11Far.f
    refine Ev.bind (specMay ht hp) ?_
    rw [hc] at h
    by_cases c0 : mayC t [fr] ver = 0
    . simp only [c0, if_true, true_or] at h ⊢
      refine Ev.step (fun k => spec_l11Far.j0.eq_2 ..) ?_
      simp only [if_true]
      refine Ev.bind (specMay ht hq) ?_
      by_cases c1 : mayC t [tg] ver = 0
      . simp only [c1, if_true] at h ⊢; exact h
      . simp only [if_neg c1] at h ⊢; exact h
    . simp only [if_neg c0, c0, false_or] at h ⊢
      refine Ev.step (fun k => spec_l11Far.j0.eq_2 ..) ?_
      by_cases c5 : mayC t [fr] ver = 507
      . simp only [c5, BEq.rfl, if_true] at h ⊢
        refine Ev.bind (specMay ht hq) ?_
        by_cases c1 : mayC t [tg] ver = 0
        . simp only [c1, if_true] at h ⊢; exact h
        . simp only [if_neg c1, if_neg (show ¬ (507 : Int) = 0 by omega)] at h ⊢
          by_cases c2 : mayC t [tg] ver < 507
          . simp only [if_pos c2] at h ⊢; exact h
          . simp only [if_neg c2] at h ⊢; exact h
      . simp only [if_neg c5, beq_eq_false_iff_ne.mpr c5, Bool.false_eq_true, if_false] at h ⊢
        exact h
  refine hm _ ?_
  unfold farR
  by_cases c0 : mayC t [fr, tg] ver = 0
  . rw [if_pos c0, c0]
    obtain ⟨hto, hpf, hpt, hv0, hv1⟩ := mayC_parts c0
    have hf4 := pathOk_len hpf
    have ht4 := pathOk_len hpt
    have hord := (treeOk_iff.1 hto).2.1
    have h12 := (treeOk_iff.1 hto).2.2
    refine h1 0 _ ?_
    refine Ev.step (fun k => spec_l11Far.j2.eq_2 ..) ?_
    simp only [if_true]
    have h3 : ∀ b : Bool, b = true \/ b = false -> Ev (fun k => spec_l11Far.j3 k t fr tg over ver 0 (decide (findR t tg >= 0)) (deepOf fr t) (restR mv t fr tg) b)
        (if b = true then (t, 404) else if bad4 fr tg = true then (t, 403) else if 0 <= findR t tg /\ over = false then (t, 412)
          else if isColl t (above tg) = true then (if (deepOf fr t).any (longR fr tg) = true then (t, 409)
          else if 12 < ((restR mv t fr tg).length : Int) + ((deepOf fr t).length : Int) then (t, 507) else (foldPut tg fr.length ver (restR mv t fr tg) (deepOf fr t), overC t tg))
          else (t, 409)) := by
      intro b _
      refine Ev.step (fun k => spec_l11Far.j3.eq_2 ..) ?_
      by_cases cb : b = true
      . simp only [if_pos cb]; exact h7 404 _ _ _ (by decide)
      . simp only [if_neg cb]
        have h4 : ∀ d : Bool, Ev (fun k => spec_l11Far.j4 k t fr tg over ver 0 (decide (findR t tg >= 0)) (deepOf fr t) (restR mv t fr tg) d)
            (if d = true then (t, 403) else if 0 <= findR t tg /\ over = false then (t, 412)
              else if isColl t (above tg) = true then (if (deepOf fr t).any (longR fr tg) = true then (t, 409)
              else if 12 < ((restR mv t fr tg).length : Int) + ((deepOf fr t).length : Int) then (t, 507) else (foldPut tg fr.length ver (restR mv t fr tg) (deepOf fr t), overC t tg))
              else (t, 409)) := by
          intro d
          refine Ev.step (fun k => spec_l11Far.j4.eq_2 ..) ?_
          by_cases cd : d = true
          . simp only [if_pos cd]; exact h7 403 _ _ _ (by decide)
          . simp only [if_neg cd]
            have h5 : ∀ q : Bool, Ev (fun k => spec_l11Far.j5 k t fr tg ver 0 (decide (findR t tg >= 0)) (deepOf fr t) (restR mv t fr tg) q)
                (if q = true then (t, 412) else if isColl t (above tg) = true then (if (deepOf fr t).any (longR fr tg) = true then (t, 409)
                  else if 12 < ((restR mv t fr tg).length : Int) + ((deepOf fr t).length : Int) then (t, 507) else (foldPut tg fr.length ver (restR mv t fr tg) (deepOf fr t), overC t tg))
                  else (t, 409)) := by
              intro q
              refine Ev.step (fun k => spec_l11Far.j5.eq_2 ..) ?_
              by_cases cq : q = true
              . simp only [if_pos cq]; exact h7 412 _ _ _ (by decide)
              . simp only [if_neg cq, specAbove hq0, Option.bind_some]
                refine Ev.bind (specIsColl ht) ?_
                have h6 : ∀ z : Bool, Ev (fun k => spec_l11Far.j6 k t fr tg ver 0 (decide (findR t tg >= 0)) (deepOf fr t) (restR mv t fr tg) z)
                    (if z = true then (t, 409) else if 12 < ((restR mv t fr tg).length : Int) + ((deepOf fr t).length : Int) then (t, 507) else (foldPut tg fr.length ver (restR mv t fr tg) (deepOf fr t), overC t tg)) := by
                  intro z
                  have hrl := rest_le mv t fr tg
                  have hdl := deep_length fr t
                  refine Ev.step (fun k => spec_l11Far.j6.eq_2 ..) ?_
                  by_cases cz : z = true
                  . simp only [if_pos cz]; exact h7 409 _ _ _ (by decide)
                  . simp only [if_neg cz, wrap_id (show -9223372036854775808 <= ((restR mv t fr tg).length : Int) + ((deepOf fr t).length : Int) by omega) (by omega)]
                    by_cases cl : ((restR mv t fr tg).length : Int) + ((deepOf fr t).length : Int) > 12
                    . simp only [if_pos cl, if_pos (show 12 < ((restR mv t fr tg).length : Int) + ((deepOf fr t).length : Int) from cl)]; exact h7 507 _ _ _ (by decide)
                    . simp only [if_neg cl, if_neg (show ¬ 12 < ((restR mv t fr tg).length : Int) + ((deepOf fr t).length : Int) from cl)]
                      refine Ev.step (fun k => spec_l11Far.j7.eq_2 ..) ?_
                      simp only [if_true]
                      refine ev_cast (specFarLoop (b := decide (findR t tg >= 0)) (deep_sm ht) (fun r hr => ⟨pathOk_len (treePath hto (List.mem_filter.1 hr).1), deep_pre hr⟩) hq ht4 hv (deepOf fr t) [] _ rfl (rest_sm mv fr tg ht) (by omega) ((fresh_first hord).sub (rest_sub mv t fr tg))) ?_
                      unfold overC
                      by_cases co : findR t tg >= 0
                      . rw [decide_eq_true co, if_pos rfl, if_pos co]
                      . rw [decide_eq_false co, if_neg (by simp), if_neg co]
                by_cases c3 : isColl t (above tg) = true
                . simp only [if_pos c3]
                  refine Ev.bind (specLong (by have := (deep_sm (p := fr) ht).1; exact this) (fun r hr => pathOk_len (treePath hto (List.mem_filter.1 hr).1)) hf4 ht4) ?_
                  exact h6 _
                . simp only [if_neg c3]; exact ev_cast (h6 true) (by simp)
            by_cases co : findR t tg >= 0
            . simp only [decide_eq_true co, if_true]
              refine ev_cast (by simpa only [decide_eq_true co] using h5 (!over)) ?_
              cases over <;> simp [co]
            . simp only [decide_eq_false co, Bool.false_eq_true, if_false]
              refine ev_cast (by simpa only [decide_eq_false co] using h5 false) ?_
              simp [co]
        unfold bad4
        by_cases e1 : fr = []
        . simp only [nil_len, if_pos e1, decide_eq_true e1, Bool.true_or]; exact h4 true
        . simp only [nil_len, if_neg e1, decide_eq_false e1, Bool.false_or]
          by_cases e2 : tg = []
          . simp only [if_pos e2, decide_eq_true e2, Bool.true_or]; exact h4 true
          . simp only [if_neg e2, decide_eq_false e2, Bool.false_or]
            refine Ev.bind (specSame (by rw [maxLen_eq]; omega)) ?_
            by_cases e3 : fr = tg
            . simp only [decide_eq_true e3, if_true]
              refine ev_cast (h4 true) ?_
              rw [show atP fr tg = true from by unfold atP; rw [decide_eq_true e3, Bool.true_or]]
              simp
            . simp only [decide_eq_false e3, Bool.false_eq_true, if_false]
              refine Ev.bind (specUnder (by omega)) ?_
              by_cases e4 : under fr tg = true
              . simp only [if_pos e4]
                refine ev_cast (h4 true) ?_
                rw [show atP fr tg = true from by unfold atP; rw [e4, Bool.or_true]]
                simp
              . simp only [if_neg e4]
                refine Ev.bind (specUnder (by omega)) ?_
                refine ev_cast (h4 (under tg fr)) ?_
                rw [show atP fr tg = false from by unfold atP; rw [decide_eq_false e3, Bool.eq_false_iff.mpr e4]; rfl, show atP tg fr = under tg fr from by unfold atP; rw [decide_eq_false (fun e => e3 e.symm), Bool.false_or], Bool.false_or]
    by_cases e1 : (fr.length : Int) > 0
    . simp only [if_pos e1]
      refine Ev.bind (specFind ht) ?_
      refine ev_cast (h3 _ (by cases (decide (findR t fr < 0)) <;> simp)) ?_
      have e2 : fr ≠ [] := by intro e; rw [e] at e1; simp at e1
      simp only [decide_eq_true_eq, ne_eq, e2, not_false_eq_true, true_and]
    . simp only [if_neg e1]
      refine ev_cast (h3 false (.inr rfl)) ?_
      have e2 : fr = [] := by apply List.eq_nil_of_length_eq_zero; omega
      simp [e2]
  . rw [if_neg c0]
    exact h1c _ c0
def copiedR (t : List S57) (fr tg : List ByteArray) (over : Bool) (ver : Int) : List S57 × Int :=
  if fr ≠ [] /\ findR t fr < 0 then ([], 404) else if bad4 fr tg = true then ([], 403) else if 0 <= findR t tg /\ over = false then ([], 412)
    else if isColl t (above tg) = true then (if (deepOf fr t).any (longR fr tg) = true then ([], 409)
      else (foldPut tg fr.length ver (withoutP tg t) (deepOf fr t), overC t tg))
    else ([], 409)
theorem implCopied {over : Bool} {t : List S57} {fr tg : List ByteArray} {ver : Int} (ht : SmRess t) (hp : SmS fr) (hq : SmS tg) (hv : IntOk ver) (c0 : mayC t [fr, tg] ver = 0) : Ev (fun k => impl_copied.f k t fr tg over ver) (copiedR t fr tg over ver) := by
  have hp0 := hp.1
  have hq0 := hq.1
  obtain ⟨hto, hpf, hpt, hv0, hv1⟩ := mayC_parts c0
  have hf4 := pathOk_len hpf
  have ht4 := pathOk_len hpt
  have h12 := (treeOk_iff.1 hto).2.2
  unfold impl_copied.f copiedR
  refine Ev.bind (implFind ht) ?_
  have h3 : ∀ b : Bool, Ev (fun k => impl_copied.j0 k t fr tg over ver (decide (findR t tg >= 0)) b)
      (if b = true then ([], 404) else if bad4 fr tg = true then ([], 403) else if 0 <= findR t tg /\ over = false then ([], 412)
        else if isColl t (above tg) = true then (if (deepOf fr t).any (longR fr tg) = true then ([], 409)
        else (foldPut tg fr.length ver (withoutP tg t) (deepOf fr t), overC t tg))
        else ([], 409)) := by
    intro b
    refine Ev.step (fun k => impl_copied.j0.eq_2 ..) ?_
    by_cases cb : b = true
    . simp only [if_pos cb]; exact Ev.now _
    . simp only [if_neg cb]
      have h4 : ∀ d : Bool, Ev (fun k => impl_copied.j1 k t fr tg over ver (decide (findR t tg >= 0)) d)
          (if d = true then ([], 403) else if 0 <= findR t tg /\ over = false then ([], 412)
            else if isColl t (above tg) = true then (if (deepOf fr t).any (longR fr tg) = true then ([], 409)
            else (foldPut tg fr.length ver (withoutP tg t) (deepOf fr t), overC t tg))
            else ([], 409)) := by
        intro d
        refine Ev.step (fun k => impl_copied.j1.eq_2 ..) ?_
        by_cases cd : d = true
        . simp only [if_pos cd]; exact Ev.now _
        . simp only [if_neg cd]
          have h5 : ∀ q : Bool, Ev (fun k => impl_copied.j2 k t fr tg ver (decide (findR t tg >= 0)) q)
              (if q = true then ([], 412) else if isColl t (above tg) = true then (if (deepOf fr t).any (longR fr tg) = true then ([], 409)
                else (foldPut tg fr.length ver (withoutP tg t) (deepOf fr t), overC t tg))
                else ([], 409)) := by
            intro q
            refine Ev.step (fun k => impl_copied.j2.eq_2 ..) ?_
            by_cases cq : q = true
            . simp only [if_pos cq]; exact Ev.now _
            . simp only [if_neg cq, implAbove hq0, Option.bind_some]
              refine Ev.bind (implIsColl ht) ?_
              by_cases c3 : isColl t (above tg) = true
              . simp only [if_pos c3]
                refine Ev.bind (implWithout ht (by omega)) ?_
                refine Ev.bind (implDeep ht (by omega)) ?_
                have hrl := without_length tg t
                have hdl := deep_length fr t
                refine ev_cast (implFarLoop (b := decide (findR t tg >= 0)) (deep_sm ht) (fun r hr => ⟨pathOk_len (treePath hto (List.mem_filter.1 hr).1), deep_pre hr⟩) (fun r hr => treePath hto (List.mem_filter.1 hr).1) hpt hq ht4 hv (deepOf fr t) [] _ rfl (without_sm ht) (by omega)) ?_
                unfold overC
                by_cases co : findR t tg >= 0
                . simp [co]
                . simp [co]
              . simp only [if_neg c3]; exact Ev.now _
          by_cases co : findR t tg >= 0
          . simp only [decide_eq_true co, if_true]
            refine ev_cast (by simpa only [decide_eq_true co] using h5 (!over)) ?_
            cases over <;> simp [co]
          . simp only [decide_eq_false co, Bool.false_eq_true, if_false]
            refine ev_cast (by simpa only [decide_eq_false co] using h5 false) ?_
            simp [co]
      unfold bad4
      by_cases e1 : fr = []
      . simp only [nil_len, if_pos e1, decide_eq_true e1, Bool.true_or]; exact h4 true
      . simp only [nil_len, if_neg e1, decide_eq_false e1, Bool.false_or]
        by_cases e2 : tg = []
        . simp only [if_pos e2, decide_eq_true e2, Bool.true_or]; exact h4 true
        . simp only [if_neg e2, decide_eq_false e2, Bool.false_or]
          refine Ev.bind (implIsAt (by omega)) ?_
          by_cases e3 : (decide (fr = tg) || under fr tg) = true
          . simp only [if_pos e3]
            refine ev_cast (h4 true) ?_
            rw [show atP fr tg = true from e3]
            simp
          . simp only [if_neg e3]
            refine Ev.bind (implIsAt (by omega)) ?_
            refine ev_cast (h4 _) ?_
            rw [show atP fr tg = false from Bool.eq_false_iff.mpr e3, Bool.false_or]
            rfl
  by_cases e1 : (fr.length : Int) > 0
  . simp only [if_pos e1]
    refine Ev.bind (implFind ht) ?_
    refine ev_cast (h3 _) ?_
    have e2 : fr ≠ [] := by intro e; rw [e] at e1; simp at e1
    simp only [decide_eq_true_eq, ne_eq, e2, not_false_eq_true, true_and]
  . simp only [if_neg e1]
    refine ev_cast (h3 false) ?_
    have e2 : fr = [] := by apply List.eq_nil_of_length_eq_zero; omega
    simp [e2]
theorem over_lt (t : List S57) (tg : List ByteArray) : overC t tg < 400 := by unfold overC; split <;> omega
theorem copied_cases (t : List S57) (fr tg : List ByteArray) (over : Bool) (ver : Int) (c0 : mayC t [fr, tg] ver = 0) :
    (∃ c, 400 <= c /\ copiedR t fr tg over ver = ([], c) /\ ∀ mv, farR mv t fr tg over ver = (t, c)) \/
    (copiedR t fr tg over ver = (foldPut tg fr.length ver (withoutP tg t) (deepOf fr t), overC t tg) /\ bad4 fr tg = false /\ (∀ mv, farR mv t fr tg over ver = if 12 < ((restR mv t fr tg).length : Int) + ((deepOf fr t).length : Int) then (t, 507) else (foldPut tg fr.length ver (restR mv t fr tg) (deepOf fr t), overC t tg))) := by
  unfold copiedR farR
  simp only [if_pos c0]
  by_cases c1 : fr ≠ [] /\ findR t fr < 0
  . exact .inl ⟨404, by omega, by rw [if_pos c1], fun mv => by rw [if_pos c1]⟩
  . by_cases c2 : bad4 fr tg = true
    . exact .inl ⟨403, by omega, by rw [if_neg c1, if_pos c2], fun mv => by rw [if_neg c1, if_pos c2]⟩
    . by_cases c3 : 0 <= findR t tg /\ over = false
      . exact .inl ⟨412, by omega, by rw [if_neg c1, if_neg c2, if_pos c3], fun mv => by rw [if_neg c1, if_neg c2, if_pos c3]⟩
      . by_cases c4 : isColl t (above tg) = true
        . by_cases c5 : (deepOf fr t).any (longR fr tg) = true
          . exact .inl ⟨409, by omega, by rw [if_neg c1, if_neg c2, if_neg c3, if_pos c4, if_pos c5], fun mv => by rw [if_neg c1, if_neg c2, if_neg c3, if_pos c4, if_pos c5]⟩
          . exact .inr ⟨by rw [if_neg c1, if_neg c2, if_neg c3, if_pos c4, if_neg c5], Bool.eq_false_iff.mpr c2, fun mv => by rw [if_neg c1, if_neg c2, if_neg c3, if_pos c4, if_neg c5]⟩
        . exact .inl ⟨409, by omega, by rw [if_neg c1, if_neg c2, if_neg c3, if_neg c4], fun mv => by rw [if_neg c1, if_neg c2, if_neg c3, if_neg c4]⟩
theorem implMoveT {over : Bool} {t : List S57} {fr tg : List ByteArray} {ver : Int} (ht : SmRess t) (hp : SmS fr) (hq : SmS tg) (hv : IntOk ver) : Ev (fun k => impl_MoveTreeX.f k t fr tg over ver) (farR true t fr tg over ver) := by
  have hp0 := hp.1
  show Ev (fun k => impl_MoveTree.f k t fr tg over ver) _
  unfold impl_MoveTree.f
  refine Ev.bind (implMay ht (by simp) (fun q hq' => by rcases List.mem_cons.1 hq' with rfl | hq'; exact hp; rw [List.mem_singleton.1 hq']; exact hq)) ?_
  by_cases c0 : mayC t [fr, tg] ver = 0
  . simp only [if_pos c0]
    refine Ev.bind (implCopied ht hp hq hv c0) ?_
    rcases copied_cases t fr tg over ver c0 with ⟨c, hc, h1, h2⟩ | ⟨h1, hb, h2⟩
    . simp only [h1, h2 true, if_pos (show c >= 400 by omega)]
      exact Ev.bind (implCopyTree ht) (Ev.now _)
    . have ho := over_lt t tg
      obtain ⟨hto, hpf, hpt, hv0, hv1⟩ := mayC_parts c0
      have hord := (treeOk_iff.1 hto).2.1
      have h12 := (treeOk_iff.1 hto).2.2
      have hdl := deep_length fr t
      have hrl := without_length tg t
      have hb2 : atP tg fr = false /\ atP fr tg = false := by
        unfold bad4 at hb
        simp only [Bool.or_eq_false_iff] at hb
        exact ⟨hb.2.2.2, hb.2.2.1⟩
      have hsm : SmRess (foldPut tg fr.length ver (withoutP tg t) (deepOf fr t)) := by
        refine ⟨by rw [foldPut_length]; omega, fun x hx => ?_⟩
        rcases (foldPut_mem _ _ _ _ _ _).1 hx with hx | ⟨r, hr, rfl⟩
        . exact ht.2 x (without_mem.1 hx).1
        . have hrt := (List.mem_filter.1 hr).1
          exact new_sm (ht.2 r hrt) hq hv (pathOk_len hpt) (pathOk_len (treePath hto hrt))
      simp only [h1, h2 true, if_neg (show ¬ overC t tg >= 400 by omega)]
      refine Ev.bind (implWithout hsm (by omega)) ?_
      rw [foldPut_without hb2 (ord_without tg hord) (fresh_first hord), show withoutP fr (withoutP tg t) = restR true t fr tg from by unfold restR; simp]
      simp only [foldPut_length]
      by_cases cl : (12 : Int) < ((restR true t fr tg).length : Int) + ((deepOf fr t).length : Int)
      . simp only [if_pos (show (((restR true t fr tg).length + (deepOf fr t).length : Nat) : Int) > 12 by omega), if_pos cl]
        exact Ev.bind (implCopyTree ht) (Ev.now _)
      . simp only [if_neg (show ¬ (((restR true t fr tg).length + (deepOf fr t).length : Nat) : Int) > 12 by omega), if_neg cl]
        exact Ev.now _
  . simp only [if_neg c0]
    refine ev_cast (Ev.bind (implCopyTree ht) (Ev.now _)) ?_
    unfold farR
    rw [if_neg c0]
theorem specMoveT {over : Bool} {t : List S57} {fr tg : List ByteArray} {ver : Int} (ht : SmRess t) (hp : SmS fr) (hq : SmS tg) (hv : IntOk ver) : Ev (fun k => spec_MoveTree.f k t fr tg over ver) (farR true t fr tg over ver) := by
  unfold spec_MoveTree.f
  exact Ev.bind (specFar ht hp hq hv) (Ev.now _)
theorem far_sm {mv over : Bool} {t : List S57} {fr tg : List ByteArray} {ver : Int} (ht : SmRess t) (hq : SmS tg) (hv : IntOk ver) : SmRess (farR mv t fr tg over ver).1 := by
  by_cases c0 : mayC t [fr, tg] ver = 0
  . rcases copied_cases t fr tg over ver c0 with ⟨c, _, _, h2⟩ | ⟨_, _, h2⟩
    . rw [h2 mv]; exact ht
    . rw [h2 mv]
      obtain ⟨hto, hpf, hpt, hv0, hv1⟩ := mayC_parts c0
      have h12 := (treeOk_iff.1 hto).2.2
      have hdl := deep_length fr t
      have hrl := rest_le mv t fr tg
      split
      . exact ht
      . refine ⟨by show (foldPut _ _ _ _ _).length <= _; rw [foldPut_length]; omega, fun x hx => ?_⟩
        rcases (foldPut_mem _ _ _ _ _ _).1 hx with hx | ⟨r, hr, rfl⟩
        . exact (rest_sm mv fr tg ht).2 x hx
        . have hrt := (List.mem_filter.1 hr).1
          exact new_sm (ht.2 r hrt) hq hv (pathOk_len hpt) (pathOk_len (treePath hto hrt))
  . unfold farR; rw [if_neg c0]; exact ht
end Go.Proofs.Ytbgggcgjijljkaa.L

/- The laws' marks on lists of texts: what they write, and that it is found again. No condition. -/
set_option linter.unusedSimpArgs false
set_option linter.unusedVariables false
namespace Go.Proofs.Ytbgggcgjijljkaa.L
open Go.RowKit Go.Proofs.YtbgggcgjijljkaaW.PrintWords Go.Proofs.YtbgggcgjijljkaaW.PrintLast Go.Proofs.Ytbgggcgjijljkaa.Q
theorem strOfNums_size (n : Int) : (strOfNums [n]).size = 1 := rfl
theorem mark_loop : ∀ (d : Nat) (k : Nat) (i : Int) (s : ByteArray), 0 <= i -> i < 10 ^ d -> i < 9223372036854775808 -> d < k -> s.size + d + 1 <= 9223372036854775807 -> ∃ t, laws_markText.l0 k i s = some t := by
  intro d
  induction d with
  | zero =>
    intro k i s h0 h1 hb hk hs
    obtain ⟨k, rfl⟩ : ∃ m, k = m + 1 := ⟨k - 1, by omega⟩
    simp only [laws_markText.l0]
    rw [if_neg (by simp at h1; omega), if_pos (by omega)]
    exact ⟨_, rfl⟩
  | succ d ih =>
    intro k i s h0 h1 hb hk hs
    obtain ⟨k, rfl⟩ : ∃ m, k = m + 1 := ⟨k - 1, by omega⟩
    simp only [laws_markText.l0, Option.bind_some]
    by_cases hi : i > 0
    . rw [if_pos hi, if_pos (by rw [strOfNums_size]; omega)]
      have hd : Int.tdiv i 10 = i / 10 := Int.tdiv_eq_ediv_of_nonneg h0
      have hq : 0 <= i / 10 /\ i / 10 <= i := ⟨by omega, by omega⟩
      rw [hd, wrap_id (by omega) (by omega)]
      refine ih k _ _ hq.1 ?_ (by omega) (by omega) ?_
      . rw [Int.pow_succ] at h1; omega
      . rw [ByteArray.size_append, strOfNums_size]; omega
    . rw [if_neg hi, if_pos (by omega)]
      exact ⟨_, rfl⟩
theorem mark_some {i : Int} (h0 : 0 <= i) (h1 : i < 1152921504606846976) : ∃ t, ∀ k, 32 <= k -> laws_markText.f k i = some t := by
  have h : ∃ t, laws_markText.f 32 i = some t := by
    unfold laws_markText.f
    by_cases e : i <= 0
    . rw [if_pos e]; exact ⟨_, rfl⟩
    . rw [if_neg e]
      exact mark_loop 19 32 i _ h0 (by omega) (by omega) (by omega) (by show 0 + 19 + 1 <= _; omega)
  obtain ⟨t, ht⟩ := h
  exact ⟨t, fun k hk => at_rounds (fun k => laws_markText.mono i k) hk ht⟩
noncomputable def mt (i : Int) : ByteArray := by
  classical
  exact if h : 0 <= i /\ i < 1152921504606846976 then Classical.choose (mark_some h.1 h.2) else ⟨#[]⟩
theorem mt_spec {i : Int} (h0 : 0 <= i) (h1 : i < 1152921504606846976) {k : Nat} (hk : 32 <= k) : laws_markText.f k i = some (mt i) := by
  unfold mt
  rw [dif_pos ⟨h0, h1⟩]
  exact Classical.choose_spec (mark_some h0 h1) k hk
theorem mt_ev {i : Int} (h0 : 0 <= i) (h1 : i < 1152921504606846976) : Ev (fun k => laws_markText.f k i) (mt i) := ⟨32, fun _ hk => mt_spec h0 h1 hk⟩
noncomputable def marks : Nat -> Int -> List ByteArray
  | 0, _ => []
  | n + 1, i => mt i :: marks n (i + 1)
theorem marks_length (n : Nat) (i : Int) : (marks n i).length = n := by
  induction n generalizing i with
  | zero => rfl
  | succ n ih => simp [marks, ih]
theorem markS {l : List ByteArray} (hl : l.length <= 1048576) {a : Int} (h0 : 0 <= a) (h1 : a <= 70368744177664) : Ev (fun k => laws_markStringS.f k l a) (a + l.length, marks l.length a) := by
  have key : ∀ (suf pre : List ByteArray) (x : List ByteArray) (i : Int), x = pre ++ suf -> x.length <= 1048576 -> 0 <= i -> i + suf.length <= 70368745226240 -> Ev (fun k => laws_markStringS.l0 k x i pre.length) (i + suf.length, pre ++ marks suf.length i) := by
    intro suf
    induction suf with
    | nil =>
      intro pre x i h hx h0 h1
      refine Ev.step (fun k => laws_markStringS.l0.eq_2 ..) ?_
      simp only [if_neg (end_at h)]
      rw [List.append_nil] at h
      rw [h]
      simp only [List.length_nil, Int.natCast_zero, Int.add_zero, marks, List.append_nil]
      exact Ev.now _
    | cons b suf ih =>
      intro pre x i h hx h0 h1
      rw [List.length_cons] at h1
      refine Ev.step (fun k => laws_markStringS.l0.eq_2 ..) ?_
      simp only [if_pos (lt_at h)]
      refine Ev.bind (mt_ev h0 (by omega)) ?_
      simp only [if_pos (nonneg_at _), set_at h, next_at h (show x.length <= maxLen by rw [maxLen_eq]; omega), wrap_id (x := i + 1) (by omega) (by omega)]
      have := ih (pre ++ [mt i]) (pre ++ [mt i] ++ suf) (i + 1) rfl (by rw [h] at hx; simpa using hx) (by omega) (by omega)
      rw [show (pre ++ [b]).length = (pre ++ [mt i]).length by simp]
      refine ev_cast this ?_
      simp only [List.length_cons, marks, Prod.mk.injEq]
      exact ⟨by omega, by simp⟩
  have := key l [] l a rfl hl h0 (by omega)
  simpa [laws_markStringS.f] using this
theorem heldS {n : Nat} (hn : n <= 1048576) {a : Int} (h0 : 0 <= a) (h1 : a <= 70368744177664) : Ev (fun k => laws_heldStringS.f k (marks n a) a) (a + n) := by
  have key : ∀ (m : Nat) (pre x : List ByteArray) (i : Int), x = pre ++ marks m i -> x.length <= 1048576 -> 0 <= i -> i + m <= 70368745226240 -> Ev (fun k => laws_heldStringS.l0 k x i pre.length) (i + m) := by
    intro m
    induction m with
    | zero =>
      intro pre x i h hx h0 h1
      refine Ev.step (fun k => laws_heldStringS.l0.eq_2 ..) ?_
      simp only [if_neg (end_at h)]
      exact ev_cast (Ev.now _) (by simp)
    | succ m ih =>
      intro pre x i h hx h0 h1
      simp only [marks] at h
      refine Ev.step (fun k => laws_heldStringS.l0.eq_2 ..) ?_
      simp only [if_pos (lt_at h), if_pos (nonneg_at _)]
      refine Ev.bind (mt_ev h0 (by omega)) ?_
      simp only [rd_at _ h, if_true, next_at h (show x.length <= maxLen by rw [maxLen_eq]; omega), wrap_id (x := i + 1) (by omega) (by omega)]
      refine ev_cast (ih (pre ++ [mt i]) x (i + 1) (snoc_at h) hx (by omega) (by omega)) ?_
      omega
  exact key n [] _ a rfl (by rw [marks_length]; exact hn) h0 (by omega)
end Go.Proofs.Ytbgggcgjijljkaa.L

/- Marks that are found again: a loop that marks, a loop that looks. No condition. -/
set_option linter.unusedSimpArgs false
set_option linter.unusedVariables false
namespace Go.Proofs.Ytbgggcgjijljkaa.L
open Go.RowKit Go.Proofs.YtbgggcgjijljkaaW.PrintWords Go.Proofs.YtbgggcgjijljkaaW.PrintLast Go.Proofs.Ytbgggcgjijljkaa.Q
def MH {α : Type} (mk : Nat -> List α -> Int -> Option (Int × List α)) (hd : Nat -> List α -> Int -> Option Int) (l : List α) (i C : Int) : Prop :=
  ∃ n l', l'.length = l.length /\ i <= n /\ n <= i + C /\ Ev (fun k => mk k l i) (n, l') /\ Ev (fun k => hd k l' i) n
theorem mh_loop {α : Type} (mk : Nat -> List α -> Int -> Int -> Option (Int × List α)) (hd : Nat -> List α -> Int -> Int -> Option Int) (P : α -> Prop) (C : Int) (hC : 0 <= C)
    (me : ∀ (x : List α) i, Ev (fun k => mk k x i x.length) (i, x)) (he : ∀ (y : List α) i, Ev (fun k => hd k y i y.length) i)
    (st : ∀ a i, P a -> 0 <= i -> i + C <= 70368744177664 -> ∃ n a', i <= n /\ n <= i + C /\
      (∀ x pre suf, x = pre ++ a :: suf -> x.length <= 1048576 -> ∀ r, Ev (fun k => mk k (pre ++ a' :: suf) n ((pre ++ [a']).length : Int)) r -> Ev (fun k => mk k x i (pre.length : Int)) r) /\
      (∀ y pre suf, y = pre ++ a' :: suf -> y.length <= 1048576 -> ∀ r, Ev (fun k => hd k y n ((pre ++ [a']).length : Int)) r -> Ev (fun k => hd k y i (pre.length : Int)) r)) :
    ∀ (suf : List α) (i : Int), (∀ a ∈ suf, P a) -> 0 <= i -> i + C * suf.length <= 70368744177664 -> ∃ n suf', suf'.length = suf.length /\ i <= n /\ n <= i + C * suf.length /\
      (∀ pre : List α, (pre ++ suf).length <= 1048576 -> Ev (fun k => mk k (pre ++ suf) i pre.length) (n, pre ++ suf')) /\ (∀ pre : List α, (pre ++ suf').length <= 1048576 -> Ev (fun k => hd k (pre ++ suf') i pre.length) n) := by
  intro suf
  induction suf with
  | nil =>
    intro i _ h0 h1
    refine ⟨i, [], rfl, Int.le_refl _, by simp, fun pre _ => ?_, fun pre _ => ?_⟩
    . have := me pre i; simpa using this
    . have := he pre i; simpa using this
  | cons a suf ih =>
    intro i hP h0 h1
    have hm : C * ((a :: suf).length : Int) = C * suf.length + C := by rw [List.length_cons, Int.natCast_add, Int.mul_add]; simp
    have hp : 0 <= C * (suf.length : Int) := Int.mul_nonneg hC (Int.natCast_nonneg _)
    rw [hm] at h1 ⊢
    obtain ⟨n, a', hn0, hn1, hmk, hhd⟩ := st a i (hP a (by simp)) h0 (by omega)
    obtain ⟨n2, suf', hl, hn2, hn3, hmk2, hhd2⟩ := ih n (fun x hx => hP x (by simp [hx])) (by omega) (by omega)
    refine ⟨n2, a' :: suf', by simp [hl], by omega, by omega, fun pre hpre => ?_, fun pre hpre => ?_⟩
    . refine hmk _ pre suf rfl hpre _ ?_
      have := hmk2 (pre ++ [a']) (by simp at hpre ⊢; omega)
      simpa using this
    . refine hhd _ pre suf' rfl hpre _ ?_
      have := hhd2 (pre ++ [a']) (by simp at hpre ⊢; omega)
      simpa using this
theorem mhS {l : List ByteArray} (hl : l.length <= 1048576) {i : Int} (h0 : 0 <= i) (h1 : i + 1048576 <= 70368744177664) : MH laws_markStringS.f laws_heldStringS.f l i 1048576 := by
  refine ⟨i + l.length, marks l.length i, marks_length _ _, by omega, by omega, ?_, ?_⟩
  . exact markS hl h0 (by omega)
  . exact heldS hl h0 (by omega)
end Go.Proofs.Ytbgggcgjijljkaa.L

/- Marks on properties and shelves, found again. No condition. -/
set_option linter.unusedSimpArgs false
set_option linter.unusedVariables false
namespace Go.Proofs.Ytbgggcgjijljkaa.L
open Go.RowKit Go.Proofs.YtbgggcgjijljkaaW.PrintWords Go.Proofs.YtbgggcgjijljkaaW.PrintLast Go.Proofs.Ytbgggcgjijljkaa.Q
theorem mhProp {l : List S72} (hl : l.length <= 1048576) {i : Int} (h0 : 0 <= i) (h1 : i + 3145728 <= 70368744177664) : MH laws_markPropS.f laws_heldPropS.f l i 3145728 := by
  obtain ⟨n, l', e0, e1, e2, e3, e4⟩ := mh_loop (fun k x i j => laws_markPropS.l0 k x i j) (fun k x i j => laws_heldPropS.l0 k x i j) (fun _ => True) 3 (by omega)
    (fun x i => by
      refine Ev.step (fun k => laws_markPropS.l0.eq_2 ..) ?_
      simp only [Int.lt_irrefl, if_false]; exact Ev.now _)
    (fun x i => by
      refine Ev.step (fun k => laws_heldPropS.l0.eq_2 ..) ?_
      simp only [Int.lt_irrefl, if_false]; exact Ev.now _)
    (fun a i _ h0 h1 => by
      have w1 : wrap64 (i + 1) = i + 1 := wrap_id (by omega) (by omega)
      have w2 : wrap64 (i + 1 + 1) = i + 1 + 1 := wrap_id (by omega) (by omega)
      have w3 : wrap64 (i + 1 + 1 + 1) = i + 1 + 1 + 1 := wrap_id (by omega) (by omega)
      refine ⟨i + 1 + 1 + 1, ⟨mt i, mt (i + 1), mt (i + 1 + 1)⟩, by omega, by omega, fun x pre suf h hx r hr => ?_, fun y pre suf h hy r hr => ?_⟩
      . have hx2 : x.length <= maxLen := by rw [maxLen_eq]; omega
        refine Ev.step (fun k => laws_markPropS.l0.eq_2 ..) ?_
        simp only [if_pos (lt_at h)]
        refine Ev.bind (mt_ev h0 (by omega)) ?_
        simp only [if_pos (nonneg_at _), Option.bind_some, set_at h, rd_implProp h, w1]
        refine Ev.bind (mt_ev (by omega) (by omega)) ?_
        have h2 : pre ++ [⟨mt i, a.f1, a.f2⟩] ++ suf = pre ++ (⟨mt i, a.f1, a.f2⟩ : S72) :: suf := by simp
        simp only [Option.bind_some, set_at h2, rd_implProp h2, w2]
        refine Ev.bind (mt_ev (by omega) (by omega)) ?_
        have h3 : pre ++ [⟨mt i, mt (i + 1), a.f2⟩] ++ suf = pre ++ (⟨mt i, mt (i + 1), a.f2⟩ : S72) :: suf := by simp
        simp only [set_at h3, rd_implProp h3, w3, next_at h hx2]
        simpa using hr
      . have hy2 : y.length <= maxLen := by rw [maxLen_eq]; omega
        refine Ev.step (fun k => laws_heldPropS.l0.eq_2 ..) ?_
        simp only [if_pos (lt_at h), if_pos (nonneg_at _), rd_implProp h, w1, w2, w3]
        refine Ev.bind (mt_ev h0 (by omega)) ?_
        simp only [if_true]
        refine Ev.bind (mt_ev (by omega) (by omega)) ?_
        simp only [if_true]
        refine Ev.bind (mt_ev (by omega) (by omega)) ?_
        simp only [if_true, next_at h hy2]
        simpa using hr) l i (fun _ _ => trivial) h0 (by omega)
  refine ⟨n, l', e0, e1, by omega, ?_, ?_⟩
  . exact e3 [] (by simpa using hl)
  . exact e4 [] (by simp; omega)
theorem mhRes {l : List S57} (hl : SmRess l) {i : Int} (h0 : 0 <= i) (h1 : i + 4398050705408 <= 70368744177664) : MH laws_markResS.f laws_heldResS.f l i 4398050705408 := by
  have hl0 := hl.1
  obtain ⟨n, l', e0, e1, e2, e3, e4⟩ := mh_loop (fun k x i j => laws_markResS.l0 k x i j) (fun k x i j => laws_heldResS.l0 k x i j) SmRes 4194307 (by omega)
    (fun x i => by
      refine Ev.step (fun k => laws_markResS.l0.eq_2 ..) ?_
      simp only [Int.lt_irrefl, if_false]; exact Ev.now _)
    (fun x i => by
      refine Ev.step (fun k => laws_heldResS.l0.eq_2 ..) ?_
      simp only [Int.lt_irrefl, if_false]; exact Ev.now _)
    (fun a i ha h0 h1 => by
      obtain ⟨g0, _, _, _, g4⟩ := ha
      obtain ⟨n1, p', _, a1, a2, a3, a4⟩ := mhS g0.1 h0 (by omega)
      have w1 : wrap64 (n1 + 1) = n1 + 1 := wrap_id (by omega) (by omega)
      have w2 : wrap64 (n1 + 1 + 1) = n1 + 1 + 1 := wrap_id (by omega) (by omega)
      have w3 : wrap64 (n1 + 1 + 1 + 1) = n1 + 1 + 1 + 1 := wrap_id (by omega) (by omega)
      obtain ⟨n2, q', _, b1, b2, b3, b4⟩ := mhProp g4.1 (i := n1 + 1 + 1 + 1) (by omega) (by omega)
      refine ⟨n2, ⟨p', (n1.tmod 3 == 0), mt (n1 + 1), n1 + 1 + 1, q'⟩, by omega, by omega, fun x pre suf h hx r hr => ?_, fun y pre suf h hy r hr => ?_⟩
      . have hx2 : x.length <= maxLen := by rw [maxLen_eq]; omega
        refine Ev.step (fun k => laws_markResS.l0.eq_2 ..) ?_
        simp only [if_pos (lt_at h), if_pos (nonneg_at _), rd_implRes h]
        refine Ev.bind a3 ?_
        simp only [w1, w2, w3]
        refine Ev.bind (mt_ev (by omega) (by omega)) ?_
        refine Ev.bind b3 ?_
        simp only [set_at h, next_at h hx2]
        simpa using hr
      . have hy2 : y.length <= maxLen := by rw [maxLen_eq]; omega
        refine Ev.step (fun k => laws_heldResS.l0.eq_2 ..) ?_
        simp only [if_pos (lt_at h), if_pos (nonneg_at _), rd_implRes h]
        refine Ev.bind a4 ?_
        simp only [if_neg (show ¬ n1 < 0 by omega), bne_self_eq_false, Bool.false_eq_true, if_false, w1, w2, w3]
        refine Ev.bind (mt_ev (by omega) (by omega)) ?_
        simp only [if_true]
        refine Ev.bind b4 ?_
        simp only [if_neg (show ¬ n2 < 0 by omega), next_at h hy2]
        simpa using hr) l i hl.2 h0 (by omega)
  refine ⟨n, l', e0, e1, by omega, ?_, ?_⟩
  . exact e3 [] (by simpa using hl.1)
  . exact e4 [] (by simp; omega)
end Go.Proofs.Ytbgggcgjijljkaa.L

/- The law FnExactMoveTree computes true: the program and the reference say the same, the arguments stay, and nothing is shared. No condition. -/
set_option linter.unusedSimpArgs false
set_option linter.unusedVariables false
namespace Go.Proofs.Ytbgggcgjijljkaa.Pure
open Go.RowKit Go.Proofs.YtbgggcgjijljkaaW.PrintWords Go.Proofs.YtbgggcgjijljkaaW.PrintLast Go.Proofs.Ytbgggcgjijljkaa.Q Go.Proofs.Ytbgggcgjijljkaa.L
theorem FnExactMoveTree : ∀ (x0 : List (S79)) (x1 : List ByteArray) (x2 : List ByteArray) (x3 : Bool) (x4 : Int), (fun l : List (S79) => l.length <= maxLen /\ ∀ a ∈ l, G79 a) x0 -> (fun l : List ByteArray => l.length <= maxLen /\ ∀ a ∈ l, (fun s : ByteArray => s.size <= maxLen) a) x1 -> (fun l : List ByteArray => l.length <= maxLen /\ ∀ a ∈ l, (fun s : ByteArray => s.size <= maxLen) a) x2 -> (fun x : Int => (Lit.int .i64 x).wf = true) x4 -> ∃ k, laws_FnExactMoveTree.f k x0 x1 x2 x3 x4 = some true := by
  intro x0 x1 x2 x3 x4 g0 g1 g2 g4
  apply Ev.rounds
  unfold laws_FnExactMoveTree.f
  have hm : ∀ m : Nat, m <= 1048576 -> m <= maxLen := fun m h => by rw [maxLen_eq]; omega
  refine Sz.ev (szResS g0.1 g0.2 (n := 1048576) (by omega) (by omega)) (by simp only [show (-1 : Int) < 0 by omega, if_true]; exact Ev.now _) (fun m0 a0 b0 s0 => ?_)
  simp only [if_neg (show ¬ m0 < 0 by omega)]
  refine Sz.ev (szS g1.1 g1.2 (n := m0) (by omega) (by omega)) (by simp only [show (-1 : Int) < 0 by omega, if_true]; exact Ev.now _) (fun m1 a1 b1 s1 => ?_)
  simp only [if_neg (show ¬ m1 < 0 by omega)]
  refine Sz.ev (szS g2.1 g2.2 (n := m1) (by omega) (by omega)) (by simp only [show (-1 : Int) < 0 by omega, if_true]; exact Ev.now _) (fun m2 a2 b2 s2 => ?_)
  simp only [if_neg (show ¬ m2 < 0 by omega)]
  have hd0 := far_sm (mv := true) (fr := x1) (over := x3) s0 s2 (wf_int g4)
  refine Ev.bind (toResS s0) ?_
  refine Ev.bind (toS (by have := s1.1; omega)) ?_
  refine Ev.bind (toS (by have := s2.1; omega)) ?_
  refine Ev.bind (specMoveT s0 s1 s2 (wf_int g4)) ?_
  refine Ev.bind (toResS s0) ?_
  refine Ev.bind (toS (by have := s1.1; omega)) ?_
  refine Ev.bind (toS (by have := s2.1; omega)) ?_
  refine Ev.bind (implMoveT s0 s1 s2 (wf_int g4)) ?_
  refine Ev.bind (eqResS hd0) ?_
  try simp only [eq_self, if_true, bne_self_eq_false, Bool.false_eq_true, if_false, decide_true, Bool.not_true]
  try simp only [eq_self, if_true, bne_self_eq_false, Bool.false_eq_true, if_false, decide_true, Bool.not_true]
  refine Ev.bind (toResS s0) ?_
  refine Ev.bind (eqResS s0) ?_
  try simp only [eq_self, if_true, bne_self_eq_false, Bool.false_eq_true, if_false, decide_true, Bool.not_true]
  refine Ev.bind (toS (by have := s1.1; omega)) ?_
  refine Ev.bind (eqS g1.1) ?_
  try simp only [eq_self, if_true, bne_self_eq_false, Bool.false_eq_true, if_false, decide_true, Bool.not_true]
  refine Ev.bind (toS (by have := s2.1; omega)) ?_
  refine Ev.bind (eqS g2.1) ?_
  try simp only [eq_self, if_true, bne_self_eq_false, Bool.false_eq_true, if_false, decide_true, Bool.not_true]
  obtain ⟨n0, l0, _, u0, v0, w0, _⟩ := mhRes s0 (i := 1) (by omega) (by omega)
  refine Ev.bind w0 ?_
  obtain ⟨n1, l1, _, u1, v1, w1, _⟩ := mhS s1.1 (i := n0) (by omega) (by omega)
  refine Ev.bind w1 ?_
  obtain ⟨n2, l2, _, u2, v2, w2, _⟩ := mhS s2.1 (i := n1) (by omega) (by omega)
  refine Ev.bind w2 ?_
  simp only [if_neg (show ¬ n2 < 0 by omega)]
  refine Ev.bind (eqResS hd0) ?_
  try simp only [eq_self, if_true, bne_self_eq_false, Bool.false_eq_true, if_false, decide_true, Bool.not_true]
  try simp only [eq_self, if_true, bne_self_eq_false, Bool.false_eq_true, if_false, decide_true, Bool.not_true]
  obtain ⟨n3, l3, _, u3, v3, w3, z3⟩ := mhRes hd0 (i := 1) (by omega) (by omega)
  refine Ev.bind w3 ?_
  refine Ev.bind z3 ?_
  simp only [if_neg (show ¬ n3 < 0 by omega)]
  try simp only [eq_self, if_true, bne_self_eq_false, Bool.false_eq_true, if_false, decide_true, Bool.not_true]
  refine Ev.bind (toResS s0) ?_
  refine Ev.bind (toS (by have := s1.1; omega)) ?_
  refine Ev.bind (toS (by have := s2.1; omega)) ?_
  refine Ev.bind (implMoveT s0 s1 s2 (wf_int g4)) ?_
  refine Ev.bind (eqResS hd0) ?_
  try simp only [eq_self, if_true, bne_self_eq_false, Bool.false_eq_true, if_false, decide_true, Bool.not_true]
  try simp only [eq_self, if_true, bne_self_eq_false, Bool.false_eq_true, if_false, decide_true, Bool.not_true]
  refine Ev.bind z3 ?_
  simp only [if_neg (show ¬ n3 < 0 by omega)]
  try simp only [eq_self, if_true, bne_self_eq_false, Bool.false_eq_true, if_false, decide_true, Bool.not_true]
  exact Ev.now _
end Go.Proofs.Ytbgggcgjijljkaa.Pure
