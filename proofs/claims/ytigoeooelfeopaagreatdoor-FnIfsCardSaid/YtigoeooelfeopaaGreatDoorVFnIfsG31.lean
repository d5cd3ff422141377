/- What is read of conditions, written and read again, is the same. No condition. -/
import Derived.Test.YtigoeooelfeopaaGreatDoorVFnIfsG30
set_option linter.unusedSimpArgs false
set_option linter.unusedVariables false
namespace Go.Proofs.YtigoeooelfeopaaGreatDoor.L
open Go.RowKit Go.Proofs.YtigoeooelfeopaaGreatDoorW.PrintWords Go.Proofs.YtigoeooelfeopaaGreatDoorW.PrintLast Go.Proofs.YtigoeooelfeopaaGreatDoor.Q
theorem cutY {a : ByteArray} {p t : List UInt8} (h : bl a = p) : strings_CutPrefix.f (ofL (p ++ t)) a = some (ofL t, true) := by
  subst h
  have e1 : Lib.hasPrefix (ofL (bl a ++ t)).data.toList a.data.toList = true := by
    have : (ofL (bl a ++ t)).data.toList = bl a ++ t := bl_ofL _
    rw [this]; exact pre_iff.2 ⟨t, rfl⟩
  have e2 : Lib.trimPrefix (ofL (bl a ++ t)).data.toList a.data.toList = t := by
    unfold Lib.trimPrefix
    rw [e1]
    have : (ofL (bl a ++ t)).data.toList = bl a ++ t := bl_ofL _
    rw [this, if_pos rfl]
    exact List.drop_left
  unfold strings_CutPrefix.f
  rw [e1, e2]
theorem cutN {a : ByteArray} {x : List UInt8} (h : ∀ t, x ≠ bl a ++ t) : strings_CutPrefix.f (ofL x) a = some (ofL x, false) := by
  have e0 : (ofL x).data.toList = x := bl_ofL _
  have e1 : Lib.hasPrefix (ofL x).data.toList a.data.toList = false := by
    rw [e0]
    apply Bool.eq_false_iff.2
    rw [ne_eq, pre_iff]
    rintro ⟨t, e⟩
    exact h t e
  have e2 : Lib.trimPrefix (ofL x).data.toList a.data.toList = x := by
    unfold Lib.trimPrefix
    rw [e1, e0]; rfl
  unfold strings_CutPrefix.f
  rw [e1, e2]
theorem dec_len4 {n : Nat} (h : n ≤ 9999) : (Lib.decDigits n).length ≤ 4 := by
  by_cases c1 : n < 10
  · rw [Lib.decDigits_one c1]; simp
  rw [decD_step c1, List.length_append]
  by_cases c2 : n / 10 < 10
  · rw [Lib.decDigits_one c2]; simp
  rw [decD_step c2, List.length_append]
  by_cases c3 : n / 10 / 10 < 10
  · rw [Lib.decDigits_one c3]; simp
  rw [decD_step c3, List.length_append, Lib.decDigits_one (by omega)]
  simp
theorem num_back {m : Int} (h0 : 1 ≤ m) (h1 : m ≤ 9999) : numR (Lib.decDigits m.toNat) 9999 = (m, true) ∧ (62 : UInt8) ∉ Lib.decDigits m.toNat := by
  obtain ⟨c, v⟩ := dec_canon m.toNat m.toNat (Nat.le_refl _)
  have hv : ((val (Lib.decDigits m.toNat) : Nat) : Int) = m := by rw [v]; omega
  have hl := dec_len4 (n := m.toNat) (by omega)
  refine ⟨?_, fun hm => ?_⟩
  · rw [numR_yes ⟨c, by omega, by omega⟩, hv]
  · have := c.2.1 _ hm
    revert this
    decide
theorem GoodC.sm {c : S43} (h : GoodC c) : IntOk c.f1 ∧ c.f2.size ≤ 12 := by
  rcases h with ⟨e, h0, h1⟩ | ⟨e, body, e2, _, h3, h4, _⟩
  · rw [e]; exact ⟨⟨by omega, by omega⟩, Nat.zero_le _⟩
  · rw [e, e2, size_ofL]
    simp only [List.length_cons, List.length_append, List.length_nil]
    exact ⟨⟨by omega, by omega⟩, by omega⟩
theorem condBack {c : S43} (h : GoodC c) {rest : List UInt8} (hr : (condT c ++ rest).length ≤ 1073741824) : Ev (fun k => impl_condAt.f k (ofL (condT c ++ rest))) (c.f0, c.f1, c.f2, ofL rest, true) := by
  obtain ⟨f0, f1, f2⟩ := c
  have step1 : ∀ y : List UInt8, (∀ t, y ≠ 78 :: t) → strings_CutPrefix.f (ofL ((if f0 = true then NOT else []) ++ y)) (⟨#[78, 111, 116, 32]⟩ : ByteArray) = some (ofL y, f0) := by
    intro y hy
    cases f0 with
    | true => exact cutY (a := (⟨#[78, 111, 116, 32]⟩ : ByteArray)) rfl
    | false => exact cutN (a := (⟨#[78, 111, 116, 32]⟩ : ByteArray)) (fun t e => hy (111 :: 116 :: 32 :: t) e)
  unfold impl_condAt.f
  rcases h with ⟨e, h0, h1⟩ | ⟨e, body, e2, h2, h3, h4, h5⟩
  · simp only at e h0 h1
    subst e
    obtain ⟨n1, n2⟩ := num_back h0 h1
    have hx : condT ⟨f0, f1, ⟨#[]⟩⟩ ++ rest = (if f0 = true then NOT else []) ++ (60 :: (Lib.decDigits f1.toNat ++ 62 :: rest)) := by
      simp only [condT, if_neg (show ¬ f1 = 0 by omega)]
      simp
    rw [hx] at hr ⊢
    simp only [List.length_append, List.length_cons] at hr
    refine ev_bindS (step1 _ (fun t e => by cases e)) ?_
    refine ev_bindS (cutY (a := (⟨#[60]⟩ : ByteArray)) (p := [60]) rfl) ?_
    refine ev_iteT rfl ?_
    have hc : strings_Cut.f (ofL (Lib.decDigits f1.toNat ++ 62 :: rest)) (⟨#[62]⟩ : ByteArray) = some (ofL (Lib.decDigits f1.toNat), ofL rest, true) := by
      unfold strings_Cut.f
      have e1 : (ofL (Lib.decDigits f1.toNat ++ 62 :: rest)).data.toList = Lib.decDigits f1.toNat ++ 62 :: rest := bl_ofL _
      have e2 : (⟨#[62]⟩ : ByteArray).data.toList = [62] := rfl
      rw [e1, e2, cut_hit rfl n2, if_pos (by rw [size_ofL]; simp only [List.length_append, List.length_cons]; omega)]
    refine ev_bindS hc ?_
    have hp := implNum (s := ofL (Lib.decDigits f1.toNat)) (by rw [size_ofL]; omega) 9999
    rw [bl_ofL, n1] at hp
    refine ev_bindS hp ?_
    refine ev_iteT rfl ?_
    refine ev_iteT rfl ?_
    rw [show decide (f1 > 0) = true from decide_eq_true (by omega)]
    exact Ev.now _
  · simp only at e e2
    subst e
    subst e2
    have hx : condT ⟨f0, 0, ofL (34 :: (body ++ [34]))⟩ ++ rest = (if f0 = true then NOT else []) ++ (91 :: (34 :: (body ++ 34 :: 93 :: rest))) := by
      simp only [condT, if_true, bl_ofL]
      simp
    rw [hx] at hr ⊢
    simp only [List.length_append, List.length_cons] at hr
    refine ev_bindS (step1 _ (fun t e => by cases e)) ?_
    refine ev_bindS (cutN (a := (⟨#[60]⟩ : ByteArray)) (fun t e => by cases e)) ?_
    refine ev_iteF nofun ?_
    refine ev_bindS (cutY (a := (⟨#[91]⟩ : ByteArray)) (p := [91]) rfl) ?_
    have i1 := implTagAt_ok (s := ofL (34 :: (body ++ 34 :: 93 :: rest))) (body := body) (rest := 93 :: rest) (least := 1) (by rw [size_ofL]; simp only [List.length_append, List.length_cons]; omega) ⟨bl_ofL _, h2, h3, h4, h5⟩
    refine Ev.bind i1 ?_
    refine ev_bindS (cutY (a := (⟨#[93]⟩ : ByteArray)) (p := [93]) rfl) ?_
    refine ev_iteT rfl ?_
    exact ev_iteT rfl (Ev.now _)
theorem glue_tf (a : List UInt8) (r : List (List UInt8)) : glue false (a :: r) = 32 :: glue true (a :: r) := by rw [glue_cons, glue_cons]; simp
theorem listBack {rest : List UInt8} : ∀ (q p : List S43), q ≠ [] → (∀ c ∈ q, GoodC c) → (p ++ q).length ≤ 4 → (glue true (q.map condT) ++ 41 :: rest).length ≤ 1073741824 →
    Ev (fun k => impl_listAt.l0 k (ofL (glue true (q.map condT) ++ 41 :: rest)) true p) (p ++ q, ofL rest, true) := by
  intro q
  induction q with
  | nil => intro p h; exact absurd rfl h
  | cons c q ih =>
    intro p _ hg hl hs
    have hc := hg c (List.mem_cons_self ..)
    rw [List.map_cons, glue_cons, if_pos rfl, List.append_assoc] at hs ⊢
    simp only [List.length_append, List.length_cons] at hl
    cases q with
    | nil =>
      have e : glue false (([] : List S43).map condT) ++ 41 :: rest = [41] ++ rest := rfl
      rw [e] at hs ⊢
      exact implOne (c := c) (by omega) (condBack hc hs) (cutY (a := (⟨#[41]⟩ : ByteArray)) (p := [41]) rfl) (fun _ => rfl) nofun
    | cons d q =>
      have e : glue false ((d :: q).map condT) ++ 41 :: rest = [32] ++ (glue true ((d :: q).map condT) ++ 41 :: rest) := by rw [List.map_cons, glue_tf]; rfl
      rw [e] at hs ⊢
      refine implOne (c := c) (by omega) (condBack hc hs) (cutN (a := (⟨#[41]⟩ : ByteArray)) (fun t e => by cases e)) nofun (fun _ => ⟨_, _, cutY (a := (⟨#[32]⟩ : ByteArray)) (p := [32]) rfl, ?_⟩)
      have := ih (p ++ [c]) nofun (fun x hx => hg x (List.mem_cons_of_mem _ hx)) (by simp only [List.length_append, List.length_cons, List.length_nil] at hl ⊢; omega) (by rw [List.length_append, List.length_append] at hs; omega)
      rw [List.append_assoc] at this
      exact this
theorem listAtBack {l : List S43} (h : GoodL l) {rest : List UInt8} (hs : (listT l ++ rest).length ≤ 1073741824) : Ev (fun k => impl_listAt.f k (ofL (listT l ++ rest))) (l, ofL rest, true) := by
  obtain ⟨h1, h2, h3⟩ := h
  have e : listT l ++ rest = [40] ++ (glue true (l.map condT) ++ 41 :: rest) := by simp [listT]
  rw [e] at hs ⊢
  unfold impl_listAt.f
  refine ev_bindS (cutY (a := (⟨#[40]⟩ : ByteArray)) (p := [40]) rfl) ?_
  have := listBack (rest := rest) l [] (fun e => by rw [e] at h2; simp at h2) h1 (by simpa using h3) (by rw [List.length_append] at hs; omega)
  simpa using this
theorem ifBack : ∀ (q p : List (List S43)), q ≠ [] → (∀ l ∈ q, GoodL l) → (p ++ q).length ≤ 4 → (glue true (q.map listT)).length ≤ 1073741824 → Ev (fun k => impl_ParseIf.l0 k (ofL (glue true (q.map listT))) p) (p ++ q, true) := by
  intro q
  induction q with
  | nil => intro p h; exact absurd rfl h
  | cons l q ih =>
    intro p _ hg hl hs
    have hc := hg l (List.mem_cons_self ..)
    rw [List.map_cons, glue_cons, if_pos rfl] at hs ⊢
    simp only [List.length_append, List.length_cons] at hl
    have i1 := listAtBack hc hs
    cases q with
    | nil => exact implIfGo i1 (by omega) (fun _ => rfl) (fun h => absurd rfl h)
    | cons m q =>
      have e : glue false ((m :: q).map listT) = 32 :: glue true ((m :: q).map listT) := by rw [List.map_cons, glue_tf]
      have e2 : glue true ((m :: q).map listT) = 40 :: (glue true (m.map condT) ++ [41] ++ glue false (q.map listT)) := by rw [List.map_cons, glue_cons, if_pos rfl]; simp [listT]
      have e3 : (32 :: glue true ((m :: q).map listT)).dropWhile sp32 = glue true ((m :: q).map listT) := by
        rw [List.dropWhile_cons_of_pos rfl, e2, List.dropWhile_cons_of_neg (by decide)]
      rw [e] at hs i1 ⊢
      refine implIfGo i1 (by omega) nofun (fun _ => ?_)
      rw [e3]
      have := ih (p ++ [l]) nofun (fun x hx => hg x (List.mem_cons_of_mem _ hx)) (by simp only [List.length_append, List.length_cons, List.length_nil] at hl ⊢; omega) (by rw [List.length_append, List.length_cons] at hs; omega)
      rw [List.append_assoc] at this
      exact this
end Go.Proofs.YtigoeooelfeopaaGreatDoor.L

/- Draws from a code: the cursor's bytes and its place. No condition. -/
set_option linter.unusedSimpArgs false
set_option linter.unusedVariables false
namespace Go.Proofs.YtigoeooelfeopaaGreatDoor.L
open Go.RowKit Go.Proofs.YtigoeooelfeopaaGreatDoorW.PrintWords Go.Proofs.YtigoeooelfeopaaGreatDoorW.PrintLast Go.Proofs.YtigoeooelfeopaaGreatDoor.Q
def Cur (b : List Int) (p : Int) : Prop := 0 ≤ p ∧ p ≤ (b.length : Int) ∧ b.length ≤ 1048576
theorem wrapI64 {x : Int} (h0 : -9223372036854775808 ≤ x) (h1 : x < 9223372036854775808) : IntKind.i64.wrap x = x := by
  rw [i64_w, wrap_id h0 h1]
theorem and255 (x : Int) : 0 ≤ Go.bits .and .i64 x 255 ∧ Go.bits .and .i64 x 255 ≤ 255 := by
  unfold Go.bits
  have h : (BitVec.ofInt IntKind.i64.bits x &&& BitVec.ofInt IntKind.i64.bits 255).toNat ≤ 255 := by
    rw [BitVec.toNat_and]
    exact Nat.le_trans Nat.and_le_right (by decide)
  simp only
  rw [wrapI64 (by omega) (by omega)]
  omega
theorem byteD {b : List Int} {p : Int} (h : Cur b p) (s : Int) : ∃ v p' s', spec_l1Byte.f b p s = some (v, p', s') ∧ 0 ≤ v ∧ v ≤ 255 ∧ Cur b p' := by
  obtain ⟨h0, h1, h2⟩ := h
  unfold spec_l1Byte.f
  by_cases c : p < (b.length : Int)
  · rw [if_pos c, if_pos h0]
    refine ⟨_, _, _, rfl, (and255 _).1, (and255 _).2, ?_⟩
    rw [wrap_id (by omega) (by omega)]
    exact ⟨by omega, by omega, h2⟩
  · rw [if_neg c]
    exact ⟨_, _, _, rfl, (and255 _).1, (and255 _).2, h0, h1, h2⟩
theorem belowD {b : List Int} {p : Int} (h : Cur b p) (s : Int) {n : Int} (hn : 0 < n) : ∃ v p' s', spec_l1Below.f b p s n = some (v, p', s') ∧ 0 ≤ v ∧ v < n ∧ Cur b p' := by
  unfold spec_l1Below.f
  rw [if_neg (by omega)]
  by_cases c : n ≤ 256
  · rw [if_pos c]
    obtain ⟨v, p1, s1, e, v0, v1, h'⟩ := byteD h s
    simp only [e, Option.bind_some, if_neg (show ¬ n = 0 by omega)]
    exact ⟨_, _, _, rfl, Int.tmod_nonneg _ v0, Int.tmod_lt_of_pos _ hn, h'⟩
  · rw [if_neg c]
    obtain ⟨v, p1, s1, e, v0, v1, h1⟩ := byteD h s
    simp only [e, Option.bind_some]
    obtain ⟨v', p2, s2, e, v0', v1', h2⟩ := byteD h1 s1
    simp only [e, Option.bind_some]
    obtain ⟨v'', p3, s3, e, v0'', v1'', h3⟩ := byteD h2 s2
    simp only [e, Option.bind_some, if_neg (show ¬ n = 0 by omega)]
    rw [wrap_id (x := v * 65536) (by omega) (by omega), wrap_id (x := v' * 256) (by omega) (by omega), wrap_id (x := v * 65536 + v' * 256) (by omega) (by omega), wrap_id (by omega) (by omega)]
    exact ⟨_, _, _, rfl, Int.tmod_nonneg _ (by omega), Int.tmod_lt_of_pos _ hn, h3⟩
theorem belowD0 {b : List Int} {p : Int} (h : Cur b p) (s n : Int) : ∃ v p' s', spec_l1Below.f b p s n = some (v, p', s') ∧ 0 ≤ v ∧ Cur b p' := by
  by_cases c : 0 < n
  · obtain ⟨v, p', s', e, h0, _, h'⟩ := belowD h s c
    exact ⟨v, p', s', e, h0, h'⟩
  · unfold spec_l1Below.f
    rw [if_pos (by omega)]
    exact ⟨_, _, _, rfl, Int.le_refl _, h⟩
theorem onceD {b : List Int} {p : Int} (h : Cur b p) (s n : Int) : ∃ v p' s', spec_l1Once.f b p s n = some (v, p', s') ∧ Cur b p' := by
  obtain ⟨v, p', s', e, h0, h'⟩ := belowD0 h s n
  unfold spec_l1Once.f
  rw [e]
  exact ⟨_, _, _, rfl, h'⟩
theorem strD {b : List Int} {p : Int} (h : Cur b p) (s : Int) {l : List ByteArray} (hl : l ≠ []) : ∃ v p' s', spec_l1Str.f b p s l = some (v, p', s') ∧ v ∈ l ∧ Cur b p' := by
  have hpos : 0 < l.length := List.length_pos_iff.2 hl
  obtain ⟨v, p', s', e, h0, h1, h'⟩ := belowD h s (n := (l.length : Int)) (by omega)
  unfold spec_l1Str.f
  rw [e]
  simp only [Option.bind_some, if_pos h0, if_pos h1]
  refine ⟨_, _, _, rfl, ?_, h'⟩
  have hlt : v.toNat < l.length := by omega
  unfold rdOf
  rw [List.getD_eq_getElem?_getD, List.getElem?_eq_getElem hlt]
  exact List.getElem_mem hlt
theorem newD {l : List Int} (hl : l.length ≤ 1048576) : ∃ s, Ev (fun k => spec_l1New.f k l) (l, 0, s) := by
  have key : ∀ (suf pre : List Int) (x : Int), l = pre ++ suf → ∃ s, Ev (fun k => spec_l1New.l0 k l x pre.length) (l, 0, s) := by
    intro suf
    induction suf with
    | nil =>
      intro pre x h
      refine ⟨x, ?_⟩
      refine Ev.step (fun k => spec_l1New.l0.eq_2 ..) ?_
      simp only [if_neg (end_at h)]
      exact Ev.now _
    | cons a suf ih =>
      intro pre x h
      by_cases c : (pre.length : Int) < 4000
      · obtain ⟨s, hs⟩ := ih (pre ++ [a]) _ (snoc_at h)
        refine ⟨s, ?_⟩
        refine Ev.step (fun k => spec_l1New.l0.eq_2 ..) ?_
        simp only [if_pos (lt_at h), if_pos c, if_pos (nonneg_at _), next_at h (show l.length ≤ maxLen by rw [maxLen_eq]; omega)]
        exact hs
      · refine ⟨x, ?_⟩
        refine Ev.step (fun k => spec_l1New.l0.eq_2 ..) ?_
        simp only [if_pos (lt_at h), if_neg c]
        exact Ev.now _
  exact key l [] _ rfl
theorem cur0 {l : List Int} (hl : l.length ≤ 1048576) : Cur l 0 := ⟨Int.le_refl _, by omega, hl⟩
end Go.Proofs.YtigoeooelfeopaaGreatDoor.L

/- Draws of conditions. No condition. -/
set_option linter.unusedSimpArgs false
set_option linter.unusedVariables false
namespace Go.Proofs.YtigoeooelfeopaaGreatDoor.L
open Go.RowKit Go.Proofs.YtigoeooelfeopaaGreatDoorW.PrintWords Go.Proofs.YtigoeooelfeopaaGreatDoorW.PrintLast Go.Proofs.YtigoeooelfeopaaGreatDoor.Q
def SmI1 (l : List S43) : Prop := l.length ≤ 8 ∧ ∀ c ∈ l, IntOk c.f1 ∧ c.f2.size ≤ 1000
def SmI (L : List (List S43)) : Prop := L.length ≤ 8 ∧ ∀ l ∈ L, SmI1 l
theorem SmI.sm {L : List (List S43)} (h : SmI L) : SmCondss L := ⟨by have := h.1; omega, fun l hl => ⟨by have := (h.2 l hl).1; omega, fun c hc => ⟨trivial, ((h.2 l hl).2 c hc).1, by have := ((h.2 l hl).2 c hc).2; omega⟩⟩⟩
theorem sum_le {α : Type} {f : α → Nat} {b : Nat} : ∀ {l : List α}, (∀ x ∈ l, f x ≤ b) → (l.map f).sum ≤ b * l.length := by
  intro l
  induction l with
  | nil => intro _; exact Nat.le_refl _
  | cons a l ih =>
    intro h
    have h1 := h a (List.mem_cons_self ..)
    have h2 := ih (fun x hx => h x (List.mem_cons_of_mem _ hx))
    simp only [List.map_cons, List.sum_cons, List.length_cons, Nat.mul_add, Nat.mul_one]
    omega
theorem SmI.list {L : List (List S43)} (h : SmI L) : ∀ l ∈ L, (glue true (l.map condT)).length ≤ 8224 := by
  intro l hl
  have h1 := glue_len (l.map condT) true
  have h2 := sum_le (f := fun x : List UInt8 => x.length + 1) (b := 1028) (l := l.map condT) (by
    intro x hx
    obtain ⟨c, hc, rfl⟩ := List.mem_map.1 hx
    have h3 := condT_len ((h.sm.2 l hl).2 c hc)
    have h4 := ((h.2 l hl).2 c hc).2
    omega)
  have h5 := (h.2 l hl).1
  rw [List.length_map] at h2
  have h6 : 1028 * l.length ≤ 1028 * 8 := Nat.mul_le_mul_left _ h5
  omega
theorem SmI.text {L : List (List S43)} (h : SmI L) : (textT L).length ≤ 70000 := by
  have h1 := glue_len (L.map listT) true
  have h2 := sum_le (f := fun x : List UInt8 => x.length + 1) (b := 8227) (l := L.map listT) (by
    intro x hx
    obtain ⟨l, hl, rfl⟩ := List.mem_map.1 hx
    have h3 := h.list l hl
    simp only [listT, List.length_cons, List.length_append, List.length_nil]
    omega)
  have h5 := h.1
  rw [List.length_map] at h2
  have h6 : 8227 * L.length ≤ 8227 * 8 := Nat.mul_le_mul_left _ h5
  unfold textT
  omega
theorem intD {b : List Int} {p : Int} (h : Cur b p) (s : Int) {l : List Int} (hl : l ≠ []) : ∃ v p' s', spec_l1Int.f b p s l = some (v, p', s') ∧ v ∈ l ∧ Cur b p' := by
  have hpos : 0 < l.length := List.length_pos_iff.2 hl
  obtain ⟨v, p', s', e, h0, h1, h'⟩ := belowD h s (n := (l.length : Int)) (by omega)
  unfold spec_l1Int.f
  rw [e]
  simp only [Option.bind_some, if_pos h0, if_pos h1]
  refine ⟨_, _, _, rfl, ?_, h'⟩
  have hlt : v.toNat < l.length := by omega
  unfold rd
  rw [List.getD_eq_getElem?_getD, List.getElem?_eq_getElem hlt]
  exact List.getElem_mem hlt
theorem mem_int {v : Int} {l : List Int} (h : v ∈ l) (hl : l.all (fun x => decide (-9223372036854775808 ≤ x ∧ x < 9223372036854775808)) = true) : IntOk v := by
  have := List.all_eq_true.1 hl v h
  unfold IntOk
  simpa using this
theorem mem_sz2 {v : ByteArray} {l : List ByteArray} (h : v ∈ l) (hl : l.all (fun x => decide (x.size ≤ 1000)) = true) : v.size ≤ 1000 := of_decide_eq_true (List.all_eq_true.1 hl v h)
theorem tagD {v : Int} (h1 : v ≤ 9223372036854775807) : ∃ s, Ev (fun k => spec_TagText.f k v) s ∧ s.size ≤ 1000 := by
  obtain ⟨s, e1, e2⟩ := numD v h1
  have h2 : s.size ≤ 21 := by
    have := bl_len s
    rw [show bl s = Lib.decDigits v.toNat from e2] at this
    have := num_len v.toNat (by omega)
    omega
  have hs : ((⟨#[34, 118]⟩ : ByteArray) ++ s).size = 2 + s.size := by rw [ByteArray.size_append]; rfl
  refine ⟨((⟨#[34, 118]⟩ : ByteArray) ++ s) ++ (⟨#[34]⟩ : ByteArray), ?_, ?_⟩
  · unfold spec_TagText.f
    refine Ev.bind e1 ?_
    refine ev_iteT (show 2 + s.size ≤ 9223372036854775807 by omega) ?_
    refine ev_iteT (by rw [hs]; omega) ?_
    exact Ev.now _
  · rw [ByteArray.size_append, hs]
    have : (⟨#[34]⟩ : ByteArray).size = 1 := rfl
    omega
abbrev okC (c : S43) : Prop := IntOk c.f1 ∧ c.f2.size ≤ 1000
theorem all_add {α : Type} {P : α → Prop} {l : List α} {a : α} (h : ∀ x ∈ l, P x) (ha : P a) : ∀ x ∈ l ++ [a], P x := fun x hx => (List.mem_append.1 hx).elim (h x) (fun h => by rw [List.mem_singleton.1 h]; exact ha)
theorem drawL {b : List Int} : ∀ (m : Nat) (ls : List S43) (q t : Int), ls.length + m ≤ 2 → (∀ c ∈ ls, okC c) → Cur b q → ∃ (ls' : List S43) (q' t' : Int), ls'.length ≤ 2 ∧ (∀ c ∈ ls', okC c) ∧ Cur b q' ∧
    ∀ (x3 : List (List S43)) (x4 : Int) r, x3.length < 5 → Ev (fun k => spec_l14Draw.l0 k (x3 ++ [ls']) (wrap64 (x4 - 1)) b q' t') r → Ev (fun k => spec_l14Draw.l1 k x3 x4 ls (m : Int) b q t) r := by
  intro m
  induction m with
  | zero =>
    intro ls q t hl hg hq
    refine ⟨ls, q, t, by omega, hg, hq, fun x3 x4 r h3 hr => ?_⟩
    refine Ev.step (fun k => spec_l14Draw.l1.eq_2 ..) ?_
    refine ev_iteF (show ¬ ((0 : Nat) : Int) > 0 by decide) ?_
    exact ev_iteT (show x3.length < 5864062014805 by omega) hr
  | succ m ih =>
    intro ls q t hl hg hq
    obtain ⟨v1, q1, t1, e1, hq1⟩ := onceD hq t 4
    obtain ⟨v2, q2, t2, e2, hq2⟩ := onceD hq1 t1 3
    have hw : wrap64 (((m + 1 : Nat) : Int) - 1) = (m : Int) := by rw [wrap_id (by omega) (by omega)]; omega
    cases v2 with
    | true =>
      obtain ⟨v3, q3, t3, e3, h30, h31, hq3⟩ := belowD hq2 t2 (n := 4) (by omega)
      obtain ⟨s, e4, hs⟩ := tagD (v := v3) (by omega)
      obtain ⟨ls', q', t', hl', hg', hq', hk⟩ := ih (ls ++ [⟨v1, 0, s⟩]) q3 t3 (by simp only [List.length_append, List.length_cons, List.length_nil]; omega) (all_add hg ⟨⟨by show (-9223372036854775808 : Int) ≤ 0; omega, by show (0 : Int) < 9223372036854775808; omega⟩, hs⟩) hq3
      refine ⟨ls', q', t', hl', hg', hq', fun x3 x4 r h3 hr => ?_⟩
      refine Ev.step (fun k => spec_l14Draw.l1.eq_2 ..) ?_
      refine ev_iteT (show ((m + 1 : Nat) : Int) > 0 by omega) ?_
      refine ev_bindS e1 ?_
      refine ev_bindS e2 ?_
      refine ev_iteT rfl ?_
      refine ev_bindS e3 ?_
      refine Ev.bind e4 ?_
      refine ev_iteT (show ls.length < 4398046511104 by omega) ?_
      rw [hw]
      exact hk x3 x4 r h3 hr
    | false =>
      obtain ⟨v3, q3, t3, e3, h30, h31, hq3⟩ := belowD hq2 t2 (n := 9) (by omega)
      have hw2 : wrap64 (1 + v3) = 1 + v3 := wrap_id (by omega) (by omega)
      obtain ⟨ls', q', t', hl', hg', hq', hk⟩ := ih (ls ++ [⟨v1, wrap64 (1 + v3), ⟨#[]⟩⟩]) q3 t3 (by simp only [List.length_append, List.length_cons, List.length_nil]; omega) (all_add hg ⟨by rw [hw2]; exact ⟨by show (-9223372036854775808 : Int) ≤ 1 + v3; omega, by show 1 + v3 < (9223372036854775808 : Int); omega⟩, Nat.zero_le _⟩) hq3
      refine ⟨ls', q', t', hl', hg', hq', fun x3 x4 r h3 hr => ?_⟩
      refine Ev.step (fun k => spec_l14Draw.l1.eq_2 ..) ?_
      refine ev_iteT (show ((m + 1 : Nat) : Int) > 0 by omega) ?_
      refine ev_bindS e1 ?_
      refine ev_bindS e2 ?_
      refine ev_iteF nofun ?_
      refine ev_bindS e3 ?_
      refine ev_iteT (show ls.length < 4398046511104 by omega) ?_
      rw [hw]
      exact hk x3 x4 r h3 hr
abbrev okL (l : List S43) : Prop := l.length ≤ 2 ∧ ∀ c ∈ l, okC c
theorem drawLL {b : List Int} : ∀ (n : Nat) (out : List (List S43)) (q t : Int), out.length + n ≤ 2 → (∀ l ∈ out, okL l) → Cur b q → ∃ (L : List (List S43)) (q' t' : Int), L.length = out.length + n ∧ (∀ l ∈ L, okL l) ∧ Cur b q' ∧ Ev (fun k => spec_l14Draw.l0 k out (n : Int) b q t) (L, q', t') := by
  intro n
  induction n with
  | zero =>
    intro out q t ho hg hq
    refine ⟨out, q, t, rfl, hg, hq, ?_⟩
    refine Ev.step (fun k => spec_l14Draw.l0.eq_2 ..) ?_
    exact ev_iteF (show ¬ ((0 : Nat) : Int) > 0 by decide) (Ev.now _)
  | succ n ih =>
    intro out q t ho hg hq
    obtain ⟨v, q1, t1, e1, h0, h1, hq1⟩ := belowD hq t (n := 2) (by omega)
    obtain ⟨m, hm⟩ : ∃ m : Nat, wrap64 (1 + v) = (m : Int) := ⟨(1 + v).toNat, by rw [wrap_id (by omega) (by omega)]; omega⟩
    have hm2 : m ≤ 2 := by rw [wrap_id (by omega) (by omega)] at hm; omega
    obtain ⟨ls, q2, t2, hl, hgl, hq2, hk⟩ := drawL m [] q1 t1 (by simpa using hm2) nofun hq1
    obtain ⟨L, q', t', hL, hgL, hq', e2⟩ := ih (out ++ [ls]) q2 t2 (by simp only [List.length_append, List.length_cons, List.length_nil]; omega) (all_add hg ⟨hl, hgl⟩) hq2
    refine ⟨L, q', t', by rw [hL]; simp only [List.length_append, List.length_cons, List.length_nil]; omega, hgL, hq', ?_⟩
    refine Ev.step (fun k => spec_l14Draw.l0.eq_2 ..) ?_
    refine ev_iteT (show ((n + 1 : Nat) : Int) > 0 by omega) ?_
    refine ev_bindS e1 ?_
    rw [hm]
    refine hk out _ _ (by omega) ?_
    rw [show wrap64 (((n + 1 : Nat) : Int) - 1) = (n : Int) by rw [wrap_id (by omega) (by omega)]; omega]
    exact e2
theorem drawIfD {b : List Int} {p : Int} (h : Cur b p) (s : Int) : ∃ (L : List (List S43)) (p' s' : Int), Ev (fun k => spec_l14Draw.f k b p s) (L, p', s') ∧ (L.length = 1 ∨ L.length = 2) ∧ (∀ l ∈ L, okL l) ∧ Cur b p' := by
  obtain ⟨v, q1, t1, e1, h0, h1, hq1⟩ := belowD h s (n := 2) (by omega)
  obtain ⟨m, hm⟩ : ∃ m : Nat, wrap64 (1 + v) = (m : Int) := ⟨(1 + v).toNat, by rw [wrap_id (by omega) (by omega)]; omega⟩
  have hm2 : m = 1 ∨ m = 2 := by rw [wrap_id (by omega) (by omega)] at hm; omega
  obtain ⟨L, q', t', hL, hgL, hq', e2⟩ := drawLL m [] q1 t1 (by simp only [List.length_nil]; omega) nofun hq1
  refine ⟨L, q', t', ?_, by simp only [List.length_nil] at hL; omega, hgL, hq'⟩
  unfold spec_l14Draw.f
  refine ev_bindS e1 ?_
  rw [hm]
  exact e2
theorem okL.sm {l : List S43} (h : okL l) : SmI1 l := ⟨by have := h.1; omega, h.2⟩
theorem anyLoop {b : List Int} : ∀ (n : Nat) (out : List (List S43)) (q t : Int), out.length + n = 5 → (∀ l ∈ out, SmI1 l) → Cur b q → ∃ (L : List (List S43)) (q' t' : Int), L.length ≤ 5 ∧ (∀ l ∈ L, SmI1 l) ∧ Cur b q' ∧ Ev (fun k => spec_l14Any.l0 k out b q t) (L, q', t') := by
  intro n
  induction n with
  | zero =>
    intro out q t ho hg hq
    obtain ⟨v, q1, t1, e1, h0, h1, hq1⟩ := belowD hq t (n := 2) (by omega)
    refine ⟨out, q1, t1, by omega, hg, hq1, ?_⟩
    refine Ev.step (fun k => spec_l14Any.l0.eq_2 ..) ?_
    refine ev_bindS e1 ?_
    refine ev_iteF (by rw [wrap_id (by omega) (by omega)]; omega) ?_
    exact Ev.now _
  | succ n ih =>
    intro out q t ho hg hq
    obtain ⟨v, q1, t1, e1, h0, h1, hq1⟩ := belowD hq t (n := 2) (by omega)
    by_cases c : (out.length : Int) < wrap64 (4 + v)
    · obtain ⟨L, q', t', hL, hgL, hq', e2⟩ := ih (out ++ [[⟨false, 1, ⟨#[]⟩⟩]]) q1 t1 (by simp only [List.length_append, List.length_cons, List.length_nil]; omega) (all_add hg ⟨by simp, fun c hc => by
        rw [List.mem_singleton.1 hc]; exact ⟨⟨by show (-9223372036854775808 : Int) ≤ 1; omega, by show (1 : Int) < 9223372036854775808; omega⟩, Nat.zero_le _⟩⟩) hq1
      refine ⟨L, q', t', hL, hgL, hq', ?_⟩
      refine Ev.step (fun k => spec_l14Any.l0.eq_2 ..) ?_
      refine ev_bindS e1 ?_
      refine ev_iteT c ?_
      exact ev_iteT (show out.length < 5864062014805 by omega) e2
    · refine ⟨out, q1, t1, by omega, hg, hq1, ?_⟩
      refine Ev.step (fun k => spec_l14Any.l0.eq_2 ..) ?_
      refine ev_bindS e1 ?_
      exact ev_iteF c (Ev.now _)
theorem anyIfD {b : List Int} {p : Int} (h : Cur b p) (s : Int) : ∃ (L : List (List S43)) (p' s' : Int), Ev (fun k => spec_l14Any.f k b p s) (L, p', s') ∧ SmI L ∧ Cur b p' := by
  obtain ⟨L, q1, t1, e1, hL, hg, hq1⟩ := drawIfD h s
  obtain ⟨v, q2, t2, e2, h0, h1, hq2⟩ := belowD hq1 t1 (n := 8) (by omega)
  have hg' : ∀ l ∈ L, SmI1 l := fun l hl => (hg l hl).sm
  unfold spec_l14Any.f
  by_cases c0 : v = 0
  · refine ⟨L ++ [[]], q2, t2, ?_, ⟨by simp only [List.length_append, List.length_cons, List.length_nil]; omega, all_add hg' ⟨Nat.zero_le _, nofun⟩⟩, hq2⟩
    refine Ev.bind e1 ?_
    refine ev_bindS e2 ?_
    refine ev_iteT c0 ?_
    exact ev_iteT (show L.length < 5864062014805 by omega) (Ev.now _)
  by_cases c1 : v = 1
  · obtain ⟨l, L', rfl⟩ : ∃ l L', L = l :: L' := by
      cases L with
      | nil => simp at hL
      | cons l L' => exact ⟨l, L', rfl⟩
    obtain ⟨v3, q3, t3, e3, hm3, hq3⟩ := intD hq2 t2 (l := [0, 10000, (-1), 5]) (by simp)
    obtain ⟨v4, q4, t4, e4, hm4, hq4⟩ := strD hq3 t3 (l := [(⟨#[]⟩ : ByteArray), (⟨#[118, 49]⟩ : ByteArray), (⟨#[34, 97, 34]⟩ : ByteArray)]) (by simp)
    have hl := hg l (List.mem_cons_self ..)
    have hrd := rd_implCondL (l := l :: L') (pre := []) (a := l) (suf := L') rfl
    have hrd0 : rd_L5 (l :: L') 0 = l := hrd
    refine ⟨(l ++ [⟨false, v3, v4⟩]) :: L', q4, t4, ?_, ⟨by simp only [List.length_cons] at hL ⊢; omega, ?_⟩, hq4⟩
    · refine Ev.bind e1 ?_
      refine ev_bindS e2 ?_
      refine ev_iteF c0 ?_
      refine ev_iteT c1 ?_
      refine ev_iteT (show (0 : Int) < ((l :: L').length : Int) by simp only [List.length_cons]; omega) ?_
      refine ev_bindS e3 ?_
      refine ev_bindS e4 ?_
      show Ev (fun n => if (rd_L5 (l :: L') 0).length < 4398046511104 then _ else _) _
      rw [hrd0]
      refine ev_iteT (show l.length < 4398046511104 by have := hl.1; omega) ?_
      exact Ev.now _
    · intro x hx
      rcases List.mem_cons.1 hx with rfl | hx
      · refine ⟨by have := hl.1; simp only [List.length_append, List.length_cons, List.length_nil]; omega, all_add hl.2 ⟨mem_int hm3 (by decide), mem_sz2 hm4 (by decide)⟩⟩
      · exact hg' x (List.mem_cons_of_mem _ hx)
  by_cases c2 : v = 2
  · obtain ⟨n, hn⟩ : ∃ n, L.length + n = 5 := ⟨5 - L.length, by omega⟩
    obtain ⟨L2, q3, t3, h5, hg3, hq3, e3⟩ := anyLoop n L q2 t2 hn hg' hq2
    refine ⟨L2, q3, t3, ?_, ⟨by omega, hg3⟩, hq3⟩
    refine Ev.bind e1 ?_
    refine ev_bindS e2 ?_
    refine ev_iteF c0 ?_
    refine ev_iteF c1 ?_
    exact ev_iteT c2 e3
  · refine ⟨L, q2, t2, ?_, ⟨by omega, hg'⟩, hq2⟩
    refine Ev.bind e1 ?_
    refine ev_bindS e2 ?_
    refine ev_iteF c0 ?_
    refine ev_iteF c1 ?_
    exact ev_iteF c2 (Ev.now _)
theorem tokensD {b : List Int} {p : Int} (h : Cur b p) (s : Int) : ∃ l p' s', Ev (fun k => spec_l13Tokens.f k b p s) (l, p', s') ∧ l.length ≤ 5 ∧ Cur b p' := by
  unfold spec_l13Tokens.f
  obtain ⟨v, p1, s1, e, v0, v1, h1⟩ := belowD h s (n := 6) (by omega)
  simp only [e, Option.bind_some]
  have key : ∀ (n : Nat) (out : List Int) (q t : Int), out.length + n ≤ 5 → Cur b q → ∃ l p' s', Ev (fun k => spec_l13Tokens.l0 k out (n : Int) b q t) (l, p', s') ∧ l.length ≤ 5 ∧ Cur b p' := by
    intro n
    induction n with
    | zero =>
      intro out q t ho hq
      refine ⟨out, q, t, ?_, by omega, hq⟩
      refine Ev.step (fun k => spec_l13Tokens.l0.eq_2 ..) ?_
      simp only [if_neg (show ¬ ((0 : Nat) : Int) > 0 by decide)]
      exact Ev.now _
    | succ n ih =>
      intro out q t ho hq
      obtain ⟨v, q1, t1, e1, v0, v1, hq1⟩ := belowD hq t (n := 9) (by omega)
      obtain ⟨l, q2, t2, he, hl, hq2⟩ := ih (out ++ [wrap64 (1 + v)]) q1 t1 (by simp; omega) hq1
      refine ⟨l, q2, t2, ?_, hl, hq2⟩
      refine Ev.step (fun k => spec_l13Tokens.l0.eq_2 ..) ?_
      simp only [if_pos (show ((n + 1 : Nat) : Int) > 0 by omega), e1, Option.bind_some, if_pos (show out.length < 17592186044416 by omega)]
      rw [show wrap64 (((n + 1 : Nat) : Int) - 1) = (n : Int) by rw [wrap_id (by omega) (by omega)]; omega]
      exact he
  obtain ⟨n, rfl⟩ := Int.eq_ofNat_of_zero_le v0
  exact key n [] p1 s1 (by simp; omega) h1
theorem sameIntsD (t : List Int) (hl : t.length ≤ maxLen) : Ev (fun k => laws_sameInts.f k t t) true := by
  unfold laws_sameInts.f
  simp only [if_true]
  have key : ∀ (suf pre : List Int), t = pre ++ suf → Ev (fun k => laws_sameInts.l0 k t t pre.length) true := by
    intro suf
    induction suf with
    | nil =>
      intro pre h
      refine Ev.step (fun k => laws_sameInts.l0.eq_2 ..) ?_
      simp only [if_neg (end_at h)]
      exact Ev.now _
    | cons a suf ih =>
      intro pre h
      refine Ev.step (fun k => laws_sameInts.l0.eq_2 ..) ?_
      simp only [if_pos (lt_at h), if_pos (nonneg_at _), if_true, next_at h hl]
      exact ih (pre ++ [a]) (snoc_at h)
  exact key t [] rfl
end Go.Proofs.YtigoeooelfeopaaGreatDoor.L

/- Conditions of a text: the same or not, by both. No condition. -/
set_option linter.unusedSimpArgs false
set_option linter.unusedVariables false
namespace Go.Proofs.YtigoeooelfeopaaGreatDoor.L
open Go.RowKit Go.Proofs.YtigoeooelfeopaaGreatDoorW.PrintWords Go.Proofs.YtigoeooelfeopaaGreatDoorW.PrintLast Go.Proofs.YtigoeooelfeopaaGreatDoor.Q
theorem cne (c d : S43) : ((!(c.f0 == d.f0)) || (!(c.f1 == d.f1) || (!((c.f2.toList) == (d.f2.toList))))) = decide (c ≠ d) := by
  apply Bool.eq_iff_iff.2
  simp only [Bool.or_eq_true, Bool.not_eq_true', beq_eq_false_iff_ne, decide_eq_true_eq, ne_eq]
  constructor
  · rintro h rfl
    simp at h
  · intro h
    by_cases e0 : c.f0 = d.f0
    · by_cases e1 : c.f1 = d.f1
      · by_cases e2 : c.f2.toList = d.f2.toList
        · exact absurd (by cases c; cases d; simp only at e0 e1 e2; rw [e0, e1, ba_inj e2]) h
        · exact .inr (.inr e2)
      · exact .inr (.inl e1)
    · exact .inl e0
theorem specInner {a b : List (List S43)} {pre su pre' sv : List (List S43)} {x y : List S43} (h : a = pre ++ x :: su) (h' : b = pre' ++ y :: sv) (hp : pre.length = pre'.length) (hx : x.length ≤ maxLen) (ha : a.length ≤ maxLen) :
    ∀ (q q' p p' : List S43), x = p ++ q → y = p' ++ q' → p.length = p'.length → q.length = q'.length →
      (q ≠ q' → Ev (fun k => spec_l14Same.l1 k a b (pre.length : Int) (p.length : Int)) false) ∧ (q = q' → ∀ r, Ev (fun k => spec_l14Same.l0 k a b ((pre ++ [x]).length : Int)) r → Ev (fun k => spec_l14Same.l1 k a b (pre.length : Int) (p.length : Int)) r) := by
  have h3 := rd_implCondL h'
  have h4 := lt_at h'
  rw [← hp] at h3 h4
  intro q
  induction q with
  | nil =>
    intro q' p p' e e' hl hq
    obtain rfl : q' = [] := by simpa using hq.symm
    refine ⟨fun hn => absurd rfl hn, fun _ r hr => ?_⟩
    refine Ev.step (fun k => spec_l14Same.l1.eq_2 ..) ?_
    rw [List.append_nil] at e
    simp only [if_pos (nonneg_at _), if_pos (lt_at h), rd_implCondL h, e, Int.lt_irrefl, if_false]
    rw [next_at h ha]
    exact hr
  | cons c q ih =>
    intro q' p p' e e' hl hq
    cases q' with
    | nil => simp at hq
    | cons d q' =>
      have g3 := rd_implCond e'
      have g4 := lt_at e'
      rw [← hl] at g3 g4
      by_cases hcd : c = d
      · subst hcd
        obtain ⟨i1, i2⟩ := ih q' (p ++ [c]) (p' ++ [c]) (by rw [e]; simp) (by rw [e']; simp) (by simp [hl]) (by simpa using hq)
        have key : ∀ r, Ev (fun k => spec_l14Same.l1 k a b (pre.length : Int) ((p ++ [c]).length : Int)) r → Ev (fun k => spec_l14Same.l1 k a b (pre.length : Int) (p.length : Int)) r := by
          intro r hr
          refine Ev.step (fun k => spec_l14Same.l1.eq_2 ..) ?_
          simp only [if_pos (nonneg_at _), if_pos (lt_at h), rd_implCondL h, h3, if_pos h4, if_pos (lt_at e), if_pos g4, rd_implCond e, g3, cne, ne_eq, not_true_eq_false, decide_false, Bool.false_eq_true, if_false, next_at e hx]
          exact hr
        refine ⟨fun hn => key _ (i1 (fun he => hn (by rw [he]))), fun he r hr => key _ (i2 (List.cons.inj he).2 r hr)⟩
      · refine ⟨fun _ => ?_, fun he => absurd (List.cons.inj he).1 hcd⟩
        refine Ev.step (fun k => spec_l14Same.l1.eq_2 ..) ?_
        simp only [if_pos (nonneg_at _), if_pos (lt_at h), rd_implCondL h, h3, if_pos h4, if_pos (lt_at e), if_pos g4, rd_implCond e, g3, cne, ne_eq, hcd, not_false_eq_true, decide_true, if_true]
        exact Ev.now _
theorem specSame {a b : List (List S43)} (hb : b.length ≤ maxLen) (hb2 : ∀ l ∈ b, l.length ≤ maxLen) : Ev (fun k => spec_l14Same.f k a b) (decide (a = b)) := by
  unfold spec_l14Same.f
  by_cases e : (a.length : Int) = (b.length : Int)
  · simp only [if_pos e]
    have ha : a.length ≤ maxLen := by omega
    refine eq_loop (a := a) (b := b) (fun k i => spec_l14Same.l0 k a b i) ?_ ?_ a b [] [] rfl rfl rfl (by omega)
    · refine Ev.step (fun k => spec_l14Same.l0.eq_2 ..) ?_
      simp only [Int.lt_irrefl, if_false]
      exact Ev.now _
    · intro pre x su pre' y sv h h' hp
      have h3 := rd_implCondL h'
      have h4 := lt_at h'
      rw [← hp] at h3 h4
      by_cases hl : x.length = y.length
      · obtain ⟨i1, i2⟩ := specInner h h' hp (by rw [hl]; exact hb2 y (by rw [h']; simp)) ha x y [] [] rfl rfl rfl hl
        have key : ∀ r, Ev (fun k => spec_l14Same.l1 k a b (pre.length : Int) (([] : List S43).length : Int)) r → Ev (fun k => spec_l14Same.l0 k a b (pre.length : Int)) r := by
          intro r hr
          refine Ev.step (fun k => spec_l14Same.l0.eq_2 ..) ?_
          simp only [if_pos (nonneg_at _), if_pos (lt_at h), rd_implCondL h, h3, if_pos h4, if_pos (show (x.length : Int) = (y.length : Int) by omega)]
          exact hr
        exact ⟨fun hn => key _ (i1 hn), fun he r hr => key _ (i2 he r hr)⟩
      · refine ⟨fun _ => ?_, fun he => absurd (by rw [he]) hl⟩
        refine Ev.step (fun k => spec_l14Same.l0.eq_2 ..) ?_
        simp only [if_pos (nonneg_at _), if_pos (lt_at h), rd_implCondL h, h3, if_pos h4, if_neg (show ¬ (x.length : Int) = (y.length : Int) by omega)]
        exact Ev.now _
  · simp only [if_neg e]
    rw [show decide (a = b) = false from decide_eq_false (fun h => e (by rw [h]))]
    exact Ev.now _
theorem implInner {a b : List (List S43)} {pre su pre' sv : List (List S43)} {x y : List S43} (h : a = pre ++ x :: su) (h' : b = pre' ++ y :: sv) (hp : pre.length = pre'.length) (hx : x.length ≤ maxLen) (ha : a.length ≤ maxLen) :
    ∀ (q q' p p' : List S43), x = p ++ q → y = p' ++ q' → p.length = p'.length → q.length = q'.length →
      (q ≠ q' → Ev (fun k => impl_sameConds.l1 k a b (pre.length : Int) (a.length : Int) (pre.length : Int) (x.length : Int) (p.length : Int)) false) ∧ (q = q' → ∀ r, Ev (fun k => impl_sameConds.l0 k a b (a.length : Int) ((pre ++ [x]).length : Int)) r → Ev (fun k => impl_sameConds.l1 k a b (pre.length : Int) (a.length : Int) (pre.length : Int) (x.length : Int) (p.length : Int)) r) := by
  have h3 := rd_implCondL h'
  have h4 := lt_at h'
  rw [← hp] at h3 h4
  intro q
  induction q with
  | nil =>
    intro q' p p' e e' hl hq
    obtain rfl : q' = [] := by simpa using hq.symm
    refine ⟨fun hn => absurd rfl hn, fun _ r hr => ?_⟩
    refine Ev.step (fun k => impl_sameConds.l1.eq_2 ..) ?_
    rw [List.append_nil] at e
    have hxp : p.length = x.length := by rw [e]
    simp only [hxp, Int.lt_irrefl, if_false]
    rw [next_at h ha]
    exact hr
  | cons c q ih =>
    intro q' p p' e e' hl hq
    cases q' with
    | nil => simp at hq
    | cons d q' =>
      have g3 := rd_implCond e'
      have g4 := lt_at e'
      rw [← hl] at g3 g4
      by_cases hcd : c = d
      · subst hcd
        obtain ⟨i1, i2⟩ := ih q' (p ++ [c]) (p' ++ [c]) (by rw [e]; simp) (by rw [e']; simp) (by simp [hl]) (by simpa using hq)
        have key : ∀ r, Ev (fun k => impl_sameConds.l1 k a b (pre.length : Int) (a.length : Int) (pre.length : Int) (x.length : Int) ((p ++ [c]).length : Int)) r → Ev (fun k => impl_sameConds.l1 k a b (pre.length : Int) (a.length : Int) (pre.length : Int) (x.length : Int) (p.length : Int)) r := by
          intro r hr
          refine Ev.step (fun k => impl_sameConds.l1.eq_2 ..) ?_
          simp only [if_pos (nonneg_at _), if_pos (lt_at h), rd_implCondL h, h3, if_pos h4, if_pos (lt_at e), if_pos g4, rd_implCond e, g3, cne, ne_eq, not_true_eq_false, decide_false, Bool.false_eq_true, if_false, next_at e hx]
          exact hr
        refine ⟨fun hn => key _ (i1 (fun he => hn (by rw [he]))), fun he r hr => key _ (i2 (List.cons.inj he).2 r hr)⟩
      · refine ⟨fun _ => ?_, fun he => absurd (List.cons.inj he).1 hcd⟩
        refine Ev.step (fun k => impl_sameConds.l1.eq_2 ..) ?_
        simp only [if_pos (nonneg_at _), if_pos (lt_at h), rd_implCondL h, h3, if_pos h4, if_pos (lt_at e), if_pos g4, rd_implCond e, g3, cne, ne_eq, hcd, not_false_eq_true, decide_true, if_true]
        exact Ev.now _
theorem implSameC {a b : List (List S43)} (hb : b.length ≤ maxLen) (hb2 : ∀ l ∈ b, l.length ≤ maxLen) : Ev (fun k => impl_sameConds.f k a b) (decide (a = b)) := by
  unfold impl_sameConds.f
  by_cases e : (a.length : Int) = (b.length : Int)
  · simp only [if_pos e]
    have ha : a.length ≤ maxLen := by omega
    refine eq_loop (a := a) (b := b) (fun k i => impl_sameConds.l0 k a b (a.length : Int) i) ?_ ?_ a b [] [] rfl rfl rfl (by omega)
    · refine Ev.step (fun k => impl_sameConds.l0.eq_2 ..) ?_
      simp only [Int.lt_irrefl, if_false]
      exact Ev.now _
    · intro pre x su pre' y sv h h' hp
      have h3 := rd_implCondL h'
      have h4 := lt_at h'
      rw [← hp] at h3 h4
      by_cases hl : x.length = y.length
      · obtain ⟨i1, i2⟩ := implInner h h' hp (by rw [hl]; exact hb2 y (by rw [h']; simp)) ha x y [] [] rfl rfl rfl hl
        have key : ∀ r, Ev (fun k => impl_sameConds.l1 k a b (pre.length : Int) (a.length : Int) (pre.length : Int) (x.length : Int) (([] : List S43).length : Int)) r → Ev (fun k => impl_sameConds.l0 k a b (a.length : Int) (pre.length : Int)) r := by
          intro r hr
          refine Ev.step (fun k => impl_sameConds.l0.eq_2 ..) ?_
          simp only [if_pos (nonneg_at _), if_pos (lt_at h), rd_implCondL h, h3, if_pos h4, if_pos (show (x.length : Int) = (y.length : Int) by omega)]
          exact hr
        exact ⟨fun hn => key _ (i1 hn), fun he r hr => key _ (i2 he r hr)⟩
      · refine ⟨fun _ => ?_, fun he => absurd (by rw [he]) hl⟩
        refine Ev.step (fun k => impl_sameConds.l0.eq_2 ..) ?_
        simp only [if_pos (nonneg_at _), if_pos (lt_at h), rd_implCondL h, h3, if_pos h4, if_neg (show ¬ (x.length : Int) = (y.length : Int) by omega)]
        exact Ev.now _
  · simp only [if_neg e]
    rw [show decide (a = b) = false from decide_eq_false (fun h => e (by rw [h]))]
    exact Ev.now _
end Go.Proofs.YtigoeooelfeopaaGreatDoor.L

/- Conditions of a text: the same or not, by the law. No condition. -/
set_option linter.unusedSimpArgs false
set_option linter.unusedVariables false
namespace Go.Proofs.YtigoeooelfeopaaGreatDoor.L
open Go.RowKit Go.Proofs.YtigoeooelfeopaaGreatDoorW.PrintWords Go.Proofs.YtigoeooelfeopaaGreatDoorW.PrintLast Go.Proofs.YtigoeooelfeopaaGreatDoor.Q
theorem lawsInner {a b : List (List S43)} {pre su pre' sv : List (List S43)} {x y : List S43} (h : a = pre ++ x :: su) (h' : b = pre' ++ y :: sv) (hp : pre.length = pre'.length) (hx : x.length ≤ maxLen) (ha : a.length ≤ maxLen) :
    ∀ (q q' p p' : List S43), x = p ++ q → y = p' ++ q' → p.length = p'.length → q.length = q'.length →
      (q ≠ q' → Ev (fun k => laws_sameIf.l1 k a b (pre.length : Int) (p.length : Int)) false) ∧ (q = q' → ∀ r, Ev (fun k => laws_sameIf.l0 k a b ((pre ++ [x]).length : Int)) r → Ev (fun k => laws_sameIf.l1 k a b (pre.length : Int) (p.length : Int)) r) := by
  have h3 := rd_implCondL h'
  have h4 := lt_at h'
  rw [← hp] at h3 h4
  intro q
  induction q with
  | nil =>
    intro q' p p' e e' hl hq
    obtain rfl : q' = [] := by simpa using hq.symm
    refine ⟨fun hn => absurd rfl hn, fun _ r hr => ?_⟩
    refine Ev.step (fun k => laws_sameIf.l1.eq_2 ..) ?_
    rw [List.append_nil] at e
    simp only [if_pos (nonneg_at _), if_pos (lt_at h), rd_implCondL h, e, Int.lt_irrefl, if_false]
    rw [next_at h ha]
    exact hr
  | cons c q ih =>
    intro q' p p' e e' hl hq
    cases q' with
    | nil => simp at hq
    | cons d q' =>
      have g3 := rd_implCond e'
      have g4 := lt_at e'
      rw [← hl] at g3 g4
      by_cases hcd : c = d
      · subst hcd
        obtain ⟨i1, i2⟩ := ih q' (p ++ [c]) (p' ++ [c]) (by rw [e]; simp) (by rw [e']; simp) (by simp [hl]) (by simpa using hq)
        have key : ∀ r, Ev (fun k => laws_sameIf.l1 k a b (pre.length : Int) ((p ++ [c]).length : Int)) r → Ev (fun k => laws_sameIf.l1 k a b (pre.length : Int) (p.length : Int)) r := by
          intro r hr
          refine Ev.step (fun k => laws_sameIf.l1.eq_2 ..) ?_
          simp only [if_pos (nonneg_at _), if_pos (lt_at h), rd_implCondL h, h3, if_pos h4, if_pos (lt_at e), if_pos g4, rd_implCond e, g3, cne, ne_eq, not_true_eq_false, decide_false, Bool.false_eq_true, if_false, next_at e hx]
          exact hr
        refine ⟨fun hn => key _ (i1 (fun he => hn (by rw [he]))), fun he r hr => key _ (i2 (List.cons.inj he).2 r hr)⟩
      · refine ⟨fun _ => ?_, fun he => absurd (List.cons.inj he).1 hcd⟩
        refine Ev.step (fun k => laws_sameIf.l1.eq_2 ..) ?_
        simp only [if_pos (nonneg_at _), if_pos (lt_at h), rd_implCondL h, h3, if_pos h4, if_pos (lt_at e), if_pos g4, rd_implCond e, g3, cne, ne_eq, hcd, not_false_eq_true, decide_true, if_true]
        exact Ev.now _
theorem lawsSame {a b : List (List S43)} (hb : b.length ≤ maxLen) (hb2 : ∀ l ∈ b, l.length ≤ maxLen) : Ev (fun k => laws_sameIf.f k a b) (decide (a = b)) := by
  unfold laws_sameIf.f
  by_cases e : (a.length : Int) = (b.length : Int)
  · simp only [if_pos e]
    have ha : a.length ≤ maxLen := by omega
    refine eq_loop (a := a) (b := b) (fun k i => laws_sameIf.l0 k a b i) ?_ ?_ a b [] [] rfl rfl rfl (by omega)
    · refine Ev.step (fun k => laws_sameIf.l0.eq_2 ..) ?_
      simp only [Int.lt_irrefl, if_false]
      exact Ev.now _
    · intro pre x su pre' y sv h h' hp
      have h3 := rd_implCondL h'
      have h4 := lt_at h'
      rw [← hp] at h3 h4
      by_cases hl : x.length = y.length
      · obtain ⟨i1, i2⟩ := lawsInner h h' hp (by rw [hl]; exact hb2 y (by rw [h']; simp)) ha x y [] [] rfl rfl rfl hl
        have key : ∀ r, Ev (fun k => laws_sameIf.l1 k a b (pre.length : Int) (([] : List S43).length : Int)) r → Ev (fun k => laws_sameIf.l0 k a b (pre.length : Int)) r := by
          intro r hr
          refine Ev.step (fun k => laws_sameIf.l0.eq_2 ..) ?_
          simp only [if_pos (nonneg_at _), if_pos (lt_at h), rd_implCondL h, h3, if_pos h4, if_pos (show (x.length : Int) = (y.length : Int) by omega)]
          exact hr
        exact ⟨fun hn => key _ (i1 hn), fun he r hr => key _ (i2 he r hr)⟩
      · refine ⟨fun _ => ?_, fun he => absurd (by rw [he]) hl⟩
        refine Ev.step (fun k => laws_sameIf.l0.eq_2 ..) ?_
        simp only [if_pos (nonneg_at _), if_pos (lt_at h), rd_implCondL h, h3, if_pos h4, if_neg (show ¬ (x.length : Int) = (y.length : Int) by omega)]
        exact Ev.now _
  · simp only [if_neg e]
    rw [show decide (a = b) = false from decide_eq_false (fun h => e (by rw [h]))]
    exact Ev.now _
end Go.Proofs.YtigoeooelfeopaaGreatDoor.L

/- Whole numbers of a list, read. No condition. -/
set_option linter.unusedSimpArgs false
set_option linter.unusedVariables false
namespace Go.Proofs.YtigoeooelfeopaaGreatDoor.L
open Go.RowKit Go.Proofs.YtigoeooelfeopaaGreatDoorW.PrintWords Go.Proofs.YtigoeooelfeopaaGreatDoorW.PrintLast
theorem rd_int {l pre suf : List Int} {a : Int} (h : l = pre ++ a :: suf) : rd l (pre.length : Int) = a := getD_at _ h
end Go.Proofs.YtigoeooelfeopaaGreatDoor.L

/- Is a number in a list; as the program and the reference have it. No condition. -/
set_option linter.unusedSimpArgs false
set_option linter.unusedVariables false
namespace Go.Proofs.YtigoeooelfeopaaGreatDoor.L
open Go.RowKit Go.Proofs.YtigoeooelfeopaaGreatDoorW.PrintWords Go.Proofs.YtigoeooelfeopaaGreatDoorW.PrintLast Go.Proofs.YtigoeooelfeopaaGreatDoor.Q
theorem specHas {l : List Int} {n : Int} (hl : l.length ≤ maxLen) : Ev (fun k => spec_l13Has.f k l n) (decide (n ∈ l)) := by
  have key : ∀ (suf pre : List Int), l = pre ++ suf → Ev (fun k => spec_l13Has.l0 k l n pre.length) (decide (n ∈ suf)) := by
    intro suf
    induction suf with
    | nil =>
      intro pre h
      refine Ev.step (fun k => spec_l13Has.l0.eq_2 ..) ?_
      simp only [if_neg (end_at h), List.not_mem_nil, decide_false]
      exact Ev.now _
    | cons a suf ih =>
      intro pre h
      refine Ev.step (fun k => spec_l13Has.l0.eq_2 ..) ?_
      simp only [if_pos (lt_at h), if_pos (nonneg_at _), rd_int h, next_at h hl, List.mem_cons]
      by_cases e : a = n
      · simp only [e, if_true, true_or, decide_true]; exact Ev.now _
      · have e' : ¬ n = a := fun h => e h.symm
        simp only [e, e', if_false, false_or]; exact ih (pre ++ [a]) (snoc_at h)
  exact key l [] rfl
theorem implHas {l : List Int} {n : Int} (hl : l.length ≤ maxLen) : Ev (fun k => impl_hasInt.f k l n) (decide (n ∈ l)) := by
  have key : ∀ (suf pre : List Int), l = pre ++ suf → Ev (fun k => impl_hasInt.l0 k n l (l.length : Int) pre.length) (decide (n ∈ suf)) := by
    intro suf
    induction suf with
    | nil =>
      intro pre h
      refine Ev.step (fun k => impl_hasInt.l0.eq_2 ..) ?_
      simp only [if_neg (end_at h), List.not_mem_nil, decide_false]
      exact Ev.now _
    | cons a suf ih =>
      intro pre h
      refine Ev.step (fun k => impl_hasInt.l0.eq_2 ..) ?_
      simp only [if_pos (lt_at h), if_pos (nonneg_at _), rd_int h, next_at h hl, List.mem_cons]
      by_cases e : a = n
      · simp only [e, if_true, true_or, decide_true]; exact Ev.now _
      · have e' : ¬ n = a := fun h => e h.symm
        simp only [e, e', if_false, false_or]; exact ih (pre ++ [a]) (snoc_at h)
  exact key l [] rfl
end Go.Proofs.YtigoeooelfeopaaGreatDoor.L

/- Does one of the lists hold; as the program and the reference have it. No condition. -/
set_option linter.unusedSimpArgs false
set_option linter.unusedVariables false
namespace Go.Proofs.YtigoeooelfeopaaGreatDoor.L
open Go.RowKit Go.Proofs.YtigoeooelfeopaaGreatDoorW.PrintWords Go.Proofs.YtigoeooelfeopaaGreatDoorW.PrintLast Go.Proofs.YtigoeooelfeopaaGreatDoor.Q
def condIs (toks : List Int) (tag : ByteArray) (c : S43) : Bool := (if c.f1 = 0 then (c.f2.toList == tag.toList) else decide (c.f1 ∈ toks)) != c.f0
def evalL (toks : List Int) (tag : ByteArray) (l : List (List S43)) : Bool := l.any (fun s => s.all (condIs toks tag))
theorem specEvalIf {t : List (List S43)} {toks : List Int} {tag : ByteArray} (ht : SmCondss t) (hk : toks.length ≤ maxLen) : Ev (fun k => spec_EvalIf.f k t toks tag) (evalL toks tag t) := by
  have hl : t.length ≤ maxLen := by have := ht.1; rw [maxLen_eq]; omega
  have inner : ∀ (a : List S43) (suf pre : List (List S43)) (R : Bool), t = pre ++ a :: suf → Ev (fun k => spec_EvalIf.l0 k t toks tag (wrap64 ((pre.length : Int) + 1))) R → ∀ (su pr : List S43) (all : Bool), a = pr ++ su → Ev (fun k => spec_EvalIf.l1 k t toks tag pre.length all pr.length) ((all && su.all (condIs toks tag)) || R) := by
    intro a suf pre R h hR su
    have hal : a.length ≤ maxLen := by have := (ht.2 a (by rw [h]; simp)).1; rw [maxLen_eq]; omega
    induction su with
    | nil =>
      intro pr all hp
      refine Ev.step (fun k => spec_EvalIf.l1.eq_2 ..) ?_
      simp only [if_pos (lt_at h), if_pos (nonneg_at _), rd_implCondL h, if_neg (end_at hp), List.all_nil, Bool.and_true]
      cases all
      · simp only [Bool.false_eq_true, if_false, Bool.false_or]; exact hR
      · simp only [if_true, Bool.true_or]; exact Ev.now _
    | cons c su ih =>
      intro pr all hp
      have hn : ∀ b, Ev (fun k => spec_EvalIf.l1 k t toks tag pre.length b (wrap64 ((pr.length : Int) + 1))) ((b && su.all (condIs toks tag)) || R) := fun b => by
        have := ih (pr ++ [c]) b (snoc_at hp); rwa [← next_at hp hal] at this
      refine Ev.step (fun k => spec_EvalIf.l1.eq_2 ..) ?_
      simp only [if_pos (lt_at h), if_pos (nonneg_at _), rd_implCondL h, if_pos (lt_at hp), rd_implCond hp, List.all_cons, condIs]
      by_cases c0 : c.f1 = 0
      · simp only [if_pos c0]
        cases all
        · simp only [Bool.false_eq_true, if_false, Bool.false_and]; exact ev_cast (hn false) (by simp)
        · simp only [if_true, Bool.true_and]; exact hn _
      · simp only [if_neg c0]
        refine Ev.bind (specHas hk) ?_
        cases all
        · simp only [Bool.false_eq_true, if_false, Bool.false_and]; exact ev_cast (hn false) (by simp)
        · simp only [if_true, Bool.true_and]; exact hn _
  have key : ∀ (suf pre : List (List S43)), t = pre ++ suf → Ev (fun k => spec_EvalIf.l0 k t toks tag pre.length) (evalL toks tag suf) := by
    intro suf
    induction suf with
    | nil =>
      intro pre h
      refine Ev.step (fun k => spec_EvalIf.l0.eq_2 ..) ?_
      simp only [if_neg (end_at h), evalL, List.any_nil]
      exact Ev.now _
    | cons a suf ih =>
      intro pre h
      have hn := ih (pre ++ [a]) (snoc_at h)
      rw [← next_at h hl] at hn
      refine Ev.step (fun k => spec_EvalIf.l0.eq_2 ..) ?_
      simp only [if_pos (lt_at h), evalL, List.any_cons]
      exact ev_cast (inner a suf pre _ h hn a [] true rfl) (by simp [evalL])
  exact key t [] rfl
theorem implEvalIf {t : List (List S43)} {toks : List Int} {tag : ByteArray} (ht : SmCondss t) (hk : toks.length ≤ maxLen) : Ev (fun k => impl_EvalIf.f k t toks tag) (evalL toks tag t) := by
  have hl : t.length ≤ maxLen := by have := ht.1; rw [maxLen_eq]; omega
  have inner : ∀ (a : List S43) (suf pre : List (List S43)) (R : Bool), t = pre ++ a :: suf → Ev (fun k => impl_EvalIf.l0 k toks tag t (t.length : Int) (wrap64 ((pre.length : Int) + 1))) R → ∀ (su pr : List S43) (all : Bool), a = pr ++ su → Ev (fun k => impl_EvalIf.l1 k toks tag all t (t.length : Int) pre.length a (a.length : Int) pr.length) ((all && su.all (condIs toks tag)) || R) := by
    intro a suf pre R h hR su
    have hal : a.length ≤ maxLen := by have := (ht.2 a (by rw [h]; simp)).1; rw [maxLen_eq]; omega
    induction su with
    | nil =>
      intro pr all hp
      refine Ev.step (fun k => impl_EvalIf.l1.eq_2 ..) ?_
      simp only [if_neg (end_at hp), List.all_nil, Bool.and_true]
      cases all
      · simp only [Bool.false_eq_true, if_false, Bool.false_or]; exact hR
      · simp only [if_true, Bool.true_or]; exact Ev.now _
    | cons c su ih =>
      intro pr all hp
      have hn : ∀ b, Ev (fun k => impl_EvalIf.l1 k toks tag b t (t.length : Int) pre.length a (a.length : Int) (wrap64 ((pr.length : Int) + 1))) ((b && su.all (condIs toks tag)) || R) := fun b => by
        have := ih (pr ++ [c]) b (snoc_at hp); rwa [← next_at hp hal] at this
      refine Ev.step (fun k => impl_EvalIf.l1.eq_2 ..) ?_
      simp only [if_pos (lt_at hp), if_pos (nonneg_at _), rd_implCond hp, List.all_cons, condIs]
      by_cases c0 : c.f1 = 0
      · simp only [if_pos c0]
        cases all
        · simp only [Bool.false_eq_true, if_false, Bool.false_and]; exact ev_cast (hn false) (by simp)
        · simp only [if_true, Bool.true_and]; exact hn _
      · simp only [if_neg c0]
        refine Ev.bind (implHas hk) ?_
        cases all
        · simp only [Bool.false_eq_true, if_false, Bool.false_and]; exact ev_cast (hn false) (by simp)
        · simp only [if_true, Bool.true_and]; exact hn _
  have key : ∀ (suf pre : List (List S43)), t = pre ++ suf → Ev (fun k => impl_EvalIf.l0 k toks tag t (t.length : Int) pre.length) (evalL toks tag suf) := by
    intro suf
    induction suf with
    | nil =>
      intro pre h
      refine Ev.step (fun k => impl_EvalIf.l0.eq_2 ..) ?_
      simp only [if_neg (end_at h), evalL, List.any_nil]
      exact Ev.now _
    | cons a suf ih =>
      intro pre h
      have hn := ih (pre ++ [a]) (snoc_at h)
      rw [← next_at h hl] at hn
      refine Ev.step (fun k => impl_EvalIf.l0.eq_2 ..) ?_
      simp only [if_pos (lt_at h), if_pos (nonneg_at _), rd_implCondL h, evalL, List.any_cons]
      exact ev_cast (inner a suf pre _ h hn a [] true rfl) (by simp [evalL])
  exact key t [] rfl
end Go.Proofs.YtigoeooelfeopaaGreatDoor.L

/- The tokens that are told; as the program and the reference have it. No condition. -/
set_option linter.unusedSimpArgs false
set_option linter.unusedVariables false
namespace Go.Proofs.YtigoeooelfeopaaGreatDoor.L
open Go.RowKit Go.Proofs.YtigoeooelfeopaaGreatDoorW.PrintWords Go.Proofs.YtigoeooelfeopaaGreatDoorW.PrintLast Go.Proofs.YtigoeooelfeopaaGreatDoor.Q
def toldL (s : List S43) : List Int := (s.filter (fun c => !(decide (c.f1 = 0)) && !c.f0)).map (fun c => c.f1)
def submitted (t : List (List S43)) : List Int := t.flatMap toldL
theorem told_cons (c : S43) (s : List S43) : toldL (c :: s) = if c.f1 = 0 then toldL s else if c.f0 = true then toldL s else c.f1 :: toldL s := by
  unfold toldL
  by_cases h : c.f1 = 0 <;> cases h2 : c.f0 <;> simp [List.filter_cons, h, h2]
theorem told_length (s : List S43) : (toldL s).length ≤ s.length := by
  unfold toldL; rw [List.length_map]; exact List.length_filter_le _ _
def total (t : List (List S43)) : Nat := (t.map List.length).sum
theorem submitted_length (t : List (List S43)) : (submitted t).length ≤ total t := by
  induction t with
  | nil => exact Nat.le_refl _
  | cons s t ih =>
    have := told_length s
    simp only [submitted, List.flatMap_cons, List.length_append, total, List.map_cons, List.sum_cons] at ih ⊢
    omega
theorem specSubmitted {t : List (List S43)} (ht : SmCondss t) (htt : total t ≤ 1048576) : Ev (fun k => spec_Submitted.f k t) (submitted t) := by
  have hl : t.length ≤ maxLen := by have := ht.1; rw [maxLen_eq]; omega
  have inner : ∀ (a : List S43) (suf pre : List (List S43)) (R : List Int → List Int) (N : Nat), t = pre ++ a :: suf → (∀ out, out.length ≤ N → Ev (fun k => spec_Submitted.l0 k t out (wrap64 ((pre.length : Int) + 1))) (R out)) → N ≤ 1048576 → ∀ (su pr : List S43) (out : List Int), a = pr ++ su → out.length + su.length ≤ N → Ev (fun k => spec_Submitted.l1 k t out pre.length pr.length) (R (out ++ toldL su)) := by
    intro a suf pre R N h hR hN su
    have hal : a.length ≤ maxLen := by have := (ht.2 a (by rw [h]; simp)).1; rw [maxLen_eq]; omega
    induction su with
    | nil =>
      intro pr out hp ho
      refine Ev.step (fun k => spec_Submitted.l1.eq_2 ..) ?_
      simp only [if_pos (lt_at h), if_pos (nonneg_at _), rd_implCondL h, if_neg (end_at hp)]
      exact ev_cast (hR out (by simpa using ho)) (by simp [toldL])
    | cons c su ih =>
      intro pr out hp ho
      rw [List.length_cons] at ho
      refine Ev.step (fun k => spec_Submitted.l1.eq_2 ..) ?_
      simp only [if_pos (lt_at h), if_pos (nonneg_at _), rd_implCondL h, if_pos (lt_at hp), rd_implCond hp, told_cons, next_at hp hal]
      by_cases c0 : c.f1 = 0
      · simp only [if_pos c0]; exact ih (pr ++ [c]) out (snoc_at hp) (by omega)
      · simp only [if_neg c0]
        by_cases c1 : c.f0 = true
        · simp only [if_pos c1]; exact ih (pr ++ [c]) out (snoc_at hp) (by omega)
        · simp only [if_neg c1, show out.length < 17592186044416 by omega, if_true]
          exact ev_cast (ih (pr ++ [c]) (out ++ [c.f1]) (snoc_at hp) (by simp; omega)) (by simp)
  have key : ∀ (suf pre : List (List S43)) (out : List Int), t = pre ++ suf → out.length + total suf ≤ 1048576 → Ev (fun k => spec_Submitted.l0 k t out pre.length) (out ++ submitted suf) := by
    intro suf
    induction suf with
    | nil =>
      intro pre out h ho
      refine Ev.step (fun k => spec_Submitted.l0.eq_2 ..) ?_
      simp only [if_neg (end_at h), submitted, List.flatMap_nil, List.append_nil]
      exact Ev.now _
    | cons a suf ih =>
      intro pre out h ho
      simp only [total, List.map_cons, List.sum_cons] at ho
      refine Ev.step (fun k => spec_Submitted.l0.eq_2 ..) ?_
      simp only [if_pos (lt_at h)]
      refine ev_cast (inner a suf pre (fun o => o ++ submitted suf) (1048576 - total suf) h (fun o hO => ?_) (by omega) a [] out rfl (by simp only [total]; omega)) (by simp [submitted])
      have := ih (pre ++ [a]) o (snoc_at h) (by simp only [total] at hO ⊢; omega)
      rwa [← next_at h hl] at this
  exact key t [] [] rfl (by simpa using htt)
theorem implSubmitted {t : List (List S43)} (ht : SmCondss t) (htt : total t ≤ 1048576) : Ev (fun k => impl_Submitted.f k t) (submitted t) := by
  have hl : t.length ≤ maxLen := by have := ht.1; rw [maxLen_eq]; omega
  have inner : ∀ (a : List S43) (suf pre : List (List S43)) (R : List Int → List Int) (N : Nat), t = pre ++ a :: suf → (∀ out, out.length ≤ N → Ev (fun k => impl_Submitted.l0 k out t (t.length : Int) (wrap64 ((pre.length : Int) + 1))) (R out)) → N ≤ 1048576 → ∀ (su pr : List S43) (out : List Int), a = pr ++ su → out.length + su.length ≤ N → Ev (fun k => impl_Submitted.l1 k out t (t.length : Int) pre.length a (a.length : Int) pr.length) (R (out ++ toldL su)) := by
    intro a suf pre R N h hR hN su
    have hal : a.length ≤ maxLen := by have := (ht.2 a (by rw [h]; simp)).1; rw [maxLen_eq]; omega
    induction su with
    | nil =>
      intro pr out hp ho
      refine Ev.step (fun k => impl_Submitted.l1.eq_2 ..) ?_
      simp only [if_neg (end_at hp)]
      exact ev_cast (hR out (by simpa using ho)) (by simp [toldL])
    | cons c su ih =>
      intro pr out hp ho
      rw [List.length_cons] at ho
      refine Ev.step (fun k => impl_Submitted.l1.eq_2 ..) ?_
      simp only [if_pos (nonneg_at _), if_pos (lt_at hp), rd_implCond hp, told_cons, next_at hp hal]
      by_cases c0 : c.f1 = 0
      · simp only [if_pos c0]; exact ih (pr ++ [c]) out (snoc_at hp) (by omega)
      · simp only [if_neg c0]
        by_cases c1 : c.f0 = true
        · simp only [if_pos c1]; exact ih (pr ++ [c]) out (snoc_at hp) (by omega)
        · simp only [if_neg c1, show out.length < 17592186044416 by omega, if_true]
          exact ev_cast (ih (pr ++ [c]) (out ++ [c.f1]) (snoc_at hp) (by simp; omega)) (by simp)
  have key : ∀ (suf pre : List (List S43)) (out : List Int), t = pre ++ suf → out.length + total suf ≤ 1048576 → Ev (fun k => impl_Submitted.l0 k out t (t.length : Int) pre.length) (out ++ submitted suf) := by
    intro suf
    induction suf with
    | nil =>
      intro pre out h ho
      refine Ev.step (fun k => impl_Submitted.l0.eq_2 ..) ?_
      simp only [if_neg (end_at h), submitted, List.flatMap_nil, List.append_nil]
      exact Ev.now _
    | cons a suf ih =>
      intro pre out h ho
      simp only [total, List.map_cons, List.sum_cons] at ho
      refine Ev.step (fun k => impl_Submitted.l0.eq_2 ..) ?_
      simp only [if_pos (lt_at h), if_pos (nonneg_at _), rd_implCondL h]
      refine ev_cast (inner a suf pre (fun o => o ++ submitted suf) (1048576 - total suf) h (fun o hO => ?_) (by omega) a [] out rfl (by simp only [total]; omega)) (by simp [submitted])
      have := ih (pre ++ [a]) o (snoc_at h) (by simp only [total] at hO ⊢; omega)
      rwa [← next_at h hl] at this
  exact key t [] [] rfl (by simpa using htt)
end Go.Proofs.YtigoeooelfeopaaGreatDoor.L

/- The law FnIfs computes true: what is drawn of conditions is read, written and judged alike by both, and what is read stands, written and read again. No condition. -/
set_option linter.unusedSimpArgs false
set_option linter.unusedVariables false
namespace Go.Proofs.YtigoeooelfeopaaGreatDoor.Pure
open Go.RowKit Go.Proofs.YtigoeooelfeopaaGreatDoorW.PrintWords Go.Proofs.YtigoeooelfeopaaGreatDoorW.PrintLast Go.Proofs.YtigoeooelfeopaaGreatDoor.Q Go.Proofs.YtigoeooelfeopaaGreatDoor.L
theorem mx {m : Nat} (h : m ≤ 1048576) : m ≤ maxLen := by rw [maxLen_eq]; omega
theorem smB {L : List (List S43)} (h : SmI L) : L.length ≤ maxLen ∧ ∀ l ∈ L, l.length ≤ maxLen := ⟨mx h.sm.1, fun l hl => mx (h.sm.2 l hl).1⟩
theorem ifText {L : List (List S43)} (h : SmI L) : ∃ c ok, Ev (fun k => impl_ParseIf.f k (ofL (textT L))) (c, ok) ∧
    Ev (fun k => spec_IfText.f k L) (if ok = true then (if decide (c = L) = true then ofL (textT L) else (⟨#[]⟩ : ByteArray)) else (⟨#[]⟩ : ByteArray)) ∧
    Ev (fun k => impl_IfText.f k L) (if ok = true then (if decide (c = L) = true then ofL (textT L) else (⟨#[]⟩ : ByteArray)) else (⟨#[]⟩ : ByteArray)) := by
  have sm := h.sm
  have hlen := h.text
  have hss : ∀ l ∈ L, (glue true (l.map condT)).length ≤ 1073741824 := fun l hl => by have := h.list l hl; omega
  obtain ⟨p, p1, p2, _⟩ := bothIf (s := ofL (textT L)) (by rw [size_ofL]; omega)
  obtain ⟨c, ok⟩ := p
  have hsame := specSame (a := c) (smB h).1 (smB h).2
  have hsame2 := implSameC (a := c) (smB h).1 (smB h).2
  refine ⟨c, ok, p2, ?_, ?_⟩
  · unfold spec_IfText.f
    refine specT0 sm L [] [] rfl (by show (glue true (L.map listT)).length ≤ _; unfold textT at hlen; omega) ?_
    show Ev (fun k => spec_IfText.l0 k L (ofL (textT L)) (L.length : Int)) _
    refine Ev.step (fun k => spec_IfText.l0.eq_2 ..) ?_
    refine ev_iteF (Int.lt_irrefl _) ?_
    refine Ev.bind p1 ?_
    refine ev_ite (fun _ => ?_) (fun _ => Ev.now _)
    refine Ev.bind hsame ?_
    exact ev_ite (fun _ => Ev.now _) (fun _ => Ev.now _)
  · unfold impl_IfText.f
    refine implT0 sm hss ?_ L [] rfl
    refine Ev.step (fun k => impl_IfText.l0.eq_2 ..) ?_
    refine ev_iteF (Int.lt_irrefl _) ?_
    refine ev_bindS (joinB (by rw [List.length_map]; have := sm.1; omega) (by unfold textT at hlen; omega)) ?_
    refine Ev.bind p2 ?_
    refine ev_ite (fun _ => ?_) (fun _ => Ev.now _)
    refine Ev.bind hsame2 ?_
    exact ev_ite (fun _ => Ev.now _) (fun _ => Ev.now _)
theorem goodI {y : List (List S43)} (h : y.length ≤ 4 ∧ ∀ l ∈ y, GoodL l) : SmI y :=
  ⟨by have := h.1; omega, fun l hl => ⟨by have := (h.2 l hl).2.2; omega, fun c hc => ⟨((h.2 l hl).1 c hc).sm.1, by have := ((h.2 l hl).1 c hc).sm.2; omega⟩⟩⟩
theorem back {y : List (List S43)} (h : y.length ≤ 4 ∧ ∀ l ∈ y, GoodL l) (h0 : y ≠ []) : Ev (fun k => impl_ParseIf.f k (ofL (textT y))) (y, true) := by
  have hl := (goodI h).text
  have := ifBack y [] h0 h.2 (by simpa using h.1) (by unfold textT at hl; omega)
  rw [List.nil_append] at this
  exact this
theorem drawParseD {code : List Int} (hc : code.length ≤ 1048576) : ∃ t, Ev (fun k => spec_DrawParseIf.f k code) t ∧ t.size ≤ 1073741824 := by
  obtain ⟨s0, e0⟩ := newD hc
  obtain ⟨L, q1, t1, e1, hL, hg, hq1⟩ := drawIfD (cur0 hc) s0
  have hI : SmI L := ⟨by omega, fun l hl => (hg l hl).sm⟩
  obtain ⟨c, ok, _, e2, _⟩ := ifText hI
  have hR : (if ok = true then (if decide (c = L) = true then ofL (textT L) else (⟨#[]⟩ : ByteArray)) else (⟨#[]⟩ : ByteArray)).size ≤ 70000 := by
    have := hI.text
    split
    · split
      · rw [size_ofL]; exact this
      · exact Nat.zero_le _
    · exact Nat.zero_le _
  generalize (if ok = true then (if decide (c = L) = true then ofL (textT L) else (⟨#[]⟩ : ByteArray)) else (⟨#[]⟩ : ByteArray)) = T at e2 hR
  obtain ⟨v, q2, t2, e3, h0, h1, hq2⟩ := belowD hq1 t1 (n := 4) (by omega)
  unfold spec_DrawParseIf.f
  by_cases c0 : v = 0
  · obtain ⟨x, q3, t3, e4, hm, hq3⟩ := strD hq2 t2 (l := [(⟨#[]⟩ : ByteArray), (⟨#[40, 41]⟩ : ByteArray), (⟨#[40, 60, 49, 62, 41, 40, 60, 50, 62, 41]⟩ : ByteArray), (⟨#[40, 60, 49, 62, 41, 32, 32, 40, 60, 50, 62, 41]⟩ : ByteArray), (⟨#[40, 60, 48, 62, 41]⟩ : ByteArray), (⟨#[40, 60, 49, 48, 48, 48, 48, 62, 41]⟩ : ByteArray), (⟨#[40, 78, 111, 116, 32, 60, 49, 62, 41]⟩ : ByteArray), (⟨#[40, 110, 111, 116, 32, 60, 49, 62, 41]⟩ : ByteArray), (⟨#[40, 91, 118, 49, 93, 41]⟩ : ByteArray), (⟨#[40, 91, 34, 34, 93, 41]⟩ : ByteArray), (⟨#[40, 91, 34, 118, 49, 34, 93, 32, 60, 50, 62, 41]⟩ : ByteArray), (⟨#[40, 60, 49, 62, 32, 60, 50, 62, 32, 60, 51, 62, 32, 60, 52, 62, 32, 60, 53, 62, 41]⟩ : ByteArray), (⟨#[40, 60, 49, 62, 41, 32]⟩ : ByteArray), (⟨#[40, 60, 49, 62]⟩ : ByteArray), (⟨#[60, 49, 62]⟩ : ByteArray), (⟨#[40, 78, 111, 116, 32, 78, 111, 116, 32, 60, 49, 62, 41]⟩ : ByteArray), (⟨#[40, 60, 49, 62, 32, 32, 60, 50, 62, 41]⟩ : ByteArray), (⟨#[40, 60, 48, 49, 62, 41]⟩ : ByteArray)]) (by simp)
    refine ⟨x, ?_, by have := mem_sz2 hm (by decide); omega⟩
    refine Ev.bind e0 ?_
    refine Ev.bind e1 ?_
    refine Ev.bind e2 ?_
    refine ev_bindS e3 ?_
    refine ev_iteT c0 ?_
    exact ev_bindS e4 (Ev.now _)
  by_cases c1 : v = 1
  · have hw : wrap64 ((T.size : Int) + 1) = (T.size : Int) + 1 := wrap_id (by omega) (by omega)
    obtain ⟨w, q3, t3, e4, hw0, hw1, hq3⟩ := belowD hq2 t2 (n := (T.size : Int) + 1) (by omega)
    obtain ⟨x, q4, t4, e5, hm, hq4⟩ := strD hq3 t3 (l := [(⟨#[32]⟩ : ByteArray), (⟨#[40]⟩ : ByteArray), (⟨#[41]⟩ : ByteArray), (⟨#[60]⟩ : ByteArray), (⟨#[120]⟩ : ByteArray)]) (by simp)
    have hx := mem_sz2 hm (by decide)
    have s1 : (T.extract 0 w.toNat).size ≤ 70000 := by rw [ByteArray.size_extract]; omega
    have s2 : (T.extract w.toNat T.size).size ≤ 70000 := by rw [ByteArray.size_extract]; omega
    refine ⟨((T.extract 0 w.toNat) ++ x) ++ (T.extract w.toNat T.size), ?_, by rw [ByteArray.size_append, ByteArray.size_append]; omega⟩
    refine Ev.bind e0 ?_
    refine Ev.bind e1 ?_
    refine Ev.bind e2 ?_
    refine ev_bindS e3 ?_
    refine ev_iteF c0 ?_
    refine ev_iteT c1 ?_
    rw [hw]
    refine ev_bindS e4 ?_
    refine ev_iteT hw0 ?_
    refine ev_iteT (show w ≤ (T.size : Int) by omega) ?_
    refine ev_bindS e5 ?_
    refine ev_iteT (show (T.extract 0 w.toNat).size + x.size ≤ 9223372036854775807 by omega) ?_
    refine ev_iteT (show ((T.extract 0 w.toNat) ++ x).size + (T.extract w.toNat T.size).size ≤ 9223372036854775807 by rw [ByteArray.size_append]; omega) ?_
    exact Ev.now _
  · refine ⟨T, ?_, by omega⟩
    refine Ev.bind e0 ?_
    refine Ev.bind e1 ?_
    refine Ev.bind e2 ?_
    refine ev_bindS e3 ?_
    refine ev_iteF c0 ?_
    exact ev_iteF c1 (Ev.now _)
theorem total_sm {L : List (List S43)} (h : SmI L) : total L ≤ 1048576 := by
  have h1 := sum_le (f := List.length) (b := 8) (l := L) (fun l hl => (h.2 l hl).1)
  have h2 := h.1
  unfold total
  omega
theorem FnIfs : ∀ (x0 : List Int), (fun l : List Int => l.length ≤ maxLen ∧ ∀ a ∈ l, (fun x : Int => (Lit.int .u8 x).wf = true) a) x0 → ∃ k, laws_FnIfs.f k x0 = some true := by
  intro code g0
  apply Ev.rounds
  unfold laws_FnIfs.f laws_big.f
  refine ev_bindS rfl ?_
  by_cases c : ((code.length : Int) > 1048576)
  · exact ev_iteT (decide_eq_true c) (Ev.now _)
  refine ev_iteF (by rw [decide_eq_false c]; exact nofun) ?_
  have hc : code.length ≤ 1048576 := by omega
  obtain ⟨s0, e0⟩ := newD hc
  obtain ⟨L1, q1, t1, e1, hL1, hq1⟩ := anyIfD (cur0 hc) s0
  obtain ⟨toks, q2, t2, e2, htk, hq2⟩ := tokensD hq1 t1
  obtain ⟨tag, q3, t3, e3, hm3, hq3⟩ := strD hq2 t2 (l := [(⟨#[34, 118, 49, 34]⟩ : ByteArray), (⟨#[34, 118, 50, 34]⟩ : ByteArray), (⟨#[]⟩ : ByteArray)]) (by simp)
  have d1 : Ev (fun k => spec_DrawIfText.f k code) L1 := by
    unfold spec_DrawIfText.f
    exact Ev.bind e0 (Ev.bind e1 (Ev.now _))
  have d3 : Ev (fun k => spec_DrawEvalIf.f k code) (L1, toks, tag) := by
    unfold spec_DrawEvalIf.f
    exact Ev.bind e0 (Ev.bind e1 (Ev.bind e2 (ev_bindS e3 (Ev.now _))))
  have d4 : Ev (fun k => spec_DrawSubmitted.f k code) L1 := by
    unfold spec_DrawSubmitted.f
    exact Ev.bind e0 (Ev.bind e1 (Ev.now _))
  obtain ⟨t, d2, ht⟩ := drawParseD hc
  obtain ⟨⟨y, is⟩, p1, p2, p3, p4, p5⟩ := bothIf ht
  simp only at p3 p4 p5
  have hyI := goodI ⟨p3, p4⟩
  have sy := lawsSame (a := y) (smB hyI).1 (smB hyI).2
  rw [decide_eq_true rfl] at sy
  obtain ⟨cc, ok, r1, r2, r3⟩ := ifText hL1
  -- what stands behind the first
  have last : ∀ (R : ByteArray), R = (if ok = true then (if decide (cc = L1) = true then ofL (textT L1) else (⟨#[]⟩ : ByteArray)) else (⟨#[]⟩ : ByteArray)) →
      Ev (fun k => (impl_ParseIf.f k R).bind fun bt559 => (if R.toList = ([] : List UInt8) then (some true) else (if bt559.2 = true then ((laws_sameIf.f k bt559.1 L1).bind fun t563 => (some t563)) else (some false)))) true := by
    intro R hR
    have hempty : Ev (fun k => (impl_ParseIf.f k (⟨#[]⟩ : ByteArray)).bind fun bt559 => (if (⟨#[]⟩ : ByteArray).toList = ([] : List UInt8) then (some true) else (if bt559.2 = true then ((laws_sameIf.f k bt559.1 L1).bind fun t563 => (some t563)) else (some false)))) true := by
      obtain ⟨p, _, q, _⟩ := bothIf (s := (⟨#[]⟩ : ByteArray)) (Nat.zero_le _)
      refine Ev.bind q ?_
      exact ev_iteT (by rw [ba_toList]) (Ev.now _)
    by_cases ho : ok = true ∧ cc = L1
    · obtain ⟨rfl, rfl⟩ := ho
      rw [if_pos rfl, if_pos (decide_eq_true rfl)] at hR
      subst hR
      refine Ev.bind r1 ?_
      by_cases ce : (ofL (textT cc)).toList = []
      · exact ev_iteT ce (Ev.now _)
      · refine ev_iteF ce ?_
        refine ev_iteT rfl ?_
        have sl := lawsSame (a := cc) (smB hL1).1 (smB hL1).2
        rw [decide_eq_true rfl] at sl
        exact Ev.bind sl (Ev.now _)
    · have : R = (⟨#[]⟩ : ByteArray) := by
        rw [hR]
        by_cases h1 : ok = true
        · rw [if_pos h1, if_neg (by rw [decide_eq_true_eq]; exact fun h2 => ho ⟨h1, h2⟩)]
        · rw [if_neg h1]
      subst this
      exact hempty
  have last2 := last _ rfl
  generalize (if ok = true then (if decide (cc = L1) = true then ofL (textT L1) else (⟨#[]⟩ : ByteArray)) else (⟨#[]⟩ : ByteArray)) = R at r2 r3 last2
  clear last
  refine Ev.bind d1 ?_
  refine Ev.bind r3 ?_
  refine Ev.bind d2 ?_
  refine Ev.bind p2 ?_
  refine Ev.bind p1 ?_
  refine Ev.bind d3 ?_
  refine Ev.bind d4 ?_
  refine ev_iteF (by simp) ?_
  refine Ev.bind sy ?_
  refine ev_iteT rfl ?_
  refine Ev.bind r2 ?_
  refine ev_iteT rfl ?_
  refine Ev.bind (implEvalIf hL1.sm (mx (by show toks.length ≤ 1048576; omega))) ?_
  refine Ev.bind (specEvalIf hL1.sm (mx (by show toks.length ≤ 1048576; omega))) ?_
  refine ev_iteF (by simp) ?_
  refine Ev.bind (implSubmitted hL1.sm (total_sm hL1)) ?_
  refine Ev.bind (specSubmitted hL1.sm (total_sm hL1)) ?_
  refine Ev.bind (sameIntsD _ (mx (Nat.le_trans (submitted_length _) (total_sm hL1)))) ?_
  refine Ev.step (fun k => laws_FnIfs.j0.eq_2 ..) ?_
  refine ev_iteF nofun ?_
  by_cases ci : is = true
  · subst ci
    refine ev_iteT rfl ?_
    have hb := back ⟨p3, p4⟩ (p5 rfl)
    obtain ⟨c2, ok2, i1, _, i3⟩ := ifText hyI
    have hev : ∀ {α : Type} {g : Nat → Option α} {a b : α}, Ev g a → Ev g b → a = b := by
      intro α g a b ⟨k1, h1⟩ ⟨k2, h2⟩
      have e1 := h1 (max k1 k2) (Nat.le_max_left ..)
      have e2 := h2 (max k1 k2) (Nat.le_max_right ..)
      rw [e1] at e2
      exact Option.some.inj e2
    have heq := hev i1 hb
    obtain ⟨rfl, rfl⟩ := Prod.mk.inj heq
    rw [if_pos rfl, if_pos (decide_eq_true rfl)] at i3
    refine Ev.bind i3 ?_
    refine Ev.bind hb ?_
    refine ev_iteT rfl ?_
    refine Ev.bind sy ?_
    refine Ev.step (fun k => laws_FnIfs.j1.eq_2 ..) ?_
    refine ev_iteF nofun ?_
    exact last2
  · refine ev_iteF ci ?_
    exact last2
end Go.Proofs.YtigoeooelfeopaaGreatDoor.Pure
