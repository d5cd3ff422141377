/- Conditions read from a text: the reference's reader and the program's come to the same. No condition. -/
import Derived.Lib.Strings
import Derived.Lib.SlTrimSet
import Derived.Test.YtigoeooelfeopaaDoorVIfTextG27
import Derived.Lib.Join
set_option linter.unusedSimpArgs false
set_option linter.unusedVariables false
namespace Go.Proofs.YtigoeooelfeopaaDoor.L
open Go.RowKit Go.Proofs.YtigoeooelfeopaaDoorW.PrintWords Go.Proofs.YtigoeooelfeopaaDoorW.PrintLast Go.Proofs.YtigoeooelfeopaaDoor.Q
theorem pre_iff {x p : List UInt8} : Lib.hasPrefix x p = true ↔ ∃ t, x = p ++ t := by
  unfold Lib.hasPrefix
  rw [List.isPrefixOf_iff_prefix]
  exact ⟨fun ⟨t, h⟩ => ⟨t, h.symm⟩, fun ⟨t, h⟩ => ⟨t, h.symm⟩⟩
theorem atP {s a : ByteArray} {pre x : List UInt8} (h : bl s = pre ++ x) (hs : s.size ≤ 1073741824) (ha : a.size ≤ 100) : spec_l7At.f s (pre.length : Int) a = some (Lib.hasPrefix x (bl a)) := by
  have hl := bl_len s
  have hla := bl_len a
  rw [h, List.length_append] at hl
  have hw : wrap64 ((pre.length : Int) + (a.size : Int)) = ((pre.length + a.size : Nat) : Int) := by rw [wrap_id (by omega) (by omega)]; omega
  unfold spec_l7At.f
  rw [hw]
  by_cases c : a.size ≤ x.length
  · rw [if_pos (by omega), if_pos (by omega), if_pos (by omega)]
    have hx : bl (s.extract pre.length (pre.length + a.size)) = x.take a.size := by
      rw [bl_extract, h, List.take_length_add_append, List.drop_left]
    have : (s.extract ((pre.length : Nat) : Int).toNat ((pre.length + a.size : Nat) : Int).toNat).toList = x.take a.size := by
      rw [Int.toNat_natCast, Int.toNat_natCast, ba_toList]; exact hx
    rw [this, ba_toList]
    congr 1
    apply Bool.eq_iff_iff.2
    rw [beq_iff_eq, pre_iff]
    constructor
    · intro e; exact ⟨x.drop a.size, by rw [show bl a = x.take a.size from e.symm, List.take_append_drop]⟩
    · rintro ⟨t, rfl⟩
      rw [← hla, List.take_left]
  · rw [if_neg (by omega)]
    congr 1
    symm
    apply Bool.eq_false_iff.2
    rw [ne_eq, pre_iff]
    rintro ⟨t, rfl⟩
    rw [List.length_append] at c
    omega
theorem isCut {s : ByteArray} {pre x : List UInt8} (h : bl s = pre ++ x) (hs : s.size ≤ 1073741824) (a : ByteArray) (ha : a.size ≤ 100) :
    ∃ nb pre1 y, bl s = pre1 ++ y ∧ (nb = true → x = bl a ++ y) ∧ (nb = false → y = x ∧ pre1 = pre ∧ ∀ t, x ≠ bl a ++ t) ∧ spec_l14Is.f s (pre.length : Int) false a = some (nb, s, (pre1.length : Int), false) ∧ strings_CutPrefix.f (ofL x) a = some (ofL y, nb) := by
  have hl := bl_len s
  have hla := bl_len a
  rw [h, List.length_append] at hl
  unfold spec_l14Is.f strings_CutPrefix.f
  simp only [Bool.false_eq_true, if_false, atP h hs ha, Option.bind_some]
  cases c : Lib.hasPrefix x (bl a) with
  | true =>
    obtain ⟨t, rfl⟩ := pre_iff.1 c
    rw [List.length_append] at hl
    refine ⟨true, pre ++ bl a, t, by rw [h, List.append_assoc], fun _ => rfl, fun e => (by cases e), ?_, ?_⟩
    · simp only [if_true, List.length_append]
      rw [wrap_id (by omega) (by omega), hla]
      simp
    · have : Lib.trimPrefix (bl a ++ t) (bl a) = t := by unfold Lib.trimPrefix; rw [c]; simp
      have e2 : Lib.hasPrefix (bl a ++ t) a.data.toList = true := c
      have e3 : Lib.trimPrefix (bl a ++ t) a.data.toList = t := this
      rw [e3]
  | false =>
    refine ⟨false, pre, x, h, fun e => (by cases e), fun _ => ⟨rfl, rfl, fun t e => ?_⟩, ?_, ?_⟩
    · rw [pre_iff.2 ⟨t, e⟩] at c; cases c
    · simp
    · have e2 : Lib.hasPrefix x a.data.toList = false := c
      have e3 : Lib.trimPrefix x a.data.toList = x := by unfold Lib.trimPrefix; rw [e2]; simp
      rw [e3]
theorem isBad (s : ByteArray) (i : Int) (a : ByteArray) : spec_l14Is.f s i true a = some (false, s, i, true) := by unfold spec_l14Is.f; simp
theorem mustBad (s : ByteArray) (i : Int) (a : ByteArray) : spec_l14Must.f s i true a = some (s, i, true) := by unfold spec_l14Must.f; rw [isBad]; simp
theorem mustIs {s a : ByteArray} {i j : Int} {nb : Bool} (h : spec_l14Is.f s i false a = some (nb, s, j, false)) : spec_l14Must.f s i false a = some (s, j, !nb) := by
  unfold spec_l14Must.f; rw [h]; cases nb <;> simp
theorem byte_eq (b c : UInt8) : ((b.toNat : Int) = (c.toNat : Int)) = (b = c) := propext ⟨fun h => UInt8.toNat_inj.1 (by omega), fun h => by rw [h]⟩
theorem toHit {s : ByteArray} {c : UInt8} {i : Int} (hi : i = (c.toNat : Int)) (b : Bool) (hs : s.size ≤ 1073741824) : ∀ (mid cur pre rest : List UInt8), bl s = pre ++ (cur ++ (mid ++ c :: rest)) → c ∉ mid →
    Ev (fun k => spec_l14To.l0 k i (pre.length : Int) s ((pre ++ cur).length : Int) b) (ofL (cur ++ mid), s, ((pre ++ (cur ++ mid) ++ [c]).length : Int), b) := by
  have hm : s.size ≤ maxLen := by rw [maxLen_eq]; omega
  intro mid
  induction mid with
  | nil =>
    intro cur pre rest h hc
    have hl := bl_len s
    rw [h] at hl
    simp only [List.length_append, List.length_cons, List.length_nil] at hl
    have h' : bl s = (pre ++ cur) ++ c :: rest := by rw [h]; simp
    refine Ev.step (fun k => spec_l14To.l0.eq_2 ..) ?_
    have hw : wrap64 ((((pre ++ cur ++ [c]).length : Nat) : Int) - 1) = (((pre ++ cur).length : Nat) : Int) := by
      rw [wrap_id (by simp only [List.length_append]; omega) (by simp only [List.length_append, List.length_cons, List.length_nil]; omega)]; simp only [List.length_append, List.length_cons, List.length_nil]; omega
    have hx : s.extract pre.length (pre ++ cur).length = ofL cur := by
      apply bl_inj
      rw [bl_extract, h, bl_ofL]
      exact cut_mid pre cur _
    simp only [if_pos (blt_at h'), if_pos (nonneg_at _), bt_at' h', hi, if_true, bnext_at h' hm, hw, if_neg (show ¬ (((pre ++ cur).length : Nat) : Int) = (s.size : Int) by simp only [List.length_append]; omega), if_pos (show ((pre.length : Nat) : Int) ≤ (((pre ++ cur).length : Nat) : Int) by simp only [List.length_append]; omega), if_pos (show (((pre ++ cur).length : Nat) : Int) ≤ (s.size : Int) by simp only [List.length_append]; omega), Int.toNat_natCast, hx, List.append_nil]
    exact Ev.now _
  | cons d mid ih =>
    intro cur pre rest h hc
    have h' : bl s = (pre ++ cur) ++ d :: (mid ++ c :: rest) := by rw [h]; simp
    have hd : ¬ d = c := fun e => hc (by rw [e]; simp)
    refine Ev.step (fun k => spec_l14To.l0.eq_2 ..) ?_
    simp only [if_pos (blt_at h'), if_pos (nonneg_at _), bt_at' h', hi, byte_eq, if_neg hd, bnext_at h' hm]
    have := ih (cur ++ [d]) pre rest (by rw [h]; simp) (fun e => hc (List.mem_cons_of_mem _ e))
    rw [hi] at this
    simpa using this
theorem toMiss {s : ByteArray} {c : UInt8} {i : Int} (hi : i = (c.toNat : Int)) (b : Bool) (st : Int) (hs : s.size ≤ 1073741824) : ∀ (x pre : List UInt8), bl s = pre ++ x → c ∉ x →
    Ev (fun k => spec_l14To.l0 k i st s (pre.length : Int) b) ((⟨#[]⟩ : ByteArray), s, (s.size : Int), true) := by
  have hm : s.size ≤ maxLen := by rw [maxLen_eq]; omega
  intro x
  induction x with
  | nil =>
    intro pre h hc
    have hl := bl_len s
    rw [h, List.append_nil] at hl
    refine Ev.step (fun k => spec_l14To.l0.eq_2 ..) ?_
    rw [hl]
    simp only [Int.lt_irrefl, if_false, if_true]
    exact Ev.now _
  | cons d x ih =>
    intro pre h hc
    have hd : ¬ d = c := fun e => hc (by rw [e]; simp)
    refine Ev.step (fun k => spec_l14To.l0.eq_2 ..) ?_
    simp only [if_pos (blt_at h), if_pos (nonneg_at _), bt_at' h, hi, byte_eq, if_neg hd, bnext_at h hm]
    have := ih (pre ++ [d]) (by rw [h]; simp) (fun e => hc (List.mem_cons_of_mem _ e))
    rw [hi] at this
    exact this
theorem toAny {s : ByteArray} {c : UInt8} {i : Int} (hi : i = (c.toNat : Int)) (hs : s.size ≤ 1073741824) {pre x : List UInt8} (h : bl s = pre ++ x) : ∃ t j, t.size ≤ 1073741824 ∧ Ev (fun k => spec_l14To.f k s (pre.length : Int) true i) (t, s, j, true) := by
  unfold spec_l14To.f
  by_cases e : c ∈ x
  · obtain ⟨mid, rest, rfl, h2⟩ := first_of e
    have := toHit hi true hs mid [] pre rest (by simpa using h) h2
    refine ⟨_, _, ?_, by simpa using this⟩
    have hl := bl_len s
    rw [h] at hl
    simp only [List.length_append, List.length_cons] at hl
    rw [size_ofL]; omega
  · exact ⟨_, _, (by rw [show (⟨#[]⟩ : ByteArray).size = 0 from rfl]; omega), toMiss hi true _ hs x pre h e⟩
abbrev CO (s : ByteArray) (pre x : List UInt8) : Prop :=
  (∃ (c : S79) (rest pre' : List UInt8), bl s = pre' ++ rest ∧ rest.length < x.length ∧ Ev (fun k => spec_l14Cond.f k s (pre.length : Int) false) (c.f0, c.f1, c.f2, s, (pre'.length : Int), false) ∧ Ev (fun k => impl_condAt.f k (ofL x)) (c.f0, c.f1, c.f2, ofL rest, true))
  ∨ ((∃ a b c d e, Ev (fun k => spec_l14Cond.f k s (pre.length : Int) false) (a, b, c, d, e, true)) ∧ ∃ a b c d, Ev (fun k => impl_condAt.f k (ofL x)) (a, b, c, d, false))
theorem tag_is {body : List UInt8} (h : (34 : UInt8) ∉ body) : isTag (34 :: (body ++ [34])) = (decide (body.length ≤ 10) && plainL body) := by
  rw [isTag_ends, decide_eq_true (rfl : (34 : UInt8) = 34), decide_eq_true h]
  simp
theorem ev_bindS {α β : Type} {g : Option α} {f : Nat → α → Option β} {a : α} {r : β} (h : g = some a) (k : Ev (fun n => f n a) r) : Ev (fun n => g.bind (f n)) r := by rw [h]; exact k
theorem ev_iteT {α : Type} {p : Prop} [Decidable p] {f g : Nat → Option α} {r : α} (h : p) (k : Ev f r) : Ev (fun n => if p then f n else g n) r := by rw [funext (fun n => if_pos h)]; exact k
theorem ev_iteF {α : Type} {p : Prop} [Decidable p] {f g : Nat → Option α} {r : α} (h : ¬ p) (k : Ev g r) : Ev (fun n => if p then f n else g n) r := by rw [funext (fun n => if_neg h)]; exact k
theorem specC1 {s num : ByteArray} {i j1 j2 j3 m : Int} {nb b ok : Bool} (is1 : spec_l14Is.f s i false (⟨#[78, 111, 116, 32]⟩ : ByteArray) = some (nb, s, j1, false)) (is2 : spec_l14Is.f s j1 false (⟨#[60]⟩ : ByteArray) = some (true, s, j2, false))
    (t : Ev (fun k => spec_l14To.f k s j2 false 62) (num, s, j3, b)) (q : Ev (fun k => spec_ParseNum.f k num 9999) (m, ok)) : Ev (fun k => spec_l14Cond.f k s i false) (nb, m, (⟨#[]⟩ : ByteArray), s, j3, if b = true then true else if ok = true then decide (m < 1) else true) := by
  unfold spec_l14Cond.f
  refine ev_bindS is1 ?_
  refine ev_bindS is2 ?_
  refine ev_iteT rfl ?_
  refine Ev.bind t ?_
  refine Ev.bind q ?_
  cases b
  · refine ev_iteF nofun ?_
    cases ok
    · exact ev_iteF nofun (Ev.now _)
    · exact ev_iteT rfl (Ev.now _)
  · exact ev_iteT rfl (Ev.now _)
theorem specC2 {s body : ByteArray} {i j1 j2 j3 j4 : Int} {nb b b3 b4 ok : Bool} (is1 : spec_l14Is.f s i false (⟨#[78, 111, 116, 32]⟩ : ByteArray) = some (nb, s, j1, false)) (is2 : spec_l14Is.f s j1 false (⟨#[60]⟩ : ByteArray) = some (false, s, j1, false))
    (mu : spec_l14Must.f s j1 false (⟨#[91, 34]⟩ : ByteArray) = some (s, j2, b)) (t : Ev (fun k => spec_l14To.f k s j2 b 34) (body, s, j3, b3)) (mu2 : spec_l14Must.f s j3 b3 (⟨#[93]⟩ : ByteArray) = some (s, j4, b4)) (hz : body.size ≤ 1073741824)
    (tg : b4 = false → Ev (fun k => spec_l9Tag.f k (((⟨#[34]⟩ : ByteArray) ++ body) ++ (⟨#[34]⟩ : ByteArray))) ok) : Ev (fun k => spec_l14Cond.f k s i false) (nb, 0, ((⟨#[34]⟩ : ByteArray) ++ body) ++ (⟨#[34]⟩ : ByteArray), s, j4, if b4 = true then true else if ok = true then (body.toList == ([] : List UInt8)) else true) := by
  have h1 : ((⟨#[34]⟩ : ByteArray) ++ body).size = 1 + body.size := by rw [ByteArray.size_append]; rfl
  unfold spec_l14Cond.f
  refine ev_bindS is1 ?_
  refine ev_bindS is2 ?_
  refine ev_iteF nofun ?_
  refine ev_bindS mu ?_
  refine Ev.bind t ?_
  refine ev_bindS mu2 ?_
  refine ev_iteT (show 1 + body.size ≤ 9223372036854775807 by omega) ?_
  refine ev_iteT (show ((⟨#[34]⟩ : ByteArray) ++ body).size + 1 ≤ 9223372036854775807 by omega) ?_
  cases b4
  · refine ev_iteF nofun ?_
    refine Ev.bind (tg rfl) ?_
    cases ok
    · exact ev_iteF nofun (Ev.now _)
    · exact ev_iteT rfl (Ev.now _)
  · exact ev_iteT rfl (Ev.now _)
theorem condBoth {s : ByteArray} (hs : s.size ≤ 1073741824) {pre x : List UInt8} (h : bl s = pre ++ x) : CO s pre x := by
  have hm : s.size ≤ maxLen := by rw [maxLen_eq]; omega
  have hsz : ∀ {p y : List UInt8}, bl s = p ++ y → y.length ≤ 1073741824 := by
    intro p y hy
    have := bl_len s
    rw [hy, List.length_append] at this
    omega
  obtain ⟨nb, pre1, y, h1, n1, n2, is1, cu1⟩ := isCut h hs (⟨#[78, 111, 116, 32]⟩ : ByteArray) (by decide)
  have hyx : y.length ≤ x.length := by
    cases nb with
    | true => have := n1 rfl; rw [this, List.length_append]; omega
    | false => rw [(n2 rfl).1]; exact Nat.le_refl _
  clear n1 n2
  unfold CO impl_condAt.f
  simp only [cu1, Option.bind_some]
  obtain ⟨nb2, pre2, u, h2, m1, m2, is2, cu2⟩ := isCut h1 hs (⟨#[60]⟩ : ByteArray) (by decide)
  simp only [cu2, Option.bind_some]
  cases nb2 with
  | true =>
    have hy : y = 60 :: u := m1 rfl
    simp only [if_true]
    by_cases c1 : (62 : UInt8) ∈ u
    · obtain ⟨num, rest, rfl, hn⟩ := first_of c1
      have t1 := toHit (s := s) (c := 62) (i := 62) rfl false hs num [] pre2 rest (by simpa using h2) hn
      simp only [List.append_nil, List.nil_append] at t1
      have hu := hsz h2
      have hc : strings_Cut.f (ofL (num ++ 62 :: rest)) (⟨#[62]⟩ : ByteArray) = some (ofL num, ofL rest, true) := by
        unfold strings_Cut.f
        have e1 : (ofL (num ++ 62 :: rest)).data.toList = num ++ 62 :: rest := bl_ofL _
        have e2 : (⟨#[62]⟩ : ByteArray).data.toList = [62] := rfl
        rw [e1, e2, cut_hit rfl hn, if_pos (by rw [size_ofL]; omega)]
      simp only [List.length_append, List.length_cons] at hu
      have hq := specNum (s := ofL num) (by rw [size_ofL]; omega) 9999
      have hp := implNum (s := ofL num) (by rw [size_ofL]; omega) 9999
      rw [bl_ofL] at hq hp
      rcases hnm : numR num 9999 with ⟨m, ok⟩
      rw [hnm] at hq hp
      have sp := specC1 is1 is2 t1 hq
      simp only [hc, hp, Option.bind_some, if_true]
      by_cases c2 : ok = true ∧ 0 < m
      · obtain ⟨rfl, c2⟩ := c2
        left
        refine ⟨⟨nb, m, ⟨#[]⟩⟩, rest, pre2 ++ num ++ [62], by rw [h2]; simp, by rw [hy] at hyx; simp only [List.length_append, List.length_cons] at hyx; omega, ?_, ?_⟩
        · simp only [Bool.false_eq_true, if_false, if_true, show decide (m < 1) = false from decide_eq_false (by omega)] at sp
          exact sp
        · simp only [if_true, show decide (m > 0) = true from decide_eq_true c2]
          exact Ev.now _
      · right
        refine ⟨⟨nb, m, ⟨#[]⟩, s, ((pre2 ++ num ++ [62]).length : Int), ev_cast sp ?_⟩, ⟨nb, m, ⟨#[]⟩, ofL rest, ?_⟩⟩
        · cases ok with
          | true => simp only [Bool.false_eq_true, if_false, if_true, show decide (m < 1) = true from decide_eq_true (by have : ¬ 0 < m := fun e => c2 ⟨rfl, e⟩; omega)]
          | false => simp only [Bool.false_eq_true, if_false]
        · cases ok with
          | true =>
            simp only [if_true, show decide (m > 0) = false from decide_eq_false (fun e => c2 ⟨rfl, e⟩)]
            exact Ev.now _
          | false =>
            simp only [Bool.false_eq_true, if_false]
            exact Ev.now _
    · have t1 := toMiss (s := s) (c := 62) (i := 62) rfl false (pre2.length : Int) hs u pre2 h2 c1
      have hu := hsz h2
      have hc : strings_Cut.f (ofL u) (⟨#[62]⟩ : ByteArray) = some (ofL u, ofL [], false) := by
        unfold strings_Cut.f
        have e1 : (ofL u).data.toList = u := bl_ofL _
        have e2 : (⟨#[62]⟩ : ByteArray).data.toList = [62] := rfl
        rw [e1, e2, cut_miss c1, if_pos (by rw [size_ofL]; omega)]
      have hq := specNum (s := (⟨#[]⟩ : ByteArray)) (by rw [show (⟨#[]⟩ : ByteArray).size = 0 from rfl]; omega) 9999
      have hp := implNum (s := ofL u) (by rw [size_ofL]; omega) 9999
      have sp := specC1 is1 is2 t1 (m := (numR (bl (⟨#[]⟩ : ByteArray)) 9999).1) (ok := (numR (bl (⟨#[]⟩ : ByteArray)) 9999).2) hq
      simp only [if_true] at sp
      right
      refine ⟨⟨_, _, _, _, _, sp⟩, ?_⟩
      simp only [hc, hp, Option.bind_some, Bool.false_eq_true, if_false]
      exact ⟨_, _, _, _, Ev.now _⟩
  | false =>
    obtain ⟨rfl, rfl, hn60⟩ := m2 rfl
    clear m1 m2
    simp only [Bool.false_eq_true, if_false]
    obtain ⟨nb3, pre3, v, h3, m3, m4, is3, cu3⟩ := isCut h2 hs (⟨#[91, 34]⟩ : ByteArray) (by decide)
    have fall : nb3 = false → ∃ a b c d e, Ev (fun k => spec_l14Cond.f k s (pre.length : Int) false) (a, b, c, d, e, true) := by
      rintro rfl
      obtain ⟨t, j, ht, e⟩ := toAny (s := s) (c := 34) (i := 34) rfl hs h3
      have sp := specC2 (ok := true) is1 is2 (mustIs is3) e (mustBad s j _) ht nofun
      simp only [if_true] at sp
      exact ⟨_, _, _, _, _, sp⟩
    obtain ⟨nb4, pre4, w, h4, m5, m6, is4, cu4⟩ := isCut h2 hs (⟨#[91]⟩ : ByteArray) (by decide)
    simp only [cu4, Option.bind_some]
    have hw := hsz h4
    cases nb4 with
    | false =>
      obtain ⟨rfl, rfl, hn91⟩ := m6 rfl
      right
      refine ⟨fall ?_, ?_⟩
      · cases nb3 with
        | false => rfl
        | true => exact absurd (m3 rfl) (by intro e; exact hn91 (34 :: v) e)
      · by_cases c1 : ∃ body rest, AtTag w body rest 1
        · obtain ⟨body, rest, c1⟩ := c1
          have i1 := implTagAt_ok (s := ofL w) (least := 1) (by rw [size_ofL]; omega) (by rw [bl_ofL]; exact c1)
          refine ⟨?_, ?_, ?_, ?_, Ev.bind i1 ?_⟩
          rotate_left 4
          · simp only [strings_CutPrefix.f, Option.bind_some, Bool.false_eq_true, if_false]
            exact Ev.now _
        · have i1 := implTagAt_no (s := ofL w) (least := 1) (by rw [size_ofL]; omega) (by rw [bl_ofL]; exact fun b r e => c1 ⟨b, r, e⟩)
          refine ⟨?_, ?_, ?_, ?_, Ev.bind i1 ?_⟩
          rotate_left 4
          · simp only [strings_CutPrefix.f, Option.bind_some, Bool.false_eq_true, if_false]
            exact Ev.now _
    | true =>
      have hu : u = 91 :: w := m5 rfl
      have hz2 : ∀ body : List UInt8, ((⟨#[34]⟩ : ByteArray) ++ ofL body) ++ (⟨#[34]⟩ : ByteArray) = ofL (34 :: (body ++ [34])) := by
        intro body
        apply bl_inj; rw [bl_append, bl_append, bl_ofL, bl_ofL]; rfl
      by_cases c1 : ∃ body rest, AtTag w body rest 1
      · obtain ⟨body, rest, c1⟩ := c1
        have i1 := implTagAt_ok (s := ofL w) (least := 1) (by rw [size_ofL]; omega) (by rw [bl_ofL]; exact c1)
        obtain ⟨rfl, c2, c3, c4, c5⟩ := c1
        obtain rfl : nb3 = true := by
          cases nb3 with
          | true => rfl
          | false => exact absurd (by rw [hu]; rfl) ((m4 rfl).2.2 (body ++ 34 :: rest))
        have hv : v = body ++ 34 :: rest := by
          have := m3 rfl
          rw [hu] at this
          exact (List.cons.inj (List.cons.inj this).2).2.symm
        subst hv
        have t1 := toHit (s := s) (c := 34) (i := 34) rfl false hs body [] pre3 rest (by simpa using h3) c2
        simp only [List.append_nil, List.nil_append] at t1
        have h5 : bl s = (pre3 ++ body ++ [34]) ++ rest := by rw [h3]; simp
        obtain ⟨nb5, pre5, r, h6, m7, m8, is5, cu5⟩ := isCut h5 hs (⟨#[93]⟩ : ByteArray) (by decide)
        have ht := specTag (s := ofL (34 :: (body ++ [34]))) (by rw [size_ofL]; simp only [List.length_cons, List.length_append, List.length_nil]; omega)
        rw [bl_ofL, tag_is c2, decide_eq_true c4, c5] at ht
        have hne : ((ofL body).toList == ([] : List UInt8)) = false := by
          rw [ba_toList]
          have : (ofL body).data.toList = body := bl_ofL _
          rw [this]
          cases body with
          | nil => simp at c3
          | cons _ _ => rfl
        have sp := specC2 is1 is2 (mustIs is3) t1 (mustIs is5) (by rw [size_ofL]; omega) (fun _ => by rw [hz2]; exact ht)
        cases nb5 with
        | true =>
          have hr : rest = 93 :: r := m7 rfl
          left
          refine ⟨⟨nb, 0, ofL (34 :: (body ++ [34]))⟩, r, pre5, h6, ?_, ?_, ?_⟩
          · rw [hu, hr] at hyx; simp only [List.length_cons, List.length_append] at hyx; omega
          · simp only [hz2, Bool.not_true, Bool.false_eq_true, if_false, Bool.and_self, if_true, hne] at sp
            exact sp
          · refine Ev.bind i1 ?_
            simp only [cu5, Option.bind_some, if_true]
            exact Ev.now _
        | false =>
          right
          simp only [Bool.not_false, if_true] at sp
          refine ⟨⟨_, _, _, _, _, sp⟩, ⟨?_, ?_, ?_, ?_, Ev.bind i1 ?_⟩⟩
          rotate_left 4
          · simp only [cu5, Option.bind_some, if_true]
            exact Ev.now _
      · have i1 := implTagAt_no (s := ofL w) (least := 1) (by rw [size_ofL]; omega) (by rw [bl_ofL]; exact fun b r e => c1 ⟨b, r, e⟩)
        right
        refine ⟨?_, ⟨?_, ?_, ?_, ?_, Ev.bind i1 ?_⟩⟩
        · cases nb3 with
          | false => exact fall rfl
          | true =>
            have hw2 : w = 34 :: v := by
              have := m3 rfl
              rw [hu] at this
              exact (List.cons.inj this).2
            by_cases c2 : (34 : UInt8) ∈ v
            · obtain ⟨body, rest, rfl, hb⟩ := first_of c2
              have t1 := toHit (s := s) (c := 34) (i := 34) rfl false hs body [] pre3 rest (by simpa using h3) hb
              simp only [List.append_nil, List.nil_append] at t1
              have h5 : bl s = (pre3 ++ body ++ [34]) ++ rest := by rw [h3]; simp
              obtain ⟨nb5, pre5, r, h6, m7, m8, is5, cu5⟩ := isCut h5 hs (⟨#[93]⟩ : ByteArray) (by decide)
              have hbl := hsz h3
              simp only [List.length_append, List.length_cons] at hbl
              rw [hw2] at hw
              simp only [List.length_append, List.length_cons] at hw
              have ht := specTag (s := ofL (34 :: (body ++ [34]))) (by rw [size_ofL]; simp only [List.length_cons, List.length_append, List.length_nil]; omega)
              rw [bl_ofL, tag_is hb] at ht
              have sp := specC2 is1 is2 (mustIs is3) t1 (mustIs is5) (by rw [size_ofL]; omega) (fun _ => by rw [hz2]; exact ht)
              have hlast : (if (!nb5) = true then true else if (decide (body.length ≤ 10) && plainL body) = true then ((ofL body).toList == ([] : List UInt8)) else true) = true := by
                cases nb5 with
                | false => rfl
                | true =>
                  cases ct : (decide (body.length ≤ 10) && plainL body) with
                  | false => rfl
                  | true =>
                    rw [Bool.and_eq_true, decide_eq_true_eq] at ct
                    have hb0 : body = [] := by
                      cases body with
                      | nil => rfl
                      | cons b body => exact absurd ⟨_, _, hw2, hb, by simp, ct.1, ct.2⟩ c1
                    rw [hb0, ba_toList]
                    rfl
              rw [hlast] at sp
              exact ⟨_, _, _, _, _, sp⟩
            · have t1 := toMiss (s := s) (c := 34) (i := 34) rfl false (pre3.length : Int) hs v pre3 h3 c2
              have sp := specC2 (ok := true) is1 is2 (mustIs is3) t1 (mustBad s _ _) (by rw [show (⟨#[]⟩ : ByteArray).size = 0 from rfl]; omega) nofun
              simp only [if_true] at sp
              exact ⟨_, _, _, _, _, sp⟩
        rotate_left 4
        · simp only [strings_CutPrefix.f, Option.bind_some, Bool.false_eq_true, if_false, if_true]
          exact Ev.now _
theorem specEnd {s : ByteArray} {out : List S79} {i : Int} {b : Bool} {one : Bool} (h : one = true → b = true) {j : Int} {b2 : Bool} (mu : spec_l14Must.f s i b (⟨#[41]⟩ : ByteArray) = some (s, j, b2)) : Ev (fun k => spec_l14List.l0 k out one s i b) (out, s, j, if b2 = true then true else decide ((out.length : Int) > 4)) := by
  have hj : Ev (fun k => spec_l14List.j1 k out false s i b) (out, s, j, if b2 = true then true else decide ((out.length : Int) > 4)) := by
    refine Ev.step (fun k => spec_l14List.j1.eq_2 ..) ?_
    refine ev_iteF nofun ?_
    refine ev_bindS mu ?_
    cases b2
    · exact ev_iteF nofun (Ev.now _)
    · exact ev_iteT rfl (Ev.now _)
  refine Ev.step (fun k => spec_l14List.l0.eq_2 ..) ?_
  cases one with
  | true =>
    obtain rfl := h rfl
    exact ev_iteT rfl hj
  | false => exact ev_iteF nofun hj
theorem specGo {s s' : ByteArray} {out : List S79} {i i' i'' : Int} {c : S79} {b1 b2 : Bool} {one : Bool} {r : List S79 × ByteArray × Int × Bool} (ho : out.length < 4398046511104) (hc : Ev (fun k => spec_l14Cond.f k s i false) (c.f0, c.f1, c.f2, s', i', b1)) (is : spec_l14Is.f s' i' b1 (⟨#[32]⟩ : ByteArray) = some (one, s', i'', b2)) (hr : Ev (fun k => spec_l14List.l0 k (out ++ [c]) one s' i'' b2) r) : Ev (fun k => spec_l14List.l0 k out true s i false) r := by
  refine Ev.step (fun k => spec_l14List.l0.eq_2 ..) ?_
  refine ev_iteT rfl ?_
  refine Ev.step (fun k => spec_l14List.j1.eq_2 ..) ?_
  refine ev_iteT rfl ?_
  refine Ev.bind hc ?_
  refine ev_iteT ho ?_
  exact ev_bindS is hr
theorem implFail {x : ByteArray} {out : List S79} {ok : Bool} (h : ok = true → ¬ (out.length : Int) < 4) : Ev (fun k => impl_listAt.l0 k x ok out) (([] : List S79), (⟨#[]⟩ : ByteArray), false) := by
  have hj : Ev (fun k => impl_listAt.j1 k x out false) (([] : List S79), (⟨#[]⟩ : ByteArray), false) := Ev.step (fun k => impl_listAt.j1.eq_2 ..) (ev_iteF nofun (Ev.now _))
  refine Ev.step (fun k => impl_listAt.l0.eq_2 ..) ?_
  cases ok with
  | true =>
    refine ev_iteT rfl ?_
    rw [decide_eq_false (h rfl)]
    exact hj
  | false => exact ev_iteF nofun hj
theorem implOne {x rest t : ByteArray} {out : List S79} {c : S79} {nb : Bool} {r : List S79 × ByteArray × Bool} (ho : out.length < 4) (hc : Ev (fun k => impl_condAt.f k x) (c.f0, c.f1, c.f2, rest, true)) (cu : strings_CutPrefix.f rest (⟨#[41]⟩ : ByteArray) = some (t, nb))
    (hr : nb = true → r = (out ++ [c], t, true)) (hn : nb = false → ∃ y nb2, strings_CutPrefix.f rest (⟨#[32]⟩ : ByteArray) = some (y, nb2) ∧ Ev (fun k => impl_listAt.l0 k y nb2 (out ++ [c])) r) : Ev (fun k => impl_listAt.l0 k x true out) r := by
  refine Ev.step (fun k => impl_listAt.l0.eq_2 ..) ?_
  refine ev_iteT rfl ?_
  rw [decide_eq_true (show (out.length : Int) < 4 by omega)]
  refine Ev.step (fun k => impl_listAt.j1.eq_2 ..) ?_
  refine ev_iteT rfl ?_
  refine Ev.bind hc ?_
  refine ev_iteT rfl ?_
  refine ev_iteT (show out.length < 4398046511104 by omega) ?_
  refine ev_bindS rfl ?_
  refine ev_bindS cu ?_
  cases nb with
  | true =>
    rw [hr rfl]
    exact ev_iteT rfl (Ev.now _)
  | false =>
    obtain ⟨y, nb2, e1, e2⟩ := hn rfl
    refine ev_iteF nofun ?_
    exact ev_bindS e1 e2
theorem implNo {x : ByteArray} {out : List S79} {a : Bool} {b : Int} {c d : ByteArray} (ho : out.length < 4) (hc : Ev (fun k => impl_condAt.f k x) (a, b, c, d, false)) : Ev (fun k => impl_listAt.l0 k x true out) (([] : List S79), (⟨#[]⟩ : ByteArray), false) := by
  refine Ev.step (fun k => impl_listAt.l0.eq_2 ..) ?_
  refine ev_iteT rfl ?_
  rw [decide_eq_true (show (out.length : Int) < 4 by omega)]
  refine Ev.step (fun k => impl_listAt.j1.eq_2 ..) ?_
  refine ev_iteT rfl ?_
  refine Ev.bind hc ?_
  exact ev_iteF nofun (Ev.now _)
abbrev LO (s : ByteArray) (out : List S79) (pre x : List UInt8) : Prop :=
  (∃ (ls : List S79) (rest pre' : List UInt8), out.length < 4 ∧ bl s = pre' ++ rest ∧ rest.length < x.length ∧ Ev (fun k => spec_l14List.l0 k out true s (pre.length : Int) false) (ls, s, (pre'.length : Int), false) ∧ Ev (fun k => impl_listAt.l0 k (ofL x) true out) (ls, ofL rest, true))
  ∨ ((∃ a d j, Ev (fun k => spec_l14List.l0 k out true s (pre.length : Int) false) (a, d, j, true)) ∧ ∃ a b, Ev (fun k => impl_listAt.l0 k (ofL x) true out) (a, b, false))
theorem listLoop {s : ByteArray} (hs : s.size ≤ 1073741824) : ∀ (n : Nat) (x pre : List UInt8) (out : List S79), x.length < n → bl s = pre ++ x → out.length + x.length ≤ 2147483648 → LO s out pre x := by
  intro n
  induction n with
  | zero => intro x pre out hx; omega
  | succ n ih =>
    intro x pre out hx h ho
    have far : ¬ out.length < 4 → ∃ a b, Ev (fun k => impl_listAt.l0 k (ofL x) true out) (a, b, false) := fun hn => ⟨_, _, implFail (fun _ => by omega)⟩
    rcases condBoth hs h with ⟨c, rest, pre', h1, h2, sp, im⟩ | ⟨⟨a, b, c, d, e, sp⟩, ⟨a', b', c', d', im⟩⟩
    · obtain ⟨nb, preb, y, hb, nt, nf, is, cu⟩ := isCut h1 hs (⟨#[32]⟩ : ByteArray) (by decide)
      obtain ⟨nb', prez, z, hz, nt', nf', is', cu'⟩ := isCut h1 hs (⟨#[41]⟩ : ByteArray) (by decide)
      have hol : out.length < 4398046511104 := by omega
      cases nb' with
      | true =>
        have hr : rest = 41 :: z := nt' rfl
        obtain rfl : nb = false := by
          cases nb with
          | false => rfl
          | true =>
            have : rest = 32 :: y := nt rfl
            rw [hr] at this
            exact absurd (List.cons.inj this).1 (by decide)
        obtain ⟨rfl, rfl, _⟩ := nf rfl
        have s1 := specGo hol sp is (specEnd (one := false) (out := out ++ [c]) nofun (mustIs is'))
        by_cases c4 : out.length < 4
        · left
          refine ⟨out ++ [c], z, prez, c4, hz, by rw [hr] at h2; simp only [List.length_cons] at h2; omega, ?_, implOne c4 im cu' (fun _ => rfl) nofun⟩
          simp only [Bool.not_true, Bool.false_eq_true, if_false, show decide (((out ++ [c]).length : Int) > 4) = false from decide_eq_false (by simp only [List.length_append, List.length_cons, List.length_nil]; omega)] at s1
          exact s1
        · right
          simp only [Bool.not_true, Bool.false_eq_true, if_false, show decide (((out ++ [c]).length : Int) > 4) = true from decide_eq_true (by simp only [List.length_append, List.length_cons, List.length_nil]; omega)] at s1
          exact ⟨⟨_, _, _, s1⟩, far c4⟩
      | false =>
        cases nb with
        | true =>
          have hr : rest = 32 :: y := nt rfl
          have hy : y.length < x.length := by rw [hr] at h2; simp only [List.length_cons] at h2; omega
          rcases ih y preb (out ++ [c]) (by omega) hb (by simp only [List.length_append, List.length_cons, List.length_nil]; omega) with ⟨ls, r3, p3, q1, q2, q3, q4, q5⟩ | ⟨⟨a, d, j, q4⟩, ⟨a', b', q5⟩⟩
          · left
            simp only [List.length_append, List.length_cons, List.length_nil] at q1
            exact ⟨ls, r3, p3, by omega, q2, by omega, specGo hol sp is q4, implOne (by omega) im cu' nofun (fun _ => ⟨_, _, cu, q5⟩)⟩
          · right
            refine ⟨⟨_, _, _, specGo hol sp is q4⟩, ?_⟩
            by_cases c4 : out.length < 4
            · exact ⟨_, _, implOne c4 im cu' nofun (fun _ => ⟨_, _, cu, q5⟩)⟩
            · exact far c4
        | false =>
          obtain ⟨rfl, rfl, _⟩ := nf rfl
          have s1 := specGo hol sp is (specEnd (one := false) (out := out ++ [c]) nofun (mustIs is'))
          simp only [Bool.not_false, if_true] at s1
          right
          refine ⟨⟨_, _, _, s1⟩, ?_⟩
          by_cases c4 : out.length < 4
          · exact ⟨_, _, implOne c4 im cu' nofun (fun _ => ⟨_, _, cu, implFail (ok := false) nofun⟩)⟩
          · exact far c4
    · right
      have s1 := specGo (out := out) (c := ⟨a, b, c⟩) (by omega) sp (isBad d e _) (specEnd (one := false) (out := out ++ [⟨a, b, c⟩]) nofun (mustBad d e _))
      simp only [if_true] at s1
      refine ⟨⟨_, _, _, s1⟩, ?_⟩
      by_cases c4 : out.length < 4
      · exact ⟨_, _, implNo c4 im⟩
      · exact far c4
abbrev LB (s : ByteArray) (pre x : List UInt8) : Prop :=
  (∃ (ls : List S79) (rest pre' : List UInt8), bl s = pre' ++ rest ∧ rest.length < x.length ∧ Ev (fun k => spec_l14List.f k s (pre.length : Int) false) (ls, s, (pre'.length : Int), false) ∧ Ev (fun k => impl_listAt.f k (ofL x)) (ls, ofL rest, true))
  ∨ ((∃ a d j, Ev (fun k => spec_l14List.f k s (pre.length : Int) false) (a, d, j, true)) ∧ ∃ a b, Ev (fun k => impl_listAt.f k (ofL x)) (a, b, false))
theorem listBoth {s : ByteArray} (hs : s.size ≤ 1073741824) {pre x : List UInt8} (h : bl s = pre ++ x) : LB s pre x := by
  obtain ⟨nb, preb, y, hb, nt, nf, is, cu⟩ := isCut h hs (⟨#[40]⟩ : ByteArray) (by decide)
  have hl := bl_len s
  rw [hb, List.length_append] at hl
  cases nb with
  | true =>
    have hr : x = 40 :: y := nt rfl
    have hy : y.length < x.length := by rw [hr]; simp
    rcases listLoop hs (y.length + 1) y preb [] (by omega) hb (by simp only [List.length_nil]; omega) with ⟨ls, r3, p3, q1, q2, q3, q4, q5⟩ | ⟨⟨a, d, j, q4⟩, ⟨a', b', q5⟩⟩
    · left
      refine ⟨ls, r3, p3, q2, by omega, ?_, ?_⟩
      · unfold spec_l14List.f
        exact ev_bindS (mustIs is) q4
      · unfold impl_listAt.f
        exact ev_bindS cu q5
    · right
      refine ⟨⟨a, d, j, ?_⟩, ⟨a', b', ?_⟩⟩
      · unfold spec_l14List.f
        exact ev_bindS (mustIs is) q4
      · unfold impl_listAt.f
        exact ev_bindS cu q5
  | false =>
    right
    have s1 := specEnd (one := true) (out := ([] : List S79)) (fun _ => rfl) (mustBad s (preb.length : Int) (⟨#[41]⟩ : ByteArray))
    refine ⟨⟨[], s, (preb.length : Int), ?_⟩, ⟨[], ⟨#[]⟩, ?_⟩⟩
    · unfold spec_l14List.f
      exact ev_bindS (mustIs is) s1
    · unfold impl_listAt.f
      exact ev_bindS cu (implFail (ok := false) nofun)
theorem ifBad (s : ByteArray) {s' : ByteArray} (out : List (List S79)) (more : Bool) (i : Int) : Ev (fun k => spec_ParseIf.l0 k s out more s' i true) (([] : List (List S79)), false) := by
  have hj : Ev (fun k => spec_ParseIf.j1 k s out false s' i true) (([] : List (List S79)), false) := by
    refine Ev.step (fun k => spec_ParseIf.j1.eq_2 ..) ?_
    refine ev_iteF nofun ?_
    exact ev_iteT rfl (Ev.now _)
  refine Ev.step (fun k => spec_ParseIf.l0.eq_2 ..) ?_
  cases more with
  | true => exact ev_iteT rfl hj
  | false => exact ev_iteF nofun hj
theorem ifBad1 (s : ByteArray) {s' : ByteArray} (out : List (List S79)) (more : Bool) (i : Int) : Ev (fun k => spec_ParseIf.l1 k s out more s' i true) (([] : List (List S79)), false) := by
  refine Ev.step (fun k => spec_ParseIf.l1.eq_2 ..) ?_
  cases more with
  | true =>
    refine ev_iteT rfl ?_
    refine ev_bindS (isBad s' i _) ?_
    refine ev_iteF nofun ?_
    exact ifBad s out true i
  | false => exact ev_iteF nofun (ifBad s out false i)
def sp32 (c : UInt8) : Bool := c == 32
theorem ifBlank {s : ByteArray} (hs : s.size ≤ 1073741824) (out : List (List S79)) : ∀ (y pre : List UInt8), bl s = pre ++ y → y ≠ [] →
    (y.dropWhile sp32 = [] → Ev (fun k => spec_ParseIf.l1 k s out true s (pre.length : Int) false) (([] : List (List S79)), false)) ∧
    (∀ r, y.dropWhile sp32 ≠ [] → (∀ pre', bl s = pre' ++ y.dropWhile sp32 → Ev (fun k => spec_ParseIf.l0 k s out true s (pre'.length : Int) false) r) → Ev (fun k => spec_ParseIf.l1 k s out true s (pre.length : Int) false) r) := by
  intro y
  induction y with
  | nil => intro pre h hn; exact absurd rfl hn
  | cons b y ih =>
    intro pre h hn
    obtain ⟨nb, preb, z, hb, nt, nf, is, cu⟩ := isCut h hs (⟨#[32]⟩ : ByteArray) (by decide)
    have hl := bl_len s
    rw [hb, List.length_append] at hl
    cases nb with
    | true =>
      obtain ⟨rfl, rfl⟩ := List.cons.inj (show b :: y = 32 :: z from nt rfl)
      have hd : (32 :: y).dropWhile sp32 = y.dropWhile sp32 := List.dropWhile_cons_of_pos rfl
      rw [hd]
      cases y with
      | nil =>
        have hbs : ((preb.length : Nat) : Int) = (s.size : Int) := by simp only [List.length_nil] at hl; omega
        have key : Ev (fun k => spec_ParseIf.l1 k s out true s (pre.length : Int) false) (([] : List (List S79)), false) := by
          refine Ev.step (fun k => spec_ParseIf.l1.eq_2 ..) ?_
          refine ev_iteT rfl ?_
          refine ev_bindS is ?_
          refine ev_iteT rfl ?_
          refine ev_iteF nofun ?_
          rw [show (((preb.length : Nat) : Int) == (s.size : Int)) = true from beq_iff_eq.2 hbs]
          exact ifBad1 s out true _
        exact ⟨fun _ => key, fun r h2 => absurd rfl h2⟩
      | cons b2 y =>
        have hbs : ¬ ((preb.length : Nat) : Int) = (s.size : Int) := by simp only [List.length_cons] at hl; omega
        obtain ⟨i1, i2⟩ := ih preb hb nofun
        have key : ∀ r, Ev (fun k => spec_ParseIf.l1 k s out true s (preb.length : Int) false) r → Ev (fun k => spec_ParseIf.l1 k s out true s (pre.length : Int) false) r := by
          intro r hr
          refine Ev.step (fun k => spec_ParseIf.l1.eq_2 ..) ?_
          refine ev_iteT rfl ?_
          refine ev_bindS is ?_
          refine ev_iteT rfl ?_
          refine ev_iteF nofun ?_
          rw [show (((preb.length : Nat) : Int) == (s.size : Int)) = false from beq_eq_false_iff_ne.2 hbs]
          exact hr
        exact ⟨fun h2 => key _ (i1 h2), fun r h2 h3 => key _ (i2 r h2 h3)⟩
    | false =>
      have hb32 : sp32 b = false := by
        cases e : sp32 b with
        | false => rfl
        | true =>
          unfold sp32 at e
          rw [beq_iff_eq] at e
          exact absurd (by rw [e]; rfl) ((nf rfl).2.2 y)
      have hd : (b :: y).dropWhile sp32 = b :: y := List.dropWhile_cons_of_neg (by rw [hb32]; decide)
      rw [hd]
      obtain ⟨rfl, rfl, _⟩ := nf rfl
      refine ⟨fun e => (by cases e), fun r _ h3 => ?_⟩
      refine Ev.step (fun k => spec_ParseIf.l1.eq_2 ..) ?_
      refine ev_iteT rfl ?_
      refine ev_bindS is ?_
      refine ev_iteF nofun ?_
      exact h3 _ h
theorem trimL (y : List UInt8) : strings_TrimLeft.f (ofL y) (⟨#[32]⟩ : ByteArray) = some (ofL (y.dropWhile sp32)) := by
  unfold strings_TrimLeft.f
  rw [if_pos ⟨by decide, by decide⟩]
  have e1 : (ofL y).data.toList = y := bl_ofL _
  have e2 : (⟨#[32]⟩ : ByteArray).data.toList = [32] := rfl
  have e3 : (fun c : UInt8 => ([32] : List UInt8).contains c) = sp32 := by
    funext c
    simp only [sp32, List.contains, List.elem]
    cases (c == 32) <;> rfl
  unfold Lib.trimLeftS
  rw [e1, e2, e3]
theorem specIfGo {s s' : ByteArray} {out : List (List S79)} {ls : List S79} {i i' : Int} {b : Bool} {r : List (List S79) × Bool} (ho : out.length < 5864062014805) (hc : Ev (fun k => spec_l14List.f k s i false) (ls, s', i', b)) (hr : Ev (fun k => spec_ParseIf.l1 k s (out ++ [ls]) (decide (i' < (s.size : Int))) s' i' b) r) : Ev (fun k => spec_ParseIf.l0 k s out true s i false) r := by
  refine Ev.step (fun k => spec_ParseIf.l0.eq_2 ..) ?_
  refine ev_iteT rfl ?_
  refine Ev.step (fun k => spec_ParseIf.j1.eq_2 ..) ?_
  refine ev_iteT rfl ?_
  refine Ev.bind hc ?_
  exact ev_iteT ho hr
theorem specIfEnd (s : ByteArray) {s' : ByteArray} (out : List (List S79)) (i : Int) : Ev (fun k => spec_ParseIf.l1 k s out false s' i false) (if (out.length : Int) > 4 then (([] : List (List S79)), false) else (out, true)) := by
  refine Ev.step (fun k => spec_ParseIf.l1.eq_2 ..) ?_
  refine ev_iteF nofun ?_
  refine Ev.step (fun k => spec_ParseIf.l0.eq_2 ..) ?_
  refine ev_iteF nofun ?_
  refine Ev.step (fun k => spec_ParseIf.j1.eq_2 ..) ?_
  refine ev_iteF nofun ?_
  refine ev_iteF nofun ?_
  exact ev_ite (fun _ => Ev.now _) (fun _ => Ev.now _)
theorem implIfNo {x : ByteArray} {out : List (List S79)} {a : List S79} {b : ByteArray} {ok : Bool} (hc : Ev (fun k => impl_listAt.f k x) (a, b, ok)) (h : ok = true → 4 ≤ out.length) : Ev (fun k => impl_ParseIf.l0 k x out) (([] : List (List S79)), false) := by
  have hj : Ev (fun k => impl_ParseIf.j1 k out a b true) (([] : List (List S79)), false) := Ev.step (fun k => impl_ParseIf.j1.eq_2 ..) (ev_iteT rfl (Ev.now _))
  refine Ev.step (fun k => impl_ParseIf.l0.eq_2 ..) ?_
  refine Ev.bind hc ?_
  cases ok with
  | true =>
    refine ev_iteT rfl ?_
    have := h rfl
    rw [decide_eq_true (show (out.length : Int) ≥ 4 by omega)]
    exact hj
  | false => exact ev_iteF nofun hj
theorem implIfGo {x : ByteArray} {out : List (List S79)} {ls : List S79} {rest : List UInt8} {r : List (List S79) × Bool} (hc : Ev (fun k => impl_listAt.f k x) (ls, ofL rest, true)) (h : out.length < 4) (h0 : rest = [] → r = (out ++ [ls], true)) (h1 : rest ≠ [] → Ev (fun k => impl_ParseIf.l0 k (ofL (rest.dropWhile sp32)) (out ++ [ls])) r) : Ev (fun k => impl_ParseIf.l0 k x out) r := by
  refine Ev.step (fun k => impl_ParseIf.l0.eq_2 ..) ?_
  refine Ev.bind hc ?_
  refine ev_iteT rfl ?_
  rw [decide_eq_false (show ¬ (out.length : Int) ≥ 4 by omega)]
  refine Ev.step (fun k => impl_ParseIf.j1.eq_2 ..) ?_
  refine ev_iteF nofun ?_
  refine ev_iteT (show out.length < 5864062014805 by omega) ?_
  refine ev_bindS rfl ?_
  have e1 : (ofL rest).toList = rest := by rw [ba_toList]
  by_cases c : rest = []
  · rw [h0 c]
    exact ev_iteT (by rw [e1]; exact c) (Ev.now _)
  · refine ev_iteF (by rw [e1]; exact c) ?_
    exact ev_bindS (trimL rest) (h1 c)
theorem ifLoop {s : ByteArray} (hs : s.size ≤ 1073741824) : ∀ (n : Nat) (x pre : List UInt8) (out : List (List S79)), x.length < n → bl s = pre ++ x → out.length + x.length ≤ 2147483648 →
    ∃ r, Ev (fun k => spec_ParseIf.l0 k s out true s (pre.length : Int) false) r ∧ (out.length ≤ 4 → Ev (fun k => impl_ParseIf.l0 k (ofL x) out) r) ∧ (4 < out.length → r = (([] : List (List S79)), false)) := by
  intro n
  induction n with
  | zero => intro x pre out hx; omega
  | succ n ih =>
    intro x pre out hx h ho
    have hol : out.length < 5864062014805 := by omega
    rcases listBoth hs h with ⟨ls, rest, pre', h1, h2, sp, im⟩ | ⟨⟨a, d, j, sp⟩, ⟨a', b', im⟩⟩
    · have hl := bl_len s
      rw [h1, List.length_append] at hl
      have hlen : (out ++ [ls]).length = out.length + 1 := by simp
      by_cases c0 : rest = []
      · subst c0
        have s1 := specIfGo hol sp (r := if ((out ++ [ls]).length : Int) > 4 then (([] : List (List S79)), false) else (out ++ [ls], true)) (by
          rw [decide_eq_false (by simp only [List.length_nil] at hl; omega)]
          exact specIfEnd s _ _)
        refine ⟨_, s1, fun h4 => ?_, fun h4 => by rw [if_pos (by omega)]⟩
        by_cases c4 : out.length < 4
        · rw [if_neg (by omega)]
          exact implIfGo im c4 (fun _ => rfl) (fun h => absurd rfl h)
        · rw [if_pos (by omega)]
          exact implIfNo im (fun _ => by omega)
      · have hpos : 0 < rest.length := List.length_pos_iff.2 c0
        have hmore : decide (((pre'.length : Nat) : Int) < (s.size : Int)) = true := decide_eq_true (by omega)
        obtain ⟨b1, b2⟩ := ifBlank hs (out ++ [ls]) rest pre' h1 c0
        by_cases c1 : rest.dropWhile sp32 = []
        · have s1 := specIfGo hol sp (by rw [hmore]; exact b1 c1)
          refine ⟨_, s1, fun h4 => ?_, fun _ => rfl⟩
          by_cases c4 : out.length < 4
          · refine implIfGo im c4 (fun h => absurd h c0) (fun _ => ?_)
            rw [c1]
            obtain ⟨nb, preb, z, hb, nt, nf, is, cu⟩ := isCut (s := ofL []) (pre := []) (x := []) (bl_ofL []) (by rw [size_ofL]; exact Nat.zero_le _) (⟨#[40]⟩ : ByteArray) (by decide)
            cases nb with
            | true => exact absurd (nt rfl) nofun
            | false =>
              refine implIfNo (a := []) (b := ⟨#[]⟩) (ok := false) ?_ nofun
              unfold impl_listAt.f
              exact ev_bindS cu (implFail (ok := false) nofun)
          · exact implIfNo im (fun _ => by omega)
        · have hdl : (rest.dropWhile sp32).length ≤ rest.length := (List.dropWhile_sublist sp32).length_le
          have hex : ∃ pre2, bl s = pre2 ++ rest.dropWhile sp32 := ⟨pre' ++ rest.takeWhile sp32, by rw [List.append_assoc, List.takeWhile_append_dropWhile]; exact h1⟩
          obtain ⟨pre2, hp2⟩ := hex
          obtain ⟨r, i1, i2, i3⟩ := ih (rest.dropWhile sp32) pre2 (out ++ [ls]) (by omega) hp2 (by omega)
          have s1 := specIfGo hol sp (by
            rw [hmore]
            refine b2 r c1 (fun pre3 hp3 => ?_)
            have : pre3 = pre2 := List.append_cancel_right (hp3.symm.trans hp2)
            rw [this]
            exact i1)
          refine ⟨r, s1, fun h4 => ?_, fun h4 => i3 (by omega)⟩
          by_cases c4 : out.length < 4
          · exact implIfGo im c4 (fun h => absurd h c0) (fun _ => i2 (by omega))
          · rw [i3 (by omega)]
            exact implIfNo im (fun _ => by omega)
    · refine ⟨_, specIfGo hol sp (ifBad1 s _ _ _), fun _ => ?_, fun _ => rfl⟩
      exact implIfNo im nofun
theorem bothIf {s : ByteArray} (hs : s.size ≤ 1073741824) : ∃ r, Ev (fun k => spec_ParseIf.f k s) r ∧ Ev (fun k => impl_ParseIf.f k s) r := by
  have hl := bl_len s
  obtain ⟨r, i1, i2, _⟩ := ifLoop hs ((bl s).length + 1) (bl s) [] [] (by omega) rfl (by simp only [List.length_nil]; omega)
  refine ⟨r, ?_, ?_⟩
  · unfold spec_ParseIf.f mkReader.f
    exact ev_bindS rfl i1
  · have := i2 (by simp)
    rw [ofL_bl] at this
    exact this
end Go.Proofs.YtigoeooelfeopaaDoor.L

/- The laws' own functions over a mirrored struct (Cond): size, copy, equality. No condition. -/
set_option linter.unusedSimpArgs false
set_option linter.unusedVariables false
namespace Go.Proofs.YtigoeooelfeopaaDoor.L
open Go.RowKit Go.Proofs.YtigoeooelfeopaaDoorW.PrintWords Go.Proofs.YtigoeooelfeopaaDoorW.PrintLast Go.Proofs.YtigoeooelfeopaaDoor.Q
instance : DecidableEq S79 := fun a b => if h : a.f0 = b.f0 ∧ a.f1 = b.f1 ∧ a.f2 = b.f2 then .isTrue (by cases a; cases b; simp_all) else .isFalse (fun e => h (by rw [e]; exact ⟨rfl, rfl, rfl⟩))
theorem rd_lawsCond {l pre suf : List S103} {a : S103} (h : l = pre ++ a :: suf) : rd_T103 l (pre.length : Int) = a := getD_at _ h
theorem rd_implCond {l pre suf : List S79} {a : S79} (h : l = pre ++ a :: suf) : rd_T79 l (pre.length : Int) = a := getD_at _ h
def toCond (p : S103) : S79 := ⟨p.f0, p.f1, p.f2⟩
def SmCond (p : S79) : Prop := True ∧ IntOk p.f1 ∧ p.f2.size ≤ 1048576
def GGCond (x : S103) : Prop := True ∧ (Lit.int .i64 x.f1).wf = true ∧ x.f2.size ≤ maxLen
theorem toCond1 {p : S103} (hp : SmCond (toCond p)) : Ev (fun k => laws_toCond.f p.f0 p.f1 p.f2) (p.f0, p.f1, p.f2) := by
  obtain ⟨g0, g1, g2⟩ := hp
  unfold laws_toCond.f
  exact Ev.now _
theorem eqCond1 {p q : S79} (hp : SmCond p) : Ev (fun k => laws_eqCond.f p.f0 p.f1 p.f2 q.f0 q.f1 q.f2) (decide (p = q)) := by
  obtain ⟨g0, g1, g2⟩ := hp
  unfold laws_eqCond.f
  by_cases e0 : p.f0 = q.f0
  rotate_left
  · rw [show decide (p = q) = false from decide_eq_false (fun h => e0 (by rw [h]))]
    simp only [ba_eq, e0, bne_iff_ne, ne_eq, not_false_eq_true, not_true_eq_false, if_true, if_false]
    exact Ev.now _
  simp only [ba_eq, e0, bne_self_eq_false, Bool.false_eq_true, if_true, if_false]
  by_cases e1 : p.f1 = q.f1
  rotate_left
  · rw [show decide (p = q) = false from decide_eq_false (fun h => e1 (by rw [h]))]
    simp only [ba_eq, e1, bne_iff_ne, ne_eq, not_false_eq_true, not_true_eq_false, if_true, if_false]
    exact Ev.now _
  simp only [ba_eq, e1, bne_self_eq_false, Bool.false_eq_true, if_true, if_false]
  by_cases e2 : p.f2 = q.f2
  rotate_left
  · rw [show decide (p = q) = false from decide_eq_false (fun h => e2 (by rw [h]))]
    simp only [ba_eq, e2, bne_iff_ne, ne_eq, not_false_eq_true, not_true_eq_false, if_true, if_false]
    exact Ev.now _
  simp only [ba_eq, e2, bne_self_eq_false, Bool.false_eq_true, if_true, if_false]
  rw [show decide (p = q) = true from decide_eq_true (by cases p; cases q; simp_all)]
  exact Ev.now _
def SmConds (l : List S79) : Prop := l.length ≤ 1048576 ∧ ∀ p ∈ l, SmCond p
theorem toCondS {p : List S103} (hp : SmConds (p.map toCond)) : Ev (fun k => laws_toCondS.f k p) (p.map toCond) := by
  obtain ⟨hl0, hs⟩ := hp
  rw [List.length_map] at hl0
  have hl2 : p.length ≤ maxLen := by rw [maxLen_eq]; omega
  unfold laws_toCondS.f
  simp only [if_pos (nonneg_at _), Int.toNat_natCast, if_pos (show p.length ≤ 8796093022208 by omega)]
  refine to_loop (l := p) (f := toCond) (fun k out i => laws_toCondS.l0 k p out i) ?_ ?_ p [] _ (List.replicate p.length z79) rfl rfl (by simp)
  · intro out
    refine Ev.step (fun k => laws_toCondS.l0.eq_2 ..) ?_
    simp only [Int.lt_irrefl, if_false]
    exact Ev.now _
  · intro pre a suf out h ho r hr
    refine Ev.step (fun k => laws_toCondS.l0.eq_2 ..) ?_
    simp only [if_pos (lt_at h), if_pos (nonneg_at _), rd_lawsCond h]
    refine Ev.bind (toCond1 (hs _ (List.mem_map.2 ⟨a, by rw [h]; simp, rfl⟩))) ?_
    simp only [if_pos ho, next_at h hl2]
    exact hr
theorem eqCondS {a b : List S79} (ha : SmConds a) : Ev (fun k => laws_eqCondS.f k a b) (decide (a = b)) := by
  have hl : a.length ≤ maxLen := by have := ha.1; rw [maxLen_eq]; omega
  unfold laws_eqCondS.f
  by_cases e : (a.length : Int) = (b.length : Int)
  · simp only [if_pos e]
    refine eq_loop (a := a) (b := b) (fun k i => laws_eqCondS.l0 k a b i) ?_ ?_ a b [] [] rfl rfl rfl (by omega)
    · refine Ev.step (fun k => laws_eqCondS.l0.eq_2 ..) ?_
      simp only [Int.lt_irrefl, if_false]
      exact Ev.now _
    · intro pre x su pre' y sv h h' hp
      have h3 := rd_implCond h'
      have h4 := lt_at h'
      rw [← hp] at h3 h4
      have h5 := eqCond1 (q := y) (ha.2 x (by rw [h]; simp))
      refine ⟨fun hne => ?_, fun heq r hr => ?_⟩
      · refine Ev.step (fun k => laws_eqCondS.l0.eq_2 ..) ?_
        simp only [if_pos (lt_at h), if_pos (nonneg_at _), if_pos h4, rd_implCond h, h3]
        refine Ev.bind h5 ?_
        simp only [hne, decide_false, Bool.false_eq_true, if_false]
        exact Ev.now _
      · refine Ev.step (fun k => laws_eqCondS.l0.eq_2 ..) ?_
        simp only [if_pos (lt_at h), if_pos (nonneg_at _), if_pos h4, rd_implCond h, h3]
        refine Ev.bind h5 ?_
        simp only [heq, decide_true, if_true, next_at h hl]
        rw [heq] at hr
        exact hr
  · simp only [if_neg e]
    rw [show decide (a = b) = false from decide_eq_false (fun h => e (by rw [h]))]
    exact Ev.now _
end Go.Proofs.YtigoeooelfeopaaDoor.L

/- The laws' own functions over lists of lists of conditions: size, copy, equality. No condition. -/
set_option linter.unusedSimpArgs false
set_option linter.unusedVariables false
namespace Go.Proofs.YtigoeooelfeopaaDoor.L
open Go.RowKit Go.Proofs.YtigoeooelfeopaaDoorW.PrintWords Go.Proofs.YtigoeooelfeopaaDoorW.PrintLast Go.Proofs.YtigoeooelfeopaaDoor.Q
theorem rd_lawsCondL {l pre suf : List (List S103)} {a : List S103} (h : l = pre ++ a :: suf) : rd_L14 l (pre.length : Int) = a := getD_at _ h
theorem rd_implCondL {l pre suf : List (List S79)} {a : List S79} (h : l = pre ++ a :: suf) : rd_L16 l (pre.length : Int) = a := getD_at _ h
def SmCondss (l : List (List S79)) : Prop := l.length ≤ 1048576 ∧ ∀ s ∈ l, SmConds s
theorem toCondSS {p : List (List S103)} (hp : SmCondss (p.map (List.map toCond))) : Ev (fun k => laws_toCondSS.f k p) (p.map (List.map toCond)) := by
  obtain ⟨hl0, hs⟩ := hp
  rw [List.length_map] at hl0
  have hl2 : p.length ≤ maxLen := by rw [maxLen_eq]; omega
  unfold laws_toCondSS.f
  simp only [if_pos (nonneg_at _), Int.toNat_natCast, if_pos (show p.length ≤ 11728124029610 by omega)]
  refine to_loop (l := p) (f := List.map toCond) (fun k out i => laws_toCondSS.l0 k p out i) ?_ ?_ p [] _ (List.replicate p.length []) rfl rfl (by simp)
  · intro out
    refine Ev.step (fun k => laws_toCondSS.l0.eq_2 ..) ?_
    simp only [Int.lt_irrefl, if_false]
    exact Ev.now _
  · intro pre a suf out h ho r hr
    refine Ev.step (fun k => laws_toCondSS.l0.eq_2 ..) ?_
    simp only [if_pos (lt_at h), if_pos (nonneg_at _), rd_lawsCondL h, next_at h hl2]
    refine Ev.bind (toCondS (hs _ (List.mem_map.2 ⟨a, by rw [h]; simp, rfl⟩))) ?_
    simp only [if_pos ho]
    exact hr
theorem eqCondSS {a b : List (List S79)} (ha : SmCondss a) : Ev (fun k => laws_eqCondSS.f k a b) (decide (a = b)) := by
  have hl : a.length ≤ maxLen := by have := ha.1; rw [maxLen_eq]; omega
  unfold laws_eqCondSS.f
  by_cases e : (a.length : Int) = (b.length : Int)
  · simp only [if_pos e]
    refine eq_loop (a := a) (b := b) (fun k i => laws_eqCondSS.l0 k a b i) ?_ ?_ a b [] [] rfl rfl rfl (by omega)
    · refine Ev.step (fun k => laws_eqCondSS.l0.eq_2 ..) ?_
      simp only [Int.lt_irrefl, if_false]
      exact Ev.now _
    · intro pre x su pre' y sv h h' hp
      have h3 := rd_implCondL h'
      have h4 := lt_at h'
      rw [← hp] at h3 h4
      have hx := ha.2 x (by rw [h]; simp)
      refine ⟨fun hne => ?_, fun heq r hr => ?_⟩
      · refine Ev.step (fun k => laws_eqCondSS.l0.eq_2 ..) ?_
        simp only [if_pos (lt_at h), if_pos (nonneg_at _), if_pos h4, rd_implCondL h, h3]
        refine Ev.bind (eqCondS hx) ?_
        simp only [hne, decide_false, Bool.false_eq_true, if_false]
        exact Ev.now _
      · refine Ev.step (fun k => laws_eqCondSS.l0.eq_2 ..) ?_
        simp only [if_pos (lt_at h), if_pos (nonneg_at _), if_pos h4, rd_implCondL h, h3]
        refine Ev.bind (eqCondS hx) ?_
        simp only [heq, decide_true, if_true, next_at h hl]
        rw [heq] at hr
        exact hr
  · simp only [if_neg e]
    rw [show decide (a = b) = false from decide_eq_false (fun h => e (by rw [h]))]
    exact Ev.now _
end Go.Proofs.YtigoeooelfeopaaDoor.L

/- Conditions written as a text, by both; the sum of their sizes. No condition. -/
set_option linter.unusedSimpArgs false
set_option linter.unusedVariables false
namespace Go.Proofs.YtigoeooelfeopaaDoor.L
open Go.RowKit Go.Proofs.YtigoeooelfeopaaDoorW.PrintWords Go.Proofs.YtigoeooelfeopaaDoorW.PrintLast Go.Proofs.YtigoeooelfeopaaDoor.Q
theorem mem_sum {α : Type} {w : α → Nat} : ∀ {l : List α} {a : α}, a ∈ l → w a ≤ (l.map w).sum := by
  intro l
  induction l with
  | nil => intro a h; simp at h
  | cons b l ih =>
    intro a h
    simp only [List.map_cons, List.sum_cons]
    rcases List.mem_cons.1 h with rfl | h
    · omega
    · have := ih h; omega
theorem sum_loop {α : Type} {l : List α} {w : α → Nat} (g : Nat → Int → Int → Option Int) (hend : ∀ n, Ev (fun k => g k n l.length) n)
    (hstep : ∀ pre a suf n, l = pre ++ a :: suf → 0 ≤ n → n ≤ 1048576 → Ev (fun k => g k n (pre.length : Int)) (-1) ∨ ((w a : Int) ≤ n ∧ ∀ r, Ev (fun k => g k (n - (w a : Int)) ((pre ++ [a]).length : Int)) r → Ev (fun k => g k n (pre.length : Int)) r)) :
    ∀ (suf pre : List α) (n : Int), l = pre ++ suf → 0 ≤ n → n ≤ 1048576 → Ev (fun k => g k n (pre.length : Int)) (-1) ∨ ((((suf.map w).sum : Nat) : Int) ≤ n ∧ Ev (fun k => g k n (pre.length : Int)) (n - (((suf.map w).sum : Nat) : Int))) := by
  intro suf
  induction suf with
  | nil =>
    intro pre n h h0 h1
    have := hend n
    rw [h, List.append_nil] at this
    right
    simp only [List.map_nil, List.sum_nil, Int.natCast_zero, Int.sub_zero]
    exact ⟨h0, this⟩
  | cons a suf ih =>
    intro pre n h h0 h1
    rcases hstep pre a suf n h h0 h1 with h2 | ⟨hw, hr⟩
    · exact .inl h2
    · rcases ih (pre ++ [a]) (n - (w a : Int)) (snoc_at h) (by omega) (by omega) with h3 | ⟨h3, h4⟩
      · exact .inl (hr _ h3)
      · right
        simp only [List.map_cons, List.sum_cons]
        refine ⟨by omega, hr _ (ev_cast h4 (by omega))⟩
def w1 (c : S103) : Nat := c.f2.size
def w2 (l : List S103) : Nat := (l.map w1).sum + l.length
def w3 (l : List (List S103)) : Nat := (l.map w2).sum + l.length
theorem sum1 {p : S103} (hp : GGCond p) {n : Int} (h0 : 0 ≤ n) (h1 : n ≤ 1048576) : Ev (fun k => laws_szCond.f p.f0 p.f1 p.f2 n) (-1) ∨ ((w1 p : Int) ≤ n ∧ Ev (fun k => laws_szCond.f p.f0 p.f1 p.f2 n) (n - (w1 p : Int))) := by
  obtain ⟨g0, g1, g2⟩ := hp
  unfold laws_szCond.f w1
  have e2 := wrap_id (x := n - (p.f2.size : Int)) (by rw [maxLen_eq] at g2; omega) (by omega)
  simp only [e2]
  by_cases c : n - (p.f2.size : Int) < 0
  · simp only [if_pos c]; exact .inl (Ev.now _)
  · simp only [if_neg c]; exact .inr ⟨by omega, Ev.now _⟩
theorem sum2 {l : List S103} (hl : l.length ≤ maxLen) (hs : ∀ s ∈ l, GGCond s) {n : Int} (h0 : 0 ≤ n) (h1 : n ≤ 1048576) : Ev (fun k => laws_szCondS.f k l n) (-1) ∨ ((w2 l : Int) ≤ n ∧ Ev (fun k => laws_szCondS.f k l n) (n - (w2 l : Int))) := by
  have hl' := hl
  rw [maxLen_eq] at hl'
  unfold laws_szCondS.f w2
  simp only [wrap_id (x := n - (l.length : Int)) (by omega) (by omega)]
  by_cases c : n - (l.length : Int) < 0
  · simp only [if_pos c]; exact .inl (Ev.now _)
  simp only [if_neg c]
  have key := sum_loop (l := l) (w := w1) (fun k n i => laws_szCondS.l0 k l n i) (fun n => by
      refine Ev.step (fun k => laws_szCondS.l0.eq_2 ..) ?_
      simp only [Int.lt_irrefl, if_false]
      exact Ev.now _) (fun pre a suf n h h0 h1 => by
      rcases sum1 (hs a (by rw [h]; simp)) h0 h1 with h2 | ⟨hw, h2⟩
      · left
        refine Ev.step (fun k => laws_szCondS.l0.eq_2 ..) ?_
        simp only [if_pos (lt_at h), if_pos (nonneg_at _), rd_lawsCond h]
        refine Ev.bind h2 ?_
        simp only [show (-1 : Int) < 0 by omega, if_true]
        exact Ev.now _
      · refine .inr ⟨hw, fun r hr => ?_⟩
        refine Ev.step (fun k => laws_szCondS.l0.eq_2 ..) ?_
        simp only [if_pos (lt_at h), if_pos (nonneg_at _), rd_lawsCond h]
        refine Ev.bind h2 ?_
        simp only [if_neg (show ¬ n - (w1 a : Int) < 0 by omega), next_at h hl]
        exact hr) l [] (n - (l.length : Int)) rfl (by omega) (by omega)
  rcases key with h | ⟨hw, h2⟩
  · exact .inl h
  · exact .inr ⟨by omega, ev_cast h2 (by omega)⟩
theorem sum3 {l : List (List S103)} (hl : l.length ≤ maxLen) (hs : ∀ s ∈ l, s.length ≤ maxLen ∧ ∀ y ∈ s, GGCond y) {n : Int} (h0 : 0 ≤ n) (h1 : n ≤ 1048576) : Ev (fun k => laws_szCondSS.f k l n) (-1) ∨ ((w3 l : Int) ≤ n ∧ Ev (fun k => laws_szCondSS.f k l n) (n - (w3 l : Int))) := by
  have hl' := hl
  rw [maxLen_eq] at hl'
  unfold laws_szCondSS.f w3
  simp only [wrap_id (x := n - (l.length : Int)) (by omega) (by omega)]
  by_cases c : n - (l.length : Int) < 0
  · simp only [if_pos c]; exact .inl (Ev.now _)
  simp only [if_neg c]
  have key := sum_loop (l := l) (w := w2) (fun k n i => laws_szCondSS.l0 k l n i) (fun n => by
      refine Ev.step (fun k => laws_szCondSS.l0.eq_2 ..) ?_
      simp only [Int.lt_irrefl, if_false]
      exact Ev.now _) (fun pre a suf n h h0 h1 => by
      have ha := hs a (by rw [h]; simp)
      rcases sum2 ha.1 ha.2 h0 h1 with h2 | ⟨hw, h2⟩
      · left
        refine Ev.step (fun k => laws_szCondSS.l0.eq_2 ..) ?_
        simp only [if_pos (lt_at h), if_pos (nonneg_at _), rd_lawsCondL h]
        refine Ev.bind h2 ?_
        simp only [show (-1 : Int) < 0 by omega, if_true]
        exact Ev.now _
      · refine .inr ⟨hw, fun r hr => ?_⟩
        refine Ev.step (fun k => laws_szCondSS.l0.eq_2 ..) ?_
        simp only [if_pos (lt_at h), if_pos (nonneg_at _), rd_lawsCondL h, next_at h hl]
        refine Ev.bind h2 ?_
        simp only [if_neg (show ¬ n - (w2 a : Int) < 0 by omega)]
        exact hr) l [] (n - (l.length : Int)) rfl (by omega) (by omega)
  rcases key with h | ⟨hw, h2⟩
  · exact .inl h
  · exact .inr ⟨by omega, ev_cast h2 (by omega)⟩
theorem sm3 {l : List (List S103)} (hs : ∀ s ∈ l, s.length ≤ maxLen ∧ ∀ y ∈ s, GGCond y) (h : w3 l ≤ 1048576) : SmCondss (l.map (List.map toCond)) := by
  unfold w3 at h
  refine ⟨by rw [List.length_map]; omega, fun s hs' => ?_⟩
  obtain ⟨q, hq, rfl⟩ := List.mem_map.1 hs'
  have h2 := mem_sum (w := w2) hq
  have h3 : w2 q = (q.map w1).sum + q.length := rfl
  refine ⟨by rw [List.length_map]; omega, fun c hc => ?_⟩
  obtain ⟨p, hp, rfl⟩ := List.mem_map.1 hc
  have h4 := mem_sum (w := w1) hp
  have h5 : w1 p = p.f2.size := rfl
  exact ⟨trivial, wf_int ((hs q hq).2 p hp).2.1, show p.f2.size ≤ 1048576 by omega⟩
abbrev NOT : List UInt8 := [78, 111, 116, 32]
def condT (c : S79) : List UInt8 := (if c.f0 = true then NOT else []) ++ (if c.f1 = 0 then 91 :: (bl c.f2 ++ [93]) else 60 :: (Lib.decDigits c.f1.toNat ++ [62]))
def glue (first : Bool) : List (List UInt8) → List UInt8
  | [] => []
  | a :: r => (if first = true then a else 32 :: a) ++ glue false r
theorem glue_cons (first : Bool) (a : List UInt8) (r : List (List UInt8)) : glue first (a :: r) = (if first = true then a else 32 :: a) ++ glue false r := rfl
theorem join_glue (r : List (List UInt8)) : Lib.join r [32] = glue true r := by
  have tail : ∀ r : List (List UInt8), Lib.joinTail [32] r = glue false r := by
    intro r
    induction r with
    | nil => rfl
    | cons a r ih => rw [glue_cons, ← ih]; simp [Lib.joinTail]
  cases r with
  | nil => rfl
  | cons a r => rw [Lib.join_cons, tail, glue_cons]; rfl
def listT (l : List S79) : List UInt8 := 40 :: (glue true (l.map condT) ++ [41])
def textT (l : List (List S79)) : List UInt8 := glue true (l.map listT)
theorem glue_len (r : List (List UInt8)) (f : Bool) : (glue f r).length ≤ (r.map (fun x => x.length + 1)).sum := by
  induction r generalizing f with
  | nil => exact Nat.le_refl _
  | cons a r ih =>
    have := ih false
    rw [glue_cons]
    simp only [List.map_cons, List.sum_cons, List.length_append]
    cases f <;> simp <;> omega
theorem condT_len {c : S79} (h : SmCond c) : (condT c).length ≤ 27 + c.f2.size := by
  obtain ⟨_, h1, h2⟩ := h
  have h3 := bl_len c.f2
  have h4 := num_len c.f1.toNat (by have := h1.2; omega)
  unfold condT
  rw [List.length_append]
  have a1 : (if c.f0 = true then NOT else []).length ≤ 4 := by split <;> simp
  have a2 : (if c.f1 = 0 then 91 :: (bl c.f2 ++ [93]) else 60 :: (Lib.decDigits c.f1.toNat ++ [62])).length ≤ 23 + c.f2.size := by
    split
    · simp only [List.length_cons, List.length_append, List.length_nil]; omega
    · simp only [List.length_cons, List.length_append, List.length_nil]; omega
  omega
theorem listT_len {l : List S103} (h : SmConds (l.map toCond)) : (listT (l.map toCond)).length ≤ 2 + 28 * w2 l := by
  have key : ∀ l : List S103, (∀ c ∈ l, SmCond (toCond c)) → (((l.map toCond).map condT).map (fun x => x.length + 1)).sum ≤ 28 * w2 l := by
    intro l
    induction l with
    | nil => intro _; exact Nat.zero_le _
    | cons c l ih =>
      intro hc
      have i1 := ih (fun x hx => hc x (List.mem_cons_of_mem _ hx))
      have i2 := condT_len (hc c (List.mem_cons_self ..))
      have i3 : (toCond c).f2.size = w1 c := rfl
      simp only [w2, List.map_cons, List.sum_cons, List.length_cons] at i1 ⊢
      omega
  have h1 := key l (fun c hc => h.2 _ (List.mem_map.2 ⟨c, hc, rfl⟩))
  have h2 := glue_len ((l.map toCond).map condT) true
  simp only [listT, List.length_cons, List.length_append, List.length_nil]
  omega
theorem textT_len {l : List (List S103)} (h : SmCondss (l.map (List.map toCond))) : (textT (l.map (List.map toCond))).length ≤ 28 * w3 l := by
  have key : ∀ l : List (List S103), (∀ c ∈ l, SmConds (c.map toCond)) → (((l.map (List.map toCond)).map listT).map (fun x => x.length + 1)).sum ≤ 28 * w3 l := by
    intro l
    induction l with
    | nil => intro _; exact Nat.zero_le _
    | cons c l ih =>
      intro hc
      have i1 := ih (fun x hx => hc x (List.mem_cons_of_mem _ hx))
      have i2 := listT_len (hc c (List.mem_cons_self ..))
      simp only [w3, List.map_cons, List.sum_cons, List.length_cons] at i1 ⊢
      omega
  have h1 := key l (fun c hc => h.2 _ (List.mem_map.2 ⟨c, hc, rfl⟩))
  have h2 := glue_len ((l.map (List.map toCond)).map listT) true
  unfold textT
  omega
theorem specOne {c : S79} (h : SmCond c) : Ev (fun k => spec_l14OneText.f k c.f0 c.f1 c.f2) (ofL (condT c)) := by
  obtain ⟨_, h1, h2⟩ := h
  obtain ⟨t, e1, e2, e3, e4⟩ := numBoth c.f1 (by have := h1.2; omega)
  have e5 : bl t = Lib.decDigits c.f1.toNat := e3
  unfold spec_l14OneText.f condT
  by_cases c0 : c.f0 = true
  · by_cases c1 : c.f1 = 0
    · have hs : (((⟨#[78, 111, 116, 32]⟩ : ByteArray) ++ (⟨#[91]⟩ : ByteArray)) ++ c.f2).size = 5 + c.f2.size := by rw [ByteArray.size_append, ByteArray.size_append]; rfl
      simp only [if_pos c0, if_pos c1, hs, if_pos (show 4 + 1 ≤ 9223372036854775807 by omega), if_pos (show 4 + c.f2.size ≤ 9223372036854775807 by omega), if_pos (show 5 + c.f2.size + 1 ≤ 9223372036854775807 by omega)]
      refine ev_cast (Ev.now _) (of_bl ?_)
      rw [bl_append, bl_append, bl_append]; simp; rfl
    · have hs : (((⟨#[78, 111, 116, 32]⟩ : ByteArray) ++ (⟨#[60]⟩ : ByteArray)) ++ t).size = 5 + t.size := by rw [ByteArray.size_append, ByteArray.size_append]; rfl
      simp only [if_pos c0, if_neg c1, if_pos (show 4 + 1 ≤ 9223372036854775807 by omega)]
      refine Ev.bind e1 ?_
      simp only [hs, if_pos (show 4 + t.size ≤ 9223372036854775807 by omega), if_pos (show 5 + t.size + 1 ≤ 9223372036854775807 by omega)]
      refine ev_cast (Ev.now _) (of_bl ?_)
      rw [bl_append, bl_append, bl_append, e5]; simp; rfl
  · by_cases c1 : c.f1 = 0
    · have hs : (((⟨#[]⟩ : ByteArray) ++ (⟨#[91]⟩ : ByteArray)) ++ c.f2).size = 1 + c.f2.size := by rw [ByteArray.size_append, ByteArray.size_append]; rfl
      simp only [if_neg c0, if_pos c1, hs, if_pos (show 0 + 1 ≤ 9223372036854775807 by omega), if_pos (show 1 + c.f2.size ≤ 9223372036854775807 by omega), if_pos (show 1 + c.f2.size + 1 ≤ 9223372036854775807 by omega)]
      refine ev_cast (Ev.now _) (of_bl ?_)
      rw [bl_append, bl_append, bl_append]; simp; rfl
    · have hs : (((⟨#[]⟩ : ByteArray) ++ (⟨#[60]⟩ : ByteArray)) ++ t).size = 1 + t.size := by rw [ByteArray.size_append, ByteArray.size_append]; rfl
      simp only [if_neg c0, if_neg c1, if_pos (show 0 + 1 ≤ 9223372036854775807 by omega)]
      refine Ev.bind e1 ?_
      simp only [hs, if_pos (show 1 + t.size ≤ 9223372036854775807 by omega), if_pos (show 1 + t.size + 1 ≤ 9223372036854775807 by omega)]
      refine ev_cast (Ev.now _) (of_bl ?_)
      rw [bl_append, bl_append, bl_append, e5]; simp; rfl
theorem app_ofL (a b : List UInt8) : ofL a ++ ofL b = ofL (a ++ b) := of_bl (by rw [bl_append, bl_ofL, bl_ofL])
theorem app_lit (a : List UInt8) (b : UInt8) : ofL a ++ (⟨#[b]⟩ : ByteArray) = ofL (a ++ [b]) := app_ofL a [b]
theorem nil_iff {α : Type} (p : List α) : ((p.length : Int) > 0) = (p.isEmpty = false) := by cases p <;> simp <;> omega
theorem specT1 {L pre post : List (List S79)} {l : List S79} (h : L = pre ++ l :: post) (hL : L.length ≤ maxLen) (hl : SmConds l) {r : ByteArray} : ∀ (q p : List S79) (acc : List UInt8), l = p ++ q → (acc ++ glue p.isEmpty (q.map condT)).length ≤ 1073741824 →
    Ev (fun k => spec_IfText.l0 k L (ofL (acc ++ glue p.isEmpty (q.map condT) ++ [41])) ((pre ++ [l]).length : Int)) r → Ev (fun k => spec_IfText.l1 k L (ofL acc) (pre.length : Int) (p.length : Int)) r := by
  have hlm : l.length ≤ maxLen := by have := hl.1; rw [maxLen_eq]; omega
  intro q
  induction q with
  | nil =>
    intro p acc e hs hr
    rw [List.append_nil] at e
    simp only [List.map_nil, glue, List.append_nil] at hs hr
    refine Ev.step (fun k => spec_IfText.l1.eq_2 ..) ?_
    rw [rd_implCondL h]
    refine ev_iteT (nonneg_at _) ?_
    refine ev_iteT (lt_at h) ?_
    refine ev_iteF (by rw [e]; omega) ?_
    refine ev_iteT (by rw [size_ofL]; omega) ?_
    rw [app_lit, next_at h hL]
    exact hr
  | cons c q ih =>
    intro p acc e hs hr
    have hc : SmCond c := hl.2 c (by rw [e]; simp)
    have ho := specOne hc
    have hcl := condT_len hc
    have hc3 := hc.2.2
    rw [List.map_cons, glue_cons] at hs hr
    refine Ev.step (fun k => spec_IfText.l1.eq_2 ..) ?_
    rw [rd_implCondL h, rd_implCond e, next_at e hlm]
    refine ev_iteT (nonneg_at _) ?_
    refine ev_iteT (lt_at h) ?_
    refine ev_iteT (lt_at e) ?_
    have hne : (p ++ [c]).isEmpty = false := by cases p <;> rfl
    have i1 := fun acc => ih (p ++ [c]) acc (by rw [e]; simp)
    rw [hne] at i1
    cases hp : p.isEmpty with
    | false =>
      rw [hp] at hs hr
      simp only [Bool.false_eq_true, if_false] at hs hr
      refine ev_iteT (by rw [nil_iff]; exact hp) ?_
      simp only [List.length_append, List.length_cons] at hs
      refine ev_iteT (by rw [size_ofL]; omega) ?_
      refine ev_iteT (nonneg_at _) ?_
      refine Ev.bind ho ?_
      rw [app_lit, app_ofL]
      refine ev_iteT (by rw [size_ofL, size_ofL]; simp only [List.length_append, List.length_cons, List.length_nil]; omega) ?_
      refine i1 _ (by simp only [List.length_append, List.length_cons, List.length_nil]; omega) ?_
      simpa using hr
    | true =>
      rw [hp] at hs hr
      simp only [if_true] at hs hr
      refine ev_iteF (by rw [nil_iff, hp]; exact nofun) ?_
      simp only [List.length_append, List.length_cons] at hs
      refine ev_iteT (nonneg_at _) ?_
      refine Ev.bind ho ?_
      rw [app_ofL]
      refine ev_iteT (by rw [size_ofL, size_ofL]; omega) ?_
      refine i1 _ (by simp only [List.length_append, List.length_cons, List.length_nil]; omega) ?_
      simpa using hr
theorem specT0 {L : List (List S79)} (hL : SmCondss L) {r : ByteArray} : ∀ (post pre : List (List S79)) (acc : List UInt8), L = pre ++ post → (acc ++ glue pre.isEmpty (post.map listT)).length ≤ 1073741824 →
    Ev (fun k => spec_IfText.l0 k L (ofL (acc ++ glue pre.isEmpty (post.map listT))) (L.length : Int)) r → Ev (fun k => spec_IfText.l0 k L (ofL acc) (pre.length : Int)) r := by
  have hm : L.length ≤ maxLen := by have := hL.1; rw [maxLen_eq]; omega
  intro post
  induction post with
  | nil =>
    intro pre acc e hs hr
    rw [List.append_nil] at e
    simp only [List.map_nil, glue, List.append_nil, e] at hr
    rw [e]
    exact hr
  | cons l post ih =>
    intro pre acc e hs hr
    have hl := hL.2 l (by rw [e]; simp)
    rw [List.map_cons, glue_cons] at hs hr
    have hne : (pre ++ [l]).isEmpty = false := by cases pre <;> rfl
    have i1 := fun acc => ih (pre ++ [l]) acc (by rw [e]; simp)
    rw [hne] at i1
    have hll : (listT l).length = 2 + (glue true (l.map condT)).length := by simp only [listT, List.length_cons, List.length_append, List.length_nil]; omega
    have hgo : ∀ acc2 : List UInt8, (acc2 ++ listT l ++ glue false (post.map listT)).length ≤ 1073741824 → Ev (fun k => spec_IfText.l0 k L (ofL (acc2 ++ listT l ++ glue false (post.map listT))) (L.length : Int)) r → Ev (fun k => spec_IfText.j1 k L (ofL acc2) (pre.length : Int)) r := by
      intro acc2 hs2 hr2
      simp only [List.length_append] at hs2
      refine Ev.step (fun k => spec_IfText.j1.eq_2 ..) ?_
      refine ev_iteT (by rw [size_ofL]; omega) ?_
      rw [app_lit]
      refine specT1 e hm hl l [] (acc2 ++ [40]) rfl (by simp only [List.isEmpty_nil, List.length_append, List.length_cons, List.length_nil]; omega) ?_
      refine i1 _ ?_ ?_
      · simp only [List.isEmpty_nil, List.length_append, List.length_cons, List.length_nil]; omega
      · simp only [listT, List.isEmpty_nil, List.append_assoc, List.cons_append, List.nil_append, List.singleton_append] at hr2 ⊢
        exact hr2
    refine Ev.step (fun k => spec_IfText.l0.eq_2 ..) ?_
    refine ev_iteT (lt_at e) ?_
    cases hp : pre.isEmpty with
    | false =>
      rw [hp] at hs hr
      simp only [Bool.false_eq_true, if_false] at hs hr
      refine ev_iteT (by rw [nil_iff]; exact hp) ?_
      simp only [List.length_append, List.length_cons] at hs
      refine ev_iteT (by rw [size_ofL]; omega) ?_
      rw [app_lit]
      refine hgo _ (by simp only [List.length_append, List.length_cons, List.length_nil]; omega) ?_
      simpa using hr
    | true =>
      rw [hp] at hs hr
      simp only [if_true] at hs hr
      refine ev_iteF (by rw [nil_iff, hp]; exact nofun) ?_
      simp only [List.length_append] at hs
      refine hgo acc (by simp only [List.length_append]; omega) ?_
      simpa using hr
theorem map_ofL (X : List (List UInt8)) : (X.map ofL).map (·.data.toList) = X := by
  rw [List.map_map]
  have : ((fun x : ByteArray => x.data.toList) ∘ ofL) = id := by funext x; exact bl_ofL x
  rw [this, List.map_id]
theorem joinB {X : List (List UInt8)} (h1 : X.length ≤ 1073741824) (h2 : (glue true X).length ≤ 1073741824) : strings_Join.f (X.map ofL) (⟨#[32]⟩ : ByteArray) = some (ofL (glue true X)) := by
  have e : Lib.join ((X.map ofL).map (·.data.toList)) (⟨#[32]⟩ : ByteArray).data.toList = glue true X := by rw [map_ofL]; exact join_glue X
  unfold strings_Join.f
  rw [e, if_pos ⟨by rw [List.length_map]; omega, by omega⟩]
theorem implOneT {c : S79} (h1 : IntOk c.f1) : (c.f1 = 0 → c.f0 = true → (⟨#[78, 111, 116, 32]⟩ : ByteArray) ++ (((⟨#[91]⟩ : ByteArray) ++ c.f2) ++ (⟨#[93]⟩ : ByteArray)) = ofL (condT c)) ∧ (c.f1 = 0 → ¬ c.f0 = true → ((⟨#[91]⟩ : ByteArray) ++ c.f2) ++ (⟨#[93]⟩ : ByteArray) = ofL (condT c)) ∧
    ∃ t, impl_NumText.f c.f1 = some t ∧ t.size ≤ 21 ∧ (¬ c.f1 = 0 → c.f0 = true → (⟨#[78, 111, 116, 32]⟩ : ByteArray) ++ (((⟨#[60]⟩ : ByteArray) ++ t) ++ (⟨#[62]⟩ : ByteArray)) = ofL (condT c)) ∧ (¬ c.f1 = 0 → ¬ c.f0 = true → ((⟨#[60]⟩ : ByteArray) ++ t) ++ (⟨#[62]⟩ : ByteArray) = ofL (condT c)) := by
  obtain ⟨t, e1, e2, e3, e4⟩ := numBoth c.f1 (by have := h1.2; omega)
  have e5 : bl t = Lib.decDigits c.f1.toNat := e3
  refine ⟨fun a b => ?_, fun a b => ?_, t, e2, e4, fun a b => ?_, fun a b => ?_⟩
  all_goals refine of_bl ?_; simp only [bl_append, condT, a, b, if_true, if_false, e5]; simp; rfl
theorem implT1 {L pre post : List (List S79)} {l : List S79} {out : List ByteArray} (h : L = pre ++ l :: post) (hL : L.length ≤ maxLen) (hl : SmConds l) (ho : out.length ≤ 1048576) (hs : (glue true (l.map condT)).length ≤ 1073741824) {r : ByteArray}
    (hr : Ev (fun k => impl_IfText.l0 k L (out ++ [ofL (listT l)]) L (L.length : Int) ((pre ++ [l]).length : Int)) r) : ∀ (q p : List S79), l = p ++ q →
    Ev (fun k => impl_IfText.l1 k L out ((p.map condT).map ofL) L (L.length : Int) (pre.length : Int) l (l.length : Int) (p.length : Int)) r := by
  have hlm : l.length ≤ maxLen := by have := hl.1; rw [maxLen_eq]; omega
  intro q
  induction q with
  | nil =>
    intro p e
    rw [List.append_nil] at e
    subst e
    refine Ev.step (fun k => impl_IfText.l1.eq_2 ..) ?_
    refine ev_iteF (Int.lt_irrefl _) ?_
    refine ev_bindS (joinB (by rw [List.length_map]; have := hl.1; omega) hs) ?_
    have hz : ((⟨#[40]⟩ : ByteArray) ++ ofL (glue true (l.map condT))).size = 1 + (glue true (l.map condT)).length := by rw [ByteArray.size_append, size_ofL]; rfl
    have hx : ((⟨#[40]⟩ : ByteArray) ++ ofL (glue true (l.map condT))) ++ (⟨#[41]⟩ : ByteArray) = ofL (listT l) := by
      refine of_bl ?_
      rw [bl_append, bl_append, bl_ofL]; rfl
    refine ev_iteT (show 1 + (ofL (glue true (l.map condT))).size ≤ _ by rw [size_ofL]; omega) ?_
    refine ev_iteT (by rw [hz]; omega) ?_
    refine ev_iteT (show out.length < 8796093022208 by omega) ?_
    rw [hx, next_at h hL]
    exact hr
  | cons c q ih =>
    intro p e
    have hc : SmCond c := hl.2 c (by rw [e]; simp)
    obtain ⟨t1, t2, t, t3, t4, t5, t6⟩ := implOneT hc.2.1
    have hc3 := hc.2.2
    have i1 := ih (p ++ [c]) (by rw [e]; simp)
    rw [List.map_append, List.map_append, List.map_cons, List.map_cons, List.map_nil, List.map_nil] at i1
    have hpl : ((p.map condT).map ofL).length < 8796093022208 := by
      rw [List.length_map, List.length_map]
      have := hl.1
      rw [e, List.length_append] at this
      omega
    refine Ev.step (fun k => impl_IfText.l1.eq_2 ..) ?_
    rw [rd_implCond e, next_at e hlm]
    refine ev_iteT (lt_at e) ?_
    refine ev_iteT (nonneg_at _) ?_
    refine ev_iteT (lt_at e) ?_
    refine ev_iteT (show 1 + c.f2.size ≤ 9223372036854775807 by omega) ?_
    have z1 : ((⟨#[91]⟩ : ByteArray) ++ c.f2).size = 1 + c.f2.size := by rw [ByteArray.size_append]; rfl
    have z2 : (((⟨#[91]⟩ : ByteArray) ++ c.f2) ++ (⟨#[93]⟩ : ByteArray)).size = 1 + c.f2.size + 1 := by rw [ByteArray.size_append, z1]; rfl
    have z3 : ((⟨#[60]⟩ : ByteArray) ++ t).size = 1 + t.size := by rw [ByteArray.size_append]; rfl
    have z4 : (((⟨#[60]⟩ : ByteArray) ++ t) ++ (⟨#[62]⟩ : ByteArray)).size = 1 + t.size + 1 := by rw [ByteArray.size_append, z3]; rfl
    refine ev_iteT (by rw [z1]; omega) ?_
    by_cases c1 : c.f1 = 0
    · refine ev_iteT c1 ?_
      by_cases c0 : c.f0 = true
      · refine ev_iteT c0 ?_
        refine ev_iteT (by rw [z2]; omega) ?_
        refine ev_iteT hpl ?_
        rw [t1 c1 c0]
        exact i1
      · refine ev_iteF c0 ?_
        refine ev_iteT hpl ?_
        rw [t2 c1 c0]
        exact i1
    · refine ev_iteF c1 ?_
      refine ev_bindS t3 ?_
      refine ev_iteT (show 1 + t.size ≤ 9223372036854775807 by omega) ?_
      refine ev_iteT (by rw [z3]; omega) ?_
      by_cases c0 : c.f0 = true
      · refine ev_iteT c0 ?_
        refine ev_iteT (by rw [z4]; omega) ?_
        refine ev_iteT hpl ?_
        rw [t5 c1 c0]
        exact i1
      · refine ev_iteF c0 ?_
        refine ev_iteT hpl ?_
        rw [t6 c1 c0]
        exact i1
theorem implT0 {L : List (List S79)} (hL : SmCondss L) (hs : ∀ l ∈ L, (glue true (l.map condT)).length ≤ 1073741824) {r : ByteArray} (hr : Ev (fun k => impl_IfText.l0 k L ((L.map listT).map ofL) L (L.length : Int) (L.length : Int)) r) : ∀ (post pre : List (List S79)), L = pre ++ post →
    Ev (fun k => impl_IfText.l0 k L ((pre.map listT).map ofL) L (L.length : Int) (pre.length : Int)) r := by
  have hm : L.length ≤ maxLen := by have := hL.1; rw [maxLen_eq]; omega
  intro post
  induction post with
  | nil =>
    intro pre e
    rw [List.append_nil] at e
    rw [← e]
    exact hr
  | cons l post ih =>
    intro pre e
    have hl := hL.2 l (by rw [e]; simp)
    have i1 := ih (pre ++ [l]) (by rw [e]; simp)
    rw [List.map_append, List.map_append, List.map_cons, List.map_cons, List.map_nil, List.map_nil] at i1
    refine Ev.step (fun k => impl_IfText.l0.eq_2 ..) ?_
    rw [rd_implCondL e]
    refine ev_iteT (lt_at e) ?_
    refine ev_iteT (nonneg_at _) ?_
    refine ev_iteT (lt_at e) ?_
    have hol : ((pre.map listT).map ofL).length ≤ 1048576 := by
      rw [List.length_map, List.length_map]
      have := hL.1
      rw [e, List.length_append] at this
      omega
    exact implT1 e hm hl hol (hs l (by rw [e]; simp)) i1 l [] rfl
end Go.Proofs.YtigoeooelfeopaaDoor.L

/- Conditions of a text: the same or not, by both. No condition. -/
set_option linter.unusedSimpArgs false
set_option linter.unusedVariables false
namespace Go.Proofs.YtigoeooelfeopaaDoor.L
open Go.RowKit Go.Proofs.YtigoeooelfeopaaDoorW.PrintWords Go.Proofs.YtigoeooelfeopaaDoorW.PrintLast Go.Proofs.YtigoeooelfeopaaDoor.Q
theorem cne (c d : S79) : ((!(c.f0 == d.f0)) || (!(c.f1 == d.f1) || (!((c.f2.toList) == (d.f2.toList))))) = decide (c ≠ d) := by
  apply Bool.eq_iff_iff.2
  simp only [Bool.or_eq_true, Bool.not_eq_true', beq_eq_false_iff_ne, decide_eq_true_eq, ne_eq]
  constructor
  · rintro h rfl
    simp at h
  · intro h
    by_cases e0 : c.f0 = d.f0
    · by_cases e1 : c.f1 = d.f1
      · by_cases e2 : c.f2.toList = d.f2.toList
        · exact absurd (by cases c; cases d; simp only at e0 e1 e2; rw [e0, e1, ba_inj e2]) h
        · exact .inr (.inr e2)
      · exact .inr (.inl e1)
    · exact .inl e0
theorem specInner {a b : List (List S79)} {pre su pre' sv : List (List S79)} {x y : List S79} (h : a = pre ++ x :: su) (h' : b = pre' ++ y :: sv) (hp : pre.length = pre'.length) (hx : x.length ≤ maxLen) (ha : a.length ≤ maxLen) :
    ∀ (q q' p p' : List S79), x = p ++ q → y = p' ++ q' → p.length = p'.length → q.length = q'.length →
      (q ≠ q' → Ev (fun k => spec_l14Same.l1 k a b (pre.length : Int) (p.length : Int)) false) ∧ (q = q' → ∀ r, Ev (fun k => spec_l14Same.l0 k a b ((pre ++ [x]).length : Int)) r → Ev (fun k => spec_l14Same.l1 k a b (pre.length : Int) (p.length : Int)) r) := by
  have h3 := rd_implCondL h'
  have h4 := lt_at h'
  rw [← hp] at h3 h4
  intro q
  induction q with
  | nil =>
    intro q' p p' e e' hl hq
    obtain rfl : q' = [] := by simpa using hq.symm
    refine ⟨fun hn => absurd rfl hn, fun _ r hr => ?_⟩
    refine Ev.step (fun k => spec_l14Same.l1.eq_2 ..) ?_
    rw [List.append_nil] at e
    simp only [if_pos (nonneg_at _), if_pos (lt_at h), rd_implCondL h, e, Int.lt_irrefl, if_false]
    rw [next_at h ha]
    exact hr
  | cons c q ih =>
    intro q' p p' e e' hl hq
    cases q' with
    | nil => simp at hq
    | cons d q' =>
      have g3 := rd_implCond e'
      have g4 := lt_at e'
      rw [← hl] at g3 g4
      by_cases hcd : c = d
      · subst hcd
        obtain ⟨i1, i2⟩ := ih q' (p ++ [c]) (p' ++ [c]) (by rw [e]; simp) (by rw [e']; simp) (by simp [hl]) (by simpa using hq)
        have key : ∀ r, Ev (fun k => spec_l14Same.l1 k a b (pre.length : Int) ((p ++ [c]).length : Int)) r → Ev (fun k => spec_l14Same.l1 k a b (pre.length : Int) (p.length : Int)) r := by
          intro r hr
          refine Ev.step (fun k => spec_l14Same.l1.eq_2 ..) ?_
          simp only [if_pos (nonneg_at _), if_pos (lt_at h), rd_implCondL h, h3, if_pos h4, if_pos (lt_at e), if_pos g4, rd_implCond e, g3, cne, ne_eq, not_true_eq_false, decide_false, Bool.false_eq_true, if_false, next_at e hx]
          exact hr
        refine ⟨fun hn => key _ (i1 (fun he => hn (by rw [he]))), fun he r hr => key _ (i2 (List.cons.inj he).2 r hr)⟩
      · refine ⟨fun _ => ?_, fun he => absurd (List.cons.inj he).1 hcd⟩
        refine Ev.step (fun k => spec_l14Same.l1.eq_2 ..) ?_
        simp only [if_pos (nonneg_at _), if_pos (lt_at h), rd_implCondL h, h3, if_pos h4, if_pos (lt_at e), if_pos g4, rd_implCond e, g3, cne, ne_eq, hcd, not_false_eq_true, decide_true, if_true]
        exact Ev.now _
theorem specSame {a b : List (List S79)} (hb : b.length ≤ maxLen) (hb2 : ∀ l ∈ b, l.length ≤ maxLen) : Ev (fun k => spec_l14Same.f k a b) (decide (a = b)) := by
  unfold spec_l14Same.f
  by_cases e : (a.length : Int) = (b.length : Int)
  · simp only [if_pos e]
    have ha : a.length ≤ maxLen := by omega
    refine eq_loop (a := a) (b := b) (fun k i => spec_l14Same.l0 k a b i) ?_ ?_ a b [] [] rfl rfl rfl (by omega)
    · refine Ev.step (fun k => spec_l14Same.l0.eq_2 ..) ?_
      simp only [Int.lt_irrefl, if_false]
      exact Ev.now _
    · intro pre x su pre' y sv h h' hp
      have h3 := rd_implCondL h'
      have h4 := lt_at h'
      rw [← hp] at h3 h4
      by_cases hl : x.length = y.length
      · obtain ⟨i1, i2⟩ := specInner h h' hp (by rw [hl]; exact hb2 y (by rw [h']; simp)) ha x y [] [] rfl rfl rfl hl
        have key : ∀ r, Ev (fun k => spec_l14Same.l1 k a b (pre.length : Int) (([] : List S79).length : Int)) r → Ev (fun k => spec_l14Same.l0 k a b (pre.length : Int)) r := by
          intro r hr
          refine Ev.step (fun k => spec_l14Same.l0.eq_2 ..) ?_
          simp only [if_pos (nonneg_at _), if_pos (lt_at h), rd_implCondL h, h3, if_pos h4, if_pos (show (x.length : Int) = (y.length : Int) by omega)]
          exact hr
        exact ⟨fun hn => key _ (i1 hn), fun he r hr => key _ (i2 he r hr)⟩
      · refine ⟨fun _ => ?_, fun he => absurd (by rw [he]) hl⟩
        refine Ev.step (fun k => spec_l14Same.l0.eq_2 ..) ?_
        simp only [if_pos (nonneg_at _), if_pos (lt_at h), rd_implCondL h, h3, if_pos h4, if_neg (show ¬ (x.length : Int) = (y.length : Int) by omega)]
        exact Ev.now _
  · simp only [if_neg e]
    rw [show decide (a = b) = false from decide_eq_false (fun h => e (by rw [h]))]
    exact Ev.now _
theorem implInner {a b : List (List S79)} {pre su pre' sv : List (List S79)} {x y : List S79} (h : a = pre ++ x :: su) (h' : b = pre' ++ y :: sv) (hp : pre.length = pre'.length) (hx : x.length ≤ maxLen) (ha : a.length ≤ maxLen) :
    ∀ (q q' p p' : List S79), x = p ++ q → y = p' ++ q' → p.length = p'.length → q.length = q'.length →
      (q ≠ q' → Ev (fun k => impl_sameConds.l1 k a b (pre.length : Int) (a.length : Int) (pre.length : Int) (x.length : Int) (p.length : Int)) false) ∧ (q = q' → ∀ r, Ev (fun k => impl_sameConds.l0 k a b (a.length : Int) ((pre ++ [x]).length : Int)) r → Ev (fun k => impl_sameConds.l1 k a b (pre.length : Int) (a.length : Int) (pre.length : Int) (x.length : Int) (p.length : Int)) r) := by
  have h3 := rd_implCondL h'
  have h4 := lt_at h'
  rw [← hp] at h3 h4
  intro q
  induction q with
  | nil =>
    intro q' p p' e e' hl hq
    obtain rfl : q' = [] := by simpa using hq.symm
    refine ⟨fun hn => absurd rfl hn, fun _ r hr => ?_⟩
    refine Ev.step (fun k => impl_sameConds.l1.eq_2 ..) ?_
    rw [List.append_nil] at e
    have hxp : p.length = x.length := by rw [e]
    simp only [hxp, Int.lt_irrefl, if_false]
    rw [next_at h ha]
    exact hr
  | cons c q ih =>
    intro q' p p' e e' hl hq
    cases q' with
    | nil => simp at hq
    | cons d q' =>
      have g3 := rd_implCond e'
      have g4 := lt_at e'
      rw [← hl] at g3 g4
      by_cases hcd : c = d
      · subst hcd
        obtain ⟨i1, i2⟩ := ih q' (p ++ [c]) (p' ++ [c]) (by rw [e]; simp) (by rw [e']; simp) (by simp [hl]) (by simpa using hq)
        have key : ∀ r, Ev (fun k => impl_sameConds.l1 k a b (pre.length : Int) (a.length : Int) (pre.length : Int) (x.length : Int) ((p ++ [c]).length : Int)) r → Ev (fun k => impl_sameConds.l1 k a b (pre.length : Int) (a.length : Int) (pre.length : Int) (x.length : Int) (p.length : Int)) r := by
          intro r hr
          refine Ev.step (fun k => impl_sameConds.l1.eq_2 ..) ?_
          simp only [if_pos (nonneg_at _), if_pos (lt_at h), rd_implCondL h, h3, if_pos h4, if_pos (lt_at e), if_pos g4, rd_implCond e, g3, cne, ne_eq, not_true_eq_false, decide_false, Bool.false_eq_true, if_false, next_at e hx]
          exact hr
        refine ⟨fun hn => key _ (i1 (fun he => hn (by rw [he]))), fun he r hr => key _ (i2 (List.cons.inj he).2 r hr)⟩
      · refine ⟨fun _ => ?_, fun he => absurd (List.cons.inj he).1 hcd⟩
        refine Ev.step (fun k => impl_sameConds.l1.eq_2 ..) ?_
        simp only [if_pos (nonneg_at _), if_pos (lt_at h), rd_implCondL h, h3, if_pos h4, if_pos (lt_at e), if_pos g4, rd_implCond e, g3, cne, ne_eq, hcd, not_false_eq_true, decide_true, if_true]
        exact Ev.now _
theorem implSameC {a b : List (List S79)} (hb : b.length ≤ maxLen) (hb2 : ∀ l ∈ b, l.length ≤ maxLen) : Ev (fun k => impl_sameConds.f k a b) (decide (a = b)) := by
  unfold impl_sameConds.f
  by_cases e : (a.length : Int) = (b.length : Int)
  · simp only [if_pos e]
    have ha : a.length ≤ maxLen := by omega
    refine eq_loop (a := a) (b := b) (fun k i => impl_sameConds.l0 k a b (a.length : Int) i) ?_ ?_ a b [] [] rfl rfl rfl (by omega)
    · refine Ev.step (fun k => impl_sameConds.l0.eq_2 ..) ?_
      simp only [Int.lt_irrefl, if_false]
      exact Ev.now _
    · intro pre x su pre' y sv h h' hp
      have h3 := rd_implCondL h'
      have h4 := lt_at h'
      rw [← hp] at h3 h4
      by_cases hl : x.length = y.length
      · obtain ⟨i1, i2⟩ := implInner h h' hp (by rw [hl]; exact hb2 y (by rw [h']; simp)) ha x y [] [] rfl rfl rfl hl
        have key : ∀ r, Ev (fun k => impl_sameConds.l1 k a b (pre.length : Int) (a.length : Int) (pre.length : Int) (x.length : Int) (([] : List S79).length : Int)) r → Ev (fun k => impl_sameConds.l0 k a b (a.length : Int) (pre.length : Int)) r := by
          intro r hr
          refine Ev.step (fun k => impl_sameConds.l0.eq_2 ..) ?_
          simp only [if_pos (nonneg_at _), if_pos (lt_at h), rd_implCondL h, h3, if_pos h4, if_pos (show (x.length : Int) = (y.length : Int) by omega)]
          exact hr
        exact ⟨fun hn => key _ (i1 hn), fun he r hr => key _ (i2 he r hr)⟩
      · refine ⟨fun _ => ?_, fun he => absurd (by rw [he]) hl⟩
        refine Ev.step (fun k => impl_sameConds.l0.eq_2 ..) ?_
        simp only [if_pos (nonneg_at _), if_pos (lt_at h), rd_implCondL h, h3, if_pos h4, if_neg (show ¬ (x.length : Int) = (y.length : Int) by omega)]
        exact Ev.now _
  · simp only [if_neg e]
    rw [show decide (a = b) = false from decide_eq_false (fun h => e (by rw [h]))]
    exact Ev.now _
end Go.Proofs.YtigoeooelfeopaaDoor.L

/- The law FnExactIfText computes true: the program and the reference write and prove the same text, and the argument stays. No condition. -/
set_option linter.unusedSimpArgs false
set_option linter.unusedVariables false
namespace Go.Proofs.YtigoeooelfeopaaDoor.Pure
open Go.RowKit Go.Proofs.YtigoeooelfeopaaDoorW.PrintWords Go.Proofs.YtigoeooelfeopaaDoorW.PrintLast Go.Proofs.YtigoeooelfeopaaDoor.Q Go.Proofs.YtigoeooelfeopaaDoor.L
theorem FnExactIfText : ∀ (x0 : List (List (S103))), (fun l : List (List (S103)) => l.length ≤ maxLen ∧ ∀ a ∈ l, (fun l : List (S103) => l.length ≤ maxLen ∧ ∀ a ∈ l, G103 a) a) x0 → ∃ k, laws_FnExactIfText.f k x0 = some true := by
  intro x0 g0
  apply Ev.rounds
  unfold laws_FnExactIfText.f
  rcases sum3 g0.1 g0.2 (n := 1048576) (by omega) (by omega) with hz | ⟨hw, hz⟩
  · refine Ev.bind hz ?_
    simp only [show (-1 : Int) < 0 by omega, if_true]
    exact Ev.now _
  refine Ev.bind hz ?_
  refine ev_iteF (by omega) ?_
  have sm := sm3 g0.2 (by omega)
  have hlen := textT_len sm
  have hss : ∀ l ∈ x0.map (List.map toCond), (glue true (l.map condT)).length ≤ 1073741824 := by
    intro l hl
    obtain ⟨q, hq, rfl⟩ := List.mem_map.1 hl
    have h1 := listT_len (sm.2 _ hl)
    have h2 := mem_sum (w := w2) hq
    have h3 : w3 x0 = (x0.map w2).sum + x0.length := rfl
    simp only [listT, List.length_cons, List.length_append, List.length_nil] at h1
    omega
  have hto := toCondSS sm
  have heq := eqCondSS (b := x0.map (List.map toCond)) sm
  simp only [decide_true] at heq
  generalize x0.map (List.map toCond) = L at sm hlen hss hto heq
  have hb1 : L.length ≤ maxLen := by have := sm.1; rw [maxLen_eq]; omega
  have hb2 : ∀ l ∈ L, l.length ≤ maxLen := fun l hl => by have := (sm.2 l hl).1; rw [maxLen_eq]; omega
  have both : ∃ r, Ev (fun k => spec_IfText.f k L) r ∧ Ev (fun k => impl_IfText.f k L) r := by
    obtain ⟨p, p1, p2⟩ := bothIf (s := ofL (textT L)) (by rw [size_ofL]; omega)
    obtain ⟨c, ok⟩ := p
    have hsame := specSame (a := c) hb1 hb2
    have hsame2 := implSameC (a := c) hb1 hb2
    refine ⟨if ok = true then (if decide (c = L) = true then ofL (textT L) else (⟨#[]⟩ : ByteArray)) else (⟨#[]⟩ : ByteArray), ?_, ?_⟩
    · unfold spec_IfText.f
      refine specT0 sm L [] [] rfl (by show (glue true (L.map listT)).length ≤ _; unfold textT at hlen; omega) ?_
      show Ev (fun k => spec_IfText.l0 k L (ofL (textT L)) (L.length : Int)) _
      refine Ev.step (fun k => spec_IfText.l0.eq_2 ..) ?_
      refine ev_iteF (Int.lt_irrefl _) ?_
      refine Ev.bind p1 ?_
      refine ev_ite (fun _ => ?_) (fun _ => Ev.now _)
      refine Ev.bind hsame ?_
      exact ev_ite (fun _ => Ev.now _) (fun _ => Ev.now _)
    · unfold impl_IfText.f
      refine implT0 sm hss ?_ L [] rfl
      refine Ev.step (fun k => impl_IfText.l0.eq_2 ..) ?_
      refine ev_iteF (Int.lt_irrefl _) ?_
      refine ev_bindS (joinB (by rw [List.length_map]; have := sm.1; omega) (by unfold textT at hlen; omega)) ?_
      refine Ev.bind p2 ?_
      refine ev_ite (fun _ => ?_) (fun _ => Ev.now _)
      refine Ev.bind hsame2 ?_
      exact ev_ite (fun _ => Ev.now _) (fun _ => Ev.now _)
  obtain ⟨r, e1, e2⟩ := both
  refine Ev.bind hto ?_
  refine Ev.bind e1 ?_
  refine Ev.bind hto ?_
  refine Ev.bind e2 ?_
  refine ev_iteT rfl ?_
  refine Ev.bind hto ?_
  refine Ev.bind heq ?_
  exact ev_iteT rfl (Ev.now _)
end Go.Proofs.YtigoeooelfeopaaDoor.Pure
