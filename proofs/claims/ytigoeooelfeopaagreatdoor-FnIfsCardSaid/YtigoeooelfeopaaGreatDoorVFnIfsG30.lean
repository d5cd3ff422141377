/- Decimal numerals: what the reference's NumText makes is what the library's Itoa makes. No condition. -/
import Derived.Lib.ItoaLen
import Derived.Lib.ItoaMem
import Derived.Laws.BytesArg
import Derived.Test.YtigoeooelfeopaaGreatDoorVFnIfsG29
import Derived.Lib.SlTrimSet
import Derived.Lib.IndexMore
import Derived.Lib.IndexBytes
import Derived.Lib.AtoiTie
import Derived.Lib.Strings
import Derived.Lib.Join
set_option linter.unusedSimpArgs false
set_option linter.unusedVariables false
namespace Go.Proofs.YtigoeooelfeopaaGreatDoor.L
open Go.RowKit Go.Proofs.YtigoeooelfeopaaGreatDoorW.PrintWords Go.Proofs.YtigoeooelfeopaaGreatDoorW.PrintLast Go.Proofs.YtigoeooelfeopaaGreatDoor.Q
theorem ba_of {a : ByteArray} {l : List UInt8} (h : a.data.toList = l) : a = ⟨l.toArray⟩ := by
  cases a with | mk x => congr 1; exact Array.toList_inj.1 (by simpa using h)
theorem app_list (a b : ByteArray) : (a ++ b).data.toList = a.data.toList ++ b.data.toList := by rw [ByteArray.data_append, Array.toList_append]
theorem size_list (a : ByteArray) : a.size = a.data.toList.length := (Array.length_toList (xs := a.data)).symm
theorem decD_step {n : Nat} (h : ¬ n < 10) : Lib.decDigits n = Lib.decDigits (n / 10) ++ [UInt8.ofNat (48 + n % 10)] := by
  rw [Lib.decDigits, dif_neg h]
theorem digit_list {d : Nat} (h : d < 10) : (strOfNums [(wrap64 (48 + (d : Int))) % 256]).data.toList = [UInt8.ofNat (48 + d)] := by
  rw [wrap_id (by omega) (by omega)]
  have e : ((48 + (d : Int)) % 256).toNat = 48 + d := by omega
  simp [strOfNums, e]
theorem numL : ∀ (m n : Nat), n ≤ m → ∀ acc : ByteArray, acc.size + n ≤ 9223372036854775808 → n ≤ 9223372036854775807 →
    ∃ s, Ev (fun k => spec_NumText.l0 k (n : Int) acc) s ∧ s.data.toList = (if n < 10 then [] else Lib.decDigits (n / 10)) ++ acc.data.toList := by
  intro m
  induction m with
  | zero =>
    intro n hn acc ha hi
    obtain rfl : n = 0 := by omega
    refine ⟨acc, Ev.step (fun k => spec_NumText.l0.eq_2 ..) ?_, by simp⟩
    simp only [if_neg (show ¬ ((0 : Nat) : Int) > 9 by omega)]
    exact Ev.now _
  | succ m ih =>
    intro n hn acc ha hi
    by_cases c : n < 10
    · refine ⟨acc, Ev.step (fun k => spec_NumText.l0.eq_2 ..) ?_, by simp [c]⟩
      simp only [if_neg (show ¬ (n : Int) > 9 by omega)]
      exact Ev.now _
    · have hq : Int.tdiv (n : Int) 10 = ((n / 10 : Nat) : Int) := by rw [Int.tdiv_eq_ediv_of_nonneg (by omega)]; omega
      have hw : wrap64 (Int.tdiv (n : Int) 10) = ((n / 10 : Nat) : Int) := by rw [hq]; exact wrap_id (by omega) (by omega)
      have hm : Int.tmod ((n / 10 : Nat) : Int) 10 = ((n / 10 % 10 : Nat) : Int) := by rw [Int.tmod_eq_emod_of_nonneg (by omega)]; omega
      have hd := digit_list (d := n / 10 % 10) (by omega)
      have hs : (strOfNums [(wrap64 (48 + ((n / 10 % 10 : Nat) : Int))) % 256]).size = 1 := by rw [size_list, hd]; rfl
      obtain ⟨s, h1, h2⟩ := ih (n / 10) (by omega) (strOfNums [(wrap64 (48 + ((n / 10 % 10 : Nat) : Int))) % 256] ++ acc) (by rw [ByteArray.size_append, hs]; omega) (by omega)
      refine ⟨s, Ev.step (fun k => spec_NumText.l0.eq_2 ..) ?_, ?_⟩
      · simp only [if_pos (show (n : Int) > 9 by omega), Option.bind_some, hw, hm, hs, if_pos (show 1 + acc.size ≤ 9223372036854775807 by omega)]
        exact h1
      · rw [h2, app_list, hd, if_neg c]
        by_cases c2 : n / 10 < 10
        · rw [if_pos c2, Lib.decDigits_one c2]
          simp [Nat.mod_eq_of_lt c2]
        · rw [if_neg c2, decD_step c2]
          simp
theorem numD (x : Int) (h1 : x ≤ 9223372036854775807) : ∃ s, Ev (fun k => spec_NumText.f k x) s ∧ s.data.toList = Lib.decDigits x.toNat := by
  have key : ∀ n : Nat, n ≤ 9223372036854775807 → ∃ s, Ev (fun k => spec_NumText.j0 k (n : Int)) s ∧ s.data.toList = Lib.decDigits n := by
    intro n hn
    have hm : Int.tmod (n : Int) 10 = ((n % 10 : Nat) : Int) := by rw [Int.tmod_eq_emod_of_nonneg (by omega)]; omega
    have hd := digit_list (d := n % 10) (by omega)
    have hs : (strOfNums [(wrap64 (48 + ((n % 10 : Nat) : Int))) % 256]).size = 1 := by rw [size_list, hd]; rfl
    obtain ⟨s, e1, e2⟩ := numL n n (Nat.le_refl _) (strOfNums [(wrap64 (48 + ((n % 10 : Nat) : Int))) % 256]) (by rw [hs]; omega) hn
    refine ⟨s, Ev.step (fun k => spec_NumText.j0.eq_2 ..) ?_, ?_⟩
    · simp only [hm]; exact e1
    · rw [e2, hd]
      by_cases c : n < 10
      · rw [if_pos c, Lib.decDigits_one c]; simp [Nat.mod_eq_of_lt c]
      · rw [if_neg c, decD_step c]
  unfold spec_NumText.f
  by_cases c : x < 0
  · obtain ⟨s, e1, e2⟩ := key 0 (by omega)
    refine ⟨s, ?_, by rw [e2, show x.toNat = 0 by omega]⟩
    simp only [if_pos c]; exact e1
  · obtain ⟨s, e1, e2⟩ := key x.toNat (by omega)
    refine ⟨s, ?_, e2⟩
    simp only [if_neg c]
    rw [show ((x.toNat : Nat) : Int) = x by omega] at e1
    exact e1
theorem num_len (n : Nat) (h : n ≤ 9223372036854775807) : (Lib.decDigits n).length ≤ 21 := by
  have := Lib.itoa_length_le (n : Int) (by omega) (by omega)
  rwa [Lib.itoa_nonneg] at this
theorem numI (x : Int) (h1 : x ≤ 9223372036854775807) : impl_NumText.f x = some ⟨(Lib.decDigits x.toNat).toArray⟩ := by
  unfold impl_NumText.f strconv_Itoa.f mx
  by_cases c : x < 0
  · rw [if_pos c, if_pos (by omega), show (0 : Int) = ((0 : Nat) : Int) from rfl, Lib.itoa_nonneg, show x.toNat = 0 by omega]
  · rw [if_neg c, if_pos (by omega)]
    rw [show Lib.itoa x = Lib.decDigits x.toNat from by
      have := Lib.itoa_nonneg x.toNat
      rwa [show ((x.toNat : Nat) : Int) = x by omega] at this]
theorem numBoth (x : Int) (h1 : x ≤ 9223372036854775807) : ∃ s, Ev (fun k => spec_NumText.f k x) s ∧ impl_NumText.f x = some s ∧ s.data.toList = Lib.decDigits x.toNat ∧ s.size ≤ 21 := by
  obtain ⟨s, e1, e2⟩ := numD x h1
  exact ⟨s, e1, by rw [numI x h1, ba_of e2], e2, by rw [size_list, e2]; exact num_len _ (by omega)⟩
end Go.Proofs.YtigoeooelfeopaaGreatDoor.L

/- Texts byte by byte: plain texts, small names, as the program and the reference have them. No condition. -/
set_option linter.unusedSimpArgs false
set_option linter.unusedVariables false
namespace Go.Proofs.YtigoeooelfeopaaGreatDoor.L
open Go.RowKit Go.Proofs.YtigoeooelfeopaaGreatDoorW.PrintWords Go.Proofs.YtigoeooelfeopaaGreatDoorW.PrintLast Go.Proofs.YtigoeooelfeopaaGreatDoor.Q
abbrev bl (s : ByteArray) : List UInt8 := s.data.toList
theorem bl_len (s : ByteArray) : (bl s).length = s.size := data_length s
theorem bl_inj {s t : ByteArray} (h : bl s = bl t) : s = t := ba_inj (by rw [ba_toList, ba_toList]; exact h)
section
variable {s : ByteArray} {pre suf : List UInt8} {c : UInt8}
theorem blt_at (h : bl s = pre ++ c :: suf) : ((pre.length : Nat) : Int) < (s.size : Int) := by
  have := bl_len s
  rw [h] at this
  simp at this
  omega
theorem bend_at (h : bl s = pre ++ []) : ¬ ((pre.length : Nat) : Int) < (s.size : Int) := by
  have := bl_len s
  rw [h] at this
  simp at this
  omega
theorem bt_at' (h : bl s = pre ++ c :: suf) : bt s (pre.length : Int) = (c.toNat : Int) := by
  have hlt := blt_at h
  have h2 : pre.length < s.size := by omega
  rw [← bt_at s (pre.length : Int) (by simpa using h2)]
  have h3 : pre.length < (bl s).length := by rw [bl_len]; exact h2
  have h4 : (bl s)[pre.length] = c := by simp [h]
  have h5 : s[pre.length]'h2 = (bl s)[pre.length] := by
    show s.data[pre.length] = _
    simp
  simp only [Int.toNat_natCast, h5, h4]
theorem bnext_at (h : bl s = pre ++ c :: suf) (hs : s.size ≤ maxLen) : wrap64 ((pre.length : Int) + 1) = ((pre ++ [c]).length : Int) := by
  have := blt_at h
  rw [maxLen_eq] at hs
  rw [wrap_id (by omega) (by omega)]
  simp
end
theorem byte_bounds (c : UInt8) : 0 ≤ (c.toNat : Int) ∧ (c.toNat : Int) ≤ 255 := ⟨by omega, by have := c.toNat_lt; omega⟩
theorem wrap_byte (c : UInt8) : wrap64 (c.toNat : Int) = (c.toNat : Int) := wrap_id (by omega) (by have := byte_bounds c; omega)
def inB (lo hi : Int) (c : UInt8) : Bool := decide (lo ≤ (c.toNat : Int) ∧ (c.toNat : Int) ≤ hi)
theorem specIn (a b c : Int) : spec_l1In.f a b c = some (decide (b ≤ a ∧ a ≤ c)) := by
  unfold spec_l1In.f
  by_cases h : a ≥ b
  · rw [if_pos h]; simp [show b ≤ a from h]
  · rw [if_neg h]; simp [show ¬ b ≤ a from h]
theorem implIn (a b c : Int) : impl_in.f a b c = some (decide (b ≤ a ∧ a ≤ c)) := by
  unfold impl_in.f
  by_cases h : a ≥ b
  · rw [if_pos h]; simp [show b ≤ a from h]
  · rw [if_neg h]; simp [show ¬ b ≤ a from h]
theorem implIsPlain (c : UInt8) : impl_isPlain.f (c.toNat : Int) = some (inB 32 126 c) := by
  unfold impl_isPlain.f inB
  by_cases h : (c.toNat : Int) ≥ 32
  · rw [if_pos h]; simp only [show (32 : Int) ≤ c.toNat from h, true_and]
  · rw [if_neg h]; simp only [show ¬ (32 : Int) ≤ c.toNat from h, false_and, decide_false]
theorem specDigit1 (c : UInt8) : spec_l1Digit.f (c.toNat : Int) = some (inB 48 57 c) := by
  unfold spec_l1Digit.f; rw [wrap_byte, specIn]; rfl
def plainL (l : List UInt8) : Bool := l.all (inB 32 126)
theorem specPlain_loop {s : ByteArray} (hs : s.size ≤ maxLen) : ∀ (suf pre : List UInt8), bl s = pre ++ suf → Ev (fun k => spec_Plain.l0 k s pre.length) (plainL suf) := by
  intro suf
  induction suf with
  | nil =>
    intro pre h
    refine Ev.step (fun k => spec_Plain.l0.eq_2 ..) ?_
    simp only [if_neg (bend_at h)]
    exact Ev.now _
  | cons c suf ih =>
    intro pre h
    refine Ev.step (fun k => spec_Plain.l0.eq_2 ..) ?_
    simp only [if_pos (blt_at h), if_pos (nonneg_at _), bt_at' h, wrap_byte, specIn, Option.bind_some, bnext_at h hs]
    have := ih (pre ++ [c]) (snoc_at h)
    simp only [plainL, List.all_cons, inB] at this ⊢
    by_cases e : (32 : Int) ≤ c.toNat ∧ (c.toNat : Int) ≤ 126
    · simp only [e, and_self, decide_true, if_true, Bool.true_and]
      exact this
    · simp only [e, decide_false, Bool.false_eq_true, if_false, Bool.false_and]
      exact Ev.now _
theorem specPlain {s : ByteArray} (hs : s.size ≤ maxLen) : Ev (fun k => spec_Plain.f k s) (plainL (bl s)) := specPlain_loop hs _ [] rfl
theorem implPlain_loop {s : ByteArray} (hs : s.size ≤ maxLen) : ∀ (suf pre : List UInt8), bl s = pre ++ suf → Ev (fun k => impl_Plain.l0 k s pre.length) (plainL suf) := by
  intro suf
  induction suf with
  | nil =>
    intro pre h
    refine Ev.step (fun k => impl_Plain.l0.eq_2 ..) ?_
    simp only [if_neg (bend_at h)]
    exact Ev.now _
  | cons c suf ih =>
    intro pre h
    refine Ev.step (fun k => impl_Plain.l0.eq_2 ..) ?_
    simp only [if_pos (blt_at h), if_pos (nonneg_at _), bt_at' h, implIsPlain, Option.bind_some, bnext_at h hs]
    have := ih (pre ++ [c]) (snoc_at h)
    simp only [plainL, List.all_cons] at this ⊢
    by_cases e : inB 32 126 c = true
    · simp only [e, if_true, Bool.true_and]
      exact this
    · simp only [e, if_false, Bool.false_and]
      exact Ev.now _
theorem implPlain {s : ByteArray} (hs : s.size ≤ maxLen) : Ev (fun k => impl_Plain.f k s) (plainL (bl s)) := implPlain_loop hs _ [] rfl
end Go.Proofs.YtigoeooelfeopaaGreatDoor.L

/- Texts as lists of bytes: cut, trimmed, their first places. No condition. -/
set_option linter.unusedSimpArgs false
set_option linter.unusedVariables false
namespace Go.Proofs.YtigoeooelfeopaaGreatDoor.L
open Go.RowKit Go.Proofs.YtigoeooelfeopaaGreatDoorW.PrintWords Go.Proofs.YtigoeooelfeopaaGreatDoorW.PrintLast Go.Proofs.YtigoeooelfeopaaGreatDoor.Q
abbrev ofL (l : List UInt8) : ByteArray := ⟨l.toArray⟩
theorem bl_ofL (l : List UInt8) : bl (ofL l) = l := by simp
theorem ofL_bl (s : ByteArray) : ofL (bl s) = s := bl_inj (bl_ofL _)
theorem size_ofL (l : List UInt8) : (ofL l).size = l.length := by rw [← bl_len, bl_ofL]
theorem of_bl {s : ByteArray} {l : List UInt8} (h : bl s = l) : s = ofL l := by rw [← h, ofL_bl]
theorem bl_append (a b : ByteArray) : bl (a ++ b) = bl a ++ bl b := by
  show (a ++ b).data.toList = _
  rw [ByteArray.data_append, Array.toList_append]
theorem bl_extract (s : ByteArray) (i j : Nat) : bl (s.extract i j) = ((bl s).take j).drop i := by
  show (s.extract i j).data.toList = _
  rw [ByteArray.data_extract, Array.toList_extract, List.extract_eq_take_drop, List.drop_take]
theorem tl_eq (s : ByteArray) (l : List UInt8) : (s.toList = l) = (bl s = l) := by rw [ba_toList]
theorem eq_byte (c : UInt8) (n : Nat) (hn : n < 256) : ((c.toNat : Int) = (n : Int)) = (c = UInt8.ofNat n) := by
  apply propext
  constructor
  · intro h
    apply UInt8.toNat_inj.1
    rw [UInt8.toNat_ofNat']
    omega
  · rintro rfl
    rw [UInt8.toNat_ofNat']
    omega
theorem index_hit {u body rest : List UInt8} {c : UInt8} (h : u = body ++ c :: rest) (hn : c ∉ body) : Lib.indexByte u c = body.length := by
  subst h
  induction body with
  | nil => simp [Lib.indexByte]
  | cons b body ih =>
    have h1 : ¬ b = c := fun e => hn (by simp [e])
    have := ih (fun hm => hn (List.mem_cons_of_mem _ hm))
    simp only [List.cons_append, Lib.indexByte, beq_iff_eq, h1, if_false, this]
    rw [if_neg (by omega)]
    simp
theorem index_miss {u : List UInt8} {c : UInt8} (hn : c ∉ u) : Lib.indexByte u c = -1 := by
  induction u with
  | nil => simp [Lib.indexByte]
  | cons b u ih =>
    have h1 : ¬ b = c := fun e => hn (by simp [e])
    have := ih (fun hm => hn (List.mem_cons_of_mem _ hm))
    simp only [Lib.indexByte, beq_iff_eq, h1, if_false, this, if_true]
theorem cut_hit {u body rest : List UInt8} {c : UInt8} (h : u = body ++ c :: rest) (hn : c ∉ body) : Lib.cut u [c] = (body, rest, true) := by
  unfold Lib.cut
  rw [Lib.index_one, index_hit h hn, if_pos (by omega)]
  subst h
  simp
theorem cut_miss {u : List UInt8} {c : UInt8} (hn : c ∉ u) : Lib.cut u [c] = (u, [], false) := by
  unfold Lib.cut
  rw [Lib.index_one, index_miss hn, if_neg (by omega)]
theorem first_of {u : List UInt8} {c : UInt8} (h : c ∈ u) : ∃ body rest, u = body ++ c :: rest ∧ c ∉ body := by
  induction u with
  | nil => simp at h
  | cons b u ih =>
    by_cases e : b = c
    · exact ⟨[], u, by simp [e], by simp⟩
    · have h2 : c ∈ u := by
        rcases List.mem_cons.1 h with h | h
        · exact absurd h.symm e
        · exact h
      obtain ⟨body, rest, h3, h4⟩ := ih h2
      exact ⟨b :: body, rest, by rw [h3]; rfl, fun hm => (List.mem_cons.1 hm).elim (fun h => e h.symm) h4⟩
theorem pre_cons (c : UInt8) (u : List UInt8) : Lib.hasPrefix (c :: u) [c] = true ∧ Lib.trimPrefix (c :: u) [c] = u := by
  have : Lib.hasPrefix (c :: u) [c] = true := by simp [Lib.hasPrefix]
  exact ⟨this, by simp [Lib.trimPrefix, this]⟩
theorem pre_not {u : List UInt8} {c : UInt8} (h : ∀ v, u ≠ c :: v) : Lib.hasPrefix u [c] = false ∧ Lib.trimPrefix u [c] = u := by
  have : Lib.hasPrefix u [c] = false := by
    cases u with
    | nil => simp [Lib.hasPrefix]
    | cons b u =>
      have : ¬ c = b := fun e => h u (by rw [e])
      simp [Lib.hasPrefix, List.isPrefixOf, this]
  exact ⟨this, by simp [Lib.trimPrefix, this]⟩
theorem tl_cons {s : ByteArray} {c : UInt8} {r : List UInt8} (h : bl s = c :: r) : (0 : Int) < (s.size : Int) ∧ bt s 0 = (c.toNat : Int) ∧ bl (s.extract 1 s.size) = r := by
  have hl := bl_len s
  rw [h] at hl
  simp only [List.length_cons] at hl
  refine ⟨by omega, ?_, ?_⟩
  · have := bt_at' (s := s) (pre := []) (c := c) (suf := r) (by simpa using h)
    simpa using this
  · rw [bl_extract, h, ← hl]
    simp
theorem tl_last {s : ByteArray} {c : UInt8} {r : List UInt8} (h : bl s = r ++ [c]) (hs : s.size ≤ maxLen) : (0 : Int) < (s.size : Int) ∧ wrap64 ((s.size : Int) - 1) = (r.length : Int) ∧ bt s (r.length : Int) = (c.toNat : Int) ∧ bl (s.extract 0 r.length) = r := by
  have hl := bl_len s
  rw [h] at hl
  simp only [List.length_append, List.length_cons, List.length_nil] at hl
  rw [maxLen_eq] at hs
  refine ⟨by omega, ?_, bt_at' h, ?_⟩
  · rw [wrap_id (by omega) (by omega)]; omega
  · rw [bl_extract, h]; simp
end Go.Proofs.YtigoeooelfeopaaGreatDoor.L

/- Lists of marks: what the program reads is what the reference splits. No condition. -/
set_option linter.unusedSimpArgs false
set_option linter.unusedVariables false
namespace Go.Proofs.YtigoeooelfeopaaGreatDoor.L
open Go.RowKit Go.Proofs.YtigoeooelfeopaaGreatDoorW.PrintWords Go.Proofs.YtigoeooelfeopaaGreatDoorW.PrintLast Go.Proofs.YtigoeooelfeopaaGreatDoor.Q
def tog (c : UInt8) (q : Bool) : Bool := if c = 34 then !q else q
def one : Bool → List UInt8 → List UInt8 × Option (List UInt8)
  | _, [] => ([], none)
  | q, c :: r => if c = 44 ∧ q = false then ([], some r) else (c :: (one (tog c q) r).1, (one (tog c q) r).2)
def IsTag (t body : List UInt8) : Prop := t = 34 :: (body ++ [34]) ∧ 34 ∉ body ∧ body.length ≤ 10 ∧ plainL body = true
noncomputable def isTag (t : List UInt8) : Bool := @decide (∃ body, IsTag t body) (Classical.propDecidable _)
theorem isTag_iff {t : List UInt8} : isTag t = true ↔ ∃ body, IsTag t body := by unfold isTag; exact @decide_eq_true_iff _ (Classical.propDecidable _)
def AtTag (x body rest : List UInt8) (least : Nat) : Prop := x = 34 :: (body ++ 34 :: rest) ∧ 34 ∉ body ∧ least ≤ body.length ∧ body.length ≤ 10 ∧ plainL body = true
theorem implTagAt_ok {s : ByteArray} {body rest : List UInt8} {least : Nat} (hs : s.size ≤ 1073741824) (h : AtTag (bl s) body rest least) : Ev (fun k => impl_tagAt.f k s (least : Int)) (ofL (34 :: (body ++ [34])), ofL rest, true) := by
  obtain ⟨h1, h2, h3, h4, h5⟩ := h
  have hl := bl_len s
  rw [h1] at hl
  simp only [List.length_cons, List.length_append] at hl
  unfold impl_tagAt.f strings_CutPrefix.f
  have e1 : (⟨#[34]⟩ : ByteArray).data.toList = [34] := rfl
  have e2 : s.data.toList = 34 :: (body ++ 34 :: rest) := h1
  have e3 : (ofL (body ++ 34 :: rest)).data.toList = body ++ 34 :: rest := bl_ofL _
  simp only [e1, e2, (pre_cons 34 (body ++ 34 :: rest)).1, (pre_cons 34 (body ++ 34 :: rest)).2, Option.bind_some, strings_Cut.f, e3, cut_hit rfl h2, size_ofL, List.length_append, List.length_cons, if_pos (show body.length + (rest.length + 1) < 4294967281 by omega), if_true, implIn]
  rw [show decide ((least : Int) ≤ ((body.length : Nat) : Int) ∧ ((body.length : Nat) : Int) ≤ 10) = true from decide_eq_true ⟨by omega, by omega⟩]
  simp only [if_true]
  have hp := implPlain (s := ofL body) (by rw [size_ofL, maxLen_eq]; omega)
  rw [bl_ofL, h5] at hp
  refine Ev.bind hp ?_
  have hw : wrap64 (((body.length : Nat) : Int) + 2) = ((body.length + 2 : Nat) : Int) := by rw [wrap_id (by omega) (by omega)]; omega
  simp only [if_true, hw, if_pos (nonneg_at _), if_pos (show ((body.length + 2 : Nat) : Int) ≤ (s.size : Int) by omega), Int.toNat_natCast]
  have hx : s.extract 0 (body.length + 2) = ofL (34 :: (body ++ [34])) := by
    apply bl_inj
    rw [bl_extract, h1, bl_ofL]
    have : (34 :: (body ++ 34 :: rest)) = (34 :: (body ++ [34])) ++ rest := by simp
    rw [this, List.take_append_of_le_length (by simp), List.take_of_length_le (by simp)]
    rfl
  rw [hx]
  exact Ev.now _
theorem implTagAt_no {s : ByteArray} {least : Nat} (hs : s.size ≤ 1073741824) (h : ∀ body rest, ¬ AtTag (bl s) body rest least) : Ev (fun k => impl_tagAt.f k s (least : Int)) ((⟨#[]⟩ : ByteArray), (⟨#[]⟩ : ByteArray), false) := by
  unfold impl_tagAt.f strings_CutPrefix.f
  have e1 : (⟨#[34]⟩ : ByteArray).data.toList = [34] := rfl
  by_cases c0 : ∃ u, bl s = 34 :: u
  · obtain ⟨u, hu⟩ := c0
    have e2 : s.data.toList = 34 :: u := hu
    have hl := bl_len s
    rw [hu] at hl
    simp only [List.length_cons] at hl
    have e3 : (ofL u).data.toList = u := bl_ofL _
    simp only [e1, e2, (pre_cons 34 u).1, (pre_cons 34 u).2, Option.bind_some, strings_Cut.f, e3, size_ofL, if_pos (show u.length < 4294967281 by omega), if_true]
    by_cases c1 : (34 : UInt8) ∈ u
    · obtain ⟨body, rest, h1, h2⟩ := first_of c1
      simp only [cut_hit h1 h2, if_true, size_ofL, implIn, Option.bind_some]
      have hbl : body.length ≤ u.length := by rw [h1]; simp
      by_cases c2 : (least : Int) ≤ ((body.length : Nat) : Int) ∧ ((body.length : Nat) : Int) ≤ 10
      · simp only [c2, and_self, decide_true, if_true]
        have hp := implPlain (s := ofL body) (by rw [size_ofL, maxLen_eq]; omega)
        rw [bl_ofL] at hp
        refine Ev.bind hp ?_
        have c3 : plainL body = false := by
          cases c3 : plainL body with
          | false => rfl
          | true => exact absurd ⟨by rw [hu, h1], h2, by omega, by omega, c3⟩ (h body rest)
        simp only [c3, Bool.false_eq_true, if_false]
        exact Ev.now _
      · simp only [c2, decide_false, Bool.false_eq_true, if_false]
        exact Ev.now _
    · simp only [cut_miss c1, Bool.false_eq_true, if_false]
      exact Ev.now _
  · have e4 := pre_not (u := bl s) (c := 34) (fun v e => c0 ⟨v, e⟩)
    have e5 : Lib.hasPrefix s.data.toList [34] = false := e4.1
    have hl := bl_len s
    have e6 : (Lib.trimPrefix s.data.toList [34]) = bl s := e4.2
    simp only [e1, e5, e6, Option.bind_some, strings_Cut.f, size_ofL, if_pos (show (bl s).length < 4294967281 by omega), Bool.false_eq_true, if_false]
    exact Ev.now _
end Go.Proofs.YtigoeooelfeopaaGreatDoor.L

/- Lists of marks: the reference's split and the program's reading come to the same. No condition. -/
set_option linter.unusedSimpArgs false
set_option linter.unusedVariables false
namespace Go.Proofs.YtigoeooelfeopaaGreatDoor.L
open Go.RowKit Go.Proofs.YtigoeooelfeopaaGreatDoorW.PrintWords Go.Proofs.YtigoeooelfeopaaGreatDoorW.PrintLast Go.Proofs.YtigoeooelfeopaaGreatDoor.Q
theorem isTag_ends (c d : UInt8) (mid : List UInt8) : isTag (c :: (mid ++ [d])) = (decide (c = 34) && (decide (d = 34) && (decide (mid.length ≤ 10) && (plainL mid && decide (34 ∉ mid))))) := by
  cases h : isTag (c :: (mid ++ [d])) with
  | true =>
    obtain ⟨body, h1, h2, h3, h4⟩ := isTag_iff.1 h
    injection h1 with e1 h1
    obtain ⟨e2, e3⟩ := List.append_inj' h1 rfl
    injection e3 with e3 _
    subst e1; subst e2; subst e3
    simp [h2, h3, h4]
  | false =>
    symm
    apply Bool.eq_false_iff.2
    intro h2
    simp only [Bool.and_eq_true, decide_eq_true_eq] at h2
    obtain ⟨e1, e2, e3, e4, e5⟩ := h2
    subst e1; subst e2
    have := isTag_iff.2 ⟨mid, rfl, e5, e3, e4⟩
    rw [h] at this
    cases this
theorem isTag_short {t : List UInt8} (h : t.length < 2) : isTag t = false := by
  cases e : isTag t with
  | false => rfl
  | true =>
    obtain ⟨body, h1, _⟩ := isTag_iff.1 e
    rw [h1] at h
    simp at h
    omega
theorem cut_mid (done cur suf : List UInt8) : ((done ++ (cur ++ suf)).take (done ++ cur).length).drop done.length = cur := by
  rw [← List.append_assoc, List.take_left, List.drop_left]
theorem eq34 (c : UInt8) : ((c.toNat : Int) = 34) = (c = 34) := eq_byte c 34 (by omega)
theorem tagLoop {s : ByteArray} (hs : s.size ≤ maxLen) : ∀ (suf pre : List UInt8) (d : UInt8), bl s = (34 :: pre) ++ (suf ++ [d]) → Ev (fun k => spec_l9Tag.l0 k s ((34 :: pre : List UInt8).length : Int)) (decide (34 ∉ suf)) := by
  intro suf
  induction suf with
  | nil =>
    intro pre d h
    obtain ⟨_, h2, _, _⟩ := tl_last (s := s) (r := 34 :: pre) (c := d) (by simpa using h) hs
    refine Ev.step (fun k => spec_l9Tag.l0.eq_2 ..) ?_
    simp only [h2, if_neg (Int.lt_irrefl _)]
    exact Ev.now _
  | cons c suf ih =>
    intro pre d h
    have h' : bl s = (34 :: pre) ++ c :: (suf ++ [d]) := by rw [h]; rfl
    obtain ⟨_, h2, _, _⟩ := tl_last (s := s) (r := 34 :: pre ++ c :: suf) (c := d) (by rw [h']; simp) hs
    refine Ev.step (fun k => spec_l9Tag.l0.eq_2 ..) ?_
    simp only [h2, if_pos (show (((34 :: pre : List UInt8).length : Nat) : Int) < (((34 :: pre ++ c :: suf : List UInt8).length : Nat) : Int) by simp only [List.length_append, List.length_cons]; omega), if_pos (nonneg_at _), if_pos (blt_at h'), bt_at' h', eq34, bnext_at h' hs]
    by_cases e : c = 34
    · simp only [e, if_true, List.mem_cons, true_or, not_true_eq_false, decide_false]
      exact Ev.now _
    · have e' : ¬ (34 : UInt8) = c := fun x => e x.symm
      simp only [e, if_false, List.mem_cons, e', false_or]
      exact ih (pre ++ [c]) d (by rw [h']; simp)
theorem specTag {s : ByteArray} (hs : s.size ≤ 1073741824) : Ev (fun k => spec_l9Tag.f k s) (isTag (bl s)) := by
  have hm : s.size ≤ maxLen := by rw [maxLen_eq]; omega
  have hl := bl_len s
  have hj : Ev (fun k => spec_l9Tag.j0 k s true) false := by
    refine Ev.step (fun k => spec_l9Tag.j0.eq_2 ..) ?_
    simp only [if_true]
    exact Ev.now _
  unfold spec_l9Tag.f
  by_cases c0 : (s.size : Int) < 2
  · simp only [if_pos c0]
    rw [isTag_short (by omega)]
    exact hj
  · simp only [if_neg c0]
    obtain ⟨c, r, h1⟩ : ∃ c r, bl s = c :: r := by
      cases h : bl s with
      | nil => rw [h] at hl; simp at hl; omega
      | cons c r => exact ⟨c, r, rfl⟩
    have hr : r ≠ [] := fun e => by rw [h1, e] at hl; simp at hl; omega
    obtain ⟨mid, d, rfl⟩ : ∃ mid d, r = mid ++ [d] := ⟨r.dropLast, r.getLast hr, (List.dropLast_concat_getLast hr).symm⟩
    obtain ⟨g1, g2, _⟩ := tl_cons h1
    obtain ⟨_, g3, g4, _⟩ := tl_last (s := s) (r := c :: mid) (c := d) (by rw [h1]; rfl) hm
    rw [h1] at hl
    simp only [List.length_cons, List.length_append, List.length_nil] at hl
    rw [h1, isTag_ends]
    simp only [if_pos g1, g2, g3, g4, eq34, if_pos (nonneg_at _), if_pos (show (((c :: mid : List UInt8).length : Nat) : Int) < (s.size : Int) by simp only [List.length_cons]; omega)]
    by_cases c1 : c = 34
    · simp only [if_pos c1]
      by_cases c2 : d = 34
      · simp only [if_pos c2]
        by_cases c3 : (s.size : Int) > 12
        · simp only [if_pos c3]
          rw [show decide (mid.length ≤ 10) = false from decide_eq_false (by omega)]
          simp only [Bool.false_and, Bool.and_false]
          exact hj
        · simp only [if_neg c3]
          refine Ev.bind (specPlain hm) ?_
          have hp : plainL (bl s) = plainL mid := by
            rw [h1, c1, c2]
            simp only [plainL, List.all_cons, List.all_append, List.all_nil, Bool.and_true]
            rw [show inB 32 126 34 = true by decide]
            simp
          rw [hp, decide_eq_true c1, decide_eq_true c2, show decide (mid.length ≤ 10) = true from decide_eq_true (by omega)]
          simp only [Bool.true_and]
          cases hq : plainL mid with
          | false => simp only [Bool.not_false, Bool.false_and]; exact hj
          | true =>
            simp only [Bool.not_true, Bool.true_and]
            refine Ev.step (fun k => spec_l9Tag.j0.eq_2 ..) ?_
            simp only [Bool.false_eq_true, if_false]
            have := tagLoop (s := s) hm mid [] d (by rw [h1, c1]; rfl)
            simpa using this
      · simp only [if_neg c2]
        rw [decide_eq_false c2]
        simp only [Bool.false_and, Bool.and_false]
        exact hj
    · simp only [if_neg c1]
      rw [decide_eq_false c1]
      simp only [Bool.false_and]
      exact hj
end Go.Proofs.YtigoeooelfeopaaGreatDoor.L

/- Decimal numerals read: the program and the reference read the same. No condition. -/
set_option linter.unusedSimpArgs false
set_option linter.unusedVariables false
namespace Go.Proofs.YtigoeooelfeopaaGreatDoor.L
open Go.RowKit Go.Proofs.YtigoeooelfeopaaGreatDoorW.PrintWords Go.Proofs.YtigoeooelfeopaaGreatDoorW.PrintLast Go.Proofs.YtigoeooelfeopaaGreatDoor.Q
def isDig (c : UInt8) : Bool := decide (48 ≤ c.toNat ∧ c.toNat ≤ 57)
def val (l : List UInt8) : Nat := l.foldl (fun a c => a * 10 + (c.toNat - 48)) 0
theorem val_snoc (l : List UInt8) (c : UInt8) : val (l ++ [c]) = val l * 10 + (c.toNat - 48) := by simp [val]
def Canon (l : List UInt8) : Prop := l ≠ [] ∧ (∀ c ∈ l, isDig c = true) ∧ (1 < l.length → ∀ r, l ≠ 48 :: r)
theorem dig_byte {n : Nat} (h : n < 10) : (UInt8.ofNat (48 + n)).toNat = 48 + n := by rw [UInt8.toNat_ofNat']; omega
theorem dec_canon : ∀ (m n : Nat), n ≤ m → Canon (Lib.decDigits n) ∧ val (Lib.decDigits n) = n := by
  intro m
  induction m with
  | zero =>
    intro n hn
    obtain rfl : n = 0 := by omega
    rw [Lib.decDigits_one (by omega)]
    exact ⟨⟨by simp, fun c hc => by simp only [List.mem_singleton] at hc; rw [hc]; decide, fun h => by simp at h⟩, rfl⟩
  | succ m ih =>
    intro n hn
    by_cases c : n < 10
    · rw [Lib.decDigits_one c]
      have e := dig_byte c
      refine ⟨⟨by simp, fun x hx => ?_, fun h => by simp at h⟩, ?_⟩
      · simp only [List.mem_singleton] at hx
        rw [hx]; unfold isDig; rw [e]; exact decide_eq_true ⟨by omega, by omega⟩
      · simp only [val, List.foldl_cons, List.foldl_nil, e]; omega
    · obtain ⟨⟨h1, h2, h3⟩, h4⟩ := ih (n / 10) (by omega)
      have e := dig_byte (n := n % 10) (by omega)
      rw [decD_step c]
      refine ⟨⟨by simp, fun x hx => ?_, fun _ r hr => ?_⟩, ?_⟩
      · rcases List.mem_append.1 hx with hx | hx
        · exact h2 x hx
        · simp only [List.mem_singleton] at hx
          rw [hx]; unfold isDig; rw [e]; exact decide_eq_true ⟨by omega, by omega⟩
      · cases hd : Lib.decDigits (n / 10) with
        | nil => exact h1 hd
        | cons a t =>
          rw [hd] at hr
          injection hr with ha _
          subst ha
          by_cases ht : t = []
          · have : n / 10 = 0 := by rw [← h4, hd, ht]; rfl
            omega
          · have : 1 < (Lib.decDigits (n / 10)).length := by
              rw [hd]
              have := List.length_pos_iff.2 ht
              simp only [List.length_cons]; omega
            exact h3 this t hd
      · rw [val_snoc, h4, e]; omega
theorem canon_dec : ∀ (m : Nat) (l : List UInt8), l.length ≤ m → Canon l → l = Lib.decDigits (val l) := by
  intro m
  induction m with
  | zero => intro l hl h; exact absurd (List.length_eq_zero_iff.1 (Nat.le_zero.1 hl)) h.1
  | succ m ih =>
    intro l hl h
    obtain ⟨h1, h2, h3⟩ := h
    obtain ⟨l', c, rfl⟩ : ∃ l' c, l = l' ++ [c] := ⟨l.dropLast, l.getLast h1, (List.dropLast_concat_getLast h1).symm⟩
    have hc := h2 c (by simp)
    unfold isDig at hc
    obtain ⟨c1, c2⟩ := of_decide_eq_true hc
    have ec : c = UInt8.ofNat (48 + (c.toNat - 48)) := by
      apply UInt8.toNat_inj.1
      rw [UInt8.toNat_ofNat']; omega
    by_cases hl0 : l' = []
    · subst hl0
      rw [val_snoc, show val [] = 0 from rfl, Nat.zero_mul, Nat.zero_add, Lib.decDigits_one (by omega), List.nil_append, ← ec]
    · have hlen := List.length_pos_iff.2 hl0
      simp only [List.length_append, List.length_cons, List.length_nil] at hl
      have hcn : Canon l' := by
        refine ⟨hl0, fun x hx => h2 x (List.mem_append_left _ hx), fun _ r hr => h3 ?_ (r ++ [c]) (by rw [hr]; rfl)⟩
        simp only [List.length_append, List.length_cons, List.length_nil]; omega
      have e := ih l' (by omega) hcn
      have hv : 1 ≤ val l' := by
        cases hv : val l' with
        | succ n => omega
        | zero =>
          rw [hv, Lib.decDigits_one (by omega)] at e
          exact absurd (by rw [e]; rfl) (h3 (by simp only [List.length_append, List.length_cons, List.length_nil]; omega) [c])
      rw [val_snoc, decD_step (by omega), show (val l' * 10 + (c.toNat - 48)) / 10 = val l' by omega, show (val l' * 10 + (c.toNat - 48)) % 10 = c.toNat - 48 by omega, ← e, ← ec]
theorem decFrom_snoc (l : List UInt8) (c : UInt8) : ∀ acc n, Lib.decFrom acc l = some n → 48 ≤ c.toNat → c.toNat ≤ 57 → Lib.decFrom acc (l ++ [c]) = some (n * 10 + (c.toNat - 48)) := by
  induction l with
  | nil =>
    intro acc n h c1 c2
    simp only [Lib.decFrom, Option.some.injEq] at h
    subst h
    simp [Lib.decFrom, Lib.digitVal, c1, c2]
  | cons b l ih =>
    intro acc n h c1 c2
    simp only [List.cons_append, Lib.decFrom] at h ⊢
    split at h
    · exact ih _ _ h c1 c2
    · cases h
theorem decFrom_dec : ∀ (m n : Nat), n ≤ m → Lib.decFrom 0 (Lib.decDigits n) = some n := by
  intro m
  induction m with
  | zero =>
    intro n hn
    obtain rfl : n = 0 := by omega
    rw [Lib.decDigits_one (by omega)]; rfl
  | succ m ih =>
    intro n hn
    by_cases c : n < 10
    · have e := dig_byte c
      rw [Lib.decDigits_one c]
      have := decFrom_snoc [] (UInt8.ofNat (48 + n)) 0 0 rfl (by omega) (by omega)
      rw [List.nil_append, e] at this
      rw [this]; simp
    · have e := dig_byte (n := n % 10) (by omega)
      rw [decD_step c]
      have := decFrom_snoc (Lib.decDigits (n / 10)) (UInt8.ofNat (48 + n % 10)) 0 (n / 10) (ih _ (by omega)) (by omega) (by omega)
      rw [this, e]
      congr 1
      omega
theorem atoi_dec (n : Nat) : Lib.atoi (Lib.decDigits n) = some (n : Int) := by
  obtain ⟨⟨h1, h2, _⟩, _⟩ := dec_canon n n (Nat.le_refl _)
  cases h : Lib.decDigits n with
  | nil => exact absurd h h1
  | cons b r =>
    have hb := h2 b (by rw [h]; simp)
    unfold isDig at hb
    obtain ⟨c1, c2⟩ := of_decide_eq_true hb
    have n45 : b ≠ 45 := fun e => by rw [e] at c1; revert c1; decide
    have n43 : b ≠ 43 := fun e => by rw [e] at c1; revert c1; decide
    unfold Lib.atoi
    simp only [beq_iff_eq, n45, n43, if_false, Lib.decNat, List.isEmpty_cons, Bool.false_eq_true]
    rw [← h, decFrom_dec n n (Nat.le_refl _)]
    rfl
open Classical in
noncomputable def numR (l : List UInt8) (most : Int) : Int × Bool := if Canon l ∧ l.length ≤ 7 ∧ (val l : Int) ≤ most then ((val l : Int), true) else (0, false)
theorem numR_yes {l : List UInt8} {most : Int} (h : Canon l ∧ l.length ≤ 7 ∧ (val l : Int) ≤ most) : numR l most = ((val l : Int), true) := by unfold numR; rw [if_pos h]
theorem numR_no {l : List UInt8} {most : Int} (h : ¬ (Canon l ∧ l.length ≤ 7 ∧ (val l : Int) ≤ most)) : numR l most = (0, false) := by unfold numR; rw [if_neg h]
theorem implNum {s : ByteArray} (hs : s.size ≤ 1073741824) (most : Int) : impl_ParseNum.f s most = some (numR (bl s) most) := by
  have hl := bl_len s
  unfold impl_ParseNum.f
  rw [if_pos (by omega)]
  by_cases c : Canon (bl s) ∧ (bl s).length ≤ 7
  · obtain ⟨c1, c2⟩ := c
    have e := canon_dec _ _ (Nat.le_refl _) c1
    have ha : Lib.atoiAll s.data.toList = .ok (val (bl s) : Int) := by
      have h1 : Lib.atoiAll (bl s) = Lib.NumEnd.ofOption (Lib.atoi (bl s)) := Lib.atoiAll_short _ (by omega)
      have h2 := atoi_dec (val (bl s))
      rw [← e] at h2
      rw [h2] at h1
      exact h1
    rw [ha]
    have hb := Lib.atoiAll_bounds ha
    simp only [if_neg (show ¬ (val (bl s) : Int) < 0 by omega)]
    by_cases c3 : most < (val (bl s) : Int)
    · rw [if_pos c3, numR_no (fun h => by omega)]
    · rw [if_neg c3, if_neg (by omega), numI _ (by omega), numR_yes ⟨c1, c2, by omega⟩]
      simp only [Option.bind_some, Int.toNat_natCast, ← e, ofL_bl, if_true]
  · rw [numR_no (fun h => c ⟨h.1, h.2.1⟩)]
    rcases ha : Lib.atoiAll s.data.toList with v | _ | _
    rotate_left
    · rfl
    · rfl
    ·
      have hb := Lib.atoiAll_bounds ha
      simp only
      by_cases c1 : v < 0
      · rw [if_pos c1]
      rw [if_neg c1]
      by_cases c2 : most < v
      · rw [if_pos c2]
      rw [if_neg c2]
      by_cases c3 : 7 < s.size
      · rw [if_pos c3]
      rw [if_neg c3, numI v (by omega)]
      simp only [Option.bind_some]
      rw [if_neg]
      intro e
      rw [tl_eq] at e
      have e2 : bl s = Lib.decDigits v.toNat := by
        have := e.symm
        rw [ba_toList] at this
        have h3 : bl s = bl (ofL (Lib.decDigits v.toNat)) := this
        rw [h3, bl_ofL]
      exact c ⟨by rw [e2]; exact (dec_canon _ _ (Nat.le_refl _)).1, by omega⟩
theorem dig_eq (c : UInt8) : inB 48 57 c = isDig c := by
  unfold inB isDig
  by_cases h : 48 ≤ c.toNat ∧ c.toNat ≤ 57
  · rw [decide_eq_true h, decide_eq_true (by omega)]
  · rw [decide_eq_false h, decide_eq_false (by omega)]
theorem specNum {s : ByteArray} (hs : s.size ≤ 1073741824) (most : Int) : Ev (fun k => spec_ParseNum.f k s most) (numR (bl s) most) := by
  have hl := bl_len s
  have hm : s.size ≤ maxLen := by rw [maxLen_eq]; omega
  have fin : ∀ (pre suf : List UInt8) (i : Int), bl s = pre ++ suf → (∀ c ∈ pre, isDig c = true) → (suf = [] ∨ 8 ≤ pre.length) → Ev (fun k => spec_ParseNum.j1 k s most (val pre : Int) i false) (numR (bl s) most) := by
    intro pre suf i h hd hc
    refine Ev.step (fun k => spec_ParseNum.j1.eq_2 ..) ?_
    simp only [Bool.false_eq_true, if_false, specIn, Option.bind_some]
    by_cases c0 : 1 ≤ (s.size : Int) ∧ (s.size : Int) ≤ 7
    · simp only [c0, and_self, decide_true, if_true]
      have hlen := congrArg List.length h
      rw [List.length_append] at hlen
      obtain rfl : suf = [] := by
        rcases hc with h2 | h2
        · exact h2
        · omega
      rw [List.append_nil] at h
      by_cases c1 : (s.size : Int) > 1
      · simp only [if_pos c1]
        cases hp : pre with
        | nil => rw [hp] at h; rw [h] at hl; simp only [List.length_nil] at hl; omega
        | cons c r =>
          obtain ⟨g1, g2, _⟩ := tl_cons (s := s) (c := c) (r := r) (by rw [h, hp])
          have e48 : ((c.toNat : Int) = 48) = (c = 48) := eq_byte c 48 (by omega)
          simp only [if_pos g1, g2, e48]
          by_cases c2 : c = 48
          · simp only [if_pos c2]
            rw [numR_no (fun hh => hh.1.2.2 (by omega) r (by rw [h, hp, c2]))]
            exact Ev.now _
          · simp only [if_neg c2, ← hp]
            have hcn : Canon (bl s) := ⟨by rw [h, hp]; simp, by rw [h]; exact hd, fun _ r' hr => by rw [h, hp] at hr; injection hr with e _; exact c2 e⟩
            by_cases c3 : (val pre : Int) > most
            · simp only [if_pos c3]
              rw [numR_no (fun hh => by rw [h] at hh; omega)]
              exact Ev.now _
            · simp only [if_neg c3]
              rw [numR_yes ⟨hcn, by omega, by rw [h]; omega⟩, h]
              exact Ev.now _
      · simp only [if_neg c1]
        have hcn : Canon (bl s) := ⟨fun e => by rw [e] at hl; simp only [List.length_nil] at hl; omega, by rw [h]; exact hd, fun hh => by omega⟩
        by_cases c3 : (val pre : Int) > most
        · simp only [if_pos c3]
          rw [numR_no (fun hh => by rw [h] at hh; omega)]
          exact Ev.now _
        · simp only [if_neg c3]
          rw [numR_yes ⟨hcn, by omega, by rw [h]; omega⟩, h]
          exact Ev.now _
    · simp only [c0, decide_false, Bool.false_eq_true, if_false]
      rw [numR_no]
      · exact Ev.now _
      · rintro ⟨h1, h2, _⟩
        have := List.length_pos_iff.2 h1.1
        omega
  have key : ∀ (suf pre : List UInt8), bl s = pre ++ suf → (∀ c ∈ pre, isDig c = true) → pre.length ≤ 8 → (val pre : Int) < 1000000000 → Ev (fun k => spec_ParseNum.l0 k s most (val pre : Int) (pre.length : Int)) (numR (bl s) most) := by
    intro suf
    induction suf with
    | nil =>
      intro pre h hd _ _
      refine Ev.step (fun k => spec_ParseNum.l0.eq_2 ..) ?_
      simp only [if_neg (bend_at h)]
      exact fin pre [] _ h hd (.inl rfl)
    | cons c suf ih =>
      intro pre h hd hp hv
      refine Ev.step (fun k => spec_ParseNum.l0.eq_2 ..) ?_
      simp only [if_pos (blt_at h)]
      by_cases c0 : (pre.length : Int) < 8
      · simp only [c0, decide_true]
        refine Ev.step (fun k => spec_ParseNum.j1.eq_2 ..) ?_
        simp only [if_true, if_pos (nonneg_at _), if_pos (blt_at h), bt_at' h, specDigit1, Option.bind_some, dig_eq]
        cases hc : isDig c with
        | false =>
          simp only [Bool.false_eq_true, if_false]
          rw [numR_no (fun hh => by have := hh.1.2.1 c (by rw [h]; simp); rw [hc] at this; cases this)]
          exact Ev.now _
        | true =>
          have hc' := hc
          unfold isDig at hc'
          obtain ⟨c1, c2⟩ := of_decide_eq_true hc'
          have e1 : ((c.toNat : Int) - 48) % 256 = ((c.toNat - 48 : Nat) : Int) := by omega
          by_cases c8 : pre.length = 7
          · -- the eighth digit: whatever it is worth
            have hv8 : (val pre : Int) < 10000000 ∨ True := .inr trivial
            simp only [if_true, bnext_at h hm, e1, wrap_id (x := (val pre : Int) * 10) (by omega) (by omega)]
            rw [wrap_id (by omega) (by omega), show ((val pre : Int) * 10 + ((c.toNat - 48 : Nat) : Int)) = ((val (pre ++ [c]) : Nat) : Int) by rw [val_snoc]; omega]
            refine Ev.step (fun k => spec_ParseNum.l0.eq_2 ..) ?_
            have h' : bl s = (pre ++ [c]) ++ suf := by rw [h]; simp
            have hd' : ∀ x ∈ pre ++ [c], isDig x = true := fun x hx => (List.mem_append.1 hx).elim (hd x) (fun hx => by simp only [List.mem_singleton] at hx; rw [hx]; exact hc)
            have h8 : 8 ≤ (pre ++ [c]).length := by simp only [List.length_append, List.length_cons, List.length_nil]; omega
            by_cases c9 : (((pre ++ [c]).length : Nat) : Int) < (s.size : Int)
            · simp only [if_pos c9]
              rw [show decide ((((pre ++ [c]).length : Nat) : Int) < 8) = false from decide_eq_false (by omega)]
              exact fin _ suf _ h' hd' (.inr h8)
            · simp only [if_neg c9]
              exact fin _ suf _ h' hd' (.inr h8)
          · simp only [if_true, bnext_at h hm, e1, wrap_id (x := (val pre : Int) * 10) (by omega) (by omega)]
            rw [wrap_id (by omega) (by omega), show ((val pre : Int) * 10 + ((c.toNat - 48 : Nat) : Int)) = ((val (pre ++ [c]) : Nat) : Int) by rw [val_snoc]; omega]
            refine ih (pre ++ [c]) (snoc_at h) (fun x hx => (List.mem_append.1 hx).elim (hd x) (fun hx => by simp only [List.mem_singleton] at hx; rw [hx]; exact hc)) (by simp only [List.length_append, List.length_cons, List.length_nil]; omega) ?_
            have hb : ∀ (l : List UInt8), (∀ x ∈ l, isDig x = true) → val l < 10 ^ l.length := by
              intro l
              have : ∀ (l : List UInt8) (acc : Nat), (∀ x ∈ l, isDig x = true) → l.foldl (fun a c => a * 10 + (c.toNat - 48)) acc < (acc + 1) * 10 ^ l.length := by
                intro l
                induction l with
                | nil => intro acc _; simp
                | cons x l ihl =>
                  intro acc hx
                  have hx1 := hx x (by simp)
                  unfold isDig at hx1
                  obtain ⟨x1, x2⟩ := of_decide_eq_true hx1
                  have := ihl (acc * 10 + (x.toNat - 48)) (fun y hy => hx y (List.mem_cons_of_mem _ hy))
                  simp only [List.foldl_cons, List.length_cons, Nat.pow_succ]
                  refine Nat.lt_of_lt_of_le this ?_
                  have h10 : acc * 10 + (x.toNat - 48) + 1 ≤ (acc + 1) * 10 := by omega
                  calc (acc * 10 + (x.toNat - 48) + 1) * 10 ^ l.length ≤ ((acc + 1) * 10) * 10 ^ l.length := Nat.mul_le_mul_right _ h10
                    _ = (acc + 1) * (10 ^ l.length * 10) := by rw [Nat.mul_assoc, Nat.mul_comm 10]
              intro hx
              have := this l 0 hx
              simpa [val] using this
            have h7 := hb (pre ++ [c]) (fun x hx => (List.mem_append.1 hx).elim (hd x) (fun hx => by simp only [List.mem_singleton] at hx; rw [hx]; exact hc))
            have h9 : (pre ++ [c]).length ≤ 7 := by simp only [List.length_append, List.length_cons, List.length_nil]; omega
            have h10 : 10 ^ (pre ++ [c]).length ≤ 10 ^ 7 := Nat.pow_le_pow_right (by omega) h9
            omega
      · rw [show decide ((pre.length : Int) < 8) = false from decide_eq_false c0]
        exact fin pre (c :: suf) _ h hd (.inr (by omega))
  have := key (bl s) [] rfl (fun _ h => by simp at h) (by simp) (by decide)
  unfold spec_ParseNum.f
  simpa [val] using this
end Go.Proofs.YtigoeooelfeopaaGreatDoor.L

/- Conditions read from a text: the reference's reader and the program's come to the same. No condition. -/
set_option linter.unusedSimpArgs false
set_option linter.unusedVariables false
namespace Go.Proofs.YtigoeooelfeopaaGreatDoor.L
open Go.RowKit Go.Proofs.YtigoeooelfeopaaGreatDoorW.PrintWords Go.Proofs.YtigoeooelfeopaaGreatDoorW.PrintLast Go.Proofs.YtigoeooelfeopaaGreatDoor.Q
theorem pre_iff {x p : List UInt8} : Lib.hasPrefix x p = true ↔ ∃ t, x = p ++ t := by
  unfold Lib.hasPrefix
  rw [List.isPrefixOf_iff_prefix]
  exact ⟨fun ⟨t, h⟩ => ⟨t, h.symm⟩, fun ⟨t, h⟩ => ⟨t, h.symm⟩⟩
theorem atP {s a : ByteArray} {pre x : List UInt8} (h : bl s = pre ++ x) (hs : s.size ≤ 1073741824) (ha : a.size ≤ 100) : spec_l7At.f s (pre.length : Int) a = some (Lib.hasPrefix x (bl a)) := by
  have hl := bl_len s
  have hla := bl_len a
  rw [h, List.length_append] at hl
  have hw : wrap64 ((pre.length : Int) + (a.size : Int)) = ((pre.length + a.size : Nat) : Int) := by rw [wrap_id (by omega) (by omega)]; omega
  unfold spec_l7At.f
  rw [hw]
  by_cases c : a.size ≤ x.length
  · rw [if_pos (by omega), if_pos (by omega), if_pos (by omega)]
    have hx : bl (s.extract pre.length (pre.length + a.size)) = x.take a.size := by
      rw [bl_extract, h, List.take_length_add_append, List.drop_left]
    have : (s.extract ((pre.length : Nat) : Int).toNat ((pre.length + a.size : Nat) : Int).toNat).toList = x.take a.size := by
      rw [Int.toNat_natCast, Int.toNat_natCast, ba_toList]; exact hx
    rw [this, ba_toList]
    congr 1
    apply Bool.eq_iff_iff.2
    rw [beq_iff_eq, pre_iff]
    constructor
    · intro e; exact ⟨x.drop a.size, by rw [show bl a = x.take a.size from e.symm, List.take_append_drop]⟩
    · rintro ⟨t, rfl⟩
      rw [← hla, List.take_left]
  · rw [if_neg (by omega)]
    congr 1
    symm
    apply Bool.eq_false_iff.2
    rw [ne_eq, pre_iff]
    rintro ⟨t, rfl⟩
    rw [List.length_append] at c
    omega
theorem isCut {s : ByteArray} {pre x : List UInt8} (h : bl s = pre ++ x) (hs : s.size ≤ 1073741824) (a : ByteArray) (ha : a.size ≤ 100) :
    ∃ nb pre1 y, bl s = pre1 ++ y ∧ (nb = true → x = bl a ++ y) ∧ (nb = false → y = x ∧ pre1 = pre ∧ ∀ t, x ≠ bl a ++ t) ∧ spec_l14Is.f s (pre.length : Int) false a = some (nb, s, (pre1.length : Int), false) ∧ strings_CutPrefix.f (ofL x) a = some (ofL y, nb) := by
  have hl := bl_len s
  have hla := bl_len a
  rw [h, List.length_append] at hl
  unfold spec_l14Is.f strings_CutPrefix.f
  simp only [Bool.false_eq_true, if_false, atP h hs ha, Option.bind_some]
  cases c : Lib.hasPrefix x (bl a) with
  | true =>
    obtain ⟨t, rfl⟩ := pre_iff.1 c
    rw [List.length_append] at hl
    refine ⟨true, pre ++ bl a, t, by rw [h, List.append_assoc], fun _ => rfl, fun e => (by cases e), ?_, ?_⟩
    · simp only [if_true, List.length_append]
      rw [wrap_id (by omega) (by omega), hla]
      simp
    · have : Lib.trimPrefix (bl a ++ t) (bl a) = t := by unfold Lib.trimPrefix; rw [c]; simp
      have e2 : Lib.hasPrefix (bl a ++ t) a.data.toList = true := c
      have e3 : Lib.trimPrefix (bl a ++ t) a.data.toList = t := this
      rw [e3]
  | false =>
    refine ⟨false, pre, x, h, fun e => (by cases e), fun _ => ⟨rfl, rfl, fun t e => ?_⟩, ?_, ?_⟩
    · rw [pre_iff.2 ⟨t, e⟩] at c; cases c
    · simp
    · have e2 : Lib.hasPrefix x a.data.toList = false := c
      have e3 : Lib.trimPrefix x a.data.toList = x := by unfold Lib.trimPrefix; rw [e2]; simp
      rw [e3]
theorem isBad (s : ByteArray) (i : Int) (a : ByteArray) : spec_l14Is.f s i true a = some (false, s, i, true) := by unfold spec_l14Is.f; simp
theorem mustBad (s : ByteArray) (i : Int) (a : ByteArray) : spec_l14Must.f s i true a = some (s, i, true) := by unfold spec_l14Must.f; rw [isBad]; simp
theorem mustIs {s a : ByteArray} {i j : Int} {nb : Bool} (h : spec_l14Is.f s i false a = some (nb, s, j, false)) : spec_l14Must.f s i false a = some (s, j, !nb) := by
  unfold spec_l14Must.f; rw [h]; cases nb <;> simp
theorem byte_eq (b c : UInt8) : ((b.toNat : Int) = (c.toNat : Int)) = (b = c) := propext ⟨fun h => UInt8.toNat_inj.1 (by omega), fun h => by rw [h]⟩
theorem toHit {s : ByteArray} {c : UInt8} {i : Int} (hi : i = (c.toNat : Int)) (b : Bool) (hs : s.size ≤ 1073741824) : ∀ (mid cur pre rest : List UInt8), bl s = pre ++ (cur ++ (mid ++ c :: rest)) → c ∉ mid →
    Ev (fun k => spec_l14To.l0 k i (pre.length : Int) s ((pre ++ cur).length : Int) b) (ofL (cur ++ mid), s, ((pre ++ (cur ++ mid) ++ [c]).length : Int), b) := by
  have hm : s.size ≤ maxLen := by rw [maxLen_eq]; omega
  intro mid
  induction mid with
  | nil =>
    intro cur pre rest h hc
    have hl := bl_len s
    rw [h] at hl
    simp only [List.length_append, List.length_cons, List.length_nil] at hl
    have h' : bl s = (pre ++ cur) ++ c :: rest := by rw [h]; simp
    refine Ev.step (fun k => spec_l14To.l0.eq_2 ..) ?_
    have hw : wrap64 ((((pre ++ cur ++ [c]).length : Nat) : Int) - 1) = (((pre ++ cur).length : Nat) : Int) := by
      rw [wrap_id (by simp only [List.length_append]; omega) (by simp only [List.length_append, List.length_cons, List.length_nil]; omega)]; simp only [List.length_append, List.length_cons, List.length_nil]; omega
    have hx : s.extract pre.length (pre ++ cur).length = ofL cur := by
      apply bl_inj
      rw [bl_extract, h, bl_ofL]
      exact cut_mid pre cur _
    simp only [if_pos (blt_at h'), if_pos (nonneg_at _), bt_at' h', hi, if_true, bnext_at h' hm, hw, if_neg (show ¬ (((pre ++ cur).length : Nat) : Int) = (s.size : Int) by simp only [List.length_append]; omega), if_pos (show ((pre.length : Nat) : Int) ≤ (((pre ++ cur).length : Nat) : Int) by simp only [List.length_append]; omega), if_pos (show (((pre ++ cur).length : Nat) : Int) ≤ (s.size : Int) by simp only [List.length_append]; omega), Int.toNat_natCast, hx, List.append_nil]
    exact Ev.now _
  | cons d mid ih =>
    intro cur pre rest h hc
    have h' : bl s = (pre ++ cur) ++ d :: (mid ++ c :: rest) := by rw [h]; simp
    have hd : ¬ d = c := fun e => hc (by rw [e]; simp)
    refine Ev.step (fun k => spec_l14To.l0.eq_2 ..) ?_
    simp only [if_pos (blt_at h'), if_pos (nonneg_at _), bt_at' h', hi, byte_eq, if_neg hd, bnext_at h' hm]
    have := ih (cur ++ [d]) pre rest (by rw [h]; simp) (fun e => hc (List.mem_cons_of_mem _ e))
    rw [hi] at this
    simpa using this
theorem toMiss {s : ByteArray} {c : UInt8} {i : Int} (hi : i = (c.toNat : Int)) (b : Bool) (st : Int) (hs : s.size ≤ 1073741824) : ∀ (x pre : List UInt8), bl s = pre ++ x → c ∉ x →
    Ev (fun k => spec_l14To.l0 k i st s (pre.length : Int) b) ((⟨#[]⟩ : ByteArray), s, (s.size : Int), true) := by
  have hm : s.size ≤ maxLen := by rw [maxLen_eq]; omega
  intro x
  induction x with
  | nil =>
    intro pre h hc
    have hl := bl_len s
    rw [h, List.append_nil] at hl
    refine Ev.step (fun k => spec_l14To.l0.eq_2 ..) ?_
    rw [hl]
    simp only [Int.lt_irrefl, if_false, if_true]
    exact Ev.now _
  | cons d x ih =>
    intro pre h hc
    have hd : ¬ d = c := fun e => hc (by rw [e]; simp)
    refine Ev.step (fun k => spec_l14To.l0.eq_2 ..) ?_
    simp only [if_pos (blt_at h), if_pos (nonneg_at _), bt_at' h, hi, byte_eq, if_neg hd, bnext_at h hm]
    have := ih (pre ++ [d]) (by rw [h]; simp) (fun e => hc (List.mem_cons_of_mem _ e))
    rw [hi] at this
    exact this
theorem toAny {s : ByteArray} {c : UInt8} {i : Int} (hi : i = (c.toNat : Int)) (hs : s.size ≤ 1073741824) {pre x : List UInt8} (h : bl s = pre ++ x) : ∃ t j, t.size ≤ 1073741824 ∧ Ev (fun k => spec_l14To.f k s (pre.length : Int) true i) (t, s, j, true) := by
  unfold spec_l14To.f
  by_cases e : c ∈ x
  · obtain ⟨mid, rest, rfl, h2⟩ := first_of e
    have := toHit hi true hs mid [] pre rest (by simpa using h) h2
    refine ⟨_, _, ?_, by simpa using this⟩
    have hl := bl_len s
    rw [h] at hl
    simp only [List.length_append, List.length_cons] at hl
    rw [size_ofL]; omega
  · exact ⟨_, _, (by rw [show (⟨#[]⟩ : ByteArray).size = 0 from rfl]; omega), toMiss hi true _ hs x pre h e⟩
def GoodC (c : S43) : Prop := (c.f2 = ⟨#[]⟩ ∧ 1 ≤ c.f1 ∧ c.f1 ≤ 9999) ∨ (c.f1 = 0 ∧ ∃ body, c.f2 = ofL (34 :: (body ++ [34])) ∧ (34 : UInt8) ∉ body ∧ 1 ≤ body.length ∧ body.length ≤ 10 ∧ plainL body = true)
def GoodL (l : List S43) : Prop := (∀ c ∈ l, GoodC c) ∧ 1 ≤ l.length ∧ l.length ≤ 4
theorem all_snoc {α : Type} {P : α → Prop} {l : List α} {a : α} (h : ∀ x ∈ l, P x) (ha : P a) : ∀ x ∈ l ++ [a], P x := fun x hx => (List.mem_append.1 hx).elim (h x) (fun h => by rw [List.mem_singleton.1 h]; exact ha)
theorem num_most {l : List UInt8} {m : Int} (h : numR l 9999 = (m, true)) : m ≤ 9999 := by
  by_cases c : Canon l ∧ l.length ≤ 7 ∧ (val l : Int) ≤ 9999
  · rw [numR_yes c] at h
    rw [← (Prod.mk.inj h).1]; exact c.2.2
  · rw [numR_no c] at h
    cases (Prod.mk.inj h).2
abbrev CO (s : ByteArray) (pre x : List UInt8) : Prop :=
  (∃ (c : S43) (rest pre' : List UInt8), GoodC c ∧ bl s = pre' ++ rest ∧ rest.length < x.length ∧ Ev (fun k => spec_l14Cond.f k s (pre.length : Int) false) (c.f0, c.f1, c.f2, s, (pre'.length : Int), false) ∧ Ev (fun k => impl_condAt.f k (ofL x)) (c.f0, c.f1, c.f2, ofL rest, true))
  ∨ ((∃ a b c d e, Ev (fun k => spec_l14Cond.f k s (pre.length : Int) false) (a, b, c, d, e, true)) ∧ ∃ a b c d, Ev (fun k => impl_condAt.f k (ofL x)) (a, b, c, d, false))
theorem tag_is {body : List UInt8} (h : (34 : UInt8) ∉ body) : isTag (34 :: (body ++ [34])) = (decide (body.length ≤ 10) && plainL body) := by
  rw [isTag_ends, decide_eq_true (rfl : (34 : UInt8) = 34), decide_eq_true h]
  simp
theorem ev_bindS {α β : Type} {g : Option α} {f : Nat → α → Option β} {a : α} {r : β} (h : g = some a) (k : Ev (fun n => f n a) r) : Ev (fun n => g.bind (f n)) r := by rw [h]; exact k
theorem ev_iteT {α : Type} {p : Prop} [Decidable p] {f g : Nat → Option α} {r : α} (h : p) (k : Ev f r) : Ev (fun n => if p then f n else g n) r := by rw [funext (fun n => if_pos h)]; exact k
theorem ev_iteF {α : Type} {p : Prop} [Decidable p] {f g : Nat → Option α} {r : α} (h : ¬ p) (k : Ev g r) : Ev (fun n => if p then f n else g n) r := by rw [funext (fun n => if_neg h)]; exact k
theorem specC1 {s num : ByteArray} {i j1 j2 j3 m : Int} {nb b ok : Bool} (is1 : spec_l14Is.f s i false (⟨#[78, 111, 116, 32]⟩ : ByteArray) = some (nb, s, j1, false)) (is2 : spec_l14Is.f s j1 false (⟨#[60]⟩ : ByteArray) = some (true, s, j2, false))
    (t : Ev (fun k => spec_l14To.f k s j2 false 62) (num, s, j3, b)) (q : Ev (fun k => spec_ParseNum.f k num 9999) (m, ok)) : Ev (fun k => spec_l14Cond.f k s i false) (nb, m, (⟨#[]⟩ : ByteArray), s, j3, if b = true then true else if ok = true then decide (m < 1) else true) := by
  unfold spec_l14Cond.f
  refine ev_bindS is1 ?_
  refine ev_bindS is2 ?_
  refine ev_iteT rfl ?_
  refine Ev.bind t ?_
  refine Ev.bind q ?_
  cases b
  · refine ev_iteF nofun ?_
    cases ok
    · exact ev_iteF nofun (Ev.now _)
    · exact ev_iteT rfl (Ev.now _)
  · exact ev_iteT rfl (Ev.now _)
theorem specC2 {s body : ByteArray} {i j1 j2 j3 j4 : Int} {nb b b3 b4 ok : Bool} (is1 : spec_l14Is.f s i false (⟨#[78, 111, 116, 32]⟩ : ByteArray) = some (nb, s, j1, false)) (is2 : spec_l14Is.f s j1 false (⟨#[60]⟩ : ByteArray) = some (false, s, j1, false))
    (mu : spec_l14Must.f s j1 false (⟨#[91, 34]⟩ : ByteArray) = some (s, j2, b)) (t : Ev (fun k => spec_l14To.f k s j2 b 34) (body, s, j3, b3)) (mu2 : spec_l14Must.f s j3 b3 (⟨#[93]⟩ : ByteArray) = some (s, j4, b4)) (hz : body.size ≤ 1073741824)
    (tg : b4 = false → Ev (fun k => spec_l9Tag.f k (((⟨#[34]⟩ : ByteArray) ++ body) ++ (⟨#[34]⟩ : ByteArray))) ok) : Ev (fun k => spec_l14Cond.f k s i false) (nb, 0, ((⟨#[34]⟩ : ByteArray) ++ body) ++ (⟨#[34]⟩ : ByteArray), s, j4, if b4 = true then true else if ok = true then (body.toList == ([] : List UInt8)) else true) := by
  have h1 : ((⟨#[34]⟩ : ByteArray) ++ body).size = 1 + body.size := by rw [ByteArray.size_append]; rfl
  unfold spec_l14Cond.f
  refine ev_bindS is1 ?_
  refine ev_bindS is2 ?_
  refine ev_iteF nofun ?_
  refine ev_bindS mu ?_
  refine Ev.bind t ?_
  refine ev_bindS mu2 ?_
  refine ev_iteT (show 1 + body.size ≤ 9223372036854775807 by omega) ?_
  refine ev_iteT (show ((⟨#[34]⟩ : ByteArray) ++ body).size + 1 ≤ 9223372036854775807 by omega) ?_
  cases b4
  · refine ev_iteF nofun ?_
    refine Ev.bind (tg rfl) ?_
    cases ok
    · exact ev_iteF nofun (Ev.now _)
    · exact ev_iteT rfl (Ev.now _)
  · exact ev_iteT rfl (Ev.now _)
theorem condBoth {s : ByteArray} (hs : s.size ≤ 1073741824) {pre x : List UInt8} (h : bl s = pre ++ x) : CO s pre x := by
  have hm : s.size ≤ maxLen := by rw [maxLen_eq]; omega
  have hsz : ∀ {p y : List UInt8}, bl s = p ++ y → y.length ≤ 1073741824 := by
    intro p y hy
    have := bl_len s
    rw [hy, List.length_append] at this
    omega
  obtain ⟨nb, pre1, y, h1, n1, n2, is1, cu1⟩ := isCut h hs (⟨#[78, 111, 116, 32]⟩ : ByteArray) (by decide)
  have hyx : y.length ≤ x.length := by
    cases nb with
    | true => have := n1 rfl; rw [this, List.length_append]; omega
    | false => rw [(n2 rfl).1]; exact Nat.le_refl _
  clear n1 n2
  unfold CO impl_condAt.f
  simp only [cu1, Option.bind_some]
  obtain ⟨nb2, pre2, u, h2, m1, m2, is2, cu2⟩ := isCut h1 hs (⟨#[60]⟩ : ByteArray) (by decide)
  simp only [cu2, Option.bind_some]
  cases nb2 with
  | true =>
    have hy : y = 60 :: u := m1 rfl
    simp only [if_true]
    by_cases c1 : (62 : UInt8) ∈ u
    · obtain ⟨num, rest, rfl, hn⟩ := first_of c1
      have t1 := toHit (s := s) (c := 62) (i := 62) rfl false hs num [] pre2 rest (by simpa using h2) hn
      simp only [List.append_nil, List.nil_append] at t1
      have hu := hsz h2
      have hc : strings_Cut.f (ofL (num ++ 62 :: rest)) (⟨#[62]⟩ : ByteArray) = some (ofL num, ofL rest, true) := by
        unfold strings_Cut.f
        have e1 : (ofL (num ++ 62 :: rest)).data.toList = num ++ 62 :: rest := bl_ofL _
        have e2 : (⟨#[62]⟩ : ByteArray).data.toList = [62] := rfl
        rw [e1, e2, cut_hit rfl hn, if_pos (by rw [size_ofL]; omega)]
      simp only [List.length_append, List.length_cons] at hu
      have hq := specNum (s := ofL num) (by rw [size_ofL]; omega) 9999
      have hp := implNum (s := ofL num) (by rw [size_ofL]; omega) 9999
      rw [bl_ofL] at hq hp
      rcases hnm : numR num 9999 with ⟨m, ok⟩
      rw [hnm] at hq hp
      have sp := specC1 is1 is2 t1 hq
      simp only [hc, hp, Option.bind_some, if_true]
      by_cases c2 : ok = true ∧ 0 < m
      · obtain ⟨rfl, c2⟩ := c2
        left
        refine ⟨⟨nb, m, ⟨#[]⟩⟩, rest, pre2 ++ num ++ [62], .inl ⟨rfl, by show 1 ≤ m; omega, num_most hnm⟩, by rw [h2]; simp, by rw [hy] at hyx; simp only [List.length_append, List.length_cons] at hyx; omega, ?_, ?_⟩
        · simp only [Bool.false_eq_true, if_false, if_true, show decide (m < 1) = false from decide_eq_false (by omega)] at sp
          exact sp
        · simp only [if_true, show decide (m > 0) = true from decide_eq_true c2]
          exact Ev.now _
      · right
        refine ⟨⟨nb, m, ⟨#[]⟩, s, ((pre2 ++ num ++ [62]).length : Int), ev_cast sp ?_⟩, ⟨nb, m, ⟨#[]⟩, ofL rest, ?_⟩⟩
        · cases ok with
          | true => simp only [Bool.false_eq_true, if_false, if_true, show decide (m < 1) = true from decide_eq_true (by have : ¬ 0 < m := fun e => c2 ⟨rfl, e⟩; omega)]
          | false => simp only [Bool.false_eq_true, if_false]
        · cases ok with
          | true =>
            simp only [if_true, show decide (m > 0) = false from decide_eq_false (fun e => c2 ⟨rfl, e⟩)]
            exact Ev.now _
          | false =>
            simp only [Bool.false_eq_true, if_false]
            exact Ev.now _
    · have t1 := toMiss (s := s) (c := 62) (i := 62) rfl false (pre2.length : Int) hs u pre2 h2 c1
      have hu := hsz h2
      have hc : strings_Cut.f (ofL u) (⟨#[62]⟩ : ByteArray) = some (ofL u, ofL [], false) := by
        unfold strings_Cut.f
        have e1 : (ofL u).data.toList = u := bl_ofL _
        have e2 : (⟨#[62]⟩ : ByteArray).data.toList = [62] := rfl
        rw [e1, e2, cut_miss c1, if_pos (by rw [size_ofL]; omega)]
      have hq := specNum (s := (⟨#[]⟩ : ByteArray)) (by rw [show (⟨#[]⟩ : ByteArray).size = 0 from rfl]; omega) 9999
      have hp := implNum (s := ofL u) (by rw [size_ofL]; omega) 9999
      have sp := specC1 is1 is2 t1 (m := (numR (bl (⟨#[]⟩ : ByteArray)) 9999).1) (ok := (numR (bl (⟨#[]⟩ : ByteArray)) 9999).2) hq
      simp only [if_true] at sp
      right
      refine ⟨⟨_, _, _, _, _, sp⟩, ?_⟩
      simp only [hc, hp, Option.bind_some, Bool.false_eq_true, if_false]
      exact ⟨_, _, _, _, Ev.now _⟩
  | false =>
    obtain ⟨rfl, rfl, hn60⟩ := m2 rfl
    clear m1 m2
    simp only [Bool.false_eq_true, if_false]
    obtain ⟨nb3, pre3, v, h3, m3, m4, is3, cu3⟩ := isCut h2 hs (⟨#[91, 34]⟩ : ByteArray) (by decide)
    have fall : nb3 = false → ∃ a b c d e, Ev (fun k => spec_l14Cond.f k s (pre.length : Int) false) (a, b, c, d, e, true) := by
      rintro rfl
      obtain ⟨t, j, ht, e⟩ := toAny (s := s) (c := 34) (i := 34) rfl hs h3
      have sp := specC2 (ok := true) is1 is2 (mustIs is3) e (mustBad s j _) ht nofun
      simp only [if_true] at sp
      exact ⟨_, _, _, _, _, sp⟩
    obtain ⟨nb4, pre4, w, h4, m5, m6, is4, cu4⟩ := isCut h2 hs (⟨#[91]⟩ : ByteArray) (by decide)
    simp only [cu4, Option.bind_some]
    have hw := hsz h4
    cases nb4 with
    | false =>
      obtain ⟨rfl, rfl, hn91⟩ := m6 rfl
      right
      refine ⟨fall ?_, ?_⟩
      · cases nb3 with
        | false => rfl
        | true => exact absurd (m3 rfl) (by intro e; exact hn91 (34 :: v) e)
      · by_cases c1 : ∃ body rest, AtTag w body rest 1
        · obtain ⟨body, rest, c1⟩ := c1
          have i1 := implTagAt_ok (s := ofL w) (least := 1) (by rw [size_ofL]; omega) (by rw [bl_ofL]; exact c1)
          refine ⟨?_, ?_, ?_, ?_, Ev.bind i1 ?_⟩
          rotate_left 4
          · simp only [strings_CutPrefix.f, Option.bind_some, Bool.false_eq_true, if_false]
            exact Ev.now _
        · have i1 := implTagAt_no (s := ofL w) (least := 1) (by rw [size_ofL]; omega) (by rw [bl_ofL]; exact fun b r e => c1 ⟨b, r, e⟩)
          refine ⟨?_, ?_, ?_, ?_, Ev.bind i1 ?_⟩
          rotate_left 4
          · simp only [strings_CutPrefix.f, Option.bind_some, Bool.false_eq_true, if_false]
            exact Ev.now _
    | true =>
      have hu : u = 91 :: w := m5 rfl
      have hz2 : ∀ body : List UInt8, ((⟨#[34]⟩ : ByteArray) ++ ofL body) ++ (⟨#[34]⟩ : ByteArray) = ofL (34 :: (body ++ [34])) := by
        intro body
        apply bl_inj; rw [bl_append, bl_append, bl_ofL, bl_ofL]; rfl
      by_cases c1 : ∃ body rest, AtTag w body rest 1
      · obtain ⟨body, rest, c1⟩ := c1
        have i1 := implTagAt_ok (s := ofL w) (least := 1) (by rw [size_ofL]; omega) (by rw [bl_ofL]; exact c1)
        obtain ⟨rfl, c2, c3, c4, c5⟩ := c1
        obtain rfl : nb3 = true := by
          cases nb3 with
          | true => rfl
          | false => exact absurd (by rw [hu]; rfl) ((m4 rfl).2.2 (body ++ 34 :: rest))
        have hv : v = body ++ 34 :: rest := by
          have := m3 rfl
          rw [hu] at this
          exact (List.cons.inj (List.cons.inj this).2).2.symm
        subst hv
        have t1 := toHit (s := s) (c := 34) (i := 34) rfl false hs body [] pre3 rest (by simpa using h3) c2
        simp only [List.append_nil, List.nil_append] at t1
        have h5 : bl s = (pre3 ++ body ++ [34]) ++ rest := by rw [h3]; simp
        obtain ⟨nb5, pre5, r, h6, m7, m8, is5, cu5⟩ := isCut h5 hs (⟨#[93]⟩ : ByteArray) (by decide)
        have ht := specTag (s := ofL (34 :: (body ++ [34]))) (by rw [size_ofL]; simp only [List.length_cons, List.length_append, List.length_nil]; omega)
        rw [bl_ofL, tag_is c2, decide_eq_true c4, c5] at ht
        have hne : ((ofL body).toList == ([] : List UInt8)) = false := by
          rw [ba_toList]
          have : (ofL body).data.toList = body := bl_ofL _
          rw [this]
          cases body with
          | nil => simp at c3
          | cons _ _ => rfl
        have sp := specC2 is1 is2 (mustIs is3) t1 (mustIs is5) (by rw [size_ofL]; omega) (fun _ => by rw [hz2]; exact ht)
        cases nb5 with
        | true =>
          have hr : rest = 93 :: r := m7 rfl
          left
          refine ⟨⟨nb, 0, ofL (34 :: (body ++ [34]))⟩, r, pre5, .inr ⟨rfl, body, rfl, c2, c3, c4, c5⟩, h6, ?_, ?_, ?_⟩
          · rw [hu, hr] at hyx; simp only [List.length_cons, List.length_append] at hyx; omega
          · simp only [hz2, Bool.not_true, Bool.false_eq_true, if_false, Bool.and_self, if_true, hne] at sp
            exact sp
          · refine Ev.bind i1 ?_
            simp only [cu5, Option.bind_some, if_true]
            exact Ev.now _
        | false =>
          right
          simp only [Bool.not_false, if_true] at sp
          refine ⟨⟨_, _, _, _, _, sp⟩, ⟨?_, ?_, ?_, ?_, Ev.bind i1 ?_⟩⟩
          rotate_left 4
          · simp only [cu5, Option.bind_some, if_true]
            exact Ev.now _
      · have i1 := implTagAt_no (s := ofL w) (least := 1) (by rw [size_ofL]; omega) (by rw [bl_ofL]; exact fun b r e => c1 ⟨b, r, e⟩)
        right
        refine ⟨?_, ⟨?_, ?_, ?_, ?_, Ev.bind i1 ?_⟩⟩
        · cases nb3 with
          | false => exact fall rfl
          | true =>
            have hw2 : w = 34 :: v := by
              have := m3 rfl
              rw [hu] at this
              exact (List.cons.inj this).2
            by_cases c2 : (34 : UInt8) ∈ v
            · obtain ⟨body, rest, rfl, hb⟩ := first_of c2
              have t1 := toHit (s := s) (c := 34) (i := 34) rfl false hs body [] pre3 rest (by simpa using h3) hb
              simp only [List.append_nil, List.nil_append] at t1
              have h5 : bl s = (pre3 ++ body ++ [34]) ++ rest := by rw [h3]; simp
              obtain ⟨nb5, pre5, r, h6, m7, m8, is5, cu5⟩ := isCut h5 hs (⟨#[93]⟩ : ByteArray) (by decide)
              have hbl := hsz h3
              simp only [List.length_append, List.length_cons] at hbl
              rw [hw2] at hw
              simp only [List.length_append, List.length_cons] at hw
              have ht := specTag (s := ofL (34 :: (body ++ [34]))) (by rw [size_ofL]; simp only [List.length_cons, List.length_append, List.length_nil]; omega)
              rw [bl_ofL, tag_is hb] at ht
              have sp := specC2 is1 is2 (mustIs is3) t1 (mustIs is5) (by rw [size_ofL]; omega) (fun _ => by rw [hz2]; exact ht)
              have hlast : (if (!nb5) = true then true else if (decide (body.length ≤ 10) && plainL body) = true then ((ofL body).toList == ([] : List UInt8)) else true) = true := by
                cases nb5 with
                | false => rfl
                | true =>
                  cases ct : (decide (body.length ≤ 10) && plainL body) with
                  | false => rfl
                  | true =>
                    rw [Bool.and_eq_true, decide_eq_true_eq] at ct
                    have hb0 : body = [] := by
                      cases body with
                      | nil => rfl
                      | cons b body => exact absurd ⟨_, _, hw2, hb, by simp, ct.1, ct.2⟩ c1
                    rw [hb0, ba_toList]
                    rfl
              rw [hlast] at sp
              exact ⟨_, _, _, _, _, sp⟩
            · have t1 := toMiss (s := s) (c := 34) (i := 34) rfl false (pre3.length : Int) hs v pre3 h3 c2
              have sp := specC2 (ok := true) is1 is2 (mustIs is3) t1 (mustBad s _ _) (by rw [show (⟨#[]⟩ : ByteArray).size = 0 from rfl]; omega) nofun
              simp only [if_true] at sp
              exact ⟨_, _, _, _, _, sp⟩
        rotate_left 4
        · simp only [strings_CutPrefix.f, Option.bind_some, Bool.false_eq_true, if_false, if_true]
          exact Ev.now _
theorem specEnd {s : ByteArray} {out : List S43} {i : Int} {b : Bool} {one : Bool} (h : one = true → b = true) {j : Int} {b2 : Bool} (mu : spec_l14Must.f s i b (⟨#[41]⟩ : ByteArray) = some (s, j, b2)) : Ev (fun k => spec_l14List.l0 k out one s i b) (out, s, j, if b2 = true then true else decide ((out.length : Int) > 4)) := by
  have hj : Ev (fun k => spec_l14List.j1 k out false s i b) (out, s, j, if b2 = true then true else decide ((out.length : Int) > 4)) := by
    refine Ev.step (fun k => spec_l14List.j1.eq_2 ..) ?_
    refine ev_iteF nofun ?_
    refine ev_bindS mu ?_
    cases b2
    · exact ev_iteF nofun (Ev.now _)
    · exact ev_iteT rfl (Ev.now _)
  refine Ev.step (fun k => spec_l14List.l0.eq_2 ..) ?_
  cases one with
  | true =>
    obtain rfl := h rfl
    exact ev_iteT rfl hj
  | false => exact ev_iteF nofun hj
theorem specGo {s s' : ByteArray} {out : List S43} {i i' i'' : Int} {c : S43} {b1 b2 : Bool} {one : Bool} {r : List S43 × ByteArray × Int × Bool} (ho : out.length < 4398046511104) (hc : Ev (fun k => spec_l14Cond.f k s i false) (c.f0, c.f1, c.f2, s', i', b1)) (is : spec_l14Is.f s' i' b1 (⟨#[32]⟩ : ByteArray) = some (one, s', i'', b2)) (hr : Ev (fun k => spec_l14List.l0 k (out ++ [c]) one s' i'' b2) r) : Ev (fun k => spec_l14List.l0 k out true s i false) r := by
  refine Ev.step (fun k => spec_l14List.l0.eq_2 ..) ?_
  refine ev_iteT rfl ?_
  refine Ev.step (fun k => spec_l14List.j1.eq_2 ..) ?_
  refine ev_iteT rfl ?_
  refine Ev.bind hc ?_
  refine ev_iteT ho ?_
  exact ev_bindS is hr
theorem implFail {x : ByteArray} {out : List S43} {ok : Bool} (h : ok = true → ¬ (out.length : Int) < 4) : Ev (fun k => impl_listAt.l0 k x ok out) (([] : List S43), (⟨#[]⟩ : ByteArray), false) := by
  have hj : Ev (fun k => impl_listAt.j1 k x out false) (([] : List S43), (⟨#[]⟩ : ByteArray), false) := Ev.step (fun k => impl_listAt.j1.eq_2 ..) (ev_iteF nofun (Ev.now _))
  refine Ev.step (fun k => impl_listAt.l0.eq_2 ..) ?_
  cases ok with
  | true =>
    refine ev_iteT rfl ?_
    rw [decide_eq_false (h rfl)]
    exact hj
  | false => exact ev_iteF nofun hj
theorem implOne {x rest t : ByteArray} {out : List S43} {c : S43} {nb : Bool} {r : List S43 × ByteArray × Bool} (ho : out.length < 4) (hc : Ev (fun k => impl_condAt.f k x) (c.f0, c.f1, c.f2, rest, true)) (cu : strings_CutPrefix.f rest (⟨#[41]⟩ : ByteArray) = some (t, nb))
    (hr : nb = true → r = (out ++ [c], t, true)) (hn : nb = false → ∃ y nb2, strings_CutPrefix.f rest (⟨#[32]⟩ : ByteArray) = some (y, nb2) ∧ Ev (fun k => impl_listAt.l0 k y nb2 (out ++ [c])) r) : Ev (fun k => impl_listAt.l0 k x true out) r := by
  refine Ev.step (fun k => impl_listAt.l0.eq_2 ..) ?_
  refine ev_iteT rfl ?_
  rw [decide_eq_true (show (out.length : Int) < 4 by omega)]
  refine Ev.step (fun k => impl_listAt.j1.eq_2 ..) ?_
  refine ev_iteT rfl ?_
  refine Ev.bind hc ?_
  refine ev_iteT rfl ?_
  refine ev_iteT (show out.length < 4398046511104 by omega) ?_
  refine ev_bindS rfl ?_
  refine ev_bindS cu ?_
  cases nb with
  | true =>
    rw [hr rfl]
    exact ev_iteT rfl (Ev.now _)
  | false =>
    obtain ⟨y, nb2, e1, e2⟩ := hn rfl
    refine ev_iteF nofun ?_
    exact ev_bindS e1 e2
theorem implNo {x : ByteArray} {out : List S43} {a : Bool} {b : Int} {c d : ByteArray} (ho : out.length < 4) (hc : Ev (fun k => impl_condAt.f k x) (a, b, c, d, false)) : Ev (fun k => impl_listAt.l0 k x true out) (([] : List S43), (⟨#[]⟩ : ByteArray), false) := by
  refine Ev.step (fun k => impl_listAt.l0.eq_2 ..) ?_
  refine ev_iteT rfl ?_
  rw [decide_eq_true (show (out.length : Int) < 4 by omega)]
  refine Ev.step (fun k => impl_listAt.j1.eq_2 ..) ?_
  refine ev_iteT rfl ?_
  refine Ev.bind hc ?_
  exact ev_iteF nofun (Ev.now _)
abbrev LO (s : ByteArray) (out : List S43) (pre x : List UInt8) : Prop :=
  (∃ (ls : List S43) (rest pre' : List UInt8), GoodL ls ∧ out.length < 4 ∧ bl s = pre' ++ rest ∧ rest.length < x.length ∧ Ev (fun k => spec_l14List.l0 k out true s (pre.length : Int) false) (ls, s, (pre'.length : Int), false) ∧ Ev (fun k => impl_listAt.l0 k (ofL x) true out) (ls, ofL rest, true))
  ∨ ((∃ a d j, Ev (fun k => spec_l14List.l0 k out true s (pre.length : Int) false) (a, d, j, true)) ∧ ∃ a b, Ev (fun k => impl_listAt.l0 k (ofL x) true out) (a, b, false))
theorem listLoop {s : ByteArray} (hs : s.size ≤ 1073741824) : ∀ (n : Nat) (x pre : List UInt8) (out : List S43), x.length < n → bl s = pre ++ x → out.length + x.length ≤ 2147483648 → (∀ c ∈ out, GoodC c) → LO s out pre x := by
  intro n
  induction n with
  | zero => intro x pre out hx; omega
  | succ n ih =>
    intro x pre out hx h ho hg
    have far : ¬ out.length < 4 → ∃ a b, Ev (fun k => impl_listAt.l0 k (ofL x) true out) (a, b, false) := fun hn => ⟨_, _, implFail (fun _ => by omega)⟩
    rcases condBoth hs h with ⟨c, rest, pre', hgc, h1, h2, sp, im⟩ | ⟨⟨a, b, c, d, e, sp⟩, ⟨a', b', c', d', im⟩⟩
    · obtain ⟨nb, preb, y, hb, nt, nf, is, cu⟩ := isCut h1 hs (⟨#[32]⟩ : ByteArray) (by decide)
      obtain ⟨nb', prez, z, hz, nt', nf', is', cu'⟩ := isCut h1 hs (⟨#[41]⟩ : ByteArray) (by decide)
      have hol : out.length < 4398046511104 := by omega
      cases nb' with
      | true =>
        have hr : rest = 41 :: z := nt' rfl
        obtain rfl : nb = false := by
          cases nb with
          | false => rfl
          | true =>
            have : rest = 32 :: y := nt rfl
            rw [hr] at this
            exact absurd (List.cons.inj this).1 (by decide)
        obtain ⟨rfl, rfl, _⟩ := nf rfl
        have s1 := specGo hol sp is (specEnd (one := false) (out := out ++ [c]) nofun (mustIs is'))
        by_cases c4 : out.length < 4
        · left
          refine ⟨out ++ [c], z, prez, ⟨all_snoc hg hgc, by simp, by simp only [List.length_append, List.length_cons, List.length_nil]; omega⟩, c4, hz, by rw [hr] at h2; simp only [List.length_cons] at h2; omega, ?_, implOne c4 im cu' (fun _ => rfl) nofun⟩
          simp only [Bool.not_true, Bool.false_eq_true, if_false, show decide (((out ++ [c]).length : Int) > 4) = false from decide_eq_false (by simp only [List.length_append, List.length_cons, List.length_nil]; omega)] at s1
          exact s1
        · right
          simp only [Bool.not_true, Bool.false_eq_true, if_false, show decide (((out ++ [c]).length : Int) > 4) = true from decide_eq_true (by simp only [List.length_append, List.length_cons, List.length_nil]; omega)] at s1
          exact ⟨⟨_, _, _, s1⟩, far c4⟩
      | false =>
        cases nb with
        | true =>
          have hr : rest = 32 :: y := nt rfl
          have hy : y.length < x.length := by rw [hr] at h2; simp only [List.length_cons] at h2; omega
          rcases ih y preb (out ++ [c]) (by omega) hb (by simp only [List.length_append, List.length_cons, List.length_nil]; omega) (all_snoc hg hgc) with ⟨ls, r3, p3, q0, q1, q2, q3, q4, q5⟩ | ⟨⟨a, d, j, q4⟩, ⟨a', b', q5⟩⟩
          · left
            simp only [List.length_append, List.length_cons, List.length_nil] at q1
            exact ⟨ls, r3, p3, q0, by omega, q2, by omega, specGo hol sp is q4, implOne (by omega) im cu' nofun (fun _ => ⟨_, _, cu, q5⟩)⟩
          · right
            refine ⟨⟨_, _, _, specGo hol sp is q4⟩, ?_⟩
            by_cases c4 : out.length < 4
            · exact ⟨_, _, implOne c4 im cu' nofun (fun _ => ⟨_, _, cu, q5⟩)⟩
            · exact far c4
        | false =>
          obtain ⟨rfl, rfl, _⟩ := nf rfl
          have s1 := specGo hol sp is (specEnd (one := false) (out := out ++ [c]) nofun (mustIs is'))
          simp only [Bool.not_false, if_true] at s1
          right
          refine ⟨⟨_, _, _, s1⟩, ?_⟩
          by_cases c4 : out.length < 4
          · exact ⟨_, _, implOne c4 im cu' nofun (fun _ => ⟨_, _, cu, implFail (ok := false) nofun⟩)⟩
          · exact far c4
    · right
      have s1 := specGo (out := out) (c := ⟨a, b, c⟩) (by omega) sp (isBad d e _) (specEnd (one := false) (out := out ++ [⟨a, b, c⟩]) nofun (mustBad d e _))
      simp only [if_true] at s1
      refine ⟨⟨_, _, _, s1⟩, ?_⟩
      by_cases c4 : out.length < 4
      · exact ⟨_, _, implNo c4 im⟩
      · exact far c4
abbrev LB (s : ByteArray) (pre x : List UInt8) : Prop :=
  (∃ (ls : List S43) (rest pre' : List UInt8), GoodL ls ∧ bl s = pre' ++ rest ∧ rest.length < x.length ∧ Ev (fun k => spec_l14List.f k s (pre.length : Int) false) (ls, s, (pre'.length : Int), false) ∧ Ev (fun k => impl_listAt.f k (ofL x)) (ls, ofL rest, true))
  ∨ ((∃ a d j, Ev (fun k => spec_l14List.f k s (pre.length : Int) false) (a, d, j, true)) ∧ ∃ a b, Ev (fun k => impl_listAt.f k (ofL x)) (a, b, false))
theorem listBoth {s : ByteArray} (hs : s.size ≤ 1073741824) {pre x : List UInt8} (h : bl s = pre ++ x) : LB s pre x := by
  obtain ⟨nb, preb, y, hb, nt, nf, is, cu⟩ := isCut h hs (⟨#[40]⟩ : ByteArray) (by decide)
  have hl := bl_len s
  rw [hb, List.length_append] at hl
  cases nb with
  | true =>
    have hr : x = 40 :: y := nt rfl
    have hy : y.length < x.length := by rw [hr]; simp
    rcases listLoop hs (y.length + 1) y preb [] (by omega) hb (by simp only [List.length_nil]; omega) nofun with ⟨ls, r3, p3, q0, q1, q2, q3, q4, q5⟩ | ⟨⟨a, d, j, q4⟩, ⟨a', b', q5⟩⟩
    · left
      refine ⟨ls, r3, p3, q0, q2, by omega, ?_, ?_⟩
      · unfold spec_l14List.f
        exact ev_bindS (mustIs is) q4
      · unfold impl_listAt.f
        exact ev_bindS cu q5
    · right
      refine ⟨⟨a, d, j, ?_⟩, ⟨a', b', ?_⟩⟩
      · unfold spec_l14List.f
        exact ev_bindS (mustIs is) q4
      · unfold impl_listAt.f
        exact ev_bindS cu q5
  | false =>
    right
    have s1 := specEnd (one := true) (out := ([] : List S43)) (fun _ => rfl) (mustBad s (preb.length : Int) (⟨#[41]⟩ : ByteArray))
    refine ⟨⟨[], s, (preb.length : Int), ?_⟩, ⟨[], ⟨#[]⟩, ?_⟩⟩
    · unfold spec_l14List.f
      exact ev_bindS (mustIs is) s1
    · unfold impl_listAt.f
      exact ev_bindS cu (implFail (ok := false) nofun)
theorem ifBad (s : ByteArray) {s' : ByteArray} (out : List (List S43)) (more : Bool) (i : Int) : Ev (fun k => spec_ParseIf.l0 k s out more s' i true) (([] : List (List S43)), false) := by
  have hj : Ev (fun k => spec_ParseIf.j1 k s out false s' i true) (([] : List (List S43)), false) := by
    refine Ev.step (fun k => spec_ParseIf.j1.eq_2 ..) ?_
    refine ev_iteF nofun ?_
    exact ev_iteT rfl (Ev.now _)
  refine Ev.step (fun k => spec_ParseIf.l0.eq_2 ..) ?_
  cases more with
  | true => exact ev_iteT rfl hj
  | false => exact ev_iteF nofun hj
theorem ifBad1 (s : ByteArray) {s' : ByteArray} (out : List (List S43)) (more : Bool) (i : Int) : Ev (fun k => spec_ParseIf.l1 k s out more s' i true) (([] : List (List S43)), false) := by
  refine Ev.step (fun k => spec_ParseIf.l1.eq_2 ..) ?_
  cases more with
  | true =>
    refine ev_iteT rfl ?_
    refine ev_bindS (isBad s' i _) ?_
    refine ev_iteF nofun ?_
    exact ifBad s out true i
  | false => exact ev_iteF nofun (ifBad s out false i)
def sp32 (c : UInt8) : Bool := c == 32
theorem ifBlank {s : ByteArray} (hs : s.size ≤ 1073741824) (out : List (List S43)) : ∀ (y pre : List UInt8), bl s = pre ++ y → y ≠ [] →
    (y.dropWhile sp32 = [] → Ev (fun k => spec_ParseIf.l1 k s out true s (pre.length : Int) false) (([] : List (List S43)), false)) ∧
    (∀ r, y.dropWhile sp32 ≠ [] → (∀ pre', bl s = pre' ++ y.dropWhile sp32 → Ev (fun k => spec_ParseIf.l0 k s out true s (pre'.length : Int) false) r) → Ev (fun k => spec_ParseIf.l1 k s out true s (pre.length : Int) false) r) := by
  intro y
  induction y with
  | nil => intro pre h hn; exact absurd rfl hn
  | cons b y ih =>
    intro pre h hn
    obtain ⟨nb, preb, z, hb, nt, nf, is, cu⟩ := isCut h hs (⟨#[32]⟩ : ByteArray) (by decide)
    have hl := bl_len s
    rw [hb, List.length_append] at hl
    cases nb with
    | true =>
      obtain ⟨rfl, rfl⟩ := List.cons.inj (show b :: y = 32 :: z from nt rfl)
      have hd : (32 :: y).dropWhile sp32 = y.dropWhile sp32 := List.dropWhile_cons_of_pos rfl
      rw [hd]
      cases y with
      | nil =>
        have hbs : ((preb.length : Nat) : Int) = (s.size : Int) := by simp only [List.length_nil] at hl; omega
        have key : Ev (fun k => spec_ParseIf.l1 k s out true s (pre.length : Int) false) (([] : List (List S43)), false) := by
          refine Ev.step (fun k => spec_ParseIf.l1.eq_2 ..) ?_
          refine ev_iteT rfl ?_
          refine ev_bindS is ?_
          refine ev_iteT rfl ?_
          refine ev_iteF nofun ?_
          rw [show (((preb.length : Nat) : Int) == (s.size : Int)) = true from beq_iff_eq.2 hbs]
          exact ifBad1 s out true _
        exact ⟨fun _ => key, fun r h2 => absurd rfl h2⟩
      | cons b2 y =>
        have hbs : ¬ ((preb.length : Nat) : Int) = (s.size : Int) := by simp only [List.length_cons] at hl; omega
        obtain ⟨i1, i2⟩ := ih preb hb nofun
        have key : ∀ r, Ev (fun k => spec_ParseIf.l1 k s out true s (preb.length : Int) false) r → Ev (fun k => spec_ParseIf.l1 k s out true s (pre.length : Int) false) r := by
          intro r hr
          refine Ev.step (fun k => spec_ParseIf.l1.eq_2 ..) ?_
          refine ev_iteT rfl ?_
          refine ev_bindS is ?_
          refine ev_iteT rfl ?_
          refine ev_iteF nofun ?_
          rw [show (((preb.length : Nat) : Int) == (s.size : Int)) = false from beq_eq_false_iff_ne.2 hbs]
          exact hr
        exact ⟨fun h2 => key _ (i1 h2), fun r h2 h3 => key _ (i2 r h2 h3)⟩
    | false =>
      have hb32 : sp32 b = false := by
        cases e : sp32 b with
        | false => rfl
        | true =>
          unfold sp32 at e
          rw [beq_iff_eq] at e
          exact absurd (by rw [e]; rfl) ((nf rfl).2.2 y)
      have hd : (b :: y).dropWhile sp32 = b :: y := List.dropWhile_cons_of_neg (by rw [hb32]; decide)
      rw [hd]
      obtain ⟨rfl, rfl, _⟩ := nf rfl
      refine ⟨fun e => (by cases e), fun r _ h3 => ?_⟩
      refine Ev.step (fun k => spec_ParseIf.l1.eq_2 ..) ?_
      refine ev_iteT rfl ?_
      refine ev_bindS is ?_
      refine ev_iteF nofun ?_
      exact h3 _ h
theorem trimL (y : List UInt8) : strings_TrimLeft.f (ofL y) (⟨#[32]⟩ : ByteArray) = some (ofL (y.dropWhile sp32)) := by
  unfold strings_TrimLeft.f
  rw [if_pos ⟨by decide, by decide⟩]
  have e1 : (ofL y).data.toList = y := bl_ofL _
  have e2 : (⟨#[32]⟩ : ByteArray).data.toList = [32] := rfl
  have e3 : (fun c : UInt8 => ([32] : List UInt8).contains c) = sp32 := by
    funext c
    simp only [sp32, List.contains, List.elem]
    cases (c == 32) <;> rfl
  unfold Lib.trimLeftS
  rw [e1, e2, e3]
theorem specIfGo {s s' : ByteArray} {out : List (List S43)} {ls : List S43} {i i' : Int} {b : Bool} {r : List (List S43) × Bool} (ho : out.length < 5864062014805) (hc : Ev (fun k => spec_l14List.f k s i false) (ls, s', i', b)) (hr : Ev (fun k => spec_ParseIf.l1 k s (out ++ [ls]) (decide (i' < (s.size : Int))) s' i' b) r) : Ev (fun k => spec_ParseIf.l0 k s out true s i false) r := by
  refine Ev.step (fun k => spec_ParseIf.l0.eq_2 ..) ?_
  refine ev_iteT rfl ?_
  refine Ev.step (fun k => spec_ParseIf.j1.eq_2 ..) ?_
  refine ev_iteT rfl ?_
  refine Ev.bind hc ?_
  exact ev_iteT ho hr
theorem specIfEnd (s : ByteArray) {s' : ByteArray} (out : List (List S43)) (i : Int) : Ev (fun k => spec_ParseIf.l1 k s out false s' i false) (if (out.length : Int) > 4 then (([] : List (List S43)), false) else (out, true)) := by
  refine Ev.step (fun k => spec_ParseIf.l1.eq_2 ..) ?_
  refine ev_iteF nofun ?_
  refine Ev.step (fun k => spec_ParseIf.l0.eq_2 ..) ?_
  refine ev_iteF nofun ?_
  refine Ev.step (fun k => spec_ParseIf.j1.eq_2 ..) ?_
  refine ev_iteF nofun ?_
  refine ev_iteF nofun ?_
  exact ev_ite (fun _ => Ev.now _) (fun _ => Ev.now _)
theorem implIfNo {x : ByteArray} {out : List (List S43)} {a : List S43} {b : ByteArray} {ok : Bool} (hc : Ev (fun k => impl_listAt.f k x) (a, b, ok)) (h : ok = true → 4 ≤ out.length) : Ev (fun k => impl_ParseIf.l0 k x out) (([] : List (List S43)), false) := by
  have hj : Ev (fun k => impl_ParseIf.j1 k out a b true) (([] : List (List S43)), false) := Ev.step (fun k => impl_ParseIf.j1.eq_2 ..) (ev_iteT rfl (Ev.now _))
  refine Ev.step (fun k => impl_ParseIf.l0.eq_2 ..) ?_
  refine Ev.bind hc ?_
  cases ok with
  | true =>
    refine ev_iteT rfl ?_
    have := h rfl
    rw [decide_eq_true (show (out.length : Int) ≥ 4 by omega)]
    exact hj
  | false => exact ev_iteF nofun hj
theorem implIfGo {x : ByteArray} {out : List (List S43)} {ls : List S43} {rest : List UInt8} {r : List (List S43) × Bool} (hc : Ev (fun k => impl_listAt.f k x) (ls, ofL rest, true)) (h : out.length < 4) (h0 : rest = [] → r = (out ++ [ls], true)) (h1 : rest ≠ [] → Ev (fun k => impl_ParseIf.l0 k (ofL (rest.dropWhile sp32)) (out ++ [ls])) r) : Ev (fun k => impl_ParseIf.l0 k x out) r := by
  refine Ev.step (fun k => impl_ParseIf.l0.eq_2 ..) ?_
  refine Ev.bind hc ?_
  refine ev_iteT rfl ?_
  rw [decide_eq_false (show ¬ (out.length : Int) ≥ 4 by omega)]
  refine Ev.step (fun k => impl_ParseIf.j1.eq_2 ..) ?_
  refine ev_iteF nofun ?_
  refine ev_iteT (show out.length < 5864062014805 by omega) ?_
  refine ev_bindS rfl ?_
  have e1 : (ofL rest).toList = rest := by rw [ba_toList]
  by_cases c : rest = []
  · rw [h0 c]
    exact ev_iteT (by rw [e1]; exact c) (Ev.now _)
  · refine ev_iteF (by rw [e1]; exact c) ?_
    exact ev_bindS (trimL rest) (h1 c)
theorem ifLoop {s : ByteArray} (hs : s.size ≤ 1073741824) : ∀ (n : Nat) (x pre : List UInt8) (out : List (List S43)), x.length < n → bl s = pre ++ x → out.length + x.length ≤ 2147483648 → (∀ l ∈ out, GoodL l) →
    ∃ r, (r.1.length ≤ 4 ∧ (∀ l ∈ r.1, GoodL l) ∧ (r.2 = true → r.1 ≠ [])) ∧ Ev (fun k => spec_ParseIf.l0 k s out true s (pre.length : Int) false) r ∧ (out.length ≤ 4 → Ev (fun k => impl_ParseIf.l0 k (ofL x) out) r) ∧ (4 < out.length → r = (([] : List (List S43)), false)) := by
  intro n
  induction n with
  | zero => intro x pre out hx; omega
  | succ n ih =>
    intro x pre out hx h ho hg
    have hnil : (([] : List (List S43)), false).1.length ≤ 4 ∧ (∀ l ∈ (([] : List (List S43)), false).1, GoodL l) ∧ ((([] : List (List S43)), false).2 = true → (([] : List (List S43)), false).1 ≠ []) := ⟨Nat.zero_le _, nofun, nofun⟩
    have hol : out.length < 5864062014805 := by omega
    rcases listBoth hs h with ⟨ls, rest, pre', hgl, h1, h2, sp, im⟩ | ⟨⟨a, d, j, sp⟩, ⟨a', b', im⟩⟩
    · have hl := bl_len s
      rw [h1, List.length_append] at hl
      have hlen : (out ++ [ls]).length = out.length + 1 := by simp
      by_cases c0 : rest = []
      · subst c0
        have s1 := specIfGo hol sp (r := if ((out ++ [ls]).length : Int) > 4 then (([] : List (List S43)), false) else (out ++ [ls], true)) (by
          rw [decide_eq_false (by simp only [List.length_nil] at hl; omega)]
          exact specIfEnd s _ _)
        refine ⟨_, ?_, s1, fun h4 => ?_, fun h4 => by rw [if_pos (by omega)]⟩
        · by_cases c5 : ((out ++ [ls]).length : Int) > 4
          · rw [if_pos c5]; exact hnil
          · rw [if_neg c5]; exact ⟨by show (out ++ [ls]).length ≤ 4; omega, all_snoc hg hgl, fun _ => by simp⟩
        by_cases c4 : out.length < 4
        · rw [if_neg (by omega)]
          exact implIfGo im c4 (fun _ => rfl) (fun h => absurd rfl h)
        · rw [if_pos (by omega)]
          exact implIfNo im (fun _ => by omega)
      · have hpos : 0 < rest.length := List.length_pos_iff.2 c0
        have hmore : decide (((pre'.length : Nat) : Int) < (s.size : Int)) = true := decide_eq_true (by omega)
        obtain ⟨b1, b2⟩ := ifBlank hs (out ++ [ls]) rest pre' h1 c0
        by_cases c1 : rest.dropWhile sp32 = []
        · have s1 := specIfGo hol sp (by rw [hmore]; exact b1 c1)
          refine ⟨_, hnil, s1, fun h4 => ?_, fun _ => rfl⟩
          by_cases c4 : out.length < 4
          · refine implIfGo im c4 (fun h => absurd h c0) (fun _ => ?_)
            rw [c1]
            obtain ⟨nb, preb, z, hb, nt, nf, is, cu⟩ := isCut (s := ofL []) (pre := []) (x := []) (bl_ofL []) (by rw [size_ofL]; exact Nat.zero_le _) (⟨#[40]⟩ : ByteArray) (by decide)
            cases nb with
            | true => exact absurd (nt rfl) nofun
            | false =>
              refine implIfNo (a := []) (b := ⟨#[]⟩) (ok := false) ?_ nofun
              unfold impl_listAt.f
              exact ev_bindS cu (implFail (ok := false) nofun)
          · exact implIfNo im (fun _ => by omega)
        · have hdl : (rest.dropWhile sp32).length ≤ rest.length := (List.dropWhile_sublist sp32).length_le
          have hex : ∃ pre2, bl s = pre2 ++ rest.dropWhile sp32 := ⟨pre' ++ rest.takeWhile sp32, by rw [List.append_assoc, List.takeWhile_append_dropWhile]; exact h1⟩
          obtain ⟨pre2, hp2⟩ := hex
          obtain ⟨r, i0, i1, i2, i3⟩ := ih (rest.dropWhile sp32) pre2 (out ++ [ls]) (by omega) hp2 (by omega) (all_snoc hg hgl)
          have s1 := specIfGo hol sp (by
            rw [hmore]
            refine b2 r c1 (fun pre3 hp3 => ?_)
            have : pre3 = pre2 := List.append_cancel_right (hp3.symm.trans hp2)
            rw [this]
            exact i1)
          refine ⟨r, i0, s1, fun h4 => ?_, fun h4 => i3 (by omega)⟩
          by_cases c4 : out.length < 4
          · exact implIfGo im c4 (fun h => absurd h c0) (fun _ => i2 (by omega))
          · rw [i3 (by omega)]
            exact implIfNo im (fun _ => by omega)
    · refine ⟨_, hnil, specIfGo hol sp (ifBad1 s _ _ _), fun _ => ?_, fun _ => rfl⟩
      exact implIfNo im nofun
theorem bothIf {s : ByteArray} (hs : s.size ≤ 1073741824) : ∃ r, Ev (fun k => spec_ParseIf.f k s) r ∧ Ev (fun k => impl_ParseIf.f k s) r ∧ (r.1.length ≤ 4 ∧ (∀ l ∈ r.1, GoodL l) ∧ (r.2 = true → r.1 ≠ [])) := by
  have hl := bl_len s
  obtain ⟨r, i0, i1, i2, _⟩ := ifLoop hs ((bl s).length + 1) (bl s) [] [] (by omega) rfl (by simp only [List.length_nil]; omega) nofun
  refine ⟨r, ?_, ?_, i0⟩
  · unfold spec_ParseIf.f mkReader.f
    exact ev_bindS rfl i1
  · have := i2 (by simp)
    rw [ofL_bl] at this
    exact this
end Go.Proofs.YtigoeooelfeopaaGreatDoor.L

/- Conditions written as a text, by both. No condition. -/
set_option linter.unusedSimpArgs false
set_option linter.unusedVariables false
namespace Go.Proofs.YtigoeooelfeopaaGreatDoor.L
open Go.RowKit Go.Proofs.YtigoeooelfeopaaGreatDoorW.PrintWords Go.Proofs.YtigoeooelfeopaaGreatDoorW.PrintLast Go.Proofs.YtigoeooelfeopaaGreatDoor.Q
abbrev NOT : List UInt8 := [78, 111, 116, 32]
def condT (c : S43) : List UInt8 := (if c.f0 = true then NOT else []) ++ (if c.f1 = 0 then 91 :: (bl c.f2 ++ [93]) else 60 :: (Lib.decDigits c.f1.toNat ++ [62]))
def glue (first : Bool) : List (List UInt8) → List UInt8
  | [] => []
  | a :: r => (if first = true then a else 32 :: a) ++ glue false r
theorem glue_cons (first : Bool) (a : List UInt8) (r : List (List UInt8)) : glue first (a :: r) = (if first = true then a else 32 :: a) ++ glue false r := rfl
theorem join_glue (r : List (List UInt8)) : Lib.join r [32] = glue true r := by
  have tail : ∀ r : List (List UInt8), Lib.joinTail [32] r = glue false r := by
    intro r
    induction r with
    | nil => rfl
    | cons a r ih => rw [glue_cons, ← ih]; simp [Lib.joinTail]
  cases r with
  | nil => rfl
  | cons a r => rw [Lib.join_cons, tail, glue_cons]; rfl
def listT (l : List S43) : List UInt8 := 40 :: (glue true (l.map condT) ++ [41])
def textT (l : List (List S43)) : List UInt8 := glue true (l.map listT)
theorem glue_len (r : List (List UInt8)) (f : Bool) : (glue f r).length ≤ (r.map (fun x => x.length + 1)).sum := by
  induction r generalizing f with
  | nil => exact Nat.le_refl _
  | cons a r ih =>
    have := ih false
    rw [glue_cons]
    simp only [List.map_cons, List.sum_cons, List.length_append]
    cases f <;> simp <;> omega
theorem condT_len {c : S43} (h : SmCond c) : (condT c).length ≤ 27 + c.f2.size := by
  obtain ⟨_, h1, h2⟩ := h
  have h3 := bl_len c.f2
  have h4 := num_len c.f1.toNat (by have := h1.2; omega)
  unfold condT
  rw [List.length_append]
  have a1 : (if c.f0 = true then NOT else []).length ≤ 4 := by split <;> simp
  have a2 : (if c.f1 = 0 then 91 :: (bl c.f2 ++ [93]) else 60 :: (Lib.decDigits c.f1.toNat ++ [62])).length ≤ 23 + c.f2.size := by
    split
    · simp only [List.length_cons, List.length_append, List.length_nil]; omega
    · simp only [List.length_cons, List.length_append, List.length_nil]; omega
  omega
theorem specOne {c : S43} (h : SmCond c) : Ev (fun k => spec_l14OneText.f k c.f0 c.f1 c.f2) (ofL (condT c)) := by
  obtain ⟨_, h1, h2⟩ := h
  obtain ⟨t, e1, e2, e3, e4⟩ := numBoth c.f1 (by have := h1.2; omega)
  have e5 : bl t = Lib.decDigits c.f1.toNat := e3
  unfold spec_l14OneText.f condT
  by_cases c0 : c.f0 = true
  · by_cases c1 : c.f1 = 0
    · have hs : (((⟨#[78, 111, 116, 32]⟩ : ByteArray) ++ (⟨#[91]⟩ : ByteArray)) ++ c.f2).size = 5 + c.f2.size := by rw [ByteArray.size_append, ByteArray.size_append]; rfl
      simp only [if_pos c0, if_pos c1, hs, if_pos (show 4 + 1 ≤ 9223372036854775807 by omega), if_pos (show 4 + c.f2.size ≤ 9223372036854775807 by omega), if_pos (show 5 + c.f2.size + 1 ≤ 9223372036854775807 by omega)]
      refine ev_cast (Ev.now _) (of_bl ?_)
      rw [bl_append, bl_append, bl_append]; simp; rfl
    · have hs : (((⟨#[78, 111, 116, 32]⟩ : ByteArray) ++ (⟨#[60]⟩ : ByteArray)) ++ t).size = 5 + t.size := by rw [ByteArray.size_append, ByteArray.size_append]; rfl
      simp only [if_pos c0, if_neg c1, if_pos (show 4 + 1 ≤ 9223372036854775807 by omega)]
      refine Ev.bind e1 ?_
      simp only [hs, if_pos (show 4 + t.size ≤ 9223372036854775807 by omega), if_pos (show 5 + t.size + 1 ≤ 9223372036854775807 by omega)]
      refine ev_cast (Ev.now _) (of_bl ?_)
      rw [bl_append, bl_append, bl_append, e5]; simp; rfl
  · by_cases c1 : c.f1 = 0
    · have hs : (((⟨#[]⟩ : ByteArray) ++ (⟨#[91]⟩ : ByteArray)) ++ c.f2).size = 1 + c.f2.size := by rw [ByteArray.size_append, ByteArray.size_append]; rfl
      simp only [if_neg c0, if_pos c1, hs, if_pos (show 0 + 1 ≤ 9223372036854775807 by omega), if_pos (show 1 + c.f2.size ≤ 9223372036854775807 by omega), if_pos (show 1 + c.f2.size + 1 ≤ 9223372036854775807 by omega)]
      refine ev_cast (Ev.now _) (of_bl ?_)
      rw [bl_append, bl_append, bl_append]; simp; rfl
    · have hs : (((⟨#[]⟩ : ByteArray) ++ (⟨#[60]⟩ : ByteArray)) ++ t).size = 1 + t.size := by rw [ByteArray.size_append, ByteArray.size_append]; rfl
      simp only [if_neg c0, if_neg c1, if_pos (show 0 + 1 ≤ 9223372036854775807 by omega)]
      refine Ev.bind e1 ?_
      simp only [hs, if_pos (show 1 + t.size ≤ 9223372036854775807 by omega), if_pos (show 1 + t.size + 1 ≤ 9223372036854775807 by omega)]
      refine ev_cast (Ev.now _) (of_bl ?_)
      rw [bl_append, bl_append, bl_append, e5]; simp; rfl
theorem app_ofL (a b : List UInt8) : ofL a ++ ofL b = ofL (a ++ b) := of_bl (by rw [bl_append, bl_ofL, bl_ofL])
theorem app_lit (a : List UInt8) (b : UInt8) : ofL a ++ (⟨#[b]⟩ : ByteArray) = ofL (a ++ [b]) := app_ofL a [b]
theorem nil_iff {α : Type} (p : List α) : ((p.length : Int) > 0) = (p.isEmpty = false) := by cases p <;> simp <;> omega
theorem specT1 {L pre post : List (List S43)} {l : List S43} (h : L = pre ++ l :: post) (hL : L.length ≤ maxLen) (hl : SmConds l) {r : ByteArray} : ∀ (q p : List S43) (acc : List UInt8), l = p ++ q → (acc ++ glue p.isEmpty (q.map condT)).length ≤ 1073741824 →
    Ev (fun k => spec_IfText.l0 k L (ofL (acc ++ glue p.isEmpty (q.map condT) ++ [41])) ((pre ++ [l]).length : Int)) r → Ev (fun k => spec_IfText.l1 k L (ofL acc) (pre.length : Int) (p.length : Int)) r := by
  have hlm : l.length ≤ maxLen := by have := hl.1; rw [maxLen_eq]; omega
  intro q
  induction q with
  | nil =>
    intro p acc e hs hr
    rw [List.append_nil] at e
    simp only [List.map_nil, glue, List.append_nil] at hs hr
    refine Ev.step (fun k => spec_IfText.l1.eq_2 ..) ?_
    rw [rd_implCondL h]
    refine ev_iteT (nonneg_at _) ?_
    refine ev_iteT (lt_at h) ?_
    refine ev_iteF (by rw [e]; omega) ?_
    refine ev_iteT (by rw [size_ofL]; omega) ?_
    rw [app_lit, next_at h hL]
    exact hr
  | cons c q ih =>
    intro p acc e hs hr
    have hc : SmCond c := hl.2 c (by rw [e]; simp)
    have ho := specOne hc
    have hcl := condT_len hc
    have hc3 := hc.2.2
    rw [List.map_cons, glue_cons] at hs hr
    refine Ev.step (fun k => spec_IfText.l1.eq_2 ..) ?_
    rw [rd_implCondL h, rd_implCond e, next_at e hlm]
    refine ev_iteT (nonneg_at _) ?_
    refine ev_iteT (lt_at h) ?_
    refine ev_iteT (lt_at e) ?_
    have hne : (p ++ [c]).isEmpty = false := by cases p <;> rfl
    have i1 := fun acc => ih (p ++ [c]) acc (by rw [e]; simp)
    rw [hne] at i1
    cases hp : p.isEmpty with
    | false =>
      rw [hp] at hs hr
      simp only [Bool.false_eq_true, if_false] at hs hr
      refine ev_iteT (by rw [nil_iff]; exact hp) ?_
      simp only [List.length_append, List.length_cons] at hs
      refine ev_iteT (by rw [size_ofL]; omega) ?_
      refine ev_iteT (nonneg_at _) ?_
      refine Ev.bind ho ?_
      rw [app_lit, app_ofL]
      refine ev_iteT (by rw [size_ofL, size_ofL]; simp only [List.length_append, List.length_cons, List.length_nil]; omega) ?_
      refine i1 _ (by simp only [List.length_append, List.length_cons, List.length_nil]; omega) ?_
      simpa using hr
    | true =>
      rw [hp] at hs hr
      simp only [if_true] at hs hr
      refine ev_iteF (by rw [nil_iff, hp]; exact nofun) ?_
      simp only [List.length_append, List.length_cons] at hs
      refine ev_iteT (nonneg_at _) ?_
      refine Ev.bind ho ?_
      rw [app_ofL]
      refine ev_iteT (by rw [size_ofL, size_ofL]; omega) ?_
      refine i1 _ (by simp only [List.length_append, List.length_cons, List.length_nil]; omega) ?_
      simpa using hr
theorem specT0 {L : List (List S43)} (hL : SmCondss L) {r : ByteArray} : ∀ (post pre : List (List S43)) (acc : List UInt8), L = pre ++ post → (acc ++ glue pre.isEmpty (post.map listT)).length ≤ 1073741824 →
    Ev (fun k => spec_IfText.l0 k L (ofL (acc ++ glue pre.isEmpty (post.map listT))) (L.length : Int)) r → Ev (fun k => spec_IfText.l0 k L (ofL acc) (pre.length : Int)) r := by
  have hm : L.length ≤ maxLen := by have := hL.1; rw [maxLen_eq]; omega
  intro post
  induction post with
  | nil =>
    intro pre acc e hs hr
    rw [List.append_nil] at e
    simp only [List.map_nil, glue, List.append_nil, e] at hr
    rw [e]
    exact hr
  | cons l post ih =>
    intro pre acc e hs hr
    have hl := hL.2 l (by rw [e]; simp)
    rw [List.map_cons, glue_cons] at hs hr
    have hne : (pre ++ [l]).isEmpty = false := by cases pre <;> rfl
    have i1 := fun acc => ih (pre ++ [l]) acc (by rw [e]; simp)
    rw [hne] at i1
    have hll : (listT l).length = 2 + (glue true (l.map condT)).length := by simp only [listT, List.length_cons, List.length_append, List.length_nil]; omega
    have hgo : ∀ acc2 : List UInt8, (acc2 ++ listT l ++ glue false (post.map listT)).length ≤ 1073741824 → Ev (fun k => spec_IfText.l0 k L (ofL (acc2 ++ listT l ++ glue false (post.map listT))) (L.length : Int)) r → Ev (fun k => spec_IfText.j1 k L (ofL acc2) (pre.length : Int)) r := by
      intro acc2 hs2 hr2
      simp only [List.length_append] at hs2
      refine Ev.step (fun k => spec_IfText.j1.eq_2 ..) ?_
      refine ev_iteT (by rw [size_ofL]; omega) ?_
      rw [app_lit]
      refine specT1 e hm hl l [] (acc2 ++ [40]) rfl (by simp only [List.isEmpty_nil, List.length_append, List.length_cons, List.length_nil]; omega) ?_
      refine i1 _ ?_ ?_
      · simp only [List.isEmpty_nil, List.length_append, List.length_cons, List.length_nil]; omega
      · simp only [listT, List.isEmpty_nil, List.append_assoc, List.cons_append, List.nil_append, List.singleton_append] at hr2 ⊢
        exact hr2
    refine Ev.step (fun k => spec_IfText.l0.eq_2 ..) ?_
    refine ev_iteT (lt_at e) ?_
    cases hp : pre.isEmpty with
    | false =>
      rw [hp] at hs hr
      simp only [Bool.false_eq_true, if_false] at hs hr
      refine ev_iteT (by rw [nil_iff]; exact hp) ?_
      simp only [List.length_append, List.length_cons] at hs
      refine ev_iteT (by rw [size_ofL]; omega) ?_
      rw [app_lit]
      refine hgo _ (by simp only [List.length_append, List.length_cons, List.length_nil]; omega) ?_
      simpa using hr
    | true =>
      rw [hp] at hs hr
      simp only [if_true] at hs hr
      refine ev_iteF (by rw [nil_iff, hp]; exact nofun) ?_
      simp only [List.length_append] at hs
      refine hgo acc (by simp only [List.length_append]; omega) ?_
      simpa using hr
theorem map_ofL (X : List (List UInt8)) : (X.map ofL).map (·.data.toList) = X := by
  rw [List.map_map]
  have : ((fun x : ByteArray => x.data.toList) ∘ ofL) = id := by funext x; exact bl_ofL x
  rw [this, List.map_id]
theorem joinB {X : List (List UInt8)} (h1 : X.length ≤ 1073741824) (h2 : (glue true X).length ≤ 1073741824) : strings_Join.f (X.map ofL) (⟨#[32]⟩ : ByteArray) = some (ofL (glue true X)) := by
  have e : Lib.join ((X.map ofL).map (·.data.toList)) (⟨#[32]⟩ : ByteArray).data.toList = glue true X := by rw [map_ofL]; exact join_glue X
  unfold strings_Join.f
  rw [e, if_pos ⟨by rw [List.length_map]; omega, by omega⟩]
theorem implOneT {c : S43} (h1 : IntOk c.f1) : (c.f1 = 0 → c.f0 = true → (⟨#[78, 111, 116, 32]⟩ : ByteArray) ++ (((⟨#[91]⟩ : ByteArray) ++ c.f2) ++ (⟨#[93]⟩ : ByteArray)) = ofL (condT c)) ∧ (c.f1 = 0 → ¬ c.f0 = true → ((⟨#[91]⟩ : ByteArray) ++ c.f2) ++ (⟨#[93]⟩ : ByteArray) = ofL (condT c)) ∧
    ∃ t, impl_NumText.f c.f1 = some t ∧ t.size ≤ 21 ∧ (¬ c.f1 = 0 → c.f0 = true → (⟨#[78, 111, 116, 32]⟩ : ByteArray) ++ (((⟨#[60]⟩ : ByteArray) ++ t) ++ (⟨#[62]⟩ : ByteArray)) = ofL (condT c)) ∧ (¬ c.f1 = 0 → ¬ c.f0 = true → ((⟨#[60]⟩ : ByteArray) ++ t) ++ (⟨#[62]⟩ : ByteArray) = ofL (condT c)) := by
  obtain ⟨t, e1, e2, e3, e4⟩ := numBoth c.f1 (by have := h1.2; omega)
  have e5 : bl t = Lib.decDigits c.f1.toNat := e3
  refine ⟨fun a b => ?_, fun a b => ?_, t, e2, e4, fun a b => ?_, fun a b => ?_⟩
  all_goals refine of_bl ?_; simp only [bl_append, condT, a, b, if_true, if_false, e5]; simp; rfl
theorem implT1 {L pre post : List (List S43)} {l : List S43} {out : List ByteArray} (h : L = pre ++ l :: post) (hL : L.length ≤ maxLen) (hl : SmConds l) (ho : out.length ≤ 1048576) (hs : (glue true (l.map condT)).length ≤ 1073741824) {r : ByteArray}
    (hr : Ev (fun k => impl_IfText.l0 k L (out ++ [ofL (listT l)]) L (L.length : Int) ((pre ++ [l]).length : Int)) r) : ∀ (q p : List S43), l = p ++ q →
    Ev (fun k => impl_IfText.l1 k L out ((p.map condT).map ofL) L (L.length : Int) (pre.length : Int) l (l.length : Int) (p.length : Int)) r := by
  have hlm : l.length ≤ maxLen := by have := hl.1; rw [maxLen_eq]; omega
  intro q
  induction q with
  | nil =>
    intro p e
    rw [List.append_nil] at e
    subst e
    refine Ev.step (fun k => impl_IfText.l1.eq_2 ..) ?_
    refine ev_iteF (Int.lt_irrefl _) ?_
    refine ev_bindS (joinB (by rw [List.length_map]; have := hl.1; omega) hs) ?_
    have hz : ((⟨#[40]⟩ : ByteArray) ++ ofL (glue true (l.map condT))).size = 1 + (glue true (l.map condT)).length := by rw [ByteArray.size_append, size_ofL]; rfl
    have hx : ((⟨#[40]⟩ : ByteArray) ++ ofL (glue true (l.map condT))) ++ (⟨#[41]⟩ : ByteArray) = ofL (listT l) := by
      refine of_bl ?_
      rw [bl_append, bl_append, bl_ofL]; rfl
    refine ev_iteT (show 1 + (ofL (glue true (l.map condT))).size ≤ _ by rw [size_ofL]; omega) ?_
    refine ev_iteT (by rw [hz]; omega) ?_
    refine ev_iteT (show out.length < 8796093022208 by omega) ?_
    rw [hx, next_at h hL]
    exact hr
  | cons c q ih =>
    intro p e
    have hc : SmCond c := hl.2 c (by rw [e]; simp)
    obtain ⟨t1, t2, t, t3, t4, t5, t6⟩ := implOneT hc.2.1
    have hc3 := hc.2.2
    have i1 := ih (p ++ [c]) (by rw [e]; simp)
    rw [List.map_append, List.map_append, List.map_cons, List.map_cons, List.map_nil, List.map_nil] at i1
    have hpl : ((p.map condT).map ofL).length < 8796093022208 := by
      rw [List.length_map, List.length_map]
      have := hl.1
      rw [e, List.length_append] at this
      omega
    refine Ev.step (fun k => impl_IfText.l1.eq_2 ..) ?_
    rw [rd_implCond e, next_at e hlm]
    refine ev_iteT (lt_at e) ?_
    refine ev_iteT (nonneg_at _) ?_
    refine ev_iteT (lt_at e) ?_
    refine ev_iteT (show 1 + c.f2.size ≤ 9223372036854775807 by omega) ?_
    have z1 : ((⟨#[91]⟩ : ByteArray) ++ c.f2).size = 1 + c.f2.size := by rw [ByteArray.size_append]; rfl
    have z2 : (((⟨#[91]⟩ : ByteArray) ++ c.f2) ++ (⟨#[93]⟩ : ByteArray)).size = 1 + c.f2.size + 1 := by rw [ByteArray.size_append, z1]; rfl
    have z3 : ((⟨#[60]⟩ : ByteArray) ++ t).size = 1 + t.size := by rw [ByteArray.size_append]; rfl
    have z4 : (((⟨#[60]⟩ : ByteArray) ++ t) ++ (⟨#[62]⟩ : ByteArray)).size = 1 + t.size + 1 := by rw [ByteArray.size_append, z3]; rfl
    refine ev_iteT (by rw [z1]; omega) ?_
    by_cases c1 : c.f1 = 0
    · refine ev_iteT c1 ?_
      by_cases c0 : c.f0 = true
      · refine ev_iteT c0 ?_
        refine ev_iteT (by rw [z2]; omega) ?_
        refine ev_iteT hpl ?_
        rw [t1 c1 c0]
        exact i1
      · refine ev_iteF c0 ?_
        refine ev_iteT hpl ?_
        rw [t2 c1 c0]
        exact i1
    · refine ev_iteF c1 ?_
      refine ev_bindS t3 ?_
      refine ev_iteT (show 1 + t.size ≤ 9223372036854775807 by omega) ?_
      refine ev_iteT (by rw [z3]; omega) ?_
      by_cases c0 : c.f0 = true
      · refine ev_iteT c0 ?_
        refine ev_iteT (by rw [z4]; omega) ?_
        refine ev_iteT hpl ?_
        rw [t5 c1 c0]
        exact i1
      · refine ev_iteF c0 ?_
        refine ev_iteT hpl ?_
        rw [t6 c1 c0]
        exact i1
theorem implT0 {L : List (List S43)} (hL : SmCondss L) (hs : ∀ l ∈ L, (glue true (l.map condT)).length ≤ 1073741824) {r : ByteArray} (hr : Ev (fun k => impl_IfText.l0 k L ((L.map listT).map ofL) L (L.length : Int) (L.length : Int)) r) : ∀ (post pre : List (List S43)), L = pre ++ post →
    Ev (fun k => impl_IfText.l0 k L ((pre.map listT).map ofL) L (L.length : Int) (pre.length : Int)) r := by
  have hm : L.length ≤ maxLen := by have := hL.1; rw [maxLen_eq]; omega
  intro post
  induction post with
  | nil =>
    intro pre e
    rw [List.append_nil] at e
    rw [← e]
    exact hr
  | cons l post ih =>
    intro pre e
    have hl := hL.2 l (by rw [e]; simp)
    have i1 := ih (pre ++ [l]) (by rw [e]; simp)
    rw [List.map_append, List.map_append, List.map_cons, List.map_cons, List.map_nil, List.map_nil] at i1
    refine Ev.step (fun k => impl_IfText.l0.eq_2 ..) ?_
    rw [rd_implCondL e]
    refine ev_iteT (lt_at e) ?_
    refine ev_iteT (nonneg_at _) ?_
    refine ev_iteT (lt_at e) ?_
    have hol : ((pre.map listT).map ofL).length ≤ 1048576 := by
      rw [List.length_map, List.length_map]
      have := hL.1
      rw [e, List.length_append] at this
      omega
    exact implT1 e hm hl hol (hs l (by rw [e]; simp)) i1 l [] rfl
end Go.Proofs.YtigoeooelfeopaaGreatDoor.L
