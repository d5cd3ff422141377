/- Texts byte by byte: plain texts, small names, as the program and the reference have them. No condition. -/
import Derived.Test.YtbgggcgjijljkaaVFnCopiedG33
import Derived.Lib.Bytealg
set_option linter.unusedSimpArgs false
set_option linter.unusedVariables false
namespace Go.Proofs.Ytbgggcgjijljkaa.L
open Go.RowKit Go.Proofs.YtbgggcgjijljkaaW.PrintWords Go.Proofs.YtbgggcgjijljkaaW.PrintLast Go.Proofs.Ytbgggcgjijljkaa.Q
abbrev bl (s : ByteArray) : List UInt8 := s.data.toList
theorem bl_len (s : ByteArray) : (bl s).length = s.size := data_length s
section
variable {s : ByteArray} {pre suf : List UInt8} {c : UInt8}
theorem blt_at (h : bl s = pre ++ c :: suf) : ((pre.length : Nat) : Int) < (s.size : Int) := by
  have := bl_len s
  rw [h] at this
  simp at this
  omega
theorem bend_at (h : bl s = pre ++ []) : ¬ ((pre.length : Nat) : Int) < (s.size : Int) := by
  have := bl_len s
  rw [h] at this
  simp at this
  omega
theorem bt_at' (h : bl s = pre ++ c :: suf) : bt s (pre.length : Int) = (c.toNat : Int) := by
  have hlt := blt_at h
  have h2 : pre.length < s.size := by omega
  rw [← bt_at s (pre.length : Int) (by simpa using h2)]
  have h3 : pre.length < (bl s).length := by rw [bl_len]; exact h2
  have h4 : (bl s)[pre.length] = c := by simp [h]
  have h5 : s[pre.length]'h2 = (bl s)[pre.length] := by
    show s.data[pre.length] = _
    simp
  simp only [Int.toNat_natCast, h5, h4]
theorem bnext_at (h : bl s = pre ++ c :: suf) (hs : s.size <= maxLen) : wrap64 ((pre.length : Int) + 1) = ((pre ++ [c]).length : Int) := by
  have := blt_at h
  rw [maxLen_eq] at hs
  rw [wrap_id (by omega) (by omega)]
  simp
end
theorem byte_bounds (c : UInt8) : 0 <= (c.toNat : Int) /\ (c.toNat : Int) <= 255 := ⟨by omega, by have := c.toNat_lt; omega⟩
theorem wrap_byte (c : UInt8) : wrap64 (c.toNat : Int) = (c.toNat : Int) := wrap_id (by omega) (by have := byte_bounds c; omega)
def inB (lo hi : Int) (c : UInt8) : Bool := decide (lo <= (c.toNat : Int) /\ (c.toNat : Int) <= hi)
theorem specIn (a b c : Int) : spec_l1In.f a b c = some (decide (b <= a /\ a <= c)) := by
  unfold spec_l1In.f
  by_cases h : a >= b
  . rw [if_pos h]; simp [show b <= a from h]
  . rw [if_neg h]; simp [show ¬ b <= a from h]
theorem implIn (a b c : Int) : impl_in.f a b c = some (decide (b <= a /\ a <= c)) := by
  unfold impl_in.f
  by_cases h : a >= b
  . rw [if_pos h]; simp [show b <= a from h]
  . rw [if_neg h]; simp [show ¬ b <= a from h]
theorem implIsPlain (c : UInt8) : impl_isPlain.f (c.toNat : Int) = some (inB 32 126 c) := by
  unfold impl_isPlain.f inB
  by_cases h : (c.toNat : Int) >= 32
  . rw [if_pos h]; simp only [show (32 : Int) <= c.toNat from h, true_and]
  . rw [if_neg h]; simp only [show ¬ (32 : Int) <= c.toNat from h, false_and, decide_false]
theorem implIsSmall (c : UInt8) : impl_isSmall.f (c.toNat : Int) = some (inB 97 122 c) := by
  unfold impl_isSmall.f inB
  by_cases h : (c.toNat : Int) >= 97
  . rw [if_pos h]; simp only [show (97 : Int) <= c.toNat from h, true_and]
  . rw [if_neg h]; simp only [show ¬ (97 : Int) <= c.toNat from h, false_and, decide_false]
theorem implIsDigit (c : UInt8) : impl_isDigit.f (c.toNat : Int) = some (inB 48 57 c) := by
  unfold impl_isDigit.f inB
  by_cases h : (c.toNat : Int) >= 48
  . rw [if_pos h]; simp only [show (48 : Int) <= c.toNat from h, true_and]
  . rw [if_neg h]; simp only [show ¬ (48 : Int) <= c.toNat from h, false_and, decide_false]
theorem specSmall1 (c : UInt8) : spec_l1Small.f (c.toNat : Int) = some (inB 97 122 c) := by
  unfold spec_l1Small.f; rw [wrap_byte, specIn]; rfl
theorem specDigit1 (c : UInt8) : spec_l1Digit.f (c.toNat : Int) = some (inB 48 57 c) := by
  unfold spec_l1Digit.f; rw [wrap_byte, specIn]; rfl
def plainL (l : List UInt8) : Bool := l.all (inB 32 126)
theorem specPlain_loop {s : ByteArray} (hs : s.size <= maxLen) : ∀ (suf pre : List UInt8), bl s = pre ++ suf -> Ev (fun k => spec_Plain.l0 k s pre.length) (plainL suf) := by
  intro suf
  induction suf with
  | nil =>
    intro pre h
    refine Ev.step (fun k => spec_Plain.l0.eq_2 ..) ?_
    simp only [if_neg (bend_at h)]
    exact Ev.now _
  | cons c suf ih =>
    intro pre h
    refine Ev.step (fun k => spec_Plain.l0.eq_2 ..) ?_
    simp only [if_pos (blt_at h), if_pos (nonneg_at _), bt_at' h, wrap_byte, specIn, Option.bind_some, bnext_at h hs]
    have := ih (pre ++ [c]) (snoc_at h)
    simp only [plainL, List.all_cons, inB] at this ⊢
    by_cases e : (32 : Int) <= c.toNat /\ (c.toNat : Int) <= 126
    . simp only [e, and_self, decide_true, if_true, Bool.true_and]
      exact this
    . simp only [e, decide_false, Bool.false_eq_true, if_false, Bool.false_and]
      exact Ev.now _
theorem specPlain {s : ByteArray} (hs : s.size <= maxLen) : Ev (fun k => spec_Plain.f k s) (plainL (bl s)) := specPlain_loop hs _ [] rfl
theorem implPlain_loop {s : ByteArray} (hs : s.size <= maxLen) : ∀ (suf pre : List UInt8), bl s = pre ++ suf -> Ev (fun k => impl_Plain.l0 k s pre.length) (plainL suf) := by
  intro suf
  induction suf with
  | nil =>
    intro pre h
    refine Ev.step (fun k => impl_Plain.l0.eq_2 ..) ?_
    simp only [if_neg (bend_at h)]
    exact Ev.now _
  | cons c suf ih =>
    intro pre h
    refine Ev.step (fun k => impl_Plain.l0.eq_2 ..) ?_
    simp only [if_pos (blt_at h), if_pos (nonneg_at _), bt_at' h, implIsPlain, Option.bind_some, bnext_at h hs]
    have := ih (pre ++ [c]) (snoc_at h)
    simp only [plainL, List.all_cons] at this ⊢
    by_cases e : inB 32 126 c = true
    . simp only [e, if_true, Bool.true_and]
      exact this
    . simp only [e, if_false, Bool.false_and]
      exact Ev.now _
theorem implPlain {s : ByteArray} (hs : s.size <= maxLen) : Ev (fun k => impl_Plain.f k s) (plainL (bl s)) := implPlain_loop hs _ [] rfl
def smallL : Bool -> List UInt8 -> Bool
  | _, [] => true
  | first, c :: l => (inB 97 122 c || (!first && (inB 48 57 c || decide (c = 45)))) && smallL false l
theorem eq45 (c : UInt8) : ((c.toNat : Int) = 45) = (c = 45) := by
  apply propext
  constructor
  . intro h
    apply UInt8.toNat_inj.1
    show c.toNat = 45
    omega
  . rintro rfl
    rfl
def smallName (s : ByteArray) : Bool := smallL true (bl s) && decide (1 <= (s.size : Int) /\ (s.size : Int) <= 20)
theorem specSmall_loop {s : ByteArray} (hs : s.size <= maxLen) : ∀ (suf pre : List UInt8), bl s = pre ++ suf -> Ev (fun k => spec_SmallName.l0 k s pre.length) (smallL (decide (pre = [])) suf && decide (1 <= (s.size : Int) /\ (s.size : Int) <= 20)) := by
  intro suf
  induction suf with
  | nil =>
    intro pre h
    refine Ev.step (fun k => spec_SmallName.l0.eq_2 ..) ?_
    simp only [if_neg (bend_at h), specIn, Option.bind_some, smallL, Bool.true_and]
    exact Ev.now _
  | cons c suf ih =>
    intro pre h
    refine Ev.step (fun k => spec_SmallName.l0.eq_2 ..) ?_
    simp only [if_pos (blt_at h), if_pos (nonneg_at _), bt_at' h, specSmall1, specDigit1, Option.bind_some, bnext_at h hs, eq45]
    have := ih (pre ++ [c]) (snoc_at h)
    rw [show decide (pre ++ [c] = []) = false by simp] at this
    simp only [smallL]
    by_cases e : inB 97 122 c = true
    . simp only [e, if_true, Bool.true_or, Bool.true_and]
      exact this
    . simp only [e, Bool.false_eq_true, if_false, Bool.false_or]
      by_cases e0 : pre = []
      . subst e0
        simp only [List.length_nil, Int.natCast_zero, if_true, decide_true, Bool.not_true, Bool.false_and]
        exact Ev.now _
      . have hp : ¬ ((pre.length : Nat) : Int) = 0 := by
          intro h0
          exact e0 (List.eq_nil_of_length_eq_zero (by omega))
        simp only [if_neg hp, e0, decide_false, Bool.not_false, Bool.true_and]
        by_cases e1 : inB 48 57 c = true
        . simp only [e1, if_true, Bool.true_or, Bool.true_and]
          exact this
        . simp only [e1, Bool.false_eq_true, if_false, Bool.false_or]
          by_cases e2 : c = 45
          . simp only [e2, if_true, decide_true, Bool.true_and]
            subst e2
            exact this
          . simp only [e2, if_false, decide_false, Bool.false_and]
            exact Ev.now _
theorem specSmall {s : ByteArray} (hs : s.size <= maxLen) : Ev (fun k => spec_SmallName.f k s) (smallName s) := specSmall_loop hs _ [] rfl
theorem implSmall_loop {s : ByteArray} (hs : s.size <= maxLen) : ∀ (suf pre : List UInt8), bl s = pre ++ suf -> Ev (fun k => impl_SmallName.l0 k s pre.length) (smallL (decide (pre = [])) suf && decide (1 <= (s.size : Int) /\ (s.size : Int) <= 20)) := by
  intro suf
  induction suf with
  | nil =>
    intro pre h
    refine Ev.step (fun k => impl_SmallName.l0.eq_2 ..) ?_
    simp only [if_neg (bend_at h), implIn, Option.bind_some, smallL, Bool.true_and]
    exact Ev.now _
  | cons c suf ih =>
    intro pre h
    refine Ev.step (fun k => impl_SmallName.l0.eq_2 ..) ?_
    simp only [if_pos (blt_at h), if_pos (nonneg_at _), bt_at' h, implIsSmall, implIsDigit, Option.bind_some, bnext_at h hs, eq45]
    have := ih (pre ++ [c]) (snoc_at h)
    rw [show decide (pre ++ [c] = []) = false by simp] at this
    simp only [smallL]
    by_cases e : inB 97 122 c = true
    . simp only [e, if_true, Bool.true_or, Bool.true_and]
      exact this
    . simp only [e, Bool.false_eq_true, if_false, Bool.false_or]
      by_cases e0 : pre = []
      . subst e0
        simp only [List.length_nil, Int.natCast_zero, if_true, decide_true, Bool.not_true, Bool.false_and]
        exact Ev.now _
      . have hp : ¬ ((pre.length : Nat) : Int) = 0 := by
          intro h0
          exact e0 (List.eq_nil_of_length_eq_zero (by omega))
        simp only [if_neg hp, e0, decide_false, Bool.not_false, Bool.true_and]
        by_cases e1 : inB 48 57 c = true
        . simp only [e1, if_true, Bool.true_or, Bool.true_and]
          exact this
        . simp only [e1, Bool.false_eq_true, if_false, Bool.false_or]
          by_cases e2 : c = 45
          . simp only [e2, if_true, decide_true, Bool.true_and]
            subst e2
            exact this
          . simp only [e2, if_false, decide_false, Bool.false_and]
            exact Ev.now _
theorem implSmall {s : ByteArray} (hs : s.size <= maxLen) : Ev (fun k => impl_SmallName.f k s) (smallName s) := implSmall_loop hs _ [] rfl
end Go.Proofs.Ytbgggcgjijljkaa.L

/- Names and paths: are they right; as the program and the reference have it. No condition. -/
set_option linter.unusedSimpArgs false
set_option linter.unusedVariables false
namespace Go.Proofs.Ytbgggcgjijljkaa.L
open Go.RowKit Go.Proofs.YtbgggcgjijljkaaW.PrintWords Go.Proofs.YtbgggcgjijljkaaW.PrintLast Go.Proofs.Ytbgggcgjijljkaa.Q
theorem indexByte_mem (l : List UInt8) (c : UInt8) : (0 <= Lib.indexByte l c) ↔ c ∈ l := by
  induction l with
  | nil => simp [Lib.indexByte]
  | cons b l ih =>
    have hge := Lib.indexByte_ge l c
    unfold Lib.indexByte
    by_cases e : b = c
    . simp [e]
    . have e' : ¬ c = b := fun h => e h.symm
      simp only [beq_iff_eq, e, if_false, List.mem_cons, e', false_or]
      rw [← ih]
      by_cases h : Lib.indexByte l c = -1
      . simp [h]
      . simp only [h, if_false]; omega
theorem ba_toList_eq (s : ByteArray) (l : List UInt8) : (s.toList = l) = (bl s = l) := by rw [ba_toList]
def nameOk (s : ByteArray) : Bool := decide (47 ∉ bl s) && (decide (1 <= (s.size : Int) /\ (s.size : Int) <= 8) && (plainL (bl s) && (decide (bl s ≠ [46]) && decide (bl s ≠ [46, 46]))))
theorem eq47 (c : UInt8) : ((c.toNat : Int) = 47) = (c = 47) := by
  apply propext
  constructor
  . intro h
    apply UInt8.toNat_inj.1
    show c.toNat = 47
    omega
  . rintro rfl
    rfl
theorem bne_dec {α : Type} [BEq α] [LawfulBEq α] [DecidableEq α] (a b : α) : (a != b) = decide (a ≠ b) := by
  by_cases e : a = b <;> simp [e]
theorem specNameOk {s : ByteArray} (hs : s.size <= 1048576) : Ev (fun k => spec_NameOk.f k s) (nameOk s) := by
  have hm : s.size <= maxLen := by rw [maxLen_eq]; omega
  have key : ∀ (suf pre : List UInt8), bl s = pre ++ suf -> Ev (fun k => spec_NameOk.l0 k s pre.length) (decide (47 ∉ suf) && (decide (1 <= (s.size : Int) /\ (s.size : Int) <= 8) && (plainL (bl s) && (decide (bl s ≠ [46]) && decide (bl s ≠ [46, 46]))))) := by
    intro suf
    induction suf with
    | nil =>
      intro pre h
      refine Ev.step (fun k => spec_NameOk.l0.eq_2 ..) ?_
      simp only [if_neg (bend_at h), specIn, Option.bind_some, List.not_mem_nil, not_false_eq_true, decide_true, Bool.true_and]
      by_cases c0 : 1 <= (s.size : Int) /\ (s.size : Int) <= 8
      . simp only [c0, decide_true, if_true, and_self, Bool.true_and]
        refine Ev.bind (specPlain hm) ?_
        by_cases c1 : plainL (bl s) = true
        . simp only [c1, if_true, Bool.true_and, ba_toList_eq, bne_dec, ba_toList]
          by_cases c2 : bl s = [46]
          . simp only [c2, if_true]
            exact Ev.now _
          . simp only [c2, if_false, ne_eq, not_false_eq_true, decide_true, Bool.true_and]
            exact Ev.now _
        . simp only [c1, Bool.false_eq_true, if_false, Bool.false_and]
          exact Ev.now _
      . simp only [c0, decide_false, Bool.false_eq_true, if_false, Bool.false_and]
        exact Ev.now _
    | cons c suf ih =>
      intro pre h
      refine Ev.step (fun k => spec_NameOk.l0.eq_2 ..) ?_
      simp only [if_pos (blt_at h), if_pos (nonneg_at _), bt_at' h, eq47, bnext_at h hm]
      by_cases e : c = 47
      . simp only [e, if_true, List.mem_cons, true_or, not_true_eq_false, decide_false, Bool.false_and]
        exact Ev.now _
      . have e' : ¬ 47 = c := fun h => e h.symm
        simp only [e, if_false, List.mem_cons, e', false_or]
        exact ih (pre ++ [c]) (snoc_at h)
  exact key _ [] rfl
theorem implNameOk {s : ByteArray} (hs : s.size <= 1048576) : Ev (fun k => impl_NameOk.f k s) (nameOk s) := by
  have hm : s.size <= maxLen := by rw [maxLen_eq]; omega
  unfold impl_NameOk.f nameOk
  simp only [implIn, Option.bind_some]
  by_cases c0 : 1 <= (s.size : Int) /\ (s.size : Int) <= 8
  . simp only [c0, decide_true, if_true, and_self, Bool.true_and]
    refine Ev.bind (implPlain hm) ?_
    by_cases c1 : plainL (bl s) = true
    . simp only [c1, if_true, Bool.true_and, strings_Contains.f, Option.bind_some, decide_eq_true_eq, indexByte_mem, ba_toList_eq, bne_dec, ba_toList]
      by_cases c2 : (47 : UInt8) ∈ s.data.toList
      . simp only [c2, if_true, not_true_eq_false, decide_false, Bool.false_and]
        exact Ev.now _
      . simp only [c2, if_false, not_false_eq_true, decide_true, Bool.true_and]
        by_cases c3 : bl s = [46]
        . simp only [c3, if_true]
          exact Ev.now _
        . simp only [c3, if_false, ne_eq, not_false_eq_true, decide_true, Bool.true_and]
          exact Ev.now _
    . simp only [c1, Bool.false_eq_true, if_false, Bool.false_and, Bool.and_false]
      exact Ev.now _
  . simp only [c0, decide_false, Bool.false_eq_true, if_false, Bool.false_and, Bool.and_false]
    exact Ev.now _
def pathOk (p : List ByteArray) : Bool := p.all nameOk && decide ((p.length : Int) <= 4)
theorem specPathOk {p : List ByteArray} (hp : SmS p) : Ev (fun k => spec_PathOk.f k p) (pathOk p) := by
  have hl : p.length <= maxLen := by have := hp.1; rw [maxLen_eq]; omega
  have key : ∀ (suf pre : List ByteArray), p = pre ++ suf -> Ev (fun k => spec_PathOk.l0 k p pre.length) (suf.all nameOk && decide ((p.length : Int) <= 4)) := by
    intro suf
    induction suf with
    | nil =>
      intro pre h
      refine Ev.step (fun k => spec_PathOk.l0.eq_2 ..) ?_
      simp only [if_neg (end_at h), List.all_nil, Bool.true_and]
      exact Ev.now _
    | cons a suf ih =>
      intro pre h
      refine Ev.step (fun k => spec_PathOk.l0.eq_2 ..) ?_
      simp only [if_pos (lt_at h), if_pos (nonneg_at _), rd_at _ h, next_at h hl]
      refine Ev.bind (specNameOk (hp.2 a (by rw [h]; simp))) ?_
      simp only [List.all_cons]
      by_cases e : nameOk a = true
      . simp only [e, if_true, Bool.true_and]
        exact ih (pre ++ [a]) (snoc_at h)
      . simp only [e, Bool.false_eq_true, if_false, Bool.false_and]
        exact Ev.now _
  exact key p [] rfl
theorem implPathOk {p : List ByteArray} (hp : SmS p) : Ev (fun k => impl_PathOk.f k p) (pathOk p) := by
  have hl : p.length <= maxLen := by have := hp.1; rw [maxLen_eq]; omega
  have key : ∀ (suf pre : List ByteArray), p = pre ++ suf -> Ev (fun k => impl_PathOk.l0 k p p (p.length : Int) pre.length) (suf.all nameOk && decide ((p.length : Int) <= 4)) := by
    intro suf
    induction suf with
    | nil =>
      intro pre h
      refine Ev.step (fun k => impl_PathOk.l0.eq_2 ..) ?_
      simp only [if_neg (end_at h), List.all_nil, Bool.true_and]
      exact Ev.now _
    | cons a suf ih =>
      intro pre h
      refine Ev.step (fun k => impl_PathOk.l0.eq_2 ..) ?_
      simp only [if_pos (lt_at h), if_pos (nonneg_at _), rd_at _ h, next_at h hl]
      refine Ev.bind (implNameOk (hp.2 a (by rw [h]; simp))) ?_
      simp only [List.all_cons]
      by_cases e : nameOk a = true
      . simp only [e, if_true, Bool.true_and]
        exact ih (pre ++ [a]) (snoc_at h)
      . simp only [e, Bool.false_eq_true, if_false, Bool.false_and]
        exact Ev.now _
  exact key p [] rfl
end Go.Proofs.Ytbgggcgjijljkaa.L

/- A path without its last name; as the program and the reference have it. No condition. -/
set_option linter.unusedSimpArgs false
set_option linter.unusedVariables false
namespace Go.Proofs.Ytbgggcgjijljkaa.L
open Go.RowKit Go.Proofs.YtbgggcgjijljkaaW.PrintWords Go.Proofs.YtbgggcgjijljkaaW.PrintLast Go.Proofs.Ytbgggcgjijljkaa.Q
def above (p : List ByteArray) : List ByteArray := p.take (p.length - 1)
theorem above_wrap {p : List ByteArray} (hp : p.length <= 1048576) (h : ¬ (p.length : Int) = 0) : wrap64 ((p.length : Int) - 1) = ((p.length - 1 : Nat) : Int) := by
  rw [wrap_id (by omega) (by omega)]; omega
theorem implCopyPath {p : List ByteArray} (hp : p.length <= 1048576) : impl_copyPath.f p = some p := by
  unfold impl_copyPath.f
  rw [if_pos (by simp; omega)]; rfl
theorem specAbove {p : List ByteArray} (hp : p.length <= 1048576) : spec_Above.f p = some (above p) := by
  unfold spec_Above.f above
  by_cases h : (p.length : Int) = 0
  . rw [if_pos h]
    have : p = [] := List.eq_nil_of_length_eq_zero (by omega)
    rw [this]; rfl
  . simp only [if_neg h, Option.bind_some, above_wrap hp h, if_pos (Int.natCast_nonneg _), Int.toNat_natCast]
    rw [if_pos (by omega), if_pos (by simp; omega)]; rfl
theorem implAbove {p : List ByteArray} (hp : p.length <= 1048576) : impl_Above.f p = some (above p) := by
  unfold impl_Above.f above
  by_cases h : (p.length : Int) = 0
  . rw [if_pos h]
    have : p = [] := List.eq_nil_of_length_eq_zero (by omega)
    rw [this]; rfl
  . simp only [if_neg h, above_wrap hp h, if_pos (Int.natCast_nonneg _), Int.toNat_natCast]
    rw [if_pos (by omega), implCopyPath (by simp; omega)]; rfl
end Go.Proofs.Ytbgggcgjijljkaa.L

/- The laws' own functions over a mirrored struct (Prop): size, copy, equality. No condition. -/
set_option linter.unusedSimpArgs false
set_option linter.unusedVariables false
namespace Go.Proofs.Ytbgggcgjijljkaa.L
open Go.RowKit Go.Proofs.YtbgggcgjijljkaaW.PrintWords Go.Proofs.YtbgggcgjijljkaaW.PrintLast Go.Proofs.Ytbgggcgjijljkaa.Q
instance : DecidableEq S72 := fun a b => if h : a.f0 = b.f0 /\ a.f1 = b.f1 /\ a.f2 = b.f2 then .isTrue (by cases a; cases b; simp_all) else .isFalse (fun e => h (by rw [e]; exact ⟨rfl, rfl, rfl⟩))
theorem rd_implProp {l pre suf : List S72} {a : S72} (h : l = pre ++ a :: suf) : rd_T72 l (pre.length : Int) = a := getD_at _ h
def SmProp (p : S72) : Prop := p.f0.size <= 1048576 /\ p.f1.size <= 1048576 /\ p.f2.size <= 1048576
def SmProps (l : List S72) : Prop := l.length <= 1048576 /\ ∀ p ∈ l, SmProp p
end Go.Proofs.Ytbgggcgjijljkaa.L

/- The laws' own functions over a mirrored struct (Res): size, copy, equality. No condition. -/
set_option linter.unusedSimpArgs false
set_option linter.unusedVariables false
namespace Go.Proofs.Ytbgggcgjijljkaa.L
open Go.RowKit Go.Proofs.YtbgggcgjijljkaaW.PrintWords Go.Proofs.YtbgggcgjijljkaaW.PrintLast Go.Proofs.Ytbgggcgjijljkaa.Q
instance : DecidableEq S57 := fun a b => if h : a.f0 = b.f0 /\ a.f1 = b.f1 /\ a.f2 = b.f2 /\ a.f3 = b.f3 /\ a.f4 = b.f4 then .isTrue (by cases a; cases b; simp_all) else .isFalse (fun e => h (by rw [e]; exact ⟨rfl, rfl, rfl, rfl, rfl⟩))
theorem rd_implRes {l pre suf : List S57} {a : S57} (h : l = pre ++ a :: suf) : rd_T57 l (pre.length : Int) = a := getD_at _ h
def SmRes (p : S57) : Prop := SmS p.f0 /\ True /\ p.f2.size <= 1048576 /\ IntOk p.f3 /\ SmProps p.f4
def SmRess (l : List S57) : Prop := l.length <= 1048576 /\ ∀ p ∈ l, SmRes p
end Go.Proofs.Ytbgggcgjijljkaa.L

/- Paths: are they the same, is one under the other; as the program and the reference have it. No condition. -/
set_option linter.unusedSimpArgs false
set_option linter.unusedVariables false
namespace Go.Proofs.Ytbgggcgjijljkaa.L
open Go.RowKit Go.Proofs.YtbgggcgjijljkaaW.PrintWords Go.Proofs.YtbgggcgjijljkaaW.PrintLast Go.Proofs.Ytbgggcgjijljkaa.Q
theorem specSame {a b : List ByteArray} (hl : a.length <= maxLen) : Ev (fun k => spec_SamePath.f k a b) (decide (a = b)) := by
  unfold spec_SamePath.f
  by_cases e : (a.length : Int) = (b.length : Int)
  . simp only [if_pos e]
    refine eq_loop (a := a) (b := b) (fun k i => spec_SamePath.l0 k a b i) ?_ ?_ a b [] [] rfl rfl rfl (by omega)
    . refine Ev.step (fun k => spec_SamePath.l0.eq_2 ..) ?_
      simp only [Int.lt_irrefl, if_false]
      exact Ev.now _
    . intro pre x su pre' y sv h h' hp
      have h3 := rd_at ByteArray.empty h'
      have h4 := lt_at h'
      rw [← hp] at h3 h4
      refine ⟨fun hne => ?_, fun heq r hr => ?_⟩
      . refine Ev.step (fun k => spec_SamePath.l0.eq_2 ..) ?_
        simp only [if_pos (lt_at h), if_pos (nonneg_at _), if_pos h4, rd_at _ h, h3, ba_eq, hne, if_false]
        exact Ev.now _
      . refine Ev.step (fun k => spec_SamePath.l0.eq_2 ..) ?_
        simp only [if_pos (lt_at h), if_pos (nonneg_at _), if_pos h4, rd_at _ h, h3, heq, if_true, next_at h hl]
        rw [heq] at hr
        exact hr
  . simp only [if_neg e]
    rw [show decide (a = b) = false from decide_eq_false (fun h => e (by rw [h]))]
    exact Ev.now _
theorem implSame {a b : List ByteArray} (hl : a.length <= maxLen) : Ev (fun k => impl_SamePath.f k a b) (decide (a = b)) := by
  unfold impl_SamePath.f
  by_cases e : (a.length : Int) = (b.length : Int)
  . simp only [if_pos e]
    refine eq_loop (a := a) (b := b) (fun k i => impl_SamePath.l0 k a b (a.length : Int) i) ?_ ?_ a b [] [] rfl rfl rfl (by omega)
    . refine Ev.step (fun k => impl_SamePath.l0.eq_2 ..) ?_
      simp only [Int.lt_irrefl, if_false]
      exact Ev.now _
    . intro pre x su pre' y sv h h' hp
      have h3 := rd_at ByteArray.empty h'
      have h4 := lt_at h'
      rw [← hp] at h3 h4
      refine ⟨fun hne => ?_, fun heq r hr => ?_⟩
      . refine Ev.step (fun k => impl_SamePath.l0.eq_2 ..) ?_
        simp only [if_pos (lt_at h), if_pos (nonneg_at _), if_pos h4, rd_at _ h, h3, ba_eq, hne, if_false]
        exact Ev.now _
      . refine Ev.step (fun k => impl_SamePath.l0.eq_2 ..) ?_
        simp only [if_pos (lt_at h), if_pos (nonneg_at _), if_pos h4, rd_at _ h, h3, heq, if_true, next_at h hl]
        rw [heq] at hr
        exact hr
  . simp only [if_neg e]
    rw [show decide (a = b) = false from decide_eq_false (fun h => e (by rw [h]))]
    exact Ev.now _
end Go.Proofs.Ytbgggcgjijljkaa.L

/- Shelves: the place of a thing, is it a shelf; as the program and the reference have it. No condition. -/
set_option linter.unusedSimpArgs false
set_option linter.unusedVariables false
namespace Go.Proofs.Ytbgggcgjijljkaa.L
open Go.RowKit Go.Proofs.YtbgggcgjijljkaaW.PrintWords Go.Proofs.YtbgggcgjijljkaaW.PrintLast Go.Proofs.Ytbgggcgjijljkaa.Q
def findFrom (p : List ByteArray) : List S57 -> Nat -> Int
  | [], _ => -1
  | r :: t, i => if r.f0 = p then (i : Int) else findFrom p t (i + 1)
def findR (t : List S57) (p : List ByteArray) : Int := findFrom p t 0
theorem findFrom_cases (p : List ByteArray) : ∀ (t : List S57) (i : Nat), findFrom p t i = -1 /\ (∀ r ∈ t, r.f0 ≠ p) \/ ∃ j, ∃ r, findFrom p t i = ((i + j : Nat) : Int) /\ t[j]? = some r /\ r.f0 = p /\ ∀ j', j' < j -> ∀ r', t[j']? = some r' -> r'.f0 ≠ p := by
  intro t
  induction t with
  | nil => exact fun i => .inl ⟨rfl, by simp⟩
  | cons r t ih =>
    intro i
    by_cases e : r.f0 = p
    . refine .inr ⟨0, r, by simp [findFrom, e], rfl, e, fun j' h => absurd h (Nat.not_lt_zero _)⟩
    . rcases ih (i + 1) with ⟨h, h2⟩ | ⟨j, r', h, h2, h3, h4⟩
      . exact .inl ⟨by simp [findFrom, e, h], fun x hx => by
          rcases List.mem_cons.1 hx with rfl | hx
          . exact e
          . exact h2 x hx⟩
      . refine .inr ⟨j + 1, r', by simp [findFrom, e, h]; omega, h2, h3, fun j' hj' x hx => ?_⟩
        cases j' with
        | zero =>
          simp at hx
          rw [← hx]
          exact e
        | succ j' => exact h4 j' (by omega) x hx
theorem specFind {t : List S57} {p : List ByteArray} (ht : SmRess t) : Ev (fun k => spec_FindRes.f k t p) (findR t p) := by
  have hl : t.length <= maxLen := by have := ht.1; rw [maxLen_eq]; omega
  have key : ∀ (suf pre : List S57), t = pre ++ suf -> Ev (fun k => spec_FindRes.l0 k t p pre.length) (findFrom p suf pre.length) := by
    intro suf
    induction suf with
    | nil =>
      intro pre h
      refine Ev.step (fun k => spec_FindRes.l0.eq_2 ..) ?_
      simp only [if_neg (end_at h)]
      exact Ev.now _
    | cons a suf ih =>
      intro pre h
      have hs := (ht.2 a (by rw [h]; simp)).1.1
      refine Ev.step (fun k => spec_FindRes.l0.eq_2 ..) ?_
      simp only [if_pos (lt_at h), if_pos (nonneg_at _), rd_implRes h]
      refine Ev.bind (specSame (by rw [maxLen_eq]; omega)) ?_
      simp only [findFrom, next_at h hl]
      by_cases e : a.f0 = p
      . simp only [e, decide_true, if_true]
        exact Ev.now _
      . simp only [e, decide_false, Bool.false_eq_true, if_false]
        have := ih (pre ++ [a]) (snoc_at h)
        rw [List.length_append, List.length_singleton] at this ⊢
        exact this
  exact key t [] rfl
theorem implFind {t : List S57} {p : List ByteArray} (ht : SmRess t) : Ev (fun k => impl_FindRes.f k t p) (findR t p) := by
  have hl : t.length <= maxLen := by have := ht.1; rw [maxLen_eq]; omega
  have key : ∀ (suf pre : List S57), t = pre ++ suf -> Ev (fun k => impl_FindRes.l0 k p t (t.length : Int) pre.length) (findFrom p suf pre.length) := by
    intro suf
    induction suf with
    | nil =>
      intro pre h
      refine Ev.step (fun k => impl_FindRes.l0.eq_2 ..) ?_
      simp only [if_neg (end_at h)]
      exact Ev.now _
    | cons a suf ih =>
      intro pre h
      have hs := (ht.2 a (by rw [h]; simp)).1.1
      refine Ev.step (fun k => impl_FindRes.l0.eq_2 ..) ?_
      simp only [if_pos (lt_at h), if_pos (nonneg_at _), rd_implRes h]
      refine Ev.bind (implSame (by rw [maxLen_eq]; omega)) ?_
      simp only [findFrom, next_at h hl]
      by_cases e : a.f0 = p
      . simp only [e, decide_true, if_true]
        exact Ev.now _
      . simp only [e, decide_false, Bool.false_eq_true, if_false]
        have := ih (pre ++ [a]) (snoc_at h)
        rw [List.length_append, List.length_singleton] at this ⊢
        exact this
  exact key t [] rfl
def isColl (t : List S57) (p : List ByteArray) : Bool := decide (p = []) || (decide (0 <= findR t p) && (rd_T57 t (findR t p)).f1)
theorem findR_lt (t : List S57) (p : List ByteArray) (h : 0 <= findR t p) : findR t p < (t.length : Int) := by
  rcases findFrom_cases p t 0 with ⟨h1, _⟩ | ⟨j, r, h1, h2, _⟩
  . unfold findR at h; omega
  . unfold findR
    have := (List.getElem?_eq_some_iff.1 h2).1
    omega
theorem nil_len {α : Type} (p : List α) : ((p.length : Int) = 0) = (p = []) := propext ⟨fun h => List.eq_nil_of_length_eq_zero (by omega), fun h => by rw [h]; rfl⟩
theorem specIsColl {t : List S57} {p : List ByteArray} (ht : SmRess t) : Ev (fun k => spec_IsColl.f k t p) (isColl t p) := by
  unfold spec_IsColl.f
  refine Ev.bind (specFind ht) ?_
  simp only [nil_len, isColl]
  by_cases e : p = []
  . simp only [e, if_true, decide_true, Bool.true_or]
    exact Ev.now _
  . simp only [e, if_false, decide_false, Bool.false_or]
    by_cases h : 0 <= findR t p
    . simp only [ge_iff_le, h, if_true, if_pos (findR_lt t p h), decide_true, Bool.true_and]
      exact Ev.now _
    . simp only [ge_iff_le, h, if_false, decide_false, Bool.false_and]
      exact Ev.now _
theorem implIsColl {t : List S57} {p : List ByteArray} (ht : SmRess t) : Ev (fun k => impl_IsColl.f k t p) (isColl t p) := by
  unfold impl_IsColl.f
  simp only [nil_len, isColl]
  by_cases e : p = []
  . simp only [e, if_true, decide_true, Bool.true_or]
    exact Ev.now _
  . simp only [e, if_false, decide_false, Bool.false_or]
    refine Ev.bind (implFind ht) ?_
    by_cases h : 0 <= findR t p
    . simp only [ge_iff_le, h, if_true, if_pos (findR_lt t p h), decide_true, Bool.true_and]
      exact Ev.now _
    . simp only [ge_iff_le, h, if_false, decide_false, Bool.false_and]
      exact Ev.now _
end Go.Proofs.Ytbgggcgjijljkaa.L

/- Properties: are they right, and which one is of a space and a name; as the program and the reference have it. No condition. -/
set_option linter.unusedSimpArgs false
set_option linter.unusedVariables false
namespace Go.Proofs.Ytbgggcgjijljkaa.L
open Go.RowKit Go.Proofs.YtbgggcgjijljkaaW.PrintWords Go.Proofs.YtbgggcgjijljkaaW.PrintLast Go.Proofs.Ytbgggcgjijljkaa.Q
def propOk (p : S72) : Bool := decide ((p.f0.size : Int) <= 20) && plainL (bl p.f0) && smallName p.f1 && decide ((p.f2.size : Int) <= 20) && plainL (bl p.f2)
def lessProp (p q : S72) : Bool := if p.f0 = q.f0 then Op.bytesLess p.f1.toList q.f1.toList else Op.bytesLess p.f0.toList q.f0.toList
theorem bytesLess_irrefl : ∀ l : List UInt8, Op.bytesLess l l = false
  | [] => rfl
  | a :: l => by simp [Op.bytesLess, bytesLess_irrefl l]
theorem specPropOk {p : S72} (hp : SmProp p) : Ev (fun k => spec_l10Prop.f k p.f0 p.f1 p.f2) (propOk p) := by
  obtain ⟨g0, g1, g2⟩ := hp
  have h : ∀ s : ByteArray, s.size <= 1048576 -> s.size <= maxLen := fun s h => by rw [maxLen_eq]; omega
  unfold spec_l10Prop.f propOk
  by_cases c0 : (p.f0.size : Int) <= 20
  . simp only [if_pos c0, c0, decide_true, Bool.true_and]
    refine Ev.bind (specPlain (h _ g0)) ?_
    by_cases c1 : plainL (bl p.f0) = true
    . simp only [c1, if_true, Bool.true_and]
      refine Ev.bind (specSmall (h _ g1)) ?_
      by_cases c2 : smallName p.f1 = true
      . simp only [c2, if_true, Bool.true_and]
        by_cases c3 : (p.f2.size : Int) <= 20
        . simp only [if_pos c3, c3, decide_true, Bool.true_and]
          exact Ev.bind (specPlain (h _ g2)) (Ev.now _)
        . simp only [if_neg c3, c3, decide_false, Bool.false_and]
          exact Ev.now _
      . simp only [c2, Bool.false_eq_true, if_false, Bool.false_and]
        exact Ev.now _
    . simp only [c1, Bool.false_eq_true, if_false, Bool.false_and]
      exact Ev.now _
  . simp only [if_neg c0, c0, decide_false, Bool.false_and]
    exact Ev.now _
theorem implPropOk {p : S72} (hp : SmProp p) : Ev (fun k => impl_propOk.f k p.f0 p.f1 p.f2) (propOk p) := by
  obtain ⟨g0, g1, g2⟩ := hp
  have h : ∀ s : ByteArray, s.size <= 1048576 -> s.size <= maxLen := fun s h => by rw [maxLen_eq]; omega
  unfold impl_propOk.f propOk
  by_cases c0 : (p.f0.size : Int) <= 20
  . simp only [if_pos c0, c0, decide_true, Bool.true_and]
    refine Ev.bind (implPlain (h _ g0)) ?_
    by_cases c1 : plainL (bl p.f0) = true
    . simp only [c1, if_true, Bool.true_and]
      refine Ev.bind (implSmall (h _ g1)) ?_
      by_cases c2 : smallName p.f1 = true
      . simp only [c2, if_true, Bool.true_and]
        by_cases c3 : (p.f2.size : Int) <= 20
        . simp only [if_pos c3, c3, decide_true, Bool.true_and]
          exact Ev.bind (implPlain (h _ g2)) (Ev.now _)
        . simp only [if_neg c3, c3, decide_false, Bool.false_and]
          exact Ev.now _
      . simp only [c2, Bool.false_eq_true, if_false, Bool.false_and]
        exact Ev.now _
    . simp only [c1, Bool.false_eq_true, if_false, Bool.false_and]
      exact Ev.now _
  . simp only [if_neg c0, c0, decide_false, Bool.false_and]
    exact Ev.now _
theorem specLessProp (p q : S72) : spec_l10LessProp.f p.f0 p.f1 p.f2 q.f0 q.f1 q.f2 = some (lessProp p q) := by
  unfold spec_l10LessProp.f lessProp
  simp only [ba_eq]
  by_cases e : p.f0 = q.f0 <;> simp [e]
theorem implLessProp (p q : S72) : impl_lessProp.f p.f0 p.f1 p.f2 q.f0 q.f1 q.f2 = some (lessProp p q) := by
  unfold impl_lessProp.f lessProp
  simp only [ba_eq]
  by_cases e : p.f0 = q.f0
  . simp [e, bytesLess_irrefl]
  . simp only [if_neg e]
    cases Op.bytesLess p.f0.toList q.f0.toList <;> simp
def propsL : Option S72 -> List S72 -> Bool
  | _, [] => true
  | last, p :: l => propOk p && (match last with | none => true | some q => lessProp q p) && propsL (some p) l
def propsOk (l : List S72) : Bool := propsL none l && decide ((l.length : Int) <= 4)
theorem pred_at {α : Type} {l pre suf : List α} {a b : α} (h : l = pre ++ [b] ++ a :: suf) (hl : l.length <= maxLen) : wrap64 (((pre ++ [b]).length : Int) - 1) = (pre.length : Int) := by
  have : l.length = pre.length + 1 + (suf.length + 1) := by rw [h]; simp; omega
  rw [maxLen_eq] at hl
  have e : ((pre ++ [b]).length : Int) = pre.length + 1 := by simp
  rw [e, wrap_id (by omega) (by omega)]
  omega
theorem specPropsOkB {l : List S72} (hl : l.length <= maxLen) (hs : ∀ p ∈ l, SmProp p) : Ev (fun k => spec_PropsOk.f k l) (propsOk l) := by
  have key : ∀ (suf pre : List S72), l = pre ++ suf -> Ev (fun k => spec_PropsOk.l0 k l pre.length) (propsL pre.getLast? suf && decide ((l.length : Int) <= 4)) := by
    intro suf
    induction suf with
    | nil =>
      intro pre h
      refine Ev.step (fun k => spec_PropsOk.l0.eq_2 ..) ?_
      simp only [if_neg (end_at h), propsL, Bool.true_and]
      exact Ev.now _
    | cons a suf ih =>
      intro pre h
      have hn := ih (pre ++ [a]) (snoc_at h)
      rw [List.getLast?_append] at hn
      simp only [List.getLast?_singleton, Option.some_or] at hn
      refine Ev.step (fun k => spec_PropsOk.l0.eq_2 ..) ?_
      simp only [if_pos (lt_at h), if_pos (nonneg_at _), rd_implProp h]
      refine Ev.bind (specPropOk (hs a (by rw [h]; simp))) ?_
      simp only [propsL]
      by_cases c0 : propOk a = true
      . simp only [c0, if_true, Bool.true_and]
        rcases List.eq_nil_or_concat pre with rfl | ⟨pre', b, rfl⟩
        . simp only [List.length_nil, Int.natCast_zero, show ¬ (0 : Int) > 0 by omega, if_false, List.getLast?_nil, Bool.true_and]
          have := next_at h hl
          simp only [List.length_nil, Int.natCast_zero] at this
          rw [this]
          exact hn
        . rw [List.concat_eq_append] at h hn ⊢
          have hp := pred_at h hl
          have h2 : l = pre' ++ b :: (a :: suf) := by rw [h]; simp
          simp only [show (((pre' ++ [b]).length : Nat) : Int) > 0 by first | (simp; done) | (simp; omega), if_true, hp, if_pos (nonneg_at _), if_pos (lt_at h2), rd_implProp h2, specLessProp, Option.bind_some, List.getLast?_append, List.getLast?_singleton, Option.some_or, next_at h hl]
          by_cases c1 : lessProp b a = true
          . simp only [c1, if_true, Bool.true_and]
            exact hn
          . simp only [c1, Bool.false_eq_true, if_false, Bool.false_and]
            exact Ev.now _
      . simp only [c0, Bool.false_eq_true, if_false, Bool.false_and]
        exact Ev.now _
  exact key l [] rfl
theorem implPropsOkB {l : List S72} (hl : l.length <= maxLen) (hs : ∀ p ∈ l, SmProp p) : Ev (fun k => impl_PropsOk.f k l) (propsOk l) := by
  have key : ∀ (suf pre : List S72), l = pre ++ suf -> Ev (fun k => impl_PropsOk.l0 k l l (l.length : Int) pre.length) (propsL pre.getLast? suf && decide ((l.length : Int) <= 4)) := by
    intro suf
    induction suf with
    | nil =>
      intro pre h
      refine Ev.step (fun k => impl_PropsOk.l0.eq_2 ..) ?_
      simp only [if_neg (end_at h), propsL, Bool.true_and]
      exact Ev.now _
    | cons a suf ih =>
      intro pre h
      have hn := ih (pre ++ [a]) (snoc_at h)
      rw [List.getLast?_append] at hn
      simp only [List.getLast?_singleton, Option.some_or] at hn
      refine Ev.step (fun k => impl_PropsOk.l0.eq_2 ..) ?_
      simp only [if_pos (lt_at h), if_pos (nonneg_at _), rd_implProp h]
      refine Ev.bind (implPropOk (hs a (by rw [h]; simp))) ?_
      simp only [propsL]
      by_cases c0 : propOk a = true
      . simp only [c0, if_true, Bool.true_and]
        rcases List.eq_nil_or_concat pre with rfl | ⟨pre', b, rfl⟩
        . simp only [List.length_nil, Int.natCast_zero, show ¬ (0 : Int) > 0 by omega, if_false, List.getLast?_nil, Bool.true_and]
          have := next_at h hl
          simp only [List.length_nil, Int.natCast_zero] at this
          rw [this]
          exact hn
        . rw [List.concat_eq_append] at h hn ⊢
          have hp := pred_at h hl
          have h2 : l = pre' ++ b :: (a :: suf) := by rw [h]; simp
          simp only [show (((pre' ++ [b]).length : Nat) : Int) > 0 by first | (simp; done) | (simp; omega), if_true, hp, if_pos (nonneg_at _), if_pos (lt_at h2), rd_implProp h2, implLessProp, Option.bind_some, List.getLast?_append, List.getLast?_singleton, Option.some_or, next_at h hl]
          by_cases c1 : lessProp b a = true
          . simp only [c1, if_true, Bool.true_and]
            exact hn
          . simp only [c1, Bool.false_eq_true, if_false, Bool.false_and]
            exact Ev.now _
      . simp only [c0, Bool.false_eq_true, if_false, Bool.false_and]
        exact Ev.now _
  exact key l [] rfl
theorem specPropsOk {l : List S72} (hs : SmProps l) : Ev (fun k => spec_PropsOk.f k l) (propsOk l) := specPropsOkB (by have := hs.1; rw [maxLen_eq]; omega) hs.2
theorem implPropsOk {l : List S72} (hs : SmProps l) : Ev (fun k => impl_PropsOk.f k l) (propsOk l) := implPropsOkB (by have := hs.1; rw [maxLen_eq]; omega) hs.2
end Go.Proofs.Ytbgggcgjijljkaa.L

/- Paths, one ahead of the other: what the program and the reference say. No condition. -/
set_option linter.unusedSimpArgs false
set_option linter.unusedVariables false
namespace Go.Proofs.Ytbgggcgjijljkaa.L
open Go.RowKit Go.Proofs.YtbgggcgjijljkaaW.PrintWords Go.Proofs.YtbgggcgjijljkaaW.PrintLast Go.Proofs.Ytbgggcgjijljkaa.Q
def lessP : List ByteArray -> List ByteArray -> Bool
  | [], [] => false
  | [], _ :: _ => true
  | _ :: _, [] => false
  | x :: a, y :: b => if x = y then lessP a b else Op.bytesLess x.toList y.toList
theorem len_lt {α : Type} {l m pu pv su sv : List α} (h : l = pu ++ su) (h' : m = pv ++ sv) (hp : pu.length = pv.length) : ((l.length : Int) < (m.length : Int)) = (su.length < sv.length) := by
  subst h; subst h'; simp [hp]
theorem implLess_loop {a b : List ByteArray} (hl : a.length <= maxLen) : ∀ (su sv pu pv : List ByteArray), a = pu ++ su -> b = pv ++ sv -> pu.length = pv.length -> Ev (fun k => impl_LessPath.l0 k a b pu.length) (lessP su sv) := by
  intro su
  induction su with
  | nil =>
    intro sv pu pv h h' hp
    refine Ev.step (fun k => impl_LessPath.l0.eq_2 ..) ?_
    simp only [if_neg (end_at h)]
    refine Ev.step (fun k => impl_LessPath.j1.eq_2 ..) ?_
    simp only [Bool.false_eq_true, if_false, len_lt h h' hp]
    cases sv <;> simp only [lessP] <;> exact Ev.now _
  | cons x su ih =>
    intro sv pu pv h h' hp
    refine Ev.step (fun k => impl_LessPath.l0.eq_2 ..) ?_
    simp only [if_pos (lt_at h)]
    refine Ev.step (fun k => impl_LessPath.j1.eq_2 ..) ?_
    cases sv with
    | nil =>
      have h4 := end_at h'
      rw [← hp] at h4
      simp only [h4, decide_false, Bool.false_eq_true, if_false, len_lt h h' hp, lessP]
      exact Ev.now _
    | cons y sv =>
      have h3 := rd_at ByteArray.empty h'
      have h4 := lt_at h'
      rw [← hp] at h3 h4
      by_cases e : x = y
      . subst e
        simp only [h4, decide_true, if_true, if_pos (lt_at h), if_pos (nonneg_at _), rd_at _ h, h3, next_at h hl, lessP]
        exact ih sv (pu ++ [x]) (pv ++ [x]) (snoc_at h) (snoc_at h') (by simp [hp])
      . simp only [h4, decide_true, if_true, if_pos (lt_at h), if_pos (nonneg_at _), rd_at _ h, h3, ba_eq, if_neg e, lessP]
        exact Ev.now _
theorem implLess {a b : List ByteArray} (hl : a.length <= maxLen) : Ev (fun k => impl_LessPath.f k a b) (lessP a b) := implLess_loop hl a b [] [] rfl rfl rfl
theorem specLess_loop {a b : List ByteArray} (hl : a.length <= maxLen) : ∀ (su sv pu pv : List ByteArray), a = pu ++ su -> b = pv ++ sv -> pu.length = pv.length -> Ev (fun k => spec_LessPath.l0 k a b pu.length) (lessP su sv) := by
  intro su
  induction su with
  | nil =>
    intro sv pu pv h h' hp
    refine Ev.step (fun k => spec_LessPath.l0.eq_2 ..) ?_
    simp only [if_neg (end_at h)]
    refine Ev.step (fun k => spec_LessPath.j1.eq_2 ..) ?_
    simp only [Bool.false_eq_true, if_false, len_lt h h' hp]
    cases sv <;> simp only [lessP] <;> exact Ev.now _
  | cons x su ih =>
    intro sv pu pv h h' hp
    refine Ev.step (fun k => spec_LessPath.l0.eq_2 ..) ?_
    simp only [if_pos (lt_at h)]
    refine Ev.step (fun k => spec_LessPath.j1.eq_2 ..) ?_
    cases sv with
    | nil =>
      have h4 := end_at h'
      rw [← hp] at h4
      simp only [h4, decide_false, Bool.false_eq_true, if_false, len_lt h h' hp, lessP]
      exact Ev.now _
    | cons y sv =>
      have h3 := rd_at ByteArray.empty h'
      have h4 := lt_at h'
      rw [← hp] at h3 h4
      by_cases e : x = y
      . subst e
        simp only [h4, decide_true, if_true, if_pos (lt_at h), if_pos (nonneg_at _), rd_at _ h, h3, next_at h hl, lessP]
        exact ih sv (pu ++ [x]) (pv ++ [x]) (snoc_at h) (snoc_at h') (by simp [hp])
      . simp only [h4, decide_true, if_true, if_pos (lt_at h), if_pos (nonneg_at _), rd_at _ h, h3, ba_eq, if_neg e, lessP]
        exact Ev.now _
theorem specLess {a b : List ByteArray} (hl : a.length <= maxLen) : Ev (fun k => spec_LessPath.f k a b) (lessP a b) := specLess_loop hl a b [] [] rfl rfl rfl
end Go.Proofs.Ytbgggcgjijljkaa.L

/- Shelves: are they right; as the program and the reference have it. No condition. -/
set_option linter.unusedSimpArgs false
set_option linter.unusedVariables false
namespace Go.Proofs.Ytbgggcgjijljkaa.L
open Go.RowKit Go.Proofs.YtbgggcgjijljkaaW.PrintWords Go.Proofs.YtbgggcgjijljkaaW.PrintLast Go.Proofs.Ytbgggcgjijljkaa.Q
theorem size0 (s : ByteArray) : (s.toList = ([] : List UInt8)) = (bl s = []) := by rw [ba_toList]
def resOk (r : S57) : Bool := decide (r.f0 ≠ []) && (pathOk r.f0 && (decide (r.f1 = true -> bl r.f2 = []) && (decide ((r.f2.size : Int) <= 200) && (decide (0 <= r.f3 /\ r.f3 <= 99999) && propsOk r.f4))))
theorem implResOk {r : S57} (hr : SmRes r) : Ev (fun k => impl_resOk.f k r.f0 r.f1 r.f2 r.f3 r.f4) (resOk r) := by
  obtain ⟨g0, _, g2, g3, g4⟩ := hr
  unfold impl_resOk.f resOk
  by_cases c0 : r.f0 = []
  . simp only [c0, List.length_nil, Int.natCast_zero, gt_iff_lt, Int.lt_irrefl, if_false, ne_eq, not_true_eq_false, decide_false, Bool.false_and]
    exact Ev.now _
  have h0 : (r.f0.length : Int) > 0 := by have := List.length_pos_iff.2 c0; omega
  simp only [if_pos h0, ne_eq, c0, not_false_eq_true, decide_true, Bool.true_and]
  refine Ev.bind (implPathOk g0) ?_
  by_cases c1 : pathOk r.f0 = true
  rotate_left
  . simp only [c1, Bool.false_eq_true, if_false, Bool.false_and]; exact Ev.now _
  simp only [c1, if_true, Bool.true_and, size0, implIn, Option.bind_some, decide_eq_true_eq]
  have tail : Ev (fun n => if (r.f2.size : Int) <= 200 then (if 0 <= r.f3 /\ r.f3 <= 99999 then ((impl_PropsOk.f n r.f4).bind fun t609 => some t609) else some false) else some false) (decide ((r.f2.size : Int) <= 200) && (decide (0 <= r.f3 /\ r.f3 <= 99999) && propsOk r.f4)) := by
    by_cases c2 : (r.f2.size : Int) <= 200
    . simp only [c2, if_true, decide_true, Bool.true_and]
      by_cases c3 : 0 <= r.f3 /\ r.f3 <= 99999
      . simp only [c3, and_self, if_true, decide_true, Bool.true_and]
        exact Ev.bind (implPropsOk g4) (Ev.now _)
      . simp only [c3, if_false, decide_false, Bool.false_and]
        exact Ev.now _
    . simp only [c2, if_false, decide_false, Bool.false_and]
      exact Ev.now _
  by_cases c4 : r.f1 = true
  . simp only [c4, if_true, true_imp_iff]
    by_cases c5 : bl r.f2 = []
    . simp only [c5, if_true, decide_true, Bool.true_and]
      exact tail
    . simp only [c5, if_false, decide_false, Bool.false_and]
      exact Ev.now _
  . simp only [c4, Bool.false_eq_true, if_false, false_imp_iff, decide_true, Bool.true_and]
    exact tail
def treeL (t : List S57) : Option S57 -> List S57 -> Bool
  | _, [] => true
  | last, r :: l => resOk r && ((match last with | none => true | some q => lessP q.f0 r.f0) && (isColl t (above r.f0) && treeL t (some r) l))
def treeOk (t : List S57) : Bool := treeL t none t && decide ((t.length : Int) <= 12)
theorem specTreeOk {t : List S57} (ht : SmRess t) : Ev (fun k => spec_TreeOk.f k t) (treeOk t) := by
  have hl : t.length <= maxLen := by have := ht.1; rw [maxLen_eq]; omega
  have key : ∀ (suf pre : List S57), t = pre ++ suf -> Ev (fun k => spec_TreeOk.l0 k t pre.length) (treeL t pre.getLast? suf && decide ((t.length : Int) <= 12)) := by
    intro suf
    induction suf with
    | nil =>
      intro pre h
      refine Ev.step (fun k => spec_TreeOk.l0.eq_2 ..) ?_
      simp only [if_neg (end_at h), treeL, Bool.true_and]
      exact Ev.now _
    | cons a suf ih =>
      intro pre h
      have hn := ih (pre ++ [a]) (snoc_at h)
      rw [List.getLast?_append] at hn
      simp only [List.getLast?_singleton, Option.some_or] at hn
      have ha := ht.2 a (by rw [h]; simp)
      obtain ⟨g0, _, g2, g3, g4⟩ := ha
      have hla : a.f0.length <= maxLen := by have := g0.1; rw [maxLen_eq]; omega
      have join : ∀ b : Bool, b = (!resOk a) -> Ev (fun k => spec_TreeOk.j1 k t pre.length b a.f0 a.f1 a.f2 a.f3 a.f4) (treeL t pre.getLast? (a :: suf) && decide ((t.length : Int) <= 12)) := by
        intro b hb
        refine Ev.step (fun k => spec_TreeOk.j1.eq_2 ..) ?_
        simp only [treeL, hb]
        by_cases c0 : resOk a = true
        rotate_left
        . simp only [c0, Bool.not_false, if_true, Bool.false_and]; exact Ev.now _
        simp only [c0, Bool.not_true, Bool.false_eq_true, if_false, Bool.true_and]
        have fin : Ev (fun n => (spec_Above.f a.f0).bind fun t593 => (spec_IsColl.f n t t593).bind fun t596 => if t596 = true then spec_TreeOk.l0 n t (wrap64 ((pre.length : Int) + 1)) else some false) (isColl t (above a.f0) && treeL t (some a) suf && decide ((t.length : Int) <= 12)) := by
          simp only [specAbove g0.1, Option.bind_some]
          refine Ev.bind (specIsColl ht) ?_
          by_cases c2 : isColl t (above a.f0) = true
          . simp only [c2, if_true, Bool.true_and, next_at h hl]; exact hn
          . simp only [c2, Bool.false_eq_true, if_false, Bool.false_and]; exact Ev.now _
        rcases List.eq_nil_or_concat pre with rfl | ⟨pre', b', rfl⟩
        . simp only [List.length_nil, Int.natCast_zero, show ¬ (0 : Int) > 0 by omega, if_false, List.getLast?_nil, Bool.true_and]
          exact fin
        . rw [List.concat_eq_append] at h hn fin ⊢
          have hp := pred_at h hl
          have h2 : t = pre' ++ b' :: (a :: suf) := by rw [h]; simp
          have hb' := (ht.2 b' (by rw [h]; simp)).1.1
          simp only [show (((pre' ++ [b']).length : Nat) : Int) > 0 by first | (simp; done) | (simp; omega), if_true, hp, if_pos (nonneg_at _), if_pos (lt_at h2), rd_implRes h2, List.getLast?_append, List.getLast?_singleton, Option.some_or]
          refine Ev.bind (specLess (by rw [maxLen_eq]; omega)) ?_
          by_cases c1 : lessP b'.f0 a.f0 = true
          . simp only [c1, if_true, Bool.true_and]
            exact fin
          . simp only [c1, Bool.false_eq_true, if_false, Bool.false_and]
            exact Ev.now _
      refine Ev.step (fun k => spec_TreeOk.l0.eq_2 ..) ?_
      simp only [if_pos (lt_at h), if_pos (nonneg_at _), rd_implRes h, nil_len, size0, specIn, Option.bind_some, decide_eq_true_eq]
      unfold resOk at join
      by_cases c0 : a.f0 = []
      . simp only [if_pos c0]
        exact join true (by simp [c0])
      simp only [if_neg c0]
      refine Ev.bind (specPathOk g0) ?_
      by_cases c1 : pathOk a.f0 = true
      rotate_left
      . simp only [c1, Bool.false_eq_true, if_false]
        exact join true (by simp [c1])
      simp only [c1, if_true]
      by_cases c2 : (a.f2.size : Int) > 200
      . simp only [if_pos c2]
        exact join true (by simp [show ¬ (a.f2.size : Int) <= 200 by omega])
      simp only [if_neg c2]
      have c2' : (a.f2.size : Int) <= 200 := by omega
      have tail : (a.f1 = true -> bl a.f2 = []) -> Ev (fun n => if 0 <= a.f3 /\ a.f3 <= 99999 then ((spec_PropsOk.f n a.f4).bind fun t588 => spec_TreeOk.j1 n t (pre.length : Int) (!t588) a.f0 a.f1 a.f2 a.f3 a.f4) else spec_TreeOk.j1 n t (pre.length : Int) true a.f0 a.f1 a.f2 a.f3 a.f4) (treeL t pre.getLast? (a :: suf) && decide ((t.length : Int) <= 12)) := by
        intro c5
        by_cases c3 : 0 <= a.f3 /\ a.f3 <= 99999
        . simp only [if_pos c3]
          refine Ev.bind (specPropsOk g4) ?_
          refine join _ ?_
          simp only [ne_eq, c0, not_false_eq_true, decide_true, c1, c2', c3, and_self, Bool.true_and, decide_eq_true c5]
        . simp only [if_neg c3]
          exact join true (by simp only [c3, decide_false, Bool.false_and, Bool.and_false, Bool.not_false])
      by_cases c4 : a.f1 = true
      . simp only [c4, if_true] at tail join ⊢
        by_cases c5 : bl a.f2 = []
        . simp only [if_pos c5]
          exact tail (fun _ => c5)
        . simp only [if_neg c5]
          exact join true (by simp [c5])
      . simp only [c4, Bool.false_eq_true, if_false] at tail join ⊢
        exact tail (fun h => h.elim)
  exact key t [] rfl
theorem implTreeOk {t : List S57} (ht : SmRess t) : Ev (fun k => impl_TreeOk.f k t) (treeOk t) := by
  have hl : t.length <= maxLen := by have := ht.1; rw [maxLen_eq]; omega
  have key : ∀ (suf pre : List S57), t = pre ++ suf -> Ev (fun k => impl_TreeOk.l0 k t t (t.length : Int) pre.length) (treeL t pre.getLast? suf && decide ((t.length : Int) <= 12)) := by
    intro suf
    induction suf with
    | nil =>
      intro pre h
      refine Ev.step (fun k => impl_TreeOk.l0.eq_2 ..) ?_
      simp only [if_neg (end_at h), treeL, Bool.true_and]
      exact Ev.now _
    | cons a suf ih =>
      intro pre h
      have hn := ih (pre ++ [a]) (snoc_at h)
      rw [List.getLast?_append] at hn
      simp only [List.getLast?_singleton, Option.some_or] at hn
      have ha := ht.2 a (by rw [h]; simp)
      have g0 := ha.1
      refine Ev.step (fun k => impl_TreeOk.l0.eq_2 ..) ?_
      simp only [if_pos (lt_at h), if_pos (nonneg_at _), rd_implRes h]
      refine Ev.bind (implResOk ha) ?_
      simp only [treeL]
      by_cases c0 : resOk a = true
      rotate_left
      . simp only [c0, Bool.false_eq_true, if_false, Bool.false_and]; exact Ev.now _
      simp only [c0, if_true, Bool.true_and]
      have fin : Ev (fun n => (impl_Above.f a.f0).bind fun t593 => (impl_IsColl.f n t t593).bind fun t596 => if t596 = true then impl_TreeOk.l0 n t t (t.length : Int) (wrap64 ((pre.length : Int) + 1)) else some false) (isColl t (above a.f0) && treeL t (some a) suf && decide ((t.length : Int) <= 12)) := by
        simp only [implAbove g0.1, Option.bind_some]
        refine Ev.bind (implIsColl ht) ?_
        by_cases c2 : isColl t (above a.f0) = true
        . simp only [c2, if_true, Bool.true_and, next_at h hl]; exact hn
        . simp only [c2, Bool.false_eq_true, if_false, Bool.false_and]; exact Ev.now _
      rcases List.eq_nil_or_concat pre with rfl | ⟨pre', b', rfl⟩
      . simp only [List.length_nil, Int.natCast_zero, show ¬ (0 : Int) > 0 by omega, if_false, List.getLast?_nil, Bool.true_and]
        exact fin
      . rw [List.concat_eq_append] at h hn fin ⊢
        have hp := pred_at h hl
        have h2 : t = pre' ++ b' :: (a :: suf) := by rw [h]; simp
        have hb' := (ht.2 b' (by rw [h]; simp)).1.1
        simp only [show (((pre' ++ [b']).length : Nat) : Int) > 0 by first | (simp; done) | (simp; omega), if_true, hp, if_pos (nonneg_at _), if_pos (lt_at h2), rd_implRes h2, List.getLast?_append, List.getLast?_singleton, Option.some_or]
        refine Ev.bind (implLess (by rw [maxLen_eq]; omega)) ?_
        by_cases c1 : lessP b'.f0 a.f0 = true
        . simp only [c1, if_true, Bool.true_and]
          exact fin
        . simp only [c1, Bool.false_eq_true, if_false, Bool.false_and]
          exact Ev.now _
  exact key t [] rfl
end Go.Proofs.Ytbgggcgjijljkaa.L

/- Is a path under another one; as the program and the reference have it. No condition. -/
set_option linter.unusedSimpArgs false
set_option linter.unusedVariables false
namespace Go.Proofs.Ytbgggcgjijljkaa.L
open Go.RowKit Go.Proofs.YtbgggcgjijljkaaW.PrintWords Go.Proofs.YtbgggcgjijljkaaW.PrintLast Go.Proofs.Ytbgggcgjijljkaa.Q
def under (p head : List ByteArray) : Bool := decide (head.length < p.length) && decide (p.take head.length = head)
theorem implUnder {p head : List ByteArray} (hl : p.length <= 1048576) : Ev (fun k => impl_Under.f k p head) (under p head) := by
  unfold impl_Under.f under
  by_cases e : (p.length : Int) > (head.length : Int)
  . simp only [if_pos e, if_pos (nonneg_at _), if_pos (show (head.length : Int) <= p.length by omega), Int.toNat_natCast, show head.length < p.length by omega, decide_true, Bool.true_and]
    exact Ev.bind (implSame (by rw [maxLen_eq]; simp; omega)) (Ev.now _)
  . simp only [if_neg e, show ¬ head.length < p.length by omega, decide_false, Bool.false_and]
    exact Ev.now _
end Go.Proofs.Ytbgggcgjijljkaa.L

/- What lies on a shelf, and all of it; as the program and the reference have it. No condition. -/
set_option linter.unusedSimpArgs false
set_option linter.unusedVariables false
namespace Go.Proofs.Ytbgggcgjijljkaa.L
open Go.RowKit Go.Proofs.YtbgggcgjijljkaaW.PrintWords Go.Proofs.YtbgggcgjijljkaaW.PrintLast Go.Proofs.Ytbgggcgjijljkaa.Q
def deepOf (p : List ByteArray) (t : List S57) : List S57 := t.filter (fun r => decide (r.f0 = p) || under r.f0 p)
theorem deep_length (p : List ByteArray) (t : List S57) : (deepOf p t).length <= t.length := List.length_filter_le _ _
theorem deep_sm {p : List ByteArray} {t : List S57} (ht : SmRess t) : SmRess (deepOf p t) := ⟨Nat.le_trans (deep_length p t) ht.1, fun r hr => ht.2 r (List.mem_filter.1 hr).1⟩
theorem implDeep {t : List S57} {p : List ByteArray} (ht : SmRess t) (hp : p.length <= 1048576) : Ev (fun k => impl_DeepOf.f k t p) (deepOf p t) := by
  have hl0 := ht.1
  have hl : t.length <= maxLen := by rw [maxLen_eq]; omega
  have key : ∀ (suf pre out : List S57), t = pre ++ suf -> out.length <= pre.length -> Ev (fun k => impl_DeepOf.l0 k p out t (t.length : Int) pre.length) (out ++ deepOf p suf) := by
    intro suf
    induction suf with
    | nil =>
      intro pre out h ho
      refine Ev.step (fun k => impl_DeepOf.l0.eq_2 ..) ?_
      simp only [if_neg (end_at h), deepOf, List.filter_nil, List.append_nil]
      exact Ev.now _
    | cons a suf ih =>
      intro pre out h ho
      have hpl : pre.length ≤ 1048576 := by have : t.length = pre.length + (suf.length + 1) := by rw [h]; simp
                                            omega
      have ha := ht.2 a (by rw [h]; simp)
      have ha0 := ha.1.1
      have ha4 := ha.2.2.2.2.1
      have hc : impl_copyRes.f a.f0 a.f1 a.f2 a.f3 a.f4 = some (a.f0, a.f1, a.f2, a.f3, a.f4) := by
        unfold impl_copyRes.f
        simp only [implCopyPath ha0, Option.bind_some, List.length_nil, Nat.zero_add, List.nil_append]
        rw [if_pos (by omega)]
      have hat : Ev (fun k => impl_isAt.f k a.f0 p) (decide (a.f0 = p) || under a.f0 p) := by
        unfold impl_isAt.f
        refine Ev.bind (implSame (by rw [maxLen_eq]; omega)) ?_
        by_cases c0 : a.f0 = p
        . simp only [c0, decide_true, if_true, Bool.true_or]; exact Ev.now _
        . simp only [c0, decide_false, Bool.false_eq_true, if_false, Bool.false_or]; exact Ev.bind (implUnder (by omega)) (Ev.now _)
      refine Ev.step (fun k => impl_DeepOf.l0.eq_2 ..) ?_
      simp only [if_pos (lt_at h), if_pos (nonneg_at _), rd_implRes h, next_at h hl, hc, Option.bind_some]
      refine Ev.bind hat ?_
      by_cases c0 : (decide (a.f0 = p) || under a.f0 p) = true
      . simp only [c0, if_true]
        simp only [show out.length < 1759218604441 by omega, if_true]
        refine ev_cast (ih (pre ++ [a]) _ (snoc_at h) (by simp; omega)) ?_
        simp only [deepOf, List.filter_cons, c0, if_true, List.append_assoc, List.cons_append, List.nil_append]
      . simp only [c0, Bool.false_eq_true, if_false]
        refine ev_cast (ih (pre ++ [a]) _ (snoc_at h) (by simp; omega)) ?_
        simp only [deepOf, List.filter_cons, c0, Bool.false_eq_true, if_false]
  exact key t [] [] rfl (by simp)
end Go.Proofs.Ytbgggcgjijljkaa.L

/- What turns shelves: copies, what is left without a thing, the first code, Remove; as the program and the reference have it. No condition. -/
set_option linter.unusedSimpArgs false
set_option linter.unusedVariables false
namespace Go.Proofs.Ytbgggcgjijljkaa.L
open Go.RowKit Go.Proofs.YtbgggcgjijljkaaW.PrintWords Go.Proofs.YtbgggcgjijljkaaW.PrintLast Go.Proofs.Ytbgggcgjijljkaa.Q
theorem implCopyRes {a : S57} (ha : SmRes a) : impl_copyRes.f a.f0 a.f1 a.f2 a.f3 a.f4 = some (a.f0, a.f1, a.f2, a.f3, a.f4) := by
  have ha0 := ha.1.1
  have ha4 := ha.2.2.2.2.1
  unfold impl_copyRes.f
  simp only [implCopyPath ha0, Option.bind_some, List.length_nil, Nat.zero_add, List.nil_append]
  rw [if_pos (by omega)]
theorem specCopyRes {a : S57} (ha : SmRes a) : spec_l10Copy.f a.f0 a.f1 a.f2 a.f3 a.f4 = some (a.f0, a.f1, a.f2, a.f3, a.f4) := by
  have ha0 := ha.1.1
  have ha4 := ha.2.2.2.2.1
  unfold spec_l10Copy.f
  simp only [Option.bind_some, List.length_nil, Nat.zero_add, List.nil_append]
  rw [if_pos (by omega), if_pos (by omega)]
theorem implIsAt {a p : List ByteArray} (ha : a.length <= 1048576) : Ev (fun k => impl_isAt.f k a p) (decide (a = p) || under a p) := by
  unfold impl_isAt.f
  refine Ev.bind (implSame (by rw [maxLen_eq]; omega)) ?_
  by_cases c0 : a = p
  . simp only [c0, decide_true, if_true, Bool.true_or]; exact Ev.now _
  . simp only [c0, decide_false, Bool.false_eq_true, if_false, Bool.false_or]; exact Ev.bind (implUnder (by omega)) (Ev.now _)
theorem implCopyTree {t : List S57} (ht : SmRess t) : Ev (fun k => impl_copyTree.f k t) t := by
  have hl0 := ht.1
  have hl : t.length <= maxLen := by rw [maxLen_eq]; omega
  have key : ∀ (suf pre out : List S57), t = pre ++ suf -> out.length <= pre.length -> Ev (fun k => impl_copyTree.l0 k out t (t.length : Int) pre.length) (out ++ suf) := by
    intro suf
    induction suf with
    | nil =>
      intro pre out h ho
      refine Ev.step (fun k => impl_copyTree.l0.eq_2 ..) ?_
      simp only [if_neg (end_at h), List.append_nil]
      exact Ev.now _
    | cons a suf ih =>
      intro pre out h ho
      have hpl : pre.length ≤ 1048576 := by have : t.length = pre.length + (suf.length + 1) := by rw [h]; simp
                                            omega
      have ha := ht.2 a (by rw [h]; simp)
      refine Ev.step (fun k => impl_copyTree.l0.eq_2 ..) ?_
      simp only [if_pos (lt_at h), if_pos (nonneg_at _), rd_implRes h, next_at h hl, implCopyRes ha, Option.bind_some, show out.length < 1759218604441 by omega, if_true]
      exact ev_cast (ih (pre ++ [a]) _ (snoc_at h) (by simp; omega)) (by simp)
  exact key t [] [] rfl (by simp)
theorem specCopyAll {t : List S57} (ht : SmRess t) : Ev (fun k => spec_l10CopyAll.f k t) t := by
  have hl0 := ht.1
  have hl : t.length <= maxLen := by rw [maxLen_eq]; omega
  have key : ∀ (suf pre out : List S57), t = pre ++ suf -> out.length <= pre.length -> Ev (fun k => spec_l10CopyAll.l0 k t out pre.length) (out ++ suf) := by
    intro suf
    induction suf with
    | nil =>
      intro pre out h ho
      refine Ev.step (fun k => spec_l10CopyAll.l0.eq_2 ..) ?_
      simp only [if_neg (end_at h), List.append_nil]
      exact Ev.now _
    | cons a suf ih =>
      intro pre out h ho
      have hpl : pre.length ≤ 1048576 := by have : t.length = pre.length + (suf.length + 1) := by rw [h]; simp
                                            omega
      have ha := ht.2 a (by rw [h]; simp)
      refine Ev.step (fun k => spec_l10CopyAll.l0.eq_2 ..) ?_
      simp only [if_pos (lt_at h), if_pos (nonneg_at _), rd_implRes h, next_at h hl, specCopyRes ha, Option.bind_some, show out.length < 1759218604441 by omega, if_true]
      exact ev_cast (ih (pre ++ [a]) _ (snoc_at h) (by simp; omega)) (by simp)
  exact key t [] [] rfl (by simp)
def mayC (t : List S57) (ps : List (List ByteArray)) (ver : Int) : Int := if treeOk t = true then (if ps.all pathOk = true then (if 0 <= ver /\ ver <= 99999 then 0 else 507) else 400) else 500
theorem specMay {t : List S57} {p : List ByteArray} {ver : Int} (ht : SmRess t) (hp : SmS p) : Ev (fun k => spec_l11May.f k t p ver) (mayC t [p] ver) := by
  unfold spec_l11May.f mayC
  refine Ev.bind (specTreeOk ht) ?_
  by_cases c0 : treeOk t = true
  . simp only [if_pos c0, List.all_cons, List.all_nil, Bool.and_true]
    refine Ev.bind (specPathOk hp) ?_
    by_cases c1 : pathOk p = true
    . simp only [if_pos c1, specIn, Option.bind_some, decide_eq_true_eq]
      by_cases c2 : 0 <= ver /\ ver <= 99999
      . simp only [if_pos c2]; exact Ev.now _
      . simp only [if_neg c2]; exact Ev.now _
    . simp only [if_neg c1]; exact Ev.now _
  . simp only [if_neg c0]; exact Ev.now _
theorem implMay {t : List S57} {ps : List (List ByteArray)} {ver : Int} (ht : SmRess t) (hn : ps.length <= 2) (hp : ∀ p ∈ ps, SmS p) : Ev (fun k => impl_opForm.f k t ver ps) (mayC t ps ver) := by
  have hl : ps.length <= maxLen := by rw [maxLen_eq]; omega
  unfold impl_opForm.f mayC
  refine Ev.bind (implTreeOk ht) ?_
  by_cases c0 : treeOk t = true
  . simp only [if_pos c0]
    have key : ∀ (suf pre : List (List ByteArray)), ps = pre ++ suf -> Ev (fun k => impl_opForm.l0 k ver ps (ps.length : Int) pre.length) (if suf.all pathOk = true then (if 0 <= ver /\ ver <= 99999 then 0 else 507) else 400) := by
      intro suf
      induction suf with
      | nil =>
        intro pre h
        refine Ev.step (fun k => impl_opForm.l0.eq_2 ..) ?_
        simp only [if_neg (end_at h), List.all_nil, if_true, implIn, Option.bind_some, decide_eq_true_eq]
        by_cases c2 : 0 <= ver /\ ver <= 99999
        . simp only [if_pos c2]; exact Ev.now _
        . simp only [if_neg c2]; exact Ev.now _
      | cons a suf ih =>
        intro pre h
        refine Ev.step (fun k => impl_opForm.l0.eq_2 ..) ?_
        simp only [if_pos (lt_at h), if_pos (nonneg_at _), show rd_L2 ps ((pre.length : Nat) : Int) = a from getD_at _ h, List.all_cons, next_at h hl]
        refine Ev.bind (implPathOk (hp a (by rw [h]; simp))) ?_
        by_cases c1 : pathOk a = true
        . simp only [c1, if_true, Bool.true_and]; exact ih (pre ++ [a]) (snoc_at h)
        . simp only [c1, Bool.false_eq_true, if_false, Bool.false_and]; exact Ev.now _
    exact key ps [] rfl
  . simp only [if_neg c0]; exact Ev.now _
def withoutP (p : List ByteArray) (t : List S57) : List S57 := t.filter (fun r => !(decide (r.f0 = p) || under r.f0 p))
theorem without_length (p : List ByteArray) (t : List S57) : (withoutP p t).length <= t.length := List.length_filter_le _ _
theorem without_sm {p : List ByteArray} {t : List S57} (ht : SmRess t) : SmRess (withoutP p t) := ⟨Nat.le_trans (without_length p t) ht.1, fun r hr => ht.2 r (List.mem_filter.1 hr).1⟩
theorem implWithout {t : List S57} {p : List ByteArray} (ht : SmRess t) (hp : p.length <= 1048576) : Ev (fun k => impl_without.f k t p) (withoutP p t) := by
  have hl0 := ht.1
  have hl : t.length <= maxLen := by rw [maxLen_eq]; omega
  have key : ∀ (suf pre out : List S57), t = pre ++ suf -> out.length <= pre.length -> Ev (fun k => impl_without.l0 k p out t (t.length : Int) pre.length) (out ++ withoutP p suf) := by
    intro suf
    induction suf with
    | nil =>
      intro pre out h ho
      refine Ev.step (fun k => impl_without.l0.eq_2 ..) ?_
      simp only [if_neg (end_at h), withoutP, List.filter_nil, List.append_nil]
      exact Ev.now _
    | cons a suf ih =>
      intro pre out h ho
      have hpl : pre.length ≤ 1048576 := by have : t.length = pre.length + (suf.length + 1) := by rw [h]; simp
                                            omega
      have ha := ht.2 a (by rw [h]; simp)
      have ha0 := ha.1.1
      refine Ev.step (fun k => impl_without.l0.eq_2 ..) ?_
      simp only [if_pos (lt_at h), if_pos (nonneg_at _), rd_implRes h, next_at h hl, implCopyRes ha, Option.bind_some]
      refine Ev.bind (implIsAt (by omega)) ?_
      by_cases c1 : (decide (a.f0 = p) || under a.f0 p) = true
      . simp only [c1, if_true]
        refine ev_cast (ih (pre ++ [a]) _ (snoc_at h) (by simp; omega)) (by unfold withoutP; rw [List.filter_cons, if_neg (by rw [c1]; simp)])
      . simp only [c1, Bool.false_eq_true, if_false, show out.length < 1759218604441 by omega, if_true]
        refine ev_cast (ih (pre ++ [a]) _ (snoc_at h) (by simp; omega)) (by unfold withoutP; rw [List.filter_cons, if_pos (by rw [Bool.eq_false_iff.mpr c1]; rfl)]; simp)
  exact key t [] [] rfl (by simp)
def removeR (t : List S57) (p : List ByteArray) : List S57 × Int :=
  if mayC t [p] 0 = 0 then (if p = [] then (t, 403) else if findR t p < 0 then (t, 404) else (withoutP p t, 204)) else (t, mayC t [p] 0)
theorem implRemove {t : List S57} {p : List ByteArray} (ht : SmRess t) (hp : SmS p) : Ev (fun k => impl_RemoveX.f k t p) (removeR t p) := by
  have hp0 := hp.1
  show Ev (fun k => impl_Remove.f k t p) _
  unfold impl_Remove.f removeR
  refine Ev.bind (implMay ht (by simp) (fun q hq => by rw [List.mem_singleton.1 hq]; exact hp)) ?_
  by_cases c0 : mayC t [p] 0 = 0
  . simp only [if_pos c0, nil_len]
    by_cases c1 : p = []
    . simp only [if_pos c1]; exact Ev.bind (implCopyTree ht) (Ev.now _)
    . simp only [if_neg c1]
      refine Ev.bind (implFind ht) ?_
      by_cases c2 : findR t p < 0
      . simp only [if_pos c2]; exact Ev.bind (implCopyTree ht) (Ev.now _)
      . simp only [if_neg c2]
        exact Ev.bind (implWithout ht (by omega)) (Ev.now _)
  . simp only [if_neg c0]; exact Ev.bind (implCopyTree ht) (Ev.now _)
end Go.Proofs.Ytbgggcgjijljkaa.L

/- A printed walk's contract told more sharply: the result's elements' rows lie apart. No condition. -/
namespace Go.Proofs.Ytbgggcgjijljkaa.Q
open Go.RowKit Go.Proofs.YtbgggcgjijljkaaW.PrintWords Go.Proofs.YtbgggcgjijljkaaW.PrintLast Go.Proofs.YtbgggcgjijljkaaW.PrintMore
attribute [local go_sem] max2_int min2_int max_two min_two max_three min_three max_four min_four
set_option linter.unusedVariables false
set_option linter.unusedSimpArgs false
abbrev spec_MakeCollX.f (k : Nat) (l0 : List (S57)) (l1 : List ByteArray) (a2 : Int) : Option ((List (S57)) × Int) := spec_MakeColl.f k l0 l1 a2
end Go.Proofs.Ytbgggcgjijljkaa.Q

/- A thing put in its place, a shelf made; as the program and the reference have it. No condition. -/
set_option linter.unusedSimpArgs false
set_option linter.unusedVariables false
namespace Go.Proofs.Ytbgggcgjijljkaa.L
open Go.RowKit Go.Proofs.YtbgggcgjijljkaaW.PrintWords Go.Proofs.YtbgggcgjijljkaaW.PrintLast Go.Proofs.Ytbgggcgjijljkaa.Q
def putAt (x : S57) : List S57 -> List S57
  | [] => [x]
  | a :: t => if lessP a.f0 x.f0 = true then a :: putAt x t else x :: a :: t
theorem putAt_length (x : S57) : ∀ t : List S57, (putAt x t).length = t.length + 1
  | [] => rfl
  | a :: t => by
    unfold putAt
    by_cases c : lessP a.f0 x.f0 = true
    . simp only [if_pos c, List.length_cons, putAt_length x t]
    . simp only [if_neg c, List.length_cons]
theorem putAt_mem (x : S57) : ∀ (t : List S57) (b : S57), b ∈ putAt x t -> b = x \/ b ∈ t
  | [], b, h => by simpa [putAt] using h
  | a :: t, b, h => by
    unfold putAt at h
    by_cases c : lessP a.f0 x.f0 = true
    . simp only [if_pos c, List.mem_cons] at h
      rcases h with rfl | h
      . exact .inr (by simp)
      . rcases putAt_mem x t b h with h | h
        . exact .inl h
        . exact .inr (by simp [h])
    . simp only [if_neg c, List.mem_cons] at h
      rcases h with h | h | h
      . exact .inl h
      . exact .inr (by simp [h])
      . exact .inr (by simp [h])
theorem implWithRes {t : List S57} {x : S57} (ht : SmRess t) : Ev (fun k => impl_withRes.f k t x.f0 x.f1 x.f2 x.f3 x.f4) (putAt x t) := by
  have hl0 := ht.1
  have hl : t.length <= maxLen := by rw [maxLen_eq]; omega
  have key : ∀ (suf pre : List S57), t = pre ++ suf -> Ev (fun k => impl_withRes.l0 k t pre.length x.f0 x.f1 x.f2 x.f3 x.f4) (pre ++ putAt x suf) := by
    intro suf
    induction suf with
    | nil =>
      intro pre h
      have h1 : t.take ((pre.length : Nat) : Int).toNat = pre := by rw [h]; simp
      have h2 : t.drop ((pre.length : Nat) : Int).toNat = [] := by rw [h]; simp
      have hp : pre.length = t.length := by rw [h]; simp
      refine Ev.step (fun k => impl_withRes.l0.eq_2 ..) ?_
      simp only [if_neg (end_at h), if_pos (nonneg_at _), if_pos (show ((pre.length : Nat) : Int) <= (t.length : Int) by omega), h1, h2, Option.bind_some, List.length_nil, Nat.zero_add, List.nil_append, if_pos (show pre.length < 1759218604441 by omega), List.length_singleton, if_pos (show pre.length + 1 < 1759218604441 by omega), List.length_append, Nat.add_zero, List.append_nil]
      exact Ev.now _
    | cons a suf ih =>
      intro pre h
      have hpl : t.length = pre.length + (suf.length + 1) := by rw [h]; simp
      have h1 : t.take ((pre.length : Nat) : Int).toNat = pre := by rw [h]; simp
      have h2 : t.drop ((pre.length : Nat) : Int).toNat = a :: suf := by rw [h]; simp
      have ha0 := (ht.2 a (by rw [h]; simp)).1.1
      refine Ev.step (fun k => impl_withRes.l0.eq_2 ..) ?_
      simp only [if_pos (lt_at h), if_pos (nonneg_at _), rd_implRes h, next_at h hl]
      refine Ev.bind (implLess (by rw [maxLen_eq]; omega)) ?_
      by_cases c : lessP a.f0 x.f0 = true
      . simp only [c, if_true]
        exact ev_cast (ih (pre ++ [a]) (snoc_at h)) (by simp [putAt, c])
      . simp only [c, Bool.false_eq_true, if_false, if_pos (show ((pre.length : Nat) : Int) <= (t.length : Int) by omega), h1, h2, Option.bind_some, List.length_nil, Nat.zero_add, List.nil_append, if_pos (show pre.length < 1759218604441 by omega), List.length_singleton, if_pos (show pre.length + 1 < 1759218604441 by omega), List.length_append, List.length_cons, if_pos (show pre.length + 1 + (suf.length + 1) < 1759218604441 by omega)]
        exact ev_cast (Ev.now _) (by simp [putAt, c])
  exact key t [] rfl
def putS (x : S57) : Bool -> List S57 -> List S57
  | d, [] => if d = true then [] else [x]
  | d, a :: t => (if d = true then [] else if lessP a.f0 x.f0 = true then [] else [x]) ++ (if a.f0 = x.f0 then [] else [a]) ++ putS x (d || !lessP a.f0 x.f0) t
theorem specPut {t : List S57} {x : S57} (ht : SmRess t) (hx : SmRes x) : Ev (fun k => spec_l11Put.f k t x.f0 x.f1 x.f2 x.f3 x.f4) (putS x false t) := by
  have hl0 := ht.1
  have hl : t.length <= maxLen := by rw [maxLen_eq]; omega
  have key : ∀ (suf pre out : List S57) (d : Bool), t = pre ++ suf -> out.length <= 2 * pre.length -> Ev (fun k => spec_l11Put.l0 k t out d pre.length x.f0 x.f1 x.f2 x.f3 x.f4) (out ++ putS x d suf) := by
    intro suf
    induction suf with
    | nil =>
      intro pre out d h ho
      have hp : pre.length = t.length := by rw [h]; simp
      refine Ev.step (fun k => spec_l11Put.l0.eq_2 ..) ?_
      simp only [if_neg (end_at h), putS]
      by_cases c : d = true
      . simp only [if_pos c, List.append_nil]; exact Ev.now _
      . simp only [if_neg c, specCopyRes hx, Option.bind_some, show out.length < 1759218604441 by omega, if_true]; exact Ev.now _
    | cons a suf ih =>
      intro pre out d h ho
      have hpl : t.length = pre.length + (suf.length + 1) := by rw [h]; simp
      have ha := ht.2 a (by rw [h]; simp)
      have ha0 := ha.1.1
      have hj2 : ∀ (o : List S57) (d' : Bool), o.length <= 2 * pre.length + 1 -> Ev (fun k => spec_l11Put.j2 k t o d' pre.length x.f0 x.f1 x.f2 x.f3 x.f4) (o ++ ((if a.f0 = x.f0 then [] else [a]) ++ putS x d' suf)) := by
        intro o d' ho'
        refine Ev.step (fun k => spec_l11Put.j2.eq_2 ..) ?_
        simp only [if_pos (lt_at h), if_pos (nonneg_at _), rd_implRes h, next_at h hl, specCopyRes ha, Option.bind_some]
        refine Ev.bind (specSame (by rw [maxLen_eq]; omega)) ?_
        by_cases c : a.f0 = x.f0
        . simp only [c, decide_true, if_true, List.nil_append]
          exact ih (pre ++ [a]) o d' (snoc_at h) (by simp; omega)
        . simp only [c, decide_false, Bool.false_eq_true, if_false, show o.length < 1759218604441 by omega, if_true]
          exact ev_cast (ih (pre ++ [a]) (o ++ [a]) d' (snoc_at h) (by simp; omega)) (by simp)
      have hj1 : ∀ b : Bool, Ev (fun k => spec_l11Put.j1 k t out d pre.length b x.f0 x.f1 x.f2 x.f3 x.f4) (out ++ ((if b = true then [x] else []) ++ ((if a.f0 = x.f0 then [] else [a]) ++ putS x (d || b) suf))) := by
        intro b
        refine Ev.step (fun k => spec_l11Put.j1.eq_2 ..) ?_
        by_cases c : b = true
        . subst c
          simp only [if_true, specCopyRes hx, Option.bind_some, show out.length < 1759218604441 by omega, Bool.or_true]
          exact ev_cast (hj2 (out ++ [x]) true (by simp; omega)) (by simp)
        . have c' : b = false := by simpa using c
          subst c'
          simp only [Bool.false_eq_true, if_false, List.nil_append, Bool.or_false]
          exact hj2 out d (by omega)
      refine Ev.step (fun k => spec_l11Put.l0.eq_2 ..) ?_
      simp only [if_pos (lt_at h), if_pos (nonneg_at _), rd_implRes h, putS]
      by_cases c : d = true
      . subst c
        simp only [if_true]
        exact ev_cast (hj1 false) (by simp)
      . have c' : d = false := by simpa using c
        subst c'
        simp only [Bool.false_eq_true, if_false]
        refine Ev.bind (specLess (by rw [maxLen_eq]; omega)) ?_
        refine ev_cast (hj1 (!lessP a.f0 x.f0)) ?_
        by_cases c2 : lessP a.f0 x.f0 = true
        . simp [c2]
        . simp [c2]
  exact key t [] [] false rfl (by simp)
theorem putS_done {x : S57} : ∀ {t : List S57}, (∀ r ∈ t, r.f0 ≠ x.f0) -> putS x true t = t
  | [], _ => by simp [putS]
  | a :: t, h => by
    have h0 := h a (by simp)
    have ih := putS_done (x := x) (t := t) (fun r hr => h r (by simp [hr]))
    simp [putS, h0, ih]
theorem putS_new {x : S57} : ∀ {t : List S57}, (∀ r ∈ t, r.f0 ≠ x.f0) -> putS x false t = putAt x t
  | [], _ => by simp [putS, putAt]
  | a :: t, h => by
    have h0 := h a (by simp)
    have hr := fun r hr => h r (List.mem_cons_of_mem a hr)
    have ih := putS_new (x := x) (t := t) hr
    have id := putS_done (x := x) (t := t) hr
    by_cases c : lessP a.f0 x.f0 = true
    . simp [putS, putAt, h0, ih, c]
    . simp [putS, putAt, h0, id, c]
theorem find_none {t : List S57} {p : List ByteArray} (h : findR t p < 0) : ∀ r ∈ t, r.f0 ≠ p := by
  rcases findFrom_cases p t 0 with ⟨_, h2⟩ | ⟨j, r, h1, _⟩
  . exact h2
  . unfold findR at h; rw [h1] at h; omega
def newRes (p : List ByteArray) (ver : Int) : S57 := ⟨p, true, (⟨#[]⟩ : ByteArray), ver, []⟩
def makeR (t : List S57) (p : List ByteArray) (ver : Int) : List S57 × Int :=
  if mayC t [p] ver = 0 then (if p = [] then (t, 405) else if findR t p >= 0 then (t, 405) else if isColl t (above p) = true then (if (t.length : Int) >= 12 then (t, 507) else (putAt (newRes p ver) t, 201)) else (t, 409)) else (t, mayC t [p] ver)
theorem newRes_sm {p : List ByteArray} {ver : Int} (hp : SmS p) (hv : IntOk ver) : SmRes (newRes p ver) := ⟨hp, trivial, by show (0 : Nat) <= 1048576; omega, hv, by show (0 : Nat) <= 1048576; omega, fun _ h => by cases h⟩
theorem make_sm {p : List ByteArray} {t : List S57} {ver : Int} (ht : SmRess t) (hp : SmS p) (hv : IntOk ver) : SmRess (makeR t p ver).1 := by
  unfold makeR
  repeat' split
  all_goals first | exact ht | skip
  rename_i hn
  refine ⟨by rw [putAt_length]; omega, fun r hr => ?_⟩
  rcases putAt_mem _ _ _ hr with rfl | hr
  . exact newRes_sm hp hv
  . exact ht.2 r hr
theorem specMake {t : List S57} {p : List ByteArray} {ver : Int} (ht : SmRess t) (hp : SmS p) (hv : IntOk ver) : Ev (fun k => spec_MakeCollX.f k t p ver) (makeR t p ver) := by
  have hp0 := hp.1
  show Ev (fun k => spec_MakeColl.f k t p ver) _
  unfold spec_MakeColl.f makeR
  refine Ev.bind (specMay ht hp) ?_
  have hc : ∀ c : Int, c ≠ 0 -> Ev (fun k => spec_MakeColl.j1 k t p ver c) (t, c) := fun c h => by
    refine Ev.step (fun k => spec_MakeColl.j1.eq_2 ..) ?_
    simp only [if_neg h]
    exact Ev.bind (specCopyAll ht) (Ev.now _)
  by_cases c0 : mayC t [p] ver = 0
  . simp only [c0, if_true, nil_len]
    by_cases c1 : p = []
    . simp only [if_pos c1]
      refine Ev.step (fun k => spec_MakeColl.j0.eq_2 ..) ?_
      simp only [if_true]
      exact hc 405 (by decide)
    . simp only [if_neg c1]
      refine Ev.bind (specFind ht) ?_
      refine Ev.step (fun k => spec_MakeColl.j0.eq_2 ..) ?_
      by_cases c2 : findR t p >= 0
      . simp only [c2, decide_true, if_true]; exact hc 405 (by decide)
      . simp only [c2, decide_false, Bool.false_eq_true, if_false, specAbove hp0, Option.bind_some]
        refine Ev.bind (specIsColl ht) ?_
        by_cases c3 : isColl t (above p) = true
        . simp only [if_pos c3]
          by_cases c4 : (t.length : Int) >= 12
          . simp only [if_pos c4]; exact hc 507 (by decide)
          . simp only [if_neg c4]
            refine Ev.step (fun k => spec_MakeColl.j1.eq_2 ..) ?_
            simp only [if_true]
            have h1 := specPut (x := newRes p ver) ht (newRes_sm hp hv)
            rw [putS_new (show ∀ r ∈ t, r.f0 ≠ (newRes p ver).f0 from find_none (p := p) (by omega))] at h1
            exact Ev.bind h1 (Ev.now _)
        . simp only [if_neg c3]; exact hc 409 (by decide)
  . simp only [if_neg c0]; exact hc _ c0
end Go.Proofs.Ytbgggcgjijljkaa.L

/- Paths, one ahead of the other: an order; right shelves stand in it. No condition. -/
set_option linter.unusedSimpArgs false
set_option linter.unusedVariables false
namespace Go.Proofs.Ytbgggcgjijljkaa.L
open Go.RowKit Go.Proofs.YtbgggcgjijljkaaW.PrintWords Go.Proofs.YtbgggcgjijljkaaW.PrintLast Go.Proofs.Ytbgggcgjijljkaa.Q
theorem bytesLess_trans : ∀ {x y z : List UInt8}, Op.bytesLess x y = true -> Op.bytesLess y z = true -> Op.bytesLess x z = true
  | _, _, [], _, h => by cases ‹List UInt8› <;> simp [Op.bytesLess] at h
  | [], _, _ :: _, _, _ => by simp [Op.bytesLess]
  | _ :: _, [], _ :: _, h, _ => by simp [Op.bytesLess] at h
  | a :: x, b :: y, c :: z, h, h' => by
    simp only [Op.bytesLess, Bool.or_eq_true, Bool.and_eq_true, decide_eq_true_eq, beq_iff_eq] at h h' ⊢
    rcases h with h | ⟨rfl, h⟩
    . rcases h' with h' | ⟨rfl, _⟩
      . exact .inl (UInt8.lt_trans h h')
      . exact .inl h
    . rcases h' with h' | ⟨rfl, h'⟩
      . exact .inl h'
      . exact .inr ⟨rfl, bytesLess_trans h h'⟩
theorem lessP_irrefl : ∀ a : List ByteArray, lessP a a = false
  | [] => rfl
  | x :: a => by simp [lessP, lessP_irrefl a]
theorem lessP_trans : ∀ {a b c : List ByteArray}, lessP a b = true -> lessP b c = true -> lessP a c = true
  | [], [], _, h, _ => by simp [lessP] at h
  | [], _ :: _, [], _, h => by simp [lessP] at h
  | [], _ :: _, _ :: _, _, _ => by simp [lessP]
  | _ :: _, [], _, h, _ => by simp [lessP] at h
  | _ :: _, _ :: _, [], _, h => by simp [lessP] at h
  | x :: a, y :: b, z :: c, h, h' => by
    simp only [lessP] at h h' ⊢
    by_cases e : x = y
    . subst e
      by_cases e' : x = z
      . subst e'
        simp only [if_true] at h h' ⊢
        exact lessP_trans h h'
      . rw [if_neg e'] at h' ⊢
        exact h'
    . rw [if_neg e] at h
      by_cases e' : y = z
      . subst e'
        rw [if_neg e]
        exact h
      . rw [if_neg e'] at h'
        have ht := bytesLess_trans h h'
        by_cases e2 : x = z
        . subst e2
          rw [bytesLess_irrefl] at ht
          cases ht
        . rw [if_neg e2]
          exact ht
theorem lessP_ne {a b : List ByteArray} (h : lessP a b = true) : a ≠ b := by
  intro e
  rw [e, lessP_irrefl] at h
  cases h
theorem treeL_pair (t : List S57) : ∀ (l : List S57) (q : Option S57), treeL t q l = true -> (match q with | none => True | some q => ∀ r ∈ l, lessP q.f0 r.f0 = true) /\ l.Pairwise (fun a b => lessP a.f0 b.f0 = true)
  | [], q, _ => by cases q <;> simp
  | r :: l, q, h => by
    simp only [treeL, Bool.and_eq_true] at h
    obtain ⟨_, h1, _, h2⟩ := h
    obtain ⟨h3, h4⟩ := treeL_pair t l (some r) h2
    simp only at h3
    refine ⟨?_, List.pairwise_cons.2 ⟨h3, h4⟩⟩
    cases q with
    | none => trivial
    | some q =>
      intro x hx
      simp only at h1
      rcases List.mem_cons.1 hx with rfl | hx
      . exact h1
      . exact lessP_trans h1 (h3 x hx)
theorem treeOk_pair {t : List S57} (h : treeOk t = true) : t.Pairwise (fun a b => lessP a.f0 b.f0 = true) := by
  unfold treeOk at h
  exact (treeL_pair t t none (Bool.and_eq_true_iff.1 h).1).2
theorem putS_at {x r : S57} (e : r.f0 = x.f0) {suf : List S57} : ∀ {pre : List S57}, (pre ++ r :: suf).Pairwise (fun a b => lessP a.f0 b.f0 = true) -> putS x false (pre ++ r :: suf) = pre ++ x :: suf
  | [], h => by
    have h1 := (List.pairwise_cons.1 h).1
    have hd := putS_done (x := x) (t := suf) (fun a ha => by rw [← e]; exact (lessP_ne (h1 a ha)).symm)
    simp [putS, e, lessP_irrefl, hd]
  | a :: pre, h => by
    have h1 := (List.pairwise_cons.1 h).1
    have h2 : lessP a.f0 x.f0 = true := by rw [← e]; exact h1 r (by simp)
    have ih := putS_at (x := x) e (List.pairwise_cons.1 h).2
    simp [putS, h2, lessP_ne h2, ih]
end Go.Proofs.Ytbgggcgjijljkaa.L

/- The laws' own functions over a mirrored struct (Set): size, copy, equality. No condition. -/
set_option linter.unusedSimpArgs false
set_option linter.unusedVariables false
namespace Go.Proofs.Ytbgggcgjijljkaa.L
open Go.RowKit Go.Proofs.YtbgggcgjijljkaaW.PrintWords Go.Proofs.YtbgggcgjijljkaaW.PrintLast Go.Proofs.Ytbgggcgjijljkaa.Q
instance : DecidableEq S74 := fun a b => if h : a.f0 = b.f0 /\ a.f1 = b.f1 then .isTrue (by cases a; cases b; simp_all) else .isFalse (fun e => h (by rw [e]; exact ⟨rfl, rfl⟩))
theorem rd_implSet {l pre suf : List S74} {a : S74} (h : l = pre ++ a :: suf) : rd_T74 l (pre.length : Int) = a := getD_at _ h
def SmSet (p : S74) : Prop := True /\ SmProp p.f1
def SmSets (l : List S74) : Prop := l.length <= 1048576 /\ ∀ p ∈ l, SmSet p
end Go.Proofs.Ytbgggcgjijljkaa.L

/- What is known of a thing set, all or none; as the program and the reference have it. No condition. -/
set_option linter.unusedSimpArgs false
set_option linter.unusedVariables false
namespace Go.Proofs.Ytbgggcgjijljkaa.L
open Go.RowKit Go.Proofs.YtbgggcgjijljkaaW.PrintWords Go.Proofs.YtbgggcgjijljkaaW.PrintLast Go.Proofs.Ytbgggcgjijljkaa.Q
def setS (s : S74) : Bool -> List S72 -> List S72
  | d, [] => if d = true then [] else [s.f1]
  | d, a :: l => (if d = true then [] else if lessProp a s.f1 = true then [] else [s.f1]) ++ (if a.f0 = s.f1.f0 /\ a.f1 = s.f1.f1 then [] else [a]) ++ setS s (d || !lessProp a s.f1) l
theorem setS_length (s : S74) : ∀ (l : List S72) (d : Bool), (setS s d l).length <= l.length + (if d = true then 0 else 1)
  | [], d => by cases d <;> simp [setS]
  | a :: l, d => by
    have ih := setS_length s l
    unfold setS
    cases d
    . by_cases c : lessProp a s.f1 = true
      . have := ih false
        by_cases c2 : a.f0 = s.f1.f0 /\ a.f1 = s.f1.f1 <;> simp [c, c2] at this ⊢ <;> omega
      . have := ih true
        by_cases c2 : a.f0 = s.f1.f0 /\ a.f1 = s.f1.f1 <;> simp [c, c2] at this ⊢ <;> omega
    . have := ih true
      by_cases c2 : a.f0 = s.f1.f0 /\ a.f1 = s.f1.f1 <;> simp [c2] at this ⊢ <;> omega
theorem setS_mem (s : S74) : ∀ (l : List S72) (d : Bool) (b : S72), b ∈ setS s d l -> b = s.f1 \/ b ∈ l
  | [], d, b, h => by cases d <;> simp [setS] at h; exact .inl h
  | a :: l, d, b, h => by
    unfold setS at h
    rcases List.mem_append.1 h with h | h
    . rcases List.mem_append.1 h with h | h
      . split at h
        . cases h
        . split at h
          . cases h
          . exact .inl (by simpa using h)
      . split at h
        . cases h
        . exact .inr (by simp at h; simp [h])
    . rcases setS_mem s l _ b h with h | h
      . exact .inl h
      . exact .inr (by simp [h])
theorem specOne {l : List S72} {s : S74} (hl0 : l.length <= 4194304) : Ev (fun k => spec_l12One.f k l s.f0 s.f1.f0 s.f1.f1 s.f1.f2) (setS s s.f0 l) := by
  have hl : l.length <= maxLen := by rw [maxLen_eq]; omega
  have key : ∀ (suf pre out : List S72) (d : Bool), l = pre ++ suf -> out.length <= 2 * pre.length -> Ev (fun k => spec_l12One.l0 k l out d pre.length s.f0 s.f1.f0 s.f1.f1 s.f1.f2) (out ++ setS s d suf) := by
    intro suf
    induction suf with
    | nil =>
      intro pre out d h ho
      have hp : pre.length = l.length := by rw [h]; simp
      refine Ev.step (fun k => spec_l12One.l0.eq_2 ..) ?_
      simp only [if_neg (end_at h), setS]
      by_cases c : d = true
      . simp only [if_pos c, List.append_nil]; exact Ev.now _
      . simp only [if_neg c, show out.length < 2932031007402 by omega, if_true]; exact Ev.now _
    | cons a suf ih =>
      intro pre out d h ho
      have hpl : l.length = pre.length + (suf.length + 1) := by rw [h]; simp
      have hj1 : ∀ b : Bool, Ev (fun k => spec_l12One.j1 k l out d pre.length b s.f0 s.f1.f0 s.f1.f1 s.f1.f2) (out ++ ((if b = true then [s.f1] else []) ++ ((if a.f0 = s.f1.f0 /\ a.f1 = s.f1.f1 then [] else [a]) ++ setS s (d || b) suf))) := by
        intro b
        refine Ev.step (fun k => spec_l12One.j1.eq_2 ..) ?_
        by_cases c : b = true
        . subst c
          simp only [if_true, show out.length < 2932031007402 by omega, Option.bind_some, if_pos (nonneg_at _), if_pos (lt_at h), rd_implProp h, next_at h hl, ba_eq, Bool.or_true]
          by_cases c0 : a.f0 = s.f1.f0
          . by_cases c1 : a.f1 = s.f1.f1
            . simp only [if_pos c0, if_pos c1, if_pos (And.intro c0 c1)]
              exact ev_cast (ih (pre ++ [a]) (out ++ [s.f1]) true (snoc_at h) (by simp; omega)) (by simp)
            . simp only [if_pos c0, if_neg c1, if_neg (fun e : a.f0 = s.f1.f0 /\ a.f1 = s.f1.f1 => c1 e.2), show ∀ x : S72, (out ++ [x]).length < 2932031007402 from fun x => (by simp; omega), if_true]
              exact ev_cast (ih (pre ++ [a]) (out ++ [s.f1] ++ [a]) true (snoc_at h) (by simp; omega)) (by simp)
          . simp only [if_neg c0, if_neg (fun e : a.f0 = s.f1.f0 /\ a.f1 = s.f1.f1 => c0 e.1), show ∀ x : S72, (out ++ [x]).length < 2932031007402 from fun x => (by simp; omega), if_true]
            exact ev_cast (ih (pre ++ [a]) (out ++ [s.f1] ++ [a]) true (snoc_at h) (by simp; omega)) (by simp)
        . have c' : b = false := by simpa using c
          subst c'
          simp only [Bool.false_eq_true, if_false, if_pos (nonneg_at _), if_pos (lt_at h), rd_implProp h, next_at h hl, ba_eq, Bool.or_false, List.nil_append]
          by_cases c0 : a.f0 = s.f1.f0
          . by_cases c1 : a.f1 = s.f1.f1
            . simp only [if_pos c0, if_pos c1, if_pos (And.intro c0 c1), List.nil_append]
              exact ih (pre ++ [a]) out d (snoc_at h) (by simp; omega)
            . simp only [if_pos c0, if_neg c1, if_neg (fun e : a.f0 = s.f1.f0 /\ a.f1 = s.f1.f1 => c1 e.2), show out.length < 2932031007402 by omega, if_true]
              exact ev_cast (ih (pre ++ [a]) (out ++ [a]) d (snoc_at h) (by simp; omega)) (by simp)
          . simp only [if_neg c0, if_neg (fun e : a.f0 = s.f1.f0 /\ a.f1 = s.f1.f1 => c0 e.1), show out.length < 2932031007402 by omega, if_true]
            exact ev_cast (ih (pre ++ [a]) (out ++ [a]) d (snoc_at h) (by simp; omega)) (by simp)
      refine Ev.step (fun k => spec_l12One.l0.eq_2 ..) ?_
      simp only [if_pos (lt_at h), if_pos (nonneg_at _), rd_implProp h, setS, specLessProp, Option.bind_some]
      by_cases c : d = true
      . subst c
        simp only [if_true]
        exact ev_cast (hj1 false) (by simp)
      . have c' : d = false := by simpa using c
        subst c'
        simp only [Bool.false_eq_true, if_false]
        refine ev_cast (hj1 (!lessProp a s.f1)) ?_
        by_cases c2 : lessProp a s.f1 = true
        . simp [c2]
        . simp [c2]
  exact key l [] [] s.f0 rfl (by simp)
def setAll (l0 : List S72) : List S72 -> List S74 -> List S72 × Bool
  | out, [] => if propsOk out = true then (out, true) else (l0, false)
  | out, s :: sets => if propOk s.f1 = true then setAll l0 (setS s s.f0 out) sets else (l0, false)
theorem specSetAll {l : List S72} {sets : List S74} (hl : SmProps l) (hs : SmSets sets) : Ev (fun k => spec_SetProps.f k l sets) (setAll l l sets) := by
  have hl0 := hl.1
  have hs0 := hs.1
  have hsl : sets.length <= maxLen := by rw [maxLen_eq]; omega
  unfold spec_SetProps.f
  simp only [Option.bind_some, List.length_nil, Nat.zero_add, List.nil_append, show l.length < 2932031007402 by omega, if_true]
  have key : ∀ (suf pre : List S74) (out : List S72), sets = pre ++ suf -> out.length <= l.length + pre.length -> (∀ p ∈ out, SmProp p) -> Ev (fun k => spec_SetProps.l0 k l sets out pre.length) (setAll l out suf) := by
    intro suf
    induction suf with
    | nil =>
      intro pre out h ho hm
      have hp : pre.length = sets.length := by rw [h]; simp
      refine Ev.step (fun k => spec_SetProps.l0.eq_2 ..) ?_
      simp only [if_neg (end_at h), setAll]
      refine Ev.bind (specPropsOkB (by rw [maxLen_eq]; omega) hm) ?_
      by_cases c : propsOk out = true
      . simp only [if_pos c]; exact Ev.now _
      . simp only [if_neg c, Option.bind_some, List.length_nil, Nat.zero_add, List.nil_append, show l.length < 2932031007402 by omega, if_true]; exact Ev.now _
    | cons s suf ih =>
      intro pre out h ho hm
      have hpl : sets.length = pre.length + (suf.length + 1) := by rw [h]; simp
      have hss := hs.2 s (by rw [h]; simp)
      refine Ev.step (fun k => spec_SetProps.l0.eq_2 ..) ?_
      simp only [if_pos (lt_at h), if_pos (nonneg_at _), rd_implSet h, setAll, next_at h hsl]
      refine Ev.bind (specPropOk hss.2) ?_
      by_cases c : propOk s.f1 = true
      . simp only [if_pos c]
        refine Ev.bind (specOne (by omega)) ?_
        refine ih (pre ++ [s]) _ (snoc_at h) ?_ (fun p hp => ?_)
        . have h2 := setS_length s out s.f0
          have h3 : (if s.f0 = true then 0 else 1) <= 1 := by split <;> omega
          simp; omega
        . rcases setS_mem s out _ p hp with rfl | hp
          . exact hss.2
          . exact hm p hp
      . simp only [if_neg c, Option.bind_some, List.length_nil, Nat.zero_add, List.nil_append, show l.length < 2932031007402 by omega, if_true]; exact Ev.now _
  exact key sets [] l rfl (by simp) hl.2
end Go.Proofs.Ytbgggcgjijljkaa.L

/- A text put; as the program and the reference have it. No condition. -/
set_option linter.unusedSimpArgs false
set_option linter.unusedVariables false
namespace Go.Proofs.Ytbgggcgjijljkaa.L
open Go.RowKit Go.Proofs.YtbgggcgjijljkaaW.PrintWords Go.Proofs.YtbgggcgjijljkaaW.PrintLast Go.Proofs.Ytbgggcgjijljkaa.Q
theorem find_at {t : List S57} {p : List ByteArray} (h : ¬ findR t p < 0) : ∃ pre r suf, t = pre ++ r :: suf /\ findR t p = (pre.length : Int) /\ r.f0 = p := by
  rcases findFrom_cases p t 0 with ⟨h1, _⟩ | ⟨j, r, h1, h2, h3, _⟩
  . unfold findR at h; rw [h1] at h; exact absurd (by decide) h
  . refine ⟨t.take j, r, t.drop (j + 1), ?_, ?_, h3⟩
    . have hj := (List.getElem?_eq_some_iff.1 h2).1
      have he : t[j] = r := (List.getElem?_eq_some_iff.1 h2).2
      rw [← he, List.getElem_cons_drop, List.take_append_drop]
    . have hj := (List.getElem?_eq_some_iff.1 h2).1
      unfold findR; rw [h1, List.length_take]; omega
def newFile (p : List ByteArray) (body : ByteArray) (ver : Int) : S57 := ⟨p, false, body, ver, []⟩
def putFR (t : List S57) (p : List ByteArray) (body : ByteArray) (ver : Int) : List S57 × Int :=
  if mayC t [p] ver = 0 then (if isColl t p = true then (t, 405) else if isColl t (above p) = true then (if (body.size : Int) > 200 then (t, 413) else
    if findR t p < 0 then (if (t.length : Int) >= 12 then (t, 507) else (putAt (newFile p body ver) t, 201))
    else (t.set (findR t p).toNat ⟨(t.getD (findR t p).toNat z57).f0, (t.getD (findR t p).toNat z57).f1, body, ver, (t.getD (findR t p).toNat z57).f4⟩, 204)) else (t, 409)) else (t, mayC t [p] ver)
theorem newFile_sm {p : List ByteArray} {body : ByteArray} {ver : Int} (hp : SmS p) (hb : body.size <= 1048576) (hv : IntOk ver) : SmRes (newFile p body ver) := ⟨hp, trivial, hb, hv, by show (0 : Nat) <= 1048576; omega, fun _ h => by cases h⟩
theorem putF_sm {p : List ByteArray} {t : List S57} {body : ByteArray} {ver : Int} (ht : SmRess t) (hp : SmS p) (hb : body.size <= 1048576) (hv : IntOk ver) : SmRess (putFR t p body ver).1 := by
  unfold putFR
  repeat' split
  all_goals first | exact ht | skip
  . refine ⟨by rw [putAt_length]; omega, fun r hr => ?_⟩
    rcases putAt_mem _ _ _ hr with rfl | hr
    . exact newFile_sm hp hb hv
    . exact ht.2 r hr
  . rename_i hn
    obtain ⟨pre, r, suf, e, f, _⟩ := find_at hn
    have hg : t.getD (findR t p).toNat z57 = r := by rw [f]; exact getD_at _ e
    rw [hg, f, set_at e]
    have hr := ht.2 r (by rw [e]; simp)
    refine ⟨by have := ht.1; rw [e] at this; simpa using this, fun x hx => ?_⟩
    simp only [List.append_assoc, List.cons_append, List.nil_append, List.mem_append, List.mem_cons] at hx
    rcases hx with hx | rfl | hx
    . exact ht.2 x (by rw [e]; simp [hx])
    . exact ⟨hr.1, trivial, hb, hv, hr.2.2.2.2⟩
    . exact ht.2 x (by rw [e]; simp [hx])
theorem mayC_tree {t : List S57} {ps : List (List ByteArray)} {ver : Int} (h : mayC t ps ver = 0) : treeOk t = true := by
  unfold mayC at h
  by_cases c : treeOk t = true
  . exact c
  . rw [if_neg c] at h; omega
theorem specPutF {t : List S57} {p : List ByteArray} {body : ByteArray} {ver : Int} (ht : SmRess t) (hp : SmS p) (hb : body.size <= 1048576) (hv : IntOk ver) : Ev (fun k => spec_PutFileX.f k t p body ver) (putFR t p body ver) := by
  have hp0 := hp.1
  show Ev (fun k => spec_PutFile.f k t p body ver) _
  unfold spec_PutFile.f putFR
  refine Ev.bind (specMay ht hp) ?_
  refine Ev.bind (specFind ht) ?_
  have hc : ∀ c : Int, c ≠ 0 -> Ev (fun k => spec_PutFile.j0 k t p body ver c (findR t p)) (t, c) := fun c h => by
    refine Ev.step (fun k => spec_PutFile.j0.eq_2 ..) ?_
    simp only [if_neg h]
    exact Ev.bind (specCopyAll ht) (Ev.now _)
  by_cases c0 : mayC t [p] ver = 0
  . simp only [c0, if_true]
    refine Ev.bind (specIsColl ht) ?_
    by_cases c1 : isColl t p = true
    . simp only [if_pos c1]; exact hc 405 (by decide)
    . simp only [if_neg c1, specAbove hp0, Option.bind_some]
      refine Ev.bind (specIsColl ht) ?_
      by_cases c3 : isColl t (above p) = true
      . simp only [if_pos c3]
        by_cases c4 : (body.size : Int) > 200
        . simp only [if_pos c4]; exact hc 413 (by decide)
        . simp only [if_neg c4]
          by_cases c5 : findR t p < 0
          . simp only [if_pos c5]
            by_cases c6 : (t.length : Int) >= 12
            . simp only [if_pos c6]; exact hc 507 (by decide)
            . simp only [if_neg c6]
              refine Ev.step (fun k => spec_PutFile.j0.eq_2 ..) ?_
              simp only [if_true, if_pos c5]
              have h1 := specPut (x := newFile p body ver) ht (newFile_sm hp hb hv)
              rw [putS_new (show ∀ r ∈ t, r.f0 ≠ (newFile p body ver).f0 from find_none (p := p) c5)] at h1
              exact Ev.bind h1 (Ev.now _)
          . simp only [if_neg c5]
            obtain ⟨pre, r, suf, e, f, hrp⟩ := find_at c5
            have hg : t.getD (findR t p).toNat z57 = r := by rw [f]; exact getD_at _ e
            have hr := ht.2 r (by rw [e]; simp)
            have hcoll : r.f1 = false := by
              have h2 : rd_T57 t (findR t p) = r := by rw [f]; exact rd_implRes e
              unfold isColl at c1
              rw [h2, decide_eq_true (show 0 <= findR t p by omega), Bool.true_and] at c1
              cases h3 : r.f1 with
              | false => rfl
              | true => rw [h3] at c1; simp at c1
            refine Ev.step (fun k => spec_PutFile.j0.eq_2 ..) ?_
            have h1 := specPut (x := (⟨p, false, body, ver, r.f4⟩ : S57)) ht ⟨hp, trivial, hb, hv, hr.2.2.2.2⟩
            have hord := treeOk_pair (mayC_tree c0)
            have h4 : putS (⟨p, false, body, ver, r.f4⟩ : S57) false t = (pre ++ [(⟨p, false, body, ver, r.f4⟩ : S57)]) ++ suf := by
              rw [e] at hord ⊢
              rw [putS_at (x := (⟨p, false, body, ver, r.f4⟩ : S57)) hrp hord]
              simp
            rw [h4] at h1
            simp only [if_true, if_neg c5, hg]
            rw [f]
            simp only [if_pos (nonneg_at _), if_pos (lt_at e), rd_implRes e, set_at e, hrp, hcoll]
            exact Ev.bind h1 (Ev.now _)
      . simp only [if_neg c3]; exact hc 409 (by decide)
  . simp only [if_neg c0]; exact hc _ c0
end Go.Proofs.Ytbgggcgjijljkaa.L
