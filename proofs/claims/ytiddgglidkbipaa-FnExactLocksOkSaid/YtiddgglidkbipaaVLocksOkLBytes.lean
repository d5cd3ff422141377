/- Texts byte by byte: plain texts, small names, as the program and the reference have them. No condition. -/
import Derived.Test.YtiddgglidkbipaaVLocksOkQx11
import Derived.Test.YtiddgglidkbipaaVLocksOkQx12
import Derived.Test.YtiddgglidkbipaaVLocksOkLBase
set_option linter.unusedSimpArgs false
set_option linter.unusedVariables false
namespace Go.Proofs.Ytiddgglidkbipaa.L
open Go.RowKit Go.Proofs.YtiddgglidkbipaaW.PrintWords Go.Proofs.YtiddgglidkbipaaW.PrintLast Go.Proofs.Ytiddgglidkbipaa.Q

abbrev bl (s : ByteArray) : List UInt8 := s.data.toList
theorem bl_len (s : ByteArray) : (bl s).length = s.size := data_length s
section
variable {s : ByteArray} {pre suf : List UInt8} {c : UInt8}
theorem blt_at (h : bl s = pre ++ c :: suf) : ((pre.length : Nat) : Int) < (s.size : Int) := by
  have := bl_len s
  rw [h] at this
  simp at this
  omega
theorem bend_at (h : bl s = pre ++ []) : ¬ ((pre.length : Nat) : Int) < (s.size : Int) := by
  have := bl_len s
  rw [h] at this
  simp at this
  omega
theorem bt_at' (h : bl s = pre ++ c :: suf) : bt s (pre.length : Int) = (c.toNat : Int) := by
  have hlt := blt_at h
  have h2 : pre.length < s.size := by omega
  rw [← bt_at s (pre.length : Int) (by simpa using h2)]
  have h3 : pre.length < (bl s).length := by rw [bl_len]; exact h2
  have h4 : (bl s)[pre.length] = c := by simp [h]
  have h5 : s[pre.length]'h2 = (bl s)[pre.length] := by
    show s.data[pre.length] = _
    simp
  simp only [Int.toNat_natCast, h5, h4]
theorem bnext_at (h : bl s = pre ++ c :: suf) (hs : s.size ≤ maxLen) : wrap64 ((pre.length : Int) + 1) = ((pre ++ [c]).length : Int) := by
  have := blt_at h
  rw [maxLen_eq] at hs
  rw [wrap_id (by omega) (by omega)]
  simp
end
theorem byte_bounds (c : UInt8) : 0 ≤ (c.toNat : Int) ∧ (c.toNat : Int) ≤ 255 := ⟨by omega, by have := c.toNat_lt; omega⟩
theorem wrap_byte (c : UInt8) : wrap64 (c.toNat : Int) = (c.toNat : Int) := wrap_id (by omega) (by have := byte_bounds c; omega)

/-- A byte within bounds. -/
def inB (lo hi : Int) (c : UInt8) : Bool := decide (lo ≤ (c.toNat : Int) ∧ (c.toNat : Int) ≤ hi)
theorem specIn (a b c : Int) : spec_l1In.f a b c = some (decide (b ≤ a ∧ a ≤ c)) := by
  unfold spec_l1In.f
  by_cases h : a ≥ b
  · rw [if_pos h]; simp [show b ≤ a from h]
  · rw [if_neg h]; simp [show ¬ b ≤ a from h]
theorem implIn (a b c : Int) : impl_in.f a b c = some (decide (b ≤ a ∧ a ≤ c)) := by
  unfold impl_in.f
  by_cases h : a ≥ b
  · rw [if_pos h]; simp [show b ≤ a from h]
  · rw [if_neg h]; simp [show ¬ b ≤ a from h]
theorem implIsPlain (c : UInt8) : impl_isPlain.f (c.toNat : Int) = some (inB 32 126 c) := by
  unfold impl_isPlain.f inB
  by_cases h : (c.toNat : Int) ≥ 32
  · rw [if_pos h]; simp only [show (32 : Int) ≤ c.toNat from h, true_and]
  · rw [if_neg h]; simp only [show ¬ (32 : Int) ≤ c.toNat from h, false_and, decide_false]
/-- All bytes are plain. -/
def plainL (l : List UInt8) : Bool := l.all (inB 32 126)
theorem specPlain_loop {s : ByteArray} (hs : s.size ≤ maxLen) : ∀ (suf pre : List UInt8), bl s = pre ++ suf → Ev (fun k => spec_Plain.l0 k s pre.length) (plainL suf) := by
  intro suf
  induction suf with
  | nil =>
    intro pre h
    refine Ev.step (fun k => spec_Plain.l0.eq_2 ..) ?_
    simp only [if_neg (bend_at h)]
    exact Ev.now _
  | cons c suf ih =>
    intro pre h
    refine Ev.step (fun k => spec_Plain.l0.eq_2 ..) ?_
    simp only [if_pos (blt_at h), if_pos (nonneg_at _), bt_at' h, wrap_byte, specIn, Option.bind_some, bnext_at h hs]
    have := ih (pre ++ [c]) (snoc_at h)
    simp only [plainL, List.all_cons, inB] at this ⊢
    by_cases e : (32 : Int) ≤ c.toNat ∧ (c.toNat : Int) ≤ 126
    · simp only [e, and_self, decide_true, if_true, Bool.true_and]
      exact this
    · simp only [e, decide_false, Bool.false_eq_true, if_false, Bool.false_and]
      exact Ev.now _
theorem specPlain {s : ByteArray} (hs : s.size ≤ maxLen) : Ev (fun k => spec_Plain.f k s) (plainL (bl s)) := specPlain_loop hs _ [] rfl
theorem implPlain_loop {s : ByteArray} (hs : s.size ≤ maxLen) : ∀ (suf pre : List UInt8), bl s = pre ++ suf → Ev (fun k => impl_Plain.l0 k s pre.length) (plainL suf) := by
  intro suf
  induction suf with
  | nil =>
    intro pre h
    refine Ev.step (fun k => impl_Plain.l0.eq_2 ..) ?_
    simp only [if_neg (bend_at h)]
    exact Ev.now _
  | cons c suf ih =>
    intro pre h
    refine Ev.step (fun k => impl_Plain.l0.eq_2 ..) ?_
    simp only [if_pos (blt_at h), if_pos (nonneg_at _), bt_at' h, implIsPlain, Option.bind_some, bnext_at h hs]
    have := ih (pre ++ [c]) (snoc_at h)
    simp only [plainL, List.all_cons] at this ⊢
    by_cases e : inB 32 126 c = true
    · simp only [e, if_true, Bool.true_and]
      exact this
    · simp only [e, if_false, Bool.false_and]
      exact Ev.now _
theorem implPlain {s : ByteArray} (hs : s.size ≤ maxLen) : Ev (fun k => impl_Plain.f k s) (plainL (bl s)) := implPlain_loop hs _ [] rfl

end Go.Proofs.Ytiddgglidkbipaa.L
