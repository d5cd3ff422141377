/- Small lemmas for plain laws over rounds: indices as lengths of what was passed, bytes' equality. No condition. -/
import Derived.Laws.Strings
import Derived.Test.YtigoeooelfeopaaWWords
import Derived.Test.YtigoeooelfeopaaWLast
import Derived.Test.YtigoeooelfeopaaWMore
set_option linter.unusedSimpArgs false
set_option linter.unusedVariables false
namespace Go.Proofs.Ytigoeooelfeopaa.L
open Go.RowKit Go.Proofs.YtigoeooelfeopaaW.PrintWords Go.Proofs.YtigoeooelfeopaaW.PrintLast

theorem ba_toList (s : ByteArray) : s.toList = s.data.toList := ByteArray.toList_eq s
theorem ba_inj {a b : ByteArray} (h : a.toList = b.toList) : a = b := by
  rw [ba_toList, ba_toList] at h
  cases a with | mk x => cases b with | mk y => congr 1; exact Array.toList_inj.1 h
theorem ba_eq {a b : ByteArray} : (a.toList = b.toList) = (a = b) := propext ⟨ba_inj, fun h => by rw [h]⟩
theorem maxLen_eq : maxLen = 9223372036854775807 := by decide
theorem wrap_id {x : Int} (h0 : -9223372036854775808 ≤ x) (h1 : x < 9223372036854775808) : wrap64 x = x := by
  unfold wrap64
  omega

section
variable {α : Type} {l pre suf : List α} {a : α}
theorem lt_at (h : l = pre ++ a :: suf) : ((pre.length : Nat) : Int) < (l.length : Int) := by subst h; simp; omega
theorem rd_at (d : α) (h : l = pre ++ a :: suf) : rdOf d l (pre.length : Int) = a := by subst h; simp [rdOf, List.getD_eq_getElem?_getD]
theorem next_at (h : l = pre ++ a :: suf) (hl : l.length ≤ maxLen) : wrap64 ((pre.length : Int) + 1) = ((pre ++ [a]).length : Int) := by
  have : l.length = pre.length + 1 + suf.length := by subst h; simp; omega
  rw [maxLen_eq] at hl
  rw [wrap_id (by omega) (by omega)]
  simp
theorem snoc_at (h : l = pre ++ a :: suf) : l = (pre ++ [a]) ++ suf := by subst h; simp
theorem end_at (h : l = pre ++ []) : ¬ ((pre.length : Nat) : Int) < (l.length : Int) := by subst h; simp
theorem nonneg_at (n : Nat) : (0 : Int) ≤ (n : Int) := Int.natCast_nonneg n
end

end Go.Proofs.Ytigoeooelfeopaa.L
