-- PRINTED by print.py (a twelfth state) out of the translation. Not trusted: Lean checks it.
import Derived.Test.YtigoeooelfeopaaDoorProg
import Derived.Below
import Derived.Deep.Draws
import Derived.Deep.AppendLies
import Derived.Maps.AppendAt
import Derived.OwnWalk
import Derived.Laws.BytesArg
import Derived.Laws.MakeOwn
import Derived.Laws.OwnMore
import Derived.Deep.OwnRows
import Derived.Tactics
import Derived.Lib.ConvBytes
import Derived.Laws.Slices
import Derived.WalkKit
import Derived.KernelRfl
import Derived.RowKit3
import Derived.Deep.LoopGhost
import Derived.Deep.QuietTactic
import Derived.BigQuiet
import Derived.WideLaws
import Derived.Deep.DeepCutAuto
import Derived.Deep.CutBlock
import Derived.Deep.RegionHeld3
import Derived.Laws.Rows
import Derived.Lib.AppendStr
import Derived.ArgAppend
import Derived.Laws.IdiomCopy
import Derived.OrdersHeld
import Derived.Laws.BitsLemmas
import Derived.RowKit
import Derived.Test.YtigoeooelfeopaaDoorVTagTextG12
import Derived.Test.YtigoeooelfeopaaDoorVTagTextWFour
import Derived.Test.YtigoeooelfeopaaDoorVTagTextWAt
import Derived.Test.YtigoeooelfeopaaDoorVTagTextWEqStruct
import Derived.Test.YtigoeooelfeopaaDoorVTagTextWRepsOne
import Derived.Test.YtigoeooelfeopaaDoorVTagTextWInvWords
import Derived.Test.YtigoeooelfeopaaDoorVTagTextWGuard
import Derived.Laws.Strings
import Derived.Lib.ItoaLen
import Derived.Lib.ItoaMem
namespace Go.Proofs.YtigoeooelfeopaaDoor.Q
open Go.RowKit Go.Proofs.YtigoeooelfeopaaDoorW.PrintWords Go.Proofs.YtigoeooelfeopaaDoorW.PrintLast Go.Proofs.YtigoeooelfeopaaDoorW.PrintMore
attribute [local go_sem] max2_int min2_int max_two min_two max_three min_three max_four min_four   -- for this text's walks alone
set_option linter.unusedVariables false
set_option linter.unusedSimpArgs false
def errW : Option Int → Value
  | none => .nilIface
  | some c => .iface 0 (.int .i64 c)
theorem errW_none : errW none = .nilIface := rfl
theorem errW_some (c : Int) : errW (some c) = .iface 0 (.int .i64 c) := rfl
structure S147 where
  f0 : ByteArray
  f1 : ByteArray
  f2 : ByteArray
def z147 : S147 := ⟨(⟨#[]⟩ : ByteArray), (⟨#[]⟩ : ByteArray), (⟨#[]⟩ : ByteArray)⟩
structure S93 where
  f0 : (List ByteArray)
  f1 : Bool
  f2 : ByteArray
  f3 : Int
  f4 : (List S147)
def z93 : S93 := ⟨([] : List ByteArray), false, (⟨#[]⟩ : ByteArray), (0 : Int), ([] : List S147)⟩
structure S96 where
  f0 : Int
  f1 : (List ByteArray)
  f2 : Bool
  f3 : Bool
  f4 : Int
def z96 : S96 := ⟨(0 : Int), ([] : List ByteArray), false, false, (0 : Int)⟩
structure S103 where
  f0 : Bool
  f1 : Int
  f2 : ByteArray
def z103 : S103 := ⟨false, (0 : Int), (⟨#[]⟩ : ByteArray)⟩
set_option maxHeartbeats 8000000
set_option maxRecDepth 100000
mutual
def spec_NumText.j0 : Nat → Int → Option (ByteArray)
 | 0, _ => none
 | k + 1, x0 => spec_NumText.l0 k x0 (strOfNums (([(wrap64 (48 + (Int.tmod x0 10))) % 256] : List Int)))
def spec_NumText.l0 : Nat → Int → ByteArray → Option (ByteArray)
 | 0, _, _ => none
 | k + 1, x0, x3 => if x0 > 9 then ((some (([(wrap64 (48 + (Int.tmod (wrap64 (Int.tdiv x0 10)) 10))) % 256] : List Int) : List Int)).bind fun y104 => (if (strOfNums y104).size + x3.size ≤ 9223372036854775807 then (spec_NumText.l0 k (wrap64 (Int.tdiv x0 10)) ((strOfNums y104) ++ x3)) else (none))) else (some x3)
end
def spec_NumText.f (k : Nat) (a0 : Int) : Option (ByteArray) := if a0 < 0 then (spec_NumText.j0 k 0) else (spec_NumText.j0 k a0)
theorem spec_NumText.calls (k : Nat) (a0 : Int) (r : ByteArray) (w : World) (h : spec_NumText.f k a0 = some r) :
 Calls Tryd.prog 29 #[.int .i64 a0] w fun e w' => e = .returned (.string r) ∧ Below w.heap.size w w' := by
 have HB := A_ (Below.refl w.heap.size w)
 have H : (if a0 < 0 then (spec_NumText.j0 k 0) else (spec_NumText.j0 k a0)) = some r := h
 clear h
 have HC2 := A_ H
 clear H
 go_enter Tryd.func29, Tryd.ntmps29
 go_upto_if 5 with (fail)
 go_cut [0] (fun v0 wc => ∃ (kq : Nat) (x0_1 : Int), v0 = .int .i64 x0_1 ∧ Aside0 (spec_NumText.j0 kq x0_1 = some r) ∧ Aside0 (kq ≤ k) ∧ Aside0 (Below w.heap.size w wc))
 case first =>
  have H := HC2.out
  clear HC2
  by_cases c3 : a0 < 0
  · rw [if_pos c3] at H
    have c3b0 : decide (a0 < 0) = true := decide_eq_true c3
    clear c3
    (first | rw [c3b0] | (simp only [i64_w, i32_w]; rw [c3b0]) | skip)
    have H' := A_ H
    clear H
    go_wp2
    go_meet
    case rel => exact ⟨_, (0), rs_, H', ⟨by first | omega | exact Nat.le_refl _⟩, ⟨bB_⟩⟩
  rw [if_neg c3] at H
  have c3b0 : decide (a0 < 0) = false := decide_eq_false c3
  clear c3
  (first | rw [c3b0] | (simp only [i64_w, i32_w]; rw [c3b0]) | skip)
  have H' := A_ H
  clear H
  go_wp2
  go_meet
  case rel => exact ⟨_, (a0), rs_, H', ⟨by first | omega | exact Nat.le_refl _⟩, ⟨bB_⟩⟩
 case rest =>
  clear HC2
  try clear c2
  try clear p2
  try clear c3
  try clear c3b0
  obtain ⟨kq, x0_1, rfl, HA, HJ1, HB⟩ := hcut
  cases kq with
  | zero => exact absurd HA.out (by simp [spec_NumText.j0])
  | succ kj1 =>
   have H := HA.out
   clear HA
   simp only [spec_NumText.j0] at H
   obtain ⟨y101, hy101⟩ : ∃ y_ : List Int, y_ = (([(wrap64 (48 + (Int.tmod x0_1 10))) % 256] : List Int)) := ⟨_, rfl⟩
   replace H : (spec_NumText.l0 kj1 x0_1 (strOfNums y101)) = some r := hy_ hy101 H
   have Ny101 := A_ hy101
   clear hy101
   have H' := A_ H
   clear H
   go_wp2_with (first | ((with_reducible refine gd_ (N := 10) rfl ?_); refine Kd.R_lit (Kd.int .u8) _ 5 ?hg (N := 10) ?hd (xs := ([(wrap64 (48 + (Int.tmod x0_1 10))) % 256] : List Int)) (inner := [.int .u8 ((wrap64 (48 + (Int.tmod x0_1 10))) % 256)]) (ok := fun _ => True) (okp := fun _ => True) ?hr ?hp (fun _ hk => hk) trivial (Below.refl _ _) (Nat.le_refl _) (by simp) ?_; (case hd => rfl); (case hg => rfl); (case hr => first | (go_simp; done) | (go_simp; rfl)); (case hp => exact (Reps.one (show Kd.M (Kd.int .u8) _ _ _ ((wrap64 (48 + (Int.tmod x0_1 10))) % 256) [.int .u8 ((wrap64 (48 + (Int.tmod x0_1 10))) % 256)] from rfl) (Reps.none _ _))); intro v102 w4 ho5 hb hg_ hnew_; clear hg_ hnew_; (first | rw [← Ny101.out] at ho5 | (simp only [Int.reduceToNat] at ho5; rw [← Ny101.out] at ho5)); have HO103 := A_ (Kd.R_lower ho5 (below_size bB_)); replace HB := A_ (below_step bB_ hb); clear hb ho5; have hcv6 := own_string (P := Tryd.prog) Tryd.underlying85 Tryd.underlying5 Tryd.underlying9 (Kd.own_of_R HO103.out)))
   go_loopg [0, 3] kj1 (fun kq v0 v3 w' => ∃ (x0_2 : Int) (x3_2 : ByteArray), v0 = .int .i64 x0_2 ∧ v3 = .string x3_2 ∧ Aside0 (spec_NumText.l0 kq x0_2 x3_2 = some r) ∧ Aside0 (kq ≤ kj1) ∧ Aside0 (Below w.heap.size w w'))
   case atStart => exact ⟨(x0_1), (strOfNums y101), rs_, rs_, H', ⟨Nat.le_refl _⟩, ⟨bB_⟩⟩
   case round =>
    clear H'
    try clear c2
    try clear p2
    try clear c3
    try clear c3b0
    try clear p6
    try clear hcv6
    try clear p2
    obtain ⟨x0_2, x3_2, rfl, rfl, HA, HK2, HB⟩ := hrel
    cases gk with
    | zero => exact absurd HA.out (by simp [spec_NumText.l0])
    | succ k2 =>
     have H := HA.out
     clear HA
     simp only [spec_NumText.l0] at H
     by_cases c7 : x0_2 > 9
     rotate_left
     · rw [if_neg c7] at H
       have c7b0 : decide (9 < x0_2) = false := decide_eq_false c7
       clear c7
       obtain rfl := si_ H
       go_wp2
       go_ret
       exact ⟨rr_, bB_⟩
     rw [if_pos c7] at H
     have c7b0 : decide (9 < x0_2) = true := decide_eq_true c7
     clear c7
     obtain ⟨y104, hy104⟩ : ∃ y_ : List Int, y_ = (([(wrap64 (48 + (Int.tmod (wrap64 (Int.tdiv x0_2 10)) 10))) % 256] : List Int)) := ⟨_, rfl⟩
     replace H : (if (strOfNums y104).size + x3_2.size ≤ 9223372036854775807 then (spec_NumText.l0 k2 (wrap64 (Int.tdiv x0_2 10)) ((strOfNums y104) ++ x3_2)) else (none)) = some r := hy_ hy104 H
     have Ny104 := A_ hy104
     clear hy104
     by_cases c8 : (strOfNums y104).size + x3_2.size ≤ 9223372036854775807
     rotate_left
     · exact absurd H (by rw [if_neg c8]; simp)
     rw [if_pos c8] at H
     have c8b0 := eq_true c8
     have c8b1 : decide ((strOfNums y104).size + x3_2.size ≤ 9223372036854775807) = true := decide_eq_true c8
     try have c8b2 : (9223372036854775807 < (strOfNums y104).size + x3_2.size) = False := eq_false (Nat.not_lt.2 c8)
     have H' := A_ H
     clear H
     go_wp2_with (first | ((with_reducible refine gd_ (N := 20) rfl ?_); refine Kd.R_lit (Kd.int .u8) _ 5 ?hg (N := 20) ?hd (xs := ([(wrap64 (48 + (Int.tmod (wrap64 (Int.tdiv x0_2 10)) 10))) % 256] : List Int)) (inner := [.int .u8 ((wrap64 (48 + (Int.tmod (wrap64 (Int.tdiv x0_2 10)) 10))) % 256)]) (ok := fun _ => True) (okp := fun _ => True) ?hr ?hp (fun _ hk => hk) trivial (Below.refl _ _) (Nat.le_refl _) (by simp) ?_; (case hd => rfl); (case hg => rfl); (case hr => first | (go_simp; done) | (go_simp; rfl)); (case hp => exact (Reps.one (show Kd.M (Kd.int .u8) _ _ _ ((wrap64 (48 + (Int.tmod (wrap64 (Int.tdiv x0_2 10)) 10))) % 256) [.int .u8 ((wrap64 (48 + (Int.tmod (wrap64 (Int.tdiv x0_2 10)) 10))) % 256)] from rfl) (Reps.none _ _))); intro v105 w9 ho10 hb hg_ hnew_; clear hg_ hnew_; (first | rw [← Ny104.out] at ho10 | (simp only [Int.reduceToNat] at ho10; rw [← Ny104.out] at ho10)); have HO106 := A_ (Kd.R_lower ho10 (below_size bB_)); replace HB := A_ (below_step bB_ hb); clear hb ho10; have hcv11 := own_string (P := Tryd.prog) Tryd.underlying85 Tryd.underlying5 Tryd.underlying9 (Kd.own_of_R HO106.out)))
     go_roundg k2
     case measure => have := HJ1.out; have := HK2.out; omega
     case rel => exact ⟨(wrap64 (Int.tdiv x0_2 10)), ((strOfNums y104) ++ x3_2), rs_, rs_, H', ⟨by have := HJ1.out; have := HK2.out; omega⟩, ⟨bB_⟩⟩
def spec_TagText.f (k : Nat) (a0 : Int) : Option (ByteArray) := (spec_NumText.f k a0).bind fun t107 => (if 2 + t107.size ≤ 9223372036854775807 then (if ((⟨#[34, 118]⟩ : ByteArray) ++ t107).size + 1 ≤ 9223372036854775807 then (some (((⟨#[34, 118]⟩ : ByteArray) ++ t107) ++ (⟨#[34]⟩ : ByteArray))) else (none)) else (none))
theorem spec_TagText.calls (k : Nat) (a0 : Int) (r : ByteArray) (w : World) (h : spec_TagText.f k a0 = some r) :
 Calls Tryd.prog 8 #[.int .i64 a0] w fun e w' => e = .returned (.string r) ∧ Below w.heap.size w w' := by
 have HB := A_ (Below.refl w.heap.size w)
 have H : ((spec_NumText.f k a0).bind fun t107 => (if 2 + t107.size ≤ 9223372036854775807 then (if ((⟨#[34, 118]⟩ : ByteArray) ++ t107).size + 1 ≤ 9223372036854775807 then (some (((⟨#[34, 118]⟩ : ByteArray) ++ t107) ++ (⟨#[34]⟩ : ByteArray))) else (none)) else (none))) = some r := h
 clear h
 obtain ⟨t107, A2, H⟩ := bo_ H
 (try dsimp only at H)
 by_cases c3 : 2 + t107.size ≤ 9223372036854775807
 rotate_left
 · exact absurd H (by rw [if_neg c3]; simp)
 rw [if_pos c3] at H
 have c3b0 := eq_true c3
 have c3b1 : decide (2 + t107.size ≤ 9223372036854775807) = true := decide_eq_true c3
 try have c3b2 : (9223372036854775807 < 2 + t107.size) = False := eq_false (Nat.not_lt.2 c3)
 by_cases c4 : ((⟨#[34, 118]⟩ : ByteArray) ++ t107).size + 1 ≤ 9223372036854775807
 rotate_left
 · exact absurd H (by rw [if_neg c4]; simp)
 rw [if_pos c4] at H
 have c4b0 := eq_true c4
 have c4b1 : decide (((⟨#[34, 118]⟩ : ByteArray) ++ t107).size + 1 ≤ 9223372036854775807) = true := decide_eq_true c4
 try have c4b2 : (9223372036854775807 < ((⟨#[34, 118]⟩ : ByteArray) ++ t107).size + 1) = False := eq_false (Nat.not_lt.2 c4)
 try have c4b3 : (9223372036854775807 < 2 + t107.size + 1) = False := eq_false (Nat.not_lt.2 (by have h_ := c4; simp only [ByteArray.size_append] at h_; exact h_))
 obtain rfl := si_ H
 go_enter Tryd.func8, Tryd.ntmps8
 go_wp2_with (first | ((with_reducible refine gc_ (f := 29) rfl ?_); refine gL_ (some 4) Tryd.func29 #[.int .i64 a0] ?_; (with_reducible refine (spec_NumText.calls k a0 t107 _ A2.out).mono ?_); rintro e w5 ⟨rfl, hb⟩; refine ⟨_, rfl, ?_⟩; replace HB := A_ (below_step bB_ hb); (try clear hb)))
 go_ret
 exact ⟨rr_, bB_⟩
def impl_TagText.f (a0 : Int) : Option (ByteArray) := (impl_NumText.f a0).bind fun t108 => (if 2 + t108.size ≤ 9223372036854775807 then (if ((⟨#[34, 118]⟩ : ByteArray) ++ t108).size + 1 ≤ 9223372036854775807 then (some (((⟨#[34, 118]⟩ : ByteArray) ++ t108) ++ (⟨#[34]⟩ : ByteArray))) else (none)) else (none))
theorem impl_TagText.calls (a0 : Int) (r : ByteArray) (w : World) (hGT : GT w) (h : impl_TagText.f a0 = some r) :
 Calls Tryd.prog 9 #[.int .i64 a0] w fun e w' => e = .returned (.string r) ∧ Below w.heap.size w w' := by
 have HGT := A_ hGT
 clear hGT
 have HB := A_ (Below.refl w.heap.size w)
 have H : ((impl_NumText.f a0).bind fun t108 => (if 2 + t108.size ≤ 9223372036854775807 then (if ((⟨#[34, 118]⟩ : ByteArray) ++ t108).size + 1 ≤ 9223372036854775807 then (some (((⟨#[34, 118]⟩ : ByteArray) ++ t108) ++ (⟨#[34]⟩ : ByteArray))) else (none)) else (none))) = some r := h
 clear h
 obtain ⟨t108, A2, H⟩ := bo_ H
 (try dsimp only at H)
 by_cases c3 : 2 + t108.size ≤ 9223372036854775807
 rotate_left
 · exact absurd H (by rw [if_neg c3]; simp)
 rw [if_pos c3] at H
 have c3b0 := eq_true c3
 have c3b1 : decide (2 + t108.size ≤ 9223372036854775807) = true := decide_eq_true c3
 try have c3b2 : (9223372036854775807 < 2 + t108.size) = False := eq_false (Nat.not_lt.2 c3)
 by_cases c4 : ((⟨#[34, 118]⟩ : ByteArray) ++ t108).size + 1 ≤ 9223372036854775807
 rotate_left
 · exact absurd H (by rw [if_neg c4]; simp)
 rw [if_pos c4] at H
 have c4b0 := eq_true c4
 have c4b1 : decide (((⟨#[34, 118]⟩ : ByteArray) ++ t108).size + 1 ≤ 9223372036854775807) = true := decide_eq_true c4
 try have c4b2 : (9223372036854775807 < ((⟨#[34, 118]⟩ : ByteArray) ++ t108).size + 1) = False := eq_false (Nat.not_lt.2 c4)
 try have c4b3 : (9223372036854775807 < 2 + t108.size + 1) = False := eq_false (Nat.not_lt.2 (by have h_ := c4; simp only [ByteArray.size_append] at h_; exact h_))
 obtain rfl := si_ H
 go_enter Tryd.func9, Tryd.ntmps9
 go_wp2_with (first | ((with_reducible refine gc_ (f := 30) rfl ?_); refine gL_ (some 4) Tryd.func30 #[.int .i64 a0] ?_; (with_reducible refine (impl_NumText.calls a0 t108 _ ?gT20 A2.out).mono ?_); (case gT20 => exact gT_ HGT.out bB_); rintro e w5 ⟨rfl, hb⟩; refine ⟨_, rfl, ?_⟩; replace HB := A_ (below_step bB_ hb); (try clear hb)))
 go_ret
 exact ⟨rr_, bB_⟩
def laws_FnExactTagText.f (k : Nat) (a0 : Int) : Option (Bool) := (spec_TagText.f k a0).bind fun t109 => ((impl_TagText.f a0).bind fun t110 => (if t110.toList = t109.toList then (some true) else (some false)))
theorem laws_FnExactTagText.calls (k : Nat) (a0 : Int) (r : Bool) (w : World) (hGT : GT w) (h : laws_FnExactTagText.f k a0 = some r) :
 Calls Tryd.prog 3 #[.int .i64 a0] w fun e w' => e = .returned (.bool r) ∧ Below w.heap.size w w' := by
 have HGT := A_ hGT
 clear hGT
 have HB := A_ (Below.refl w.heap.size w)
 have H : ((spec_TagText.f k a0).bind fun t109 => ((impl_TagText.f a0).bind fun t110 => (if t110.toList = t109.toList then (some true) else (some false)))) = some r := h
 clear h
 obtain ⟨t109, A2, H⟩ := bo_ H
 (try dsimp only at H)
 obtain ⟨t110, A3, H⟩ := bo_ H
 (try dsimp only at H)
 by_cases c4 : t110.toList = t109.toList
 rotate_left
 · rw [if_neg c4] at H
   have c4b0 : (t110.toList == t109.toList) = false := beq_eq_false_iff_ne.mpr c4
   have c4b1 : (t110.toList != t109.toList) = true := bne_iff_ne.mpr c4
   obtain rfl := si_ H
   go_enter Tryd.func3, Tryd.ntmps3
   go_wp2_with (first | ((with_reducible refine gc_ (f := 8) rfl ?_); refine gL_ (some 6) Tryd.func8 #[.int .i64 a0] ?_; (with_reducible refine (spec_TagText.calls k a0 t109 _ A2.out).mono ?_); rintro e w7 ⟨rfl, hb⟩; refine ⟨_, rfl, ?_⟩; replace HB := A_ (below_step bB_ hb); (try clear hb)) | ((with_reducible refine gc_ (f := 9) rfl ?_); refine gL_ (some 8) Tryd.func9 #[.int .i64 a0] ?_; (with_reducible refine (impl_TagText.calls a0 t110 _ ?gT22 A3.out).mono ?_); (case gT22 => exact gT_ HGT.out bB_); rintro e w8 ⟨rfl, hb⟩; refine ⟨_, rfl, ?_⟩; replace HB := A_ (below_step bB_ hb); (try clear hb)))
   go_ret
   exact ⟨rr_, bB_⟩
 rw [if_pos c4] at H
 have c4b0 : (t110.toList == t109.toList) = true := beq_iff_eq.mpr c4
 have c4b1 : (t110.toList != t109.toList) = false := bne_eq_false_iff_eq.mpr c4
 clear c4
 obtain rfl := si_ H
 go_enter Tryd.func3, Tryd.ntmps3
 go_wp2_with (first | ((with_reducible refine gc_ (f := 8) rfl ?_); refine gL_ (some 6) Tryd.func8 #[.int .i64 a0] ?_; (with_reducible refine (spec_TagText.calls k a0 t109 _ A2.out).mono ?_); rintro e w5 ⟨rfl, hb⟩; refine ⟨_, rfl, ?_⟩; replace HB := A_ (below_step bB_ hb); (try clear hb)) | ((with_reducible refine gc_ (f := 9) rfl ?_); refine gL_ (some 8) Tryd.func9 #[.int .i64 a0] ?_; (with_reducible refine (impl_TagText.calls a0 t110 _ ?gT21 A3.out).mono ?_); (case gT21 => exact gT_ HGT.out bB_); rintro e w6 ⟨rfl, hb⟩; refine ⟨_, rfl, ?_⟩; replace HB := A_ (below_step bB_ hb); (try clear hb)))
 go_ret
 exact ⟨rr_, bB_⟩
end Go.Proofs.YtigoeooelfeopaaDoor.Q

/- What a reading of a struct says of its cells. No condition. -/
namespace Go.Proofs.YtigoeooelfeopaaDoor.Q
open Go.RowKit Go.ChangeShapes Go.WideShapes Go.Proofs.YtigoeooelfeopaaDoorW.PrintWords Go.Proofs.YtigoeooelfeopaaDoor
set_option linter.unusedVariables false
set_option linter.unusedSimpArgs false
structure S35 where
  f0 : List (S93)
  f1 : List (S96)
  f2 : Int
  f3 : Int
  f4 : List Int
  f5 : List Int
def z35 : S35 := ⟨([] : List (S93)), ([] : List (S96)), (0 : Int), (0 : Int), ([] : List Int), ([] : List Int)⟩
instance : Inhabited S147 := ⟨z147⟩
instance : Inhabited S93 := ⟨z93⟩
instance : Inhabited S96 := ⟨z96⟩
instance : Inhabited S35 := ⟨z35⟩
instance : Inhabited S103 := ⟨z103⟩
end Go.Proofs.YtigoeooelfeopaaDoor.Q

/- Small lemmas for plain laws over rounds: indices as lengths of what was passed, bytes' equality. No condition. -/
set_option linter.unusedSimpArgs false
set_option linter.unusedVariables false
namespace Go.Proofs.YtigoeooelfeopaaDoor.L
open Go.RowKit Go.Proofs.YtigoeooelfeopaaDoorW.PrintWords Go.Proofs.YtigoeooelfeopaaDoorW.PrintLast
theorem wrap_id {x : Int} (h0 : -9223372036854775808 ≤ x) (h1 : x < 9223372036854775808) : wrap64 x = x := by
  unfold wrap64
  omega
section
variable {α : Type} {l pre suf : List α} {a : α}
end
def IntOk (x : Int) : Prop := -9223372036854775808 ≤ x ∧ x < 9223372036854775808
theorem wf_int {x : Int} (h : (Lit.int .i64 x).wf = true) : IntOk x := by
  unfold Lit.wf at h
  rw [Bool.and_eq_true, decide_eq_true_eq, decide_eq_true_eq] at h
  have h1 : IntKind.i64.min = -9223372036854775808 := by decide
  have h2 : IntKind.i64.max = 9223372036854775807 := by decide
  rw [h1, h2] at h
  exact ⟨h.1, by omega⟩
end Go.Proofs.YtigoeooelfeopaaDoor.L

/- Decimal numerals: what the reference's NumText makes is what the library's Itoa makes. No condition. -/
set_option linter.unusedSimpArgs false
set_option linter.unusedVariables false
namespace Go.Proofs.YtigoeooelfeopaaDoor.L
open Go.RowKit Go.Proofs.YtigoeooelfeopaaDoorW.PrintWords Go.Proofs.YtigoeooelfeopaaDoorW.PrintLast Go.Proofs.YtigoeooelfeopaaDoor.Q
theorem ba_of {a : ByteArray} {l : List UInt8} (h : a.data.toList = l) : a = ⟨l.toArray⟩ := by
  cases a with | mk x => congr 1; exact Array.toList_inj.1 (by simpa using h)
theorem app_list (a b : ByteArray) : (a ++ b).data.toList = a.data.toList ++ b.data.toList := by rw [ByteArray.data_append, Array.toList_append]
theorem size_list (a : ByteArray) : a.size = a.data.toList.length := (Array.length_toList (xs := a.data)).symm
theorem decD_step {n : Nat} (h : ¬ n < 10) : Lib.decDigits n = Lib.decDigits (n / 10) ++ [UInt8.ofNat (48 + n % 10)] := by
  rw [Lib.decDigits, dif_neg h]
theorem digit_list {d : Nat} (h : d < 10) : (strOfNums [(wrap64 (48 + (d : Int))) % 256]).data.toList = [UInt8.ofNat (48 + d)] := by
  rw [wrap_id (by omega) (by omega)]
  have e : ((48 + (d : Int)) % 256).toNat = 48 + d := by omega
  simp [strOfNums, e]
theorem numL : ∀ (m n : Nat), n ≤ m → ∀ acc : ByteArray, acc.size + n ≤ 9223372036854775808 → n ≤ 9223372036854775807 →
    ∃ s, Ev (fun k => spec_NumText.l0 k (n : Int) acc) s ∧ s.data.toList = (if n < 10 then [] else Lib.decDigits (n / 10)) ++ acc.data.toList := by
  intro m
  induction m with
  | zero =>
    intro n hn acc ha hi
    obtain rfl : n = 0 := by omega
    refine ⟨acc, Ev.step (fun k => spec_NumText.l0.eq_2 ..) ?_, by simp⟩
    simp only [if_neg (show ¬ ((0 : Nat) : Int) > 9 by omega)]
    exact Ev.now _
  | succ m ih =>
    intro n hn acc ha hi
    by_cases c : n < 10
    · refine ⟨acc, Ev.step (fun k => spec_NumText.l0.eq_2 ..) ?_, by simp [c]⟩
      simp only [if_neg (show ¬ (n : Int) > 9 by omega)]
      exact Ev.now _
    · have hq : Int.tdiv (n : Int) 10 = ((n / 10 : Nat) : Int) := by rw [Int.tdiv_eq_ediv_of_nonneg (by omega)]; omega
      have hw : wrap64 (Int.tdiv (n : Int) 10) = ((n / 10 : Nat) : Int) := by rw [hq]; exact wrap_id (by omega) (by omega)
      have hm : Int.tmod ((n / 10 : Nat) : Int) 10 = ((n / 10 % 10 : Nat) : Int) := by rw [Int.tmod_eq_emod_of_nonneg (by omega)]; omega
      have hd := digit_list (d := n / 10 % 10) (by omega)
      have hs : (strOfNums [(wrap64 (48 + ((n / 10 % 10 : Nat) : Int))) % 256]).size = 1 := by rw [size_list, hd]; rfl
      obtain ⟨s, h1, h2⟩ := ih (n / 10) (by omega) (strOfNums [(wrap64 (48 + ((n / 10 % 10 : Nat) : Int))) % 256] ++ acc) (by rw [ByteArray.size_append, hs]; omega) (by omega)
      refine ⟨s, Ev.step (fun k => spec_NumText.l0.eq_2 ..) ?_, ?_⟩
      · simp only [if_pos (show (n : Int) > 9 by omega), Option.bind_some, hw, hm, hs, if_pos (show 1 + acc.size ≤ 9223372036854775807 by omega)]
        exact h1
      · rw [h2, app_list, hd, if_neg c]
        by_cases c2 : n / 10 < 10
        · rw [if_pos c2, Lib.decDigits_one c2]
          simp [Nat.mod_eq_of_lt c2]
        · rw [if_neg c2, decD_step c2]
          simp
theorem numD (x : Int) (h1 : x ≤ 9223372036854775807) : ∃ s, Ev (fun k => spec_NumText.f k x) s ∧ s.data.toList = Lib.decDigits x.toNat := by
  have key : ∀ n : Nat, n ≤ 9223372036854775807 → ∃ s, Ev (fun k => spec_NumText.j0 k (n : Int)) s ∧ s.data.toList = Lib.decDigits n := by
    intro n hn
    have hm : Int.tmod (n : Int) 10 = ((n % 10 : Nat) : Int) := by rw [Int.tmod_eq_emod_of_nonneg (by omega)]; omega
    have hd := digit_list (d := n % 10) (by omega)
    have hs : (strOfNums [(wrap64 (48 + ((n % 10 : Nat) : Int))) % 256]).size = 1 := by rw [size_list, hd]; rfl
    obtain ⟨s, e1, e2⟩ := numL n n (Nat.le_refl _) (strOfNums [(wrap64 (48 + ((n % 10 : Nat) : Int))) % 256]) (by rw [hs]; omega) hn
    refine ⟨s, Ev.step (fun k => spec_NumText.j0.eq_2 ..) ?_, ?_⟩
    · simp only [hm]; exact e1
    · rw [e2, hd]
      by_cases c : n < 10
      · rw [if_pos c, Lib.decDigits_one c]; simp [Nat.mod_eq_of_lt c]
      · rw [if_neg c, decD_step c]
  unfold spec_NumText.f
  by_cases c : x < 0
  · obtain ⟨s, e1, e2⟩ := key 0 (by omega)
    refine ⟨s, ?_, by rw [e2, show x.toNat = 0 by omega]⟩
    simp only [if_pos c]; exact e1
  · obtain ⟨s, e1, e2⟩ := key x.toNat (by omega)
    refine ⟨s, ?_, e2⟩
    simp only [if_neg c]
    rw [show ((x.toNat : Nat) : Int) = x by omega] at e1
    exact e1
theorem num_len (n : Nat) (h : n ≤ 9223372036854775807) : (Lib.decDigits n).length ≤ 21 := by
  have := Lib.itoa_length_le (n : Int) (by omega) (by omega)
  rwa [Lib.itoa_nonneg] at this
theorem numI (x : Int) (h1 : x ≤ 9223372036854775807) : impl_NumText.f x = some ⟨(Lib.decDigits x.toNat).toArray⟩ := by
  unfold impl_NumText.f strconv_Itoa.f mx
  by_cases c : x < 0
  · rw [if_pos c, if_pos (by omega), show (0 : Int) = ((0 : Nat) : Int) from rfl, Lib.itoa_nonneg, show x.toNat = 0 by omega]
  · rw [if_neg c, if_pos (by omega)]
    rw [show Lib.itoa x = Lib.decDigits x.toNat from by
      have := Lib.itoa_nonneg x.toNat
      rwa [show ((x.toNat : Nat) : Int) = x by omega] at this]
theorem numBoth (x : Int) (h1 : x ≤ 9223372036854775807) : ∃ s, Ev (fun k => spec_NumText.f k x) s ∧ impl_NumText.f x = some s ∧ s.data.toList = Lib.decDigits x.toNat ∧ s.size ≤ 21 := by
  obtain ⟨s, e1, e2⟩ := numD x h1
  exact ⟨s, e1, by rw [numI x h1, ba_of e2], e2, by rw [size_list, e2]; exact num_len _ (by omega)⟩
theorem tagBoth (x : Int) (h1 : x ≤ 9223372036854775807) : ∃ s, Ev (fun k => spec_TagText.f k x) s ∧ impl_TagText.f x = some s ∧ s.data.toList = 34 :: 118 :: (Lib.decDigits x.toNat ++ [34]) ∧ s.size ≤ 24 := by
  obtain ⟨s, e1, e2, e3, e4⟩ := numBoth x h1
  have hs : ((⟨#[34, 118]⟩ : ByteArray) ++ s).size = 2 + s.size := by rw [ByteArray.size_append]; rfl
  refine ⟨((⟨#[34, 118]⟩ : ByteArray) ++ s) ++ (⟨#[34]⟩ : ByteArray), ?_, ?_, ?_, ?_⟩
  · unfold spec_TagText.f
    refine Ev.bind e1 ?_
    simp only [if_pos (show 2 + s.size ≤ 9223372036854775807 by omega), hs, if_pos (show 2 + s.size + 1 ≤ 9223372036854775807 by omega)]
    exact Ev.now _
  · unfold impl_TagText.f
    rw [e2]
    simp only [Option.bind_some, if_pos (show 2 + s.size ≤ 9223372036854775807 by omega), hs, if_pos (show 2 + s.size + 1 ≤ 9223372036854775807 by omega)]
  · rw [app_list, app_list, e3]; rfl
  · rw [ByteArray.size_append, hs]
    have : (⟨#[34]⟩ : ByteArray).size = 1 := rfl
    omega
end Go.Proofs.YtigoeooelfeopaaDoor.L

/- The law FnExactTagText computes true: the program and the reference say the same. No condition. -/
set_option linter.unusedSimpArgs false
set_option linter.unusedVariables false
namespace Go.Proofs.YtigoeooelfeopaaDoor.Pure
open Go.RowKit Go.Proofs.YtigoeooelfeopaaDoorW.PrintWords Go.Proofs.YtigoeooelfeopaaDoorW.PrintLast Go.Proofs.YtigoeooelfeopaaDoor.Q Go.Proofs.YtigoeooelfeopaaDoor.L
theorem FnExactTagText : ∀ (x0 : Int), (fun x : Int => (Lit.int .i64 x).wf = true) x0 → ∃ k, laws_FnExactTagText.f k x0 = some true := by
  intro x0 g0
  obtain ⟨h0, h1⟩ := wf_int g0
  apply Ev.rounds
  unfold laws_FnExactTagText.f
  obtain ⟨s, e1, e2, _, _⟩ := tagBoth x0 (by omega)
  refine Ev.bind e1 ?_
  simp only [e2, Option.bind_some, if_true]
  exact Ev.now _
end Go.Proofs.YtigoeooelfeopaaDoor.Pure
