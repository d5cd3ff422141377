-- PRINTED by print.py (a twelfth state) out of the translation. Not trusted: Lean checks it.
import Derived.Test.YtigoeooelfeopaaDoorProg
import Derived.Below
import Derived.Deep.Draws
import Derived.Deep.AppendLies
import Derived.Maps.AppendAt
import Derived.OwnWalk
import Derived.Laws.BytesArg
import Derived.Laws.MakeOwn
import Derived.Laws.OwnMore
import Derived.Deep.OwnRows
import Derived.Tactics
import Derived.Lib.ConvBytes
import Derived.Laws.Slices
import Derived.WalkKit
import Derived.KernelRfl
import Derived.RowKit3
import Derived.Deep.LoopGhost
import Derived.Deep.QuietTactic
import Derived.BigQuiet
import Derived.WideLaws
import Derived.Deep.DeepCutAuto
import Derived.Deep.CutBlock
import Derived.Deep.RegionHeld3
import Derived.Laws.Rows
import Derived.Lib.AppendStr
import Derived.ArgAppend
import Derived.Laws.IdiomCopy
import Derived.OrdersHeld
import Derived.Laws.BitsLemmas
import Derived.RowKit
import Derived.Test.YtigoeooelfeopaaDoorVNoneOkG12
import Derived.Test.YtigoeooelfeopaaDoorVNoneOkWFour
import Derived.Test.YtigoeooelfeopaaDoorVNoneOkWAt
import Derived.Test.YtigoeooelfeopaaDoorVNoneOkWEqStruct
import Derived.Test.YtigoeooelfeopaaDoorVNoneOkWRepsOne
import Derived.Test.YtigoeooelfeopaaDoorVNoneOkWInvWords
import Derived.Test.YtigoeooelfeopaaDoorVNoneOkWGuard
namespace Go.Proofs.YtigoeooelfeopaaDoor.Q
open Go.RowKit Go.Proofs.YtigoeooelfeopaaDoorW.PrintWords Go.Proofs.YtigoeooelfeopaaDoorW.PrintLast Go.Proofs.YtigoeooelfeopaaDoorW.PrintMore
attribute [local go_sem] max2_int min2_int max_two min_two max_three min_three max_four min_four   -- for this text's walks alone
set_option linter.unusedVariables false
set_option linter.unusedSimpArgs false
def errW : Option Int → Value
  | none => .nilIface
  | some c => .iface 0 (.int .i64 c)
theorem errW_none : errW none = .nilIface := rfl
theorem errW_some (c : Int) : errW (some c) = .iface 0 (.int .i64 c) := rfl
theorem info9 : (Tryd.prog.info? 9).map (fun i => (i.zero, i.size, i.bytes)) = some (some (.string ⟨#[]⟩), 1, 16) := by kernel_rfl
structure S147 where
  f0 : ByteArray
  f1 : ByteArray
  f2 : ByteArray
def z147 : S147 := ⟨(⟨#[]⟩ : ByteArray), (⟨#[]⟩ : ByteArray), (⟨#[]⟩ : ByteArray)⟩
structure S93 where
  f0 : (List ByteArray)
  f1 : Bool
  f2 : ByteArray
  f3 : Int
  f4 : (List S147)
def z93 : S93 := ⟨([] : List ByteArray), false, (⟨#[]⟩ : ByteArray), (0 : Int), ([] : List S147)⟩
structure S96 where
  f0 : Int
  f1 : (List ByteArray)
  f2 : Bool
  f3 : Bool
  f4 : Int
def z96 : S96 := ⟨(0 : Int), ([] : List ByteArray), false, false, (0 : Int)⟩
structure S103 where
  f0 : Bool
  f1 : Int
  f2 : ByteArray
def z103 : S103 := ⟨false, (0 : Int), (⟨#[]⟩ : ByteArray)⟩
set_option maxHeartbeats 8000000
set_option maxRecDepth 100000
def spec_l1Blank.f (a0 : Int) : Option (Bool) := if a0 = 32 then (some true) else (some (a0 == 9))
theorem spec_l1Blank.calls (a0 : Int) (r : Bool) (w : World) (h : spec_l1Blank.f a0 = some r) :
 Calls Tryd.prog 85 #[.int .u8 a0] w fun e w' => e = .returned (.bool r) ∧ Drawn0 w w' := by
 have H : (if a0 = 32 then (some true) else (some (a0 == 9))) = some r := h
 clear h
 by_cases c2 : a0 = 32
 rotate_left
 · rw [if_neg c2] at H
   have c2b0 : (a0 == 32) = false := beq_eq_false_iff_ne.mpr c2
   have c2b1 : (a0 != 32) = true := bne_iff_ne.mpr c2
   obtain rfl := si_ H
   go_enter Tryd.func85, Tryd.ntmps85
   go_wp2
   go_ret
   exact ⟨rs_, dr_⟩
 rw [if_pos c2] at H
 have c2b0 : (a0 == 32) = true := beq_iff_eq.mpr c2
 have c2b1 : (a0 != 32) = false := bne_eq_false_iff_eq.mpr c2
 clear c2
 obtain rfl := si_ H
 go_enter Tryd.func85, Tryd.ntmps85
 go_wp2
 go_ret
 exact ⟨rs_, dr_⟩
mutual
def spec_Trim.j1 : Nat → ByteArray → Option (ByteArray)
 | 0, _ => none
 | k + 1, x0 => spec_Trim.l1 k x0
def spec_Trim.l1 : Nat → ByteArray → Option (ByteArray)
 | 0, _ => none
 | k + 1, x0 => if (x0.size : Int) > 0 then (if 0 ≤ (wrap64 ((x0.size : Int) - 1)) then (if (wrap64 ((x0.size : Int) - 1)) < (x0.size : Int) then ((spec_l1Blank.f (bt x0 (wrap64 ((x0.size : Int) - 1)))).bind fun t112 => (if t112 = true then (if (wrap64 ((x0.size : Int) - 1)) ≤ (x0.size : Int) then (spec_Trim.l1 k (x0.extract 0 ((wrap64 ((x0.size : Int) - 1)) : Int).toNat)) else (none)) else (some x0))) else (none)) else (none)) else (some x0)
def spec_Trim.l0 : Nat → ByteArray → Option (ByteArray)
 | 0, _ => none
 | k + 1, x0 => if (x0.size : Int) > 0 then (if 0 < (x0.size : Int) then ((spec_l1Blank.f (bt x0 0)).bind fun t111 => (if t111 = true then (if 1 ≤ (x0.size : Int) then (spec_Trim.l0 k (x0.extract 1 x0.size)) else (none)) else (spec_Trim.j1 k x0))) else (none)) else (spec_Trim.j1 k x0)
end
def spec_Trim.f (k : Nat) (a0 : ByteArray) : Option (ByteArray) := spec_Trim.l0 k a0
theorem spec_Trim.calls (k : Nat) (a0 : ByteArray) (r : ByteArray) (w : World) (h : spec_Trim.f k a0 = some r) :
 Calls Tryd.prog 59 #[.string a0] w fun e w' => e = .returned (.string r) ∧ Drawn0 w w' := by
 have H : (spec_Trim.l0 k a0) = some r := h
 clear h
 have HC2 := A_ H
 clear H
 go_enter Tryd.func59, Tryd.ntmps59
 go_upto_block 0 with (fail)
 go_cut [0] (fun v0 wc => ∃ (kq : Nat) (x0_1 : ByteArray), v0 = .string x0_1 ∧ Aside0 (spec_Trim.j1 kq x0_1 = some r) ∧ Aside0 (kq ≤ k) ∧ Drawn0 w wc)
 case first =>
  have H := HC2.out
  clear HC2
  have H' := A_ H
  clear H
  go_wp2
  go_loopg [0] k (fun kq v0 w' => ∃ (x0_1 : ByteArray), v0 = .string x0_1 ∧ Aside0 (spec_Trim.l0 kq x0_1 = some r) ∧ Aside0 (kq ≤ k) ∧ Drawn0 w w')
  case atStart => exact ⟨(a0), rs_, H', ⟨Nat.le_refl _⟩, dr_⟩
  case round =>
   clear H'
   try clear p2
   obtain ⟨x0_1, rfl, HA, HK1, ⟨m1, rfl⟩⟩ := hrel
   cases gk with
   | zero => exact absurd HA.out (by simp [spec_Trim.l0])
   | succ k1 =>
    have H := HA.out
    clear HA
    simp only [spec_Trim.l0] at H
    by_cases c3 : (x0_1.size : Int) > 0
    rotate_left
    · rw [if_neg c3] at H
      have c3b0 : decide (0 < (x0_1.size : Int)) = false := decide_eq_false c3
      have c3b1 : decide (0 < x0_1.size) = false := decide_eq_false (by omega)
      clear c3
      (first | rw [c3b0] | (simp only [i64_w, i32_w]; rw [c3b0]) | skip)
      have H' := A_ H
      clear H
      go_wp2
      go_meet
      case rel => exact ⟨_, (x0_1), rs_, H', ⟨by have := HK1.out; first | omega | exact Nat.le_refl _⟩, dr_⟩
    rw [if_pos c3] at H
    have c3b0 : decide (0 < (x0_1.size : Int)) = true := decide_eq_true c3
    have c3b1 : decide (0 < x0_1.size) = true := decide_eq_true (by omega)
    clear c3
    (first | rw [c3b0] | (simp only [i64_w, i32_w]; rw [c3b0]) | skip)
    by_cases c4 : 0 < (x0_1.size : Int)
    rotate_left
    · exact absurd H (by rw [if_neg c4]; simp)
    rw [if_pos c4] at H
    have c4b0 : decide (0 < (x0_1.size : Int)) = true := decide_eq_true c4
    have c4b1 : decide (0 < x0_1.size) = true := decide_eq_true (by omega)
    clear c4
    obtain ⟨t111, A6, H⟩ := bo_ H
    (try dsimp only at H)
    by_cases c7 : t111 = true
    · subst c7
      rw [if_pos rfl] at H
      by_cases c8 : 1 ≤ (x0_1.size : Int)
      rotate_left
      · exact absurd H (by rw [if_neg c8]; simp)
      rw [if_pos c8] at H
      have c8b0 := eq_true c8
      have c8b1 : decide (1 ≤ (x0_1.size : Int)) = true := decide_eq_true c8
      clear c8
      have H' := A_ H
      clear H
      have p5 : 0 ≤ (0 : Int) := (by omega)
      have q5 : 0 < x0_1.size := (by have : (0 : Int) < (x0_1.size : Int) := od_; omega)
      have hx5 : ∀ h : 0 < x0_1.size, ((x0_1[0]'h).toNat : Int) = bt x0_1 0 := bt_at x0_1 0
      clear p5
      have qi5 : (0 < (x0_1.size : Int)) = True := eq_true od_
      replace q5 := eq_true q5
      go_wp2_with (first | (go_at_call 85; (with_reducible refine (spec_l1Blank.calls (bt x0_1 0) true _ A6.out).mono ?_); rintro e w' ⟨rfl, ⟨nd, rfl⟩⟩))
      go_roundg k1
      case measure => have := HK1.out; omega
      case rel => exact ⟨(x0_1.extract 1 x0_1.size), rs_, H', ⟨by have := HK1.out; omega⟩, dr_⟩
    · replace c7 := Bool.eq_false_iff.mpr c7
      subst c7
      rw [if_neg nf_] at H
      have H' := A_ H
      clear H
      have p5 : 0 ≤ (0 : Int) := (by omega)
      have q5 : 0 < x0_1.size := (by have : (0 : Int) < (x0_1.size : Int) := od_; omega)
      have hx5 : ∀ h : 0 < x0_1.size, ((x0_1[0]'h).toNat : Int) = bt x0_1 0 := bt_at x0_1 0
      clear p5
      have qi5 : (0 < (x0_1.size : Int)) = True := eq_true od_
      replace q5 := eq_true q5
      go_wp2_with (first | (go_at_call 85; (with_reducible refine (spec_l1Blank.calls (bt x0_1 0) false _ A6.out).mono ?_); rintro e w' ⟨rfl, ⟨nd, rfl⟩⟩))
      go_meet
      case rel => exact ⟨_, (x0_1), rs_, H', ⟨by have := HK1.out; first | omega | exact Nat.le_refl _⟩, dr_⟩
 case rest =>
  clear HC2
  try clear p2
  try clear c3
  try clear c3b0
  try clear c3b1
  try clear c4
  try clear c4b0
  try clear c4b1
  try clear c5
  try clear p5
  try clear q5
  try clear hx5
  try clear qi5
  try clear c7
  try clear c8
  try clear c8b0
  try clear c8b1
  try clear p2
  try clear p5
  try clear q5
  obtain ⟨kq, x0_1, rfl, HA, HJ1, ⟨mc1, rfl⟩⟩ := hcut
  cases kq with
  | zero => exact absurd HA.out (by simp [spec_Trim.j1])
  | succ kj1 =>
   have H := HA.out
   clear HA
   simp only [spec_Trim.j1] at H
   have H' := A_ H
   clear H
   go_wp2
   go_loopg [0] kj1 (fun kq v0 w' => ∃ (x0_2 : ByteArray), v0 = .string x0_2 ∧ Aside0 (spec_Trim.l1 kq x0_2 = some r) ∧ Aside0 (kq ≤ kj1) ∧ Drawn0 w w')
   case atStart => exact ⟨(x0_1), rs_, H', ⟨Nat.le_refl _⟩, dr_⟩
   case round =>
    clear H'
    try clear c1
    try clear p2
    try clear c3
    try clear c3b0
    try clear c3b1
    try clear c4
    try clear c4b0
    try clear c4b1
    try clear c5
    try clear p5
    try clear q5
    try clear hx5
    try clear qi5
    try clear c7
    try clear c8
    try clear c8b0
    try clear c8b1
    try clear p2
    try clear p5
    try clear q5
    obtain ⟨x0_2, rfl, HA, HK2, ⟨m2, rfl⟩⟩ := hrel
    cases gk with
    | zero => exact absurd HA.out (by simp [spec_Trim.l1])
    | succ k2 =>
     have H := HA.out
     clear HA
     simp only [spec_Trim.l1] at H
     by_cases c9 : (x0_2.size : Int) > 0
     rotate_left
     · rw [if_neg c9] at H
       have c9b0 : decide (0 < (x0_2.size : Int)) = false := decide_eq_false c9
       have c9b1 : decide (0 < x0_2.size) = false := decide_eq_false (by omega)
       clear c9
       obtain rfl := si_ H
       go_wp2
       go_ret
       exact ⟨rs_, dr_⟩
     rw [if_pos c9] at H
     have c9b0 : decide (0 < (x0_2.size : Int)) = true := decide_eq_true c9
     have c9b1 : decide (0 < x0_2.size) = true := decide_eq_true (by omega)
     clear c9
     obtain ⟨ji10, hji10⟩ : ∃ j_ : Int, (wrap64 ((x0_2.size : Int) - 1)) = j_ := ⟨_, rfl⟩
     replace H : (if 0 ≤ (ji10) then (if (ji10) < (x0_2.size : Int) then ((spec_l1Blank.f (bt x0_2 (ji10))).bind fun t112 => (if t112 = true then (if (ji10) ≤ (x0_2.size : Int) then (spec_Trim.l1 k2 (x0_2.extract 0 ((ji10) : Int).toNat)) else (none)) else (some x0_2))) else (none)) else (none)) = some r := by first | (rw [hji10] at H; exact H) | (simp only [hji10] at H ⊢; exact H)
     have hji10w : (IntKind.i64.wrap ((x0_2.size : Int) - 1)) = ji10 := (i64_w _).trans hji10
     by_cases c11 : 0 ≤ (ji10)
     rotate_left
     · exact absurd H (by rw [if_neg c11]; simp)
     rw [if_pos c11] at H
     have c11b0 : decide (0 ≤ (ji10)) = true := decide_eq_true c11
     clear c11
     by_cases c12 : (ji10) < (x0_2.size : Int)
     rotate_left
     · exact absurd H (by rw [if_neg c12]; simp)
     rw [if_pos c12] at H
     have c12b0 : decide ((ji10) < (x0_2.size : Int)) = true := decide_eq_true c12
     clear c12
     obtain ⟨t112, A14, H⟩ := bo_ H
     (try dsimp only at H)
     by_cases c15 : t112 = true
     · subst c15
       rw [if_pos rfl] at H
       have c16b0 := eq_true (od_ : 0 ≤ (ji10))
       by_cases c17 : (ji10) ≤ (x0_2.size : Int)
       rotate_left
       · exact absurd H (by rw [if_neg c17]; simp)
       rw [if_pos c17] at H
       have c17b0 := eq_true c17
       have c17b1 : decide ((ji10) ≤ (x0_2.size : Int)) = true := decide_eq_true c17
       clear c17
       have H' := A_ H
       clear H
       have p13 : 0 ≤ ((ji10) : Int) := od_
       have q13 : (ji10) < (x0_2.size : Int) := od_
       have hx13 := bt_at x0_2 (ji10)
       replace p13 := eq_true p13
       replace q13 := eq_true q13
       go_wp2_with (first | (go_at_call 85; (with_reducible refine (spec_l1Blank.calls (bt x0_2 (ji10)) true _ A14.out).mono ?_); rintro e w' ⟨rfl, ⟨nd, rfl⟩⟩))
       go_roundg k2
       case measure => have := HJ1.out; have := HK2.out; omega
       case rel => exact ⟨(x0_2.extract 0 ((ji10) : Int).toNat), (by first | rfl | (simp; done) | (simp only [← hji10] <;> (first | rfl | simp)) | (simp [*]; done)), H', ⟨by have := HJ1.out; have := HK2.out; omega⟩, dr_⟩
     · replace c15 := Bool.eq_false_iff.mpr c15
       subst c15
       rw [if_neg nf_] at H
       obtain rfl := si_ H
       have p13 : 0 ≤ ((ji10) : Int) := od_
       have q13 : (ji10) < (x0_2.size : Int) := od_
       have hx13 := bt_at x0_2 (ji10)
       replace p13 := eq_true p13
       replace q13 := eq_true q13
       go_wp2_with (first | (go_at_call 85; (with_reducible refine (spec_l1Blank.calls (bt x0_2 (ji10)) false _ A14.out).mono ?_); rintro e w' ⟨rfl, ⟨nd, rfl⟩⟩))
       go_ret
       exact ⟨by first | rfl | (simp; done) | (simp only [← hji10] <;> (first | rfl | simp)) | (simp [*]; done), dr_⟩
set_option maxHeartbeats 8000000
set_option maxRecDepth 100000
mutual
def spec_l9Split.l0 : Nat → ByteArray → List ByteArray → Int → Bool → Int → Option (List ByteArray)
 | 0, _, _, _, _, _ => none
 | k + 1, x0, x3, x4, x5, x6 => if x6 ≤ (x0.size : Int) then (if x6 = (x0.size : Int) then (spec_l9Split.j1 k x0 x3 x4 x5 x6 true) else (if 0 ≤ x6 then (if x6 < (x0.size : Int) then (if (bt x0 x6) = 44 then (spec_l9Split.j1 k x0 x3 x4 x5 x6 (!x5)) else (spec_l9Split.j1 k x0 x3 x4 x5 x6 false)) else (none)) else (none))) else (some x3)
def spec_l9Split.j1 : Nat → ByteArray → List ByteArray → Int → Bool → Int → Bool → Option (List ByteArray)
 | 0, _, _, _, _, _, _ => none
 | k + 1, x0, x3, x4, x5, x6, x27 => if x27 = true then (if 0 ≤ x4 then (if x4 ≤ x6 then (if x6 ≤ (x0.size : Int) then ((spec_Trim.f k (x0.extract (x4 : Int).toNat (x6 : Int).toNat)).bind fun t116 => (if x3.length < 8796093022208 then (spec_l9Split.l0 k x0 (x3 ++ [t116]) (wrap64 (x6 + 1)) x5 (wrap64 (x6 + 1))) else (none))) else (none)) else (none)) else (none)) else (if 0 ≤ x6 then (if x6 < (x0.size : Int) then (if (bt x0 x6) = 34 then (spec_l9Split.l0 k x0 x3 x4 (!x5) (wrap64 (x6 + 1))) else (spec_l9Split.l0 k x0 x3 x4 x5 (wrap64 (x6 + 1)))) else (none)) else (none))
end
def spec_l9Split.f (k : Nat) (a0 : ByteArray) : Option (List ByteArray) := spec_l9Split.l0 k a0 (([] : List ByteArray)) 0 false 0
theorem spec_l9Split.calls (k : Nat) (a0 : ByteArray) (r : List ByteArray) (w : World) (h : spec_l9Split.f k a0 = some r) :
 Calls Tryd.prog 33 #[.string a0] w fun e w' => ∃ v0_ : Value, e = .returned (v0_) ∧ Kd.R Kd.string 9 w' w.heap.size (fun _ => True) v0_ r ∧ Below w.heap.size w w' := by
 have HB := A_ (Below.refl w.heap.size w)
 have H : (spec_l9Split.l0 k a0 (([] : List ByteArray)) 0 false 0) = some r := h
 clear h
 obtain ⟨y113, hy113⟩ : ∃ y_ : List ByteArray, y_ = (([] : List ByteArray)) := ⟨_, rfl⟩
 replace H : (spec_l9Split.l0 k a0 y113 0 false 0) = some r := hy_ hy113 H
 have Ny113 := A_ hy113
 clear hy113
 have H' := A_ H
 clear H
 go_enter Tryd.func33, Tryd.ntmps33
 go_wp2_with (first | ((with_reducible refine gd_ (N := 7) rfl ?_); refine Kd.R_lit Kd.string _ 9 ?hg (N := 7) ?hd (xs := ([] : List ByteArray)) (inner := []) (ok := fun _ => True) (okp := fun _ => True) ?hr ?hp (fun _ hk => hk) trivial (Below.refl _ _) (Nat.le_refl _) (by simp) ?_; (case hd => rfl); (case hg => rfl); (case hr => first | (go_simp; done) | (go_simp; rfl)); (case hp => exact (Reps.none _ _)); intro v114 w2 ho3 hb hg_ hnew_; clear hg_ hnew_; (first | rw [← Ny113.out] at ho3 | (simp only [Int.reduceToNat] at ho3; rw [← Ny113.out] at ho3)); have HO115 := A_ (Kd.R_lower ho3 (below_size bB_)); replace HB := A_ (below_step bB_ hb); clear hb ho3))
 go_loopg [3, 4, 5, 6] k (fun kq v3 v4 v5 v6 w' => ∃ (x3_1 : List ByteArray) (x4_1 : Int) (x5_1 : Bool) (x6_1 : Int), v4 = .int .i64 x4_1 ∧ v5 = .bool x5_1 ∧ v6 = .int .i64 x6_1 ∧ Aside0 (spec_l9Split.l0 kq a0 x3_1 x4_1 x5_1 x6_1 = some r) ∧ Aside0 (kq ≤ k) ∧ Aside0 (Kd.R Kd.string 9 w' w.heap.size (fun _ => True) v3 x3_1) ∧ Aside0 (Below w.heap.size w w'))
 case atStart => exact ⟨(y113), (0), (false), (0), rs_, rs_, rs_, H', ⟨Nat.le_refl _⟩, ⟨vR_ HO115.out⟩, ⟨bB_⟩⟩
 case round =>
  clear H'
  try clear p2
  try clear c3
  obtain ⟨x3_1, x4_1, x5_1, x6_1, rfl, rfl, rfl, HA, HK1, HO_3, HB⟩ := hrel
  cases gk with
  | zero => exact absurd HA.out (by simp [spec_l9Split.l0])
  | succ k1 =>
   have H := HA.out
   clear HA
   simp only [spec_l9Split.l0] at H
   by_cases c4 : x6_1 ≤ (a0.size : Int)
   rotate_left
   · rw [if_neg c4] at H
     have c4b0 : decide (x6_1 ≤ (a0.size : Int)) = false := decide_eq_false c4
     clear c4
     obtain rfl := si_ H
     go_wp2
     go_ret
     exact ⟨_, rr_, by (with_reducible repeat (first | apply Kd.R_alloc | apply Kd.R_drewN | apply Kd.R_drew)); exact HO_3.out, bB_⟩
   rw [if_pos c4] at H
   have c4b0 : decide (x6_1 ≤ (a0.size : Int)) = true := decide_eq_true c4
   clear c4
   have HC5 := A_ H
   clear H
   go_upto_region 7 with (fail)
   go_cut [27] (fun v27 wc => ∃ (kq : Nat) (x27_4 : Bool), v27 = .bool x27_4 ∧ Aside0 (spec_l9Split.j1 kq a0 x3_1 x4_1 x5_1 x6_1 x27_4 = some r) ∧ Aside0 (kq ≤ k1) ∧ Aside0 (Kd.R Kd.string 9 wc w.heap.size (fun _ => True) u3 x3_1) ∧ Aside0 (Below w.heap.size w wc))
   case first =>
    have H := HC5.out
    clear HC5
    by_cases c6 : x6_1 = (a0.size : Int)
    · rw [if_pos c6] at H
      have c6b0 : (x6_1 == (a0.size : Int)) = true := beq_iff_eq.mpr c6
      have c6b1 : (x6_1 != (a0.size : Int)) = false := bne_eq_false_iff_eq.mpr c6
      clear c6
      (first | rw [c6b0] | (simp only [i64_w, i32_w]; rw [c6b0]) | skip)
      have H' := A_ H
      clear H
      go_wp2
      go_meet
      case rel => exact ⟨_, (true), rs_, H', ⟨by have := HK1.out; first | omega | exact Nat.le_refl _⟩, ⟨vR_ HO_3.out⟩, ⟨bB_⟩⟩
    rw [if_neg c6] at H
    have c6b0 : (x6_1 == (a0.size : Int)) = false := beq_eq_false_iff_ne.mpr c6
    have c6b1 : (x6_1 != (a0.size : Int)) = true := bne_iff_ne.mpr c6
    (first | rw [c6b0] | (simp only [i64_w, i32_w]; rw [c6b0]) | skip)
    by_cases c7 : 0 ≤ x6_1
    rotate_left
    · exact absurd H (by rw [if_neg c7]; simp)
    rw [if_pos c7] at H
    have c7b0 : decide (0 ≤ x6_1) = true := decide_eq_true c7
    clear c7
    by_cases c8 : x6_1 < (a0.size : Int)
    rotate_left
    · exact absurd H (by rw [if_neg c8]; simp)
    rw [if_pos c8] at H
    have c8b0 : decide (x6_1 < (a0.size : Int)) = true := decide_eq_true c8
    clear c8
    by_cases c10 : (bt a0 x6_1) = 44
    rotate_left
    · rw [if_neg c10] at H
      have c10b0 : ((bt a0 x6_1) == 44) = false := beq_eq_false_iff_ne.mpr c10
      have c10b1 : ((bt a0 x6_1) != 44) = true := bne_iff_ne.mpr c10
      have H' := A_ H
      clear H
      have p9 : 0 ≤ (x6_1 : Int) := od_
      have q9 : x6_1 < (a0.size : Int) := od_
      have hx9 := bt_at a0 x6_1
      replace p9 := eq_true p9
      replace q9 := eq_true q9
      go_wp2
      go_meet
      case rel => exact ⟨_, (false), rs_, H', ⟨by have := HK1.out; first | omega | exact Nat.le_refl _⟩, ⟨vR_ HO_3.out⟩, ⟨bB_⟩⟩
    rw [if_pos c10] at H
    have c10b0 : ((bt a0 x6_1) == 44) = true := beq_iff_eq.mpr c10
    have c10b1 : ((bt a0 x6_1) != 44) = false := bne_eq_false_iff_eq.mpr c10
    clear c10
    have H' := A_ H
    clear H
    have p9 : 0 ≤ (x6_1 : Int) := od_
    have q9 : x6_1 < (a0.size : Int) := od_
    have hx9 := bt_at a0 x6_1
    replace p9 := eq_true p9
    replace q9 := eq_true q9
    go_wp2
    go_meet
    case rel => exact ⟨_, (!x5_1), rs_, H', ⟨by have := HK1.out; first | omega | exact Nat.le_refl _⟩, ⟨vR_ HO_3.out⟩, ⟨bB_⟩⟩
   case rest =>
    clear HC5
    try clear c1
    try clear p2
    try clear c3
    try clear c4
    try clear c4b0
    try clear c6
    try clear c6b0
    try clear c6b1
    try clear c7
    try clear c7b0
    try clear c8
    try clear c8b0
    try clear p9
    try clear q9
    try clear hx9
    try clear c10
    try clear c10b0
    try clear c10b1
    try clear p2
    try clear p9
    try clear q9
    obtain ⟨kq, x27_4, rfl, HA, HJ4, HO_3, HB⟩ := hcut
    cases kq with
    | zero => exact absurd HA.out (by simp [spec_l9Split.j1])
    | succ kj4 =>
     have H := HA.out
     clear HA
     simp only [spec_l9Split.j1] at H
     by_cases c11 : x27_4 = true
     · subst c11
       rw [if_pos rfl] at H
       by_cases c12 : 0 ≤ x4_1
       rotate_left
       · exact absurd H (by rw [if_neg c12]; simp)
       rw [if_pos c12] at H
       have c12b0 := eq_true c12
       have c12b1 : decide (0 ≤ x4_1) = true := decide_eq_true c12
       clear c12
       by_cases c13 : x4_1 ≤ x6_1
       rotate_left
       · exact absurd H (by rw [if_neg c13]; simp)
       rw [if_pos c13] at H
       have c13b0 := eq_true c13
       have c13b1 : decide (x4_1 ≤ x6_1) = true := decide_eq_true c13
       clear c13
       by_cases c14 : x6_1 ≤ (a0.size : Int)
       rotate_left
       · exact absurd H (by rw [if_neg c14]; simp)
       rw [if_pos c14] at H
       have c14b0 := eq_true c14
       have c14b1 : decide (x6_1 ≤ (a0.size : Int)) = true := decide_eq_true c14
       clear c14
       obtain ⟨t116, A15, H⟩ := bo_ H
       (try dsimp only at H)
       by_cases c16 : x3_1.length < 8796093022208
       rotate_left
       · exact absurd H (by rw [if_neg c16]; simp)
       rw [if_pos c16] at H
       have LMc16 := A_ c16
       clear c16
       obtain ⟨y117, hy117⟩ : ∃ y_ : List ByteArray, y_ = (x3_1 ++ [t116]) := ⟨_, rfl⟩
       replace H : (spec_l9Split.l0 kj4 a0 y117 (wrap64 (x6_1 + 1)) x5_1 (wrap64 (x6_1 + 1))) = some r := hy_ hy117 H
       have Ny117 := A_ hy117
       clear hy117
       have H' := A_ H
       clear H
       go_wp2_with (first | ((with_reducible refine gc_ (f := 59) rfl ?_); refine gL_ (some 33) Tryd.func59 #[.string (a0.extract (x4_1 : Int).toNat (x6_1 : Int).toNat)] ?_; (with_reducible refine (spec_Trim.calls kj4 (a0.extract (x4_1 : Int).toNat (x6_1 : Int).toNat) t116 _ A15.out).mono ?_); rintro e w' ⟨rfl, ⟨nd, rfl⟩⟩; refine ⟨_, rfl, ?_⟩) | ((with_reducible refine gate_builtin (b := .append) (xs := #[.tmp 28, .tmp 34]) rfl ?_); at_builtin; refine Kd.R_append Kd.string (w0 := w) w.heap.size rfl (.tmp 28) (.tmp 34) 25 9 (.string ⟨#[]⟩) 16 rfl Tryd.underlying25 info9 rfl (by decide) (by omega) u3 x3_1 t116 [.string t116] (fun _ => True) (fun _ => False) rfl rfl ?aP (fun _ hk => hk.elim) ?aF ?aO ?aB ?aS ?aL ?_; (case aP => exact rfl); (case aB => exact bB_); (case aF => exact (fun _ _ => trivial)); (case aO => exact (vR_ HO_3.out)); (case aS => exact (below_size bB_)); (case aL => have := LMc16.out; omega); intro v118 w17 ho hb hg hat; rw [← Ny117.out] at ho; replace HB := A_ (hb); have HO119 := A_ (ho); clear HO_3; clear ho hb hg hat))
       go_roundg kj4
       case measure => have := HK1.out; have := HJ4.out; omega
       case rel => exact ⟨(y117), (wrap64 (x6_1 + 1)), (x5_1), (wrap64 (x6_1 + 1)), rs_, rs_, rs_, H', ⟨by have := HK1.out; have := HJ4.out; omega⟩, ⟨vR_ HO119.out⟩, ⟨bB_⟩⟩
     · replace c11 := Bool.eq_false_iff.mpr c11
       subst c11
       rw [if_neg nf_] at H
       by_cases c18 : 0 ≤ x6_1
       rotate_left
       · exact absurd H (by rw [if_neg c18]; simp)
       rw [if_pos c18] at H
       have c18b0 : decide (0 ≤ x6_1) = true := decide_eq_true c18
       clear c18
       by_cases c19 : x6_1 < (a0.size : Int)
       rotate_left
       · exact absurd H (by rw [if_neg c19]; simp)
       rw [if_pos c19] at H
       have c19b0 : decide (x6_1 < (a0.size : Int)) = true := decide_eq_true c19
       clear c19
       by_cases c21 : (bt a0 x6_1) = 34
       rotate_left
       · rw [if_neg c21] at H
         have c21b0 : ((bt a0 x6_1) == 34) = false := beq_eq_false_iff_ne.mpr c21
         have c21b1 : ((bt a0 x6_1) != 34) = true := bne_iff_ne.mpr c21
         have H' := A_ H
         clear H
         have p20 : 0 ≤ (x6_1 : Int) := od_
         have q20 : x6_1 < (a0.size : Int) := od_
         have hx20 := bt_at a0 x6_1
         replace p20 := eq_true p20
         replace q20 := eq_true q20
         go_wp2
         go_roundg kj4
         case measure => have := HK1.out; have := HJ4.out; omega
         case rel => exact ⟨(x3_1), (x4_1), (x5_1), (wrap64 (x6_1 + 1)), rs_, rs_, rs_, H', ⟨by have := HK1.out; have := HJ4.out; omega⟩, ⟨vR_ HO_3.out⟩, ⟨bB_⟩⟩
       rw [if_pos c21] at H
       have c21b0 : ((bt a0 x6_1) == 34) = true := beq_iff_eq.mpr c21
       have c21b1 : ((bt a0 x6_1) != 34) = false := bne_eq_false_iff_eq.mpr c21
       clear c21
       have H' := A_ H
       clear H
       have p20 : 0 ≤ (x6_1 : Int) := od_
       have q20 : x6_1 < (a0.size : Int) := od_
       have hx20 := bt_at a0 x6_1
       replace p20 := eq_true p20
       replace q20 := eq_true q20
       go_wp2
       go_roundg kj4
       case measure => have := HK1.out; have := HJ4.out; omega
       case rel => exact ⟨(x3_1), (x4_1), (!x5_1), (wrap64 (x6_1 + 1)), rs_, rs_, rs_, H', ⟨by have := HK1.out; have := HJ4.out; omega⟩, ⟨vR_ HO_3.out⟩, ⟨bB_⟩⟩
def spec_l1In.f (a0 : Int) (a1 : Int) (a2 : Int) : Option (Bool) := if a0 ≥ a1 then (some (decide (a0 ≤ a2))) else (some false)
theorem spec_l1In.calls (a0 : Int) (a1 : Int) (a2 : Int) (r : Bool) (w : World) (h : spec_l1In.f a0 a1 a2 = some r) :
 Calls Tryd.prog 86 #[.int .i64 a0, .int .i64 a1, .int .i64 a2] w fun e w' => e = .returned (.bool r) ∧ Drawn0 w w' := by
 have H : (if a0 ≥ a1 then (some (decide (a0 ≤ a2))) else (some false)) = some r := h
 clear h
 by_cases c4 : a0 ≥ a1
 · rw [if_pos c4] at H
   have c4b0 : decide (a1 ≤ a0) = true := decide_eq_true c4
   clear c4
   obtain rfl := si_ H
   go_enter Tryd.func86, Tryd.ntmps86
   go_wp2
   go_ret
   exact ⟨rs_, dr_⟩
 rw [if_neg c4] at H
 have c4b0 : decide (a1 ≤ a0) = false := decide_eq_false c4
 clear c4
 obtain rfl := si_ H
 go_enter Tryd.func86, Tryd.ntmps86
 go_wp2
 go_ret
 exact ⟨rs_, dr_⟩
def spec_Plain.l0 : Nat → ByteArray → Int → Option (Bool)
 | 0, _, _ => none
 | k + 1, x0, x3 => if x3 < (x0.size : Int) then (if 0 ≤ x3 then ((spec_l1In.f (wrap64 (bt x0 x3)) 32 126).bind fun t120 => (if t120 = true then (spec_Plain.l0 k x0 (wrap64 (x3 + 1))) else (some false))) else (none)) else (some true)
def spec_Plain.f (k : Nat) (a0 : ByteArray) : Option (Bool) := spec_Plain.l0 k a0 0
theorem spec_Plain.calls (k : Nat) (a0 : ByteArray) (r : Bool) (w : World) (h : spec_Plain.f k a0 = some r) :
 Calls Tryd.prog 60 #[.string a0] w fun e w' => e = .returned (.bool r) ∧ Drawn0 w w' := by
 have H : (spec_Plain.l0 k a0 0) = some r := h
 clear h
 have H' := A_ H
 clear H
 go_enter Tryd.func60, Tryd.ntmps60
 go_wp2
 go_loopg [3] k (fun kq v3 w' => ∃ (x3_1 : Int), v3 = .int .i64 x3_1 ∧ Aside0 (spec_Plain.l0 kq a0 x3_1 = some r) ∧ Aside0 (kq ≤ k) ∧ Drawn0 w w')
 case atStart => exact ⟨(0), rs_, H', ⟨Nat.le_refl _⟩, dr_⟩
 case round =>
  clear H'
  obtain ⟨x3_1, rfl, HA, HK1, ⟨m1, rfl⟩⟩ := hrel
  cases gk with
  | zero => exact absurd HA.out (by simp [spec_Plain.l0])
  | succ k1 =>
   have H := HA.out
   clear HA
   simp only [spec_Plain.l0] at H
   by_cases c2 : x3_1 < (a0.size : Int)
   rotate_left
   · rw [if_neg c2] at H
     have c2b0 : decide (x3_1 < (a0.size : Int)) = false := decide_eq_false c2
     clear c2
     obtain rfl := si_ H
     go_wp2
     go_ret
     exact ⟨rs_, dr_⟩
   rw [if_pos c2] at H
   have c2b0 : decide (x3_1 < (a0.size : Int)) = true := decide_eq_true c2
   clear c2
   by_cases c3 : 0 ≤ x3_1
   rotate_left
   · exact absurd H (by rw [if_neg c3]; simp)
   rw [if_pos c3] at H
   have c3b0 : decide (0 ≤ x3_1) = true := decide_eq_true c3
   clear c3
   obtain ⟨t120, A5, H⟩ := bo_ H
   (try dsimp only at H)
   by_cases c6 : t120 = true
   · subst c6
     rw [if_pos rfl] at H
     have H' := A_ H
     clear H
     have p4 : 0 ≤ (x3_1 : Int) := od_
     have q4 : x3_1 < (a0.size : Int) := od_
     have hx4 := bt_at a0 x3_1
     replace p4 := eq_true p4
     replace q4 := eq_true q4
     go_wp2_with (first | ((with_reducible refine gc_ (f := 86) rfl ?_); refine gL_ (some 14) Tryd.func86 #[.int .i64 (wrap64 (bt a0 x3_1)), .int .i64 32, .int .i64 126] ?_; (with_reducible refine (spec_l1In.calls (wrap64 (bt a0 x3_1)) 32 126 true _ A5.out).mono ?_); rintro e w' ⟨rfl, ⟨nd, rfl⟩⟩; refine ⟨_, rfl, ?_⟩))
     go_roundg k1
     case measure => have := HK1.out; omega
     case rel => exact ⟨(wrap64 (x3_1 + 1)), rs_, H', ⟨by have := HK1.out; omega⟩, dr_⟩
   · replace c6 := Bool.eq_false_iff.mpr c6
     subst c6
     rw [if_neg nf_] at H
     obtain rfl := si_ H
     have p4 : 0 ≤ (x3_1 : Int) := od_
     have q4 : x3_1 < (a0.size : Int) := od_
     have hx4 := bt_at a0 x3_1
     replace p4 := eq_true p4
     replace q4 := eq_true q4
     go_wp2_with (first | ((with_reducible refine gc_ (f := 86) rfl ?_); refine gL_ (some 14) Tryd.func86 #[.int .i64 (wrap64 (bt a0 x3_1)), .int .i64 32, .int .i64 126] ?_; (with_reducible refine (spec_l1In.calls (wrap64 (bt a0 x3_1)) 32 126 false _ A5.out).mono ?_); rintro e w' ⟨rfl, ⟨nd, rfl⟩⟩; refine ⟨_, rfl, ?_⟩))
     go_ret
     exact ⟨rs_, dr_⟩
mutual
def spec_l9Tag.j0 : Nat → ByteArray → Bool → Option (Bool)
 | 0, _, _ => none
 | k + 1, x0, x29 => if x29 = true then (some false) else (spec_l9Tag.l0 k x0 1)
def spec_l9Tag.l0 : Nat → ByteArray → Int → Option (Bool)
 | 0, _, _ => none
 | k + 1, x0, x3 => if x3 < (wrap64 ((x0.size : Int) - 1)) then (if 0 ≤ x3 then (if x3 < (x0.size : Int) then (if (bt x0 x3) = 34 then (some false) else (spec_l9Tag.l0 k x0 (wrap64 (x3 + 1)))) else (none)) else (none)) else (some true)
end
def spec_l9Tag.f (k : Nat) (a0 : ByteArray) : Option (Bool) := if (a0.size : Int) < 2 then (spec_l9Tag.j0 k a0 true) else (if 0 < (a0.size : Int) then (if (bt a0 0) = 34 then (if 0 ≤ (wrap64 ((a0.size : Int) - 1)) then (if (wrap64 ((a0.size : Int) - 1)) < (a0.size : Int) then (if (bt a0 (wrap64 ((a0.size : Int) - 1))) = 34 then (if (a0.size : Int) > 12 then (spec_l9Tag.j0 k a0 true) else ((spec_Plain.f k a0).bind fun t121 => (spec_l9Tag.j0 k a0 (!t121)))) else (spec_l9Tag.j0 k a0 true)) else (none)) else (none)) else (spec_l9Tag.j0 k a0 true)) else (none))
theorem spec_l9Tag.calls (k : Nat) (a0 : ByteArray) (r : Bool) (w : World) (h : spec_l9Tag.f k a0 = some r) :
 Calls Tryd.prog 34 #[.string a0] w fun e w' => e = .returned (.bool r) ∧ Drawn0 w w' := by
 have H : (if (a0.size : Int) < 2 then (spec_l9Tag.j0 k a0 true) else (if 0 < (a0.size : Int) then (if (bt a0 0) = 34 then (if 0 ≤ (wrap64 ((a0.size : Int) - 1)) then (if (wrap64 ((a0.size : Int) - 1)) < (a0.size : Int) then (if (bt a0 (wrap64 ((a0.size : Int) - 1))) = 34 then (if (a0.size : Int) > 12 then (spec_l9Tag.j0 k a0 true) else ((spec_Plain.f k a0).bind fun t121 => (spec_l9Tag.j0 k a0 (!t121)))) else (spec_l9Tag.j0 k a0 true)) else (none)) else (none)) else (spec_l9Tag.j0 k a0 true)) else (none))) = some r := h
 clear h
 have HC2 := A_ H
 clear H
 go_enter Tryd.func34, Tryd.ntmps34
 go_upto_region 1 with (fail)
 go_cut [29] (fun v29 wc => ∃ (kq : Nat) (x29_1 : Bool), v29 = .bool x29_1 ∧ Aside0 (spec_l9Tag.j0 kq a0 x29_1 = some r) ∧ Aside0 (kq ≤ k) ∧ Drawn0 w wc)
 case first =>
  have H := HC2.out
  clear HC2
  by_cases c3 : (a0.size : Int) < 2
  · rw [if_pos c3] at H
    have c3b0 : decide ((a0.size : Int) < 2) = true := decide_eq_true c3
    have c3b1 : decide (a0.size < 2) = true := decide_eq_true (by omega)
    clear c3
    (first | rw [c3b0] | (simp only [i64_w, i32_w]; rw [c3b0]) | skip)
    have H' := A_ H
    clear H
    go_wp2
    go_meet
    case rel => exact ⟨_, (true), rs_, H', ⟨by first | omega | exact Nat.le_refl _⟩, dr_⟩
  rw [if_neg c3] at H
  have c3b0 : decide ((a0.size : Int) < 2) = false := decide_eq_false c3
  have c3b1 : decide (a0.size < 2) = false := decide_eq_false (by omega)
  clear c3
  (first | rw [c3b0] | (simp only [i64_w, i32_w]; rw [c3b0]) | skip)
  by_cases c4 : 0 < (a0.size : Int)
  rotate_left
  · exact absurd H (by rw [if_neg c4]; simp)
  rw [if_pos c4] at H
  have c4b0 : decide (0 < (a0.size : Int)) = true := decide_eq_true c4
  have c4b1 : decide (0 < a0.size) = true := decide_eq_true (by omega)
  clear c4
  by_cases c6 : (bt a0 0) = 34
  rotate_left
  · rw [if_neg c6] at H
    have c6b0 : ((bt a0 0) == 34) = false := beq_eq_false_iff_ne.mpr c6
    have c6b1 : ((bt a0 0) != 34) = true := bne_iff_ne.mpr c6
    have H' := A_ H
    clear H
    have p5 : 0 ≤ (0 : Int) := (by omega)
    have q5 : 0 < a0.size := (by have : (0 : Int) < (a0.size : Int) := od_; omega)
    have hx5 : ∀ h : 0 < a0.size, ((a0[0]'h).toNat : Int) = bt a0 0 := bt_at a0 0
    clear p5
    have qi5 : (0 < (a0.size : Int)) = True := eq_true od_
    replace q5 := eq_true q5
    go_wp2
    go_meet
    case rel => exact ⟨_, (true), rs_, H', ⟨by first | omega | exact Nat.le_refl _⟩, dr_⟩
  rw [if_pos c6] at H
  have c6b0 : ((bt a0 0) == 34) = true := beq_iff_eq.mpr c6
  have c6b1 : ((bt a0 0) != 34) = false := bne_eq_false_iff_eq.mpr c6
  clear c6
  obtain ⟨ji7, hji7⟩ : ∃ j_ : Int, (wrap64 ((a0.size : Int) - 1)) = j_ := ⟨_, rfl⟩
  replace H : (if 0 ≤ (ji7) then (if (ji7) < (a0.size : Int) then (if (bt a0 (ji7)) = 34 then (if (a0.size : Int) > 12 then (spec_l9Tag.j0 k a0 true) else ((spec_Plain.f k a0).bind fun t121 => (spec_l9Tag.j0 k a0 (!t121)))) else (spec_l9Tag.j0 k a0 true)) else (none)) else (none)) = some r := by first | (rw [hji7] at H; exact H) | (simp only [hji7] at H ⊢; exact H)
  have hji7w : (IntKind.i64.wrap ((a0.size : Int) - 1)) = ji7 := (i64_w _).trans hji7
  by_cases c8 : 0 ≤ (ji7)
  rotate_left
  · exact absurd H (by rw [if_neg c8]; simp)
  rw [if_pos c8] at H
  have c8b0 : decide (0 ≤ (ji7)) = true := decide_eq_true c8
  clear c8
  by_cases c9 : (ji7) < (a0.size : Int)
  rotate_left
  · exact absurd H (by rw [if_neg c9]; simp)
  rw [if_pos c9] at H
  have c9b0 : decide ((ji7) < (a0.size : Int)) = true := decide_eq_true c9
  clear c9
  by_cases c11 : (bt a0 (ji7)) = 34
  rotate_left
  · rw [if_neg c11] at H
    have c11b0 : ((bt a0 (ji7)) == 34) = false := beq_eq_false_iff_ne.mpr c11
    have c11b1 : ((bt a0 (ji7)) != 34) = true := bne_iff_ne.mpr c11
    have H' := A_ H
    clear H
    have p5 : 0 ≤ (0 : Int) := (by omega)
    have q5 : 0 < a0.size := (by have : (0 : Int) < (a0.size : Int) := od_; omega)
    have hx5 : ∀ h : 0 < a0.size, ((a0[0]'h).toNat : Int) = bt a0 0 := bt_at a0 0
    clear p5
    have qi5 : (0 < (a0.size : Int)) = True := eq_true od_
    replace q5 := eq_true q5
    have p10 : 0 ≤ ((ji7) : Int) := od_
    have q10 : (ji7) < (a0.size : Int) := od_
    have hx10 := bt_at a0 (ji7)
    replace p10 := eq_true p10
    replace q10 := eq_true q10
    go_wp2
    go_meet
    case rel => exact ⟨_, (true), rs_, H', ⟨by first | omega | exact Nat.le_refl _⟩, dr_⟩
  rw [if_pos c11] at H
  have c11b0 : ((bt a0 (ji7)) == 34) = true := beq_iff_eq.mpr c11
  have c11b1 : ((bt a0 (ji7)) != 34) = false := bne_eq_false_iff_eq.mpr c11
  clear c11
  by_cases c12 : (a0.size : Int) > 12
  · rw [if_pos c12] at H
    have c12b0 : decide (12 < (a0.size : Int)) = true := decide_eq_true c12
    have c12b1 : decide (12 < a0.size) = true := decide_eq_true (by omega)
    clear c12
    have H' := A_ H
    clear H
    have p5 : 0 ≤ (0 : Int) := (by omega)
    have q5 : 0 < a0.size := (by have : (0 : Int) < (a0.size : Int) := od_; omega)
    have hx5 : ∀ h : 0 < a0.size, ((a0[0]'h).toNat : Int) = bt a0 0 := bt_at a0 0
    clear p5
    have qi5 : (0 < (a0.size : Int)) = True := eq_true od_
    replace q5 := eq_true q5
    have p10 : 0 ≤ ((ji7) : Int) := od_
    have q10 : (ji7) < (a0.size : Int) := od_
    have hx10 := bt_at a0 (ji7)
    replace p10 := eq_true p10
    replace q10 := eq_true q10
    go_wp2
    go_meet
    case rel => exact ⟨_, (true), rs_, H', ⟨by first | omega | exact Nat.le_refl _⟩, dr_⟩
  rw [if_neg c12] at H
  have c12b0 : decide (12 < (a0.size : Int)) = false := decide_eq_false c12
  have c12b1 : decide (12 < a0.size) = false := decide_eq_false (by omega)
  clear c12
  obtain ⟨t121, A13, H⟩ := bo_ H
  (try dsimp only at H)
  have H' := A_ H
  clear H
  have p5 : 0 ≤ (0 : Int) := (by omega)
  have q5 : 0 < a0.size := (by have : (0 : Int) < (a0.size : Int) := od_; omega)
  have hx5 : ∀ h : 0 < a0.size, ((a0[0]'h).toNat : Int) = bt a0 0 := bt_at a0 0
  clear p5
  have qi5 : (0 < (a0.size : Int)) = True := eq_true od_
  replace q5 := eq_true q5
  have p10 : 0 ≤ ((ji7) : Int) := od_
  have q10 : (ji7) < (a0.size : Int) := od_
  have hx10 := bt_at a0 (ji7)
  replace p10 := eq_true p10
  replace q10 := eq_true q10
  go_wp2_with (first | (go_at_call 60; (with_reducible refine (spec_Plain.calls k a0 t121 _ A13.out).mono ?_); rintro e w' ⟨rfl, ⟨nd, rfl⟩⟩))
  go_meet
  case rel => exact ⟨_, (!t121), rs_, H', ⟨by first | omega | exact Nat.le_refl _⟩, dr_⟩
 case rest =>
  clear HC2
  try clear c1
  try clear p1
  try clear q1
  try clear hx1
  try clear p2
  try clear c3
  try clear c3b0
  try clear c3b1
  try clear c4
  try clear c4b0
  try clear c4b1
  try clear p5
  try clear q5
  try clear hx5
  try clear qi5
  try clear c6
  try clear c6b0
  try clear c6b1
  try clear p6
  try clear c8
  try clear c8b0
  try clear c9
  try clear c9b0
  try clear p10
  try clear q10
  try clear hx10
  try clear c11
  try clear c11b0
  try clear c11b1
  try clear c12
  try clear c12b0
  try clear c12b1
  try clear p10
  try clear p5
  try clear q10
  try clear q5
  obtain ⟨kq, x29_1, rfl, HA, HJ1, ⟨mc1, rfl⟩⟩ := hcut
  cases kq with
  | zero => exact absurd HA.out (by simp [spec_l9Tag.j0])
  | succ kj1 =>
   have H := HA.out
   clear HA
   simp only [spec_l9Tag.j0] at H
   by_cases c14 : x29_1 = true
   · subst c14
     rw [if_pos rfl] at H
     obtain rfl := si_ H
     go_wp2
     go_ret
     exact ⟨rs_, dr_⟩
   · replace c14 := Bool.eq_false_iff.mpr c14
     subst c14
     rw [if_neg nf_] at H
     have H' := A_ H
     clear H
     go_wp2
     go_loopg [3] kj1 (fun kq v3 w' => ∃ (x3_2 : Int), v3 = .int .i64 x3_2 ∧ Aside0 (spec_l9Tag.l0 kq a0 x3_2 = some r) ∧ Aside0 (kq ≤ kj1) ∧ Drawn0 w w')
     case atStart => exact ⟨(1), rs_, H', ⟨Nat.le_refl _⟩, dr_⟩
     case round =>
      clear H'
      try clear c1
      try clear p1
      try clear q1
      try clear hx1
      try clear p2
      try clear c3
      try clear c3b0
      try clear c3b1
      try clear c4
      try clear c4b0
      try clear c4b1
      try clear p5
      try clear q5
      try clear hx5
      try clear qi5
      try clear c6
      try clear c6b0
      try clear c6b1
      try clear p6
      try clear c8
      try clear c8b0
      try clear c9
      try clear c9b0
      try clear p10
      try clear q10
      try clear hx10
      try clear c11
      try clear c11b0
      try clear c11b1
      try clear c12
      try clear c12b0
      try clear c12b1
      try clear c14
      try clear p1
      try clear p10
      try clear p2
      try clear p5
      try clear p6
      try clear q1
      try clear q10
      try clear q5
      obtain ⟨x3_2, rfl, HA, HK2, ⟨m2, rfl⟩⟩ := hrel
      cases gk with
      | zero => exact absurd HA.out (by simp [spec_l9Tag.l0])
      | succ k2 =>
       have H := HA.out
       clear HA
       simp only [spec_l9Tag.l0] at H
       by_cases c15 : x3_2 < (wrap64 ((a0.size : Int) - 1))
       rotate_left
       · rw [if_neg c15] at H
         have c15b0 : decide (x3_2 < (wrap64 ((a0.size : Int) - 1))) = false := decide_eq_false c15
         clear c15
         obtain rfl := si_ H
         go_wp2
         go_ret
         exact ⟨rs_, dr_⟩
       rw [if_pos c15] at H
       have c15b0 : decide (x3_2 < (wrap64 ((a0.size : Int) - 1))) = true := decide_eq_true c15
       clear c15
       by_cases c16 : 0 ≤ x3_2
       rotate_left
       · exact absurd H (by rw [if_neg c16]; simp)
       rw [if_pos c16] at H
       have c16b0 : decide (0 ≤ x3_2) = true := decide_eq_true c16
       clear c16
       by_cases c17 : x3_2 < (a0.size : Int)
       rotate_left
       · exact absurd H (by rw [if_neg c17]; simp)
       rw [if_pos c17] at H
       have c17b0 : decide (x3_2 < (a0.size : Int)) = true := decide_eq_true c17
       clear c17
       by_cases c19 : (bt a0 x3_2) = 34
       · rw [if_pos c19] at H
         have c19b0 : ((bt a0 x3_2) == 34) = true := beq_iff_eq.mpr c19
         have c19b1 : ((bt a0 x3_2) != 34) = false := bne_eq_false_iff_eq.mpr c19
         clear c19
         obtain rfl := si_ H
         have p18 : 0 ≤ (x3_2 : Int) := od_
         have q18 : x3_2 < (a0.size : Int) := od_
         have hx18 := bt_at a0 x3_2
         replace p18 := eq_true p18
         replace q18 := eq_true q18
         go_wp2
         go_ret
         exact ⟨rs_, dr_⟩
       rw [if_neg c19] at H
       have c19b0 : ((bt a0 x3_2) == 34) = false := beq_eq_false_iff_ne.mpr c19
       have c19b1 : ((bt a0 x3_2) != 34) = true := bne_iff_ne.mpr c19
       have H' := A_ H
       clear H
       have p18 : 0 ≤ (x3_2 : Int) := od_
       have q18 : x3_2 < (a0.size : Int) := od_
       have hx18 := bt_at a0 x3_2
       replace p18 := eq_true p18
       replace q18 := eq_true q18
       go_wp2
       go_roundg k2
       case measure => have := HJ1.out; have := HK2.out; omega
       case rel => exact ⟨(wrap64 (x3_2 + 1)), rs_, H', ⟨by have := HJ1.out; have := HK2.out; omega⟩, dr_⟩
set_option maxHeartbeats 8000000
set_option maxRecDepth 100000
def spec_ParseTags.l0 : Nat → List ByteArray → Int → Option (List ByteArray × Bool)
 | 0, _, _ => none
 | k + 1, x4, x5 => if x5 < (x4.length : Int) then (if 0 ≤ x5 then ((spec_l9Tag.f k (rdOf ByteArray.empty x4 x5)).bind fun t129 => (if t129 = true then (spec_ParseTags.l0 k x4 (wrap64 (x5 + 1))) else (some ((([] : List ByteArray)), false)))) else (none)) else (if (x4.length : Int) > 5 then (some ((([] : List ByteArray)), false)) else (some (x4, true)))
def spec_ParseTags.f (k : Nat) (a0 : ByteArray) : Option (List ByteArray × Bool) := if a0.toList = ([42] : List UInt8) then (some ((([(⟨#[42]⟩ : ByteArray)] : List ByteArray)), true)) else ((spec_l9Split.f k a0).bind fun t125 => (spec_ParseTags.l0 k t125 0))
theorem spec_ParseTags.calls (k : Nat) (a0 : ByteArray) (r1 : List ByteArray) (r2 : Bool) (w : World) (h : spec_ParseTags.f k a0 = some (r1, r2)) :
 Calls Tryd.prog 12 #[.string a0] w fun e w' => ∃ v0_ : Value, e = .returned (.tuple #[v0_, .bool r2]) ∧ Kd.R Kd.string 9 w' w.heap.size (fun _ => True) v0_ r1 ∧ Below w.heap.size w w' := by
 have HB := A_ (Below.refl w.heap.size w)
 have H : (if a0.toList = ([42] : List UInt8) then (some ((([(⟨#[42]⟩ : ByteArray)] : List ByteArray)), true)) else ((spec_l9Split.f k a0).bind fun t125 => (spec_ParseTags.l0 k t125 0))) = some (r1, r2) := h
 clear h
 by_cases c2 : a0.toList = ([42] : List UInt8)
 · rw [if_pos c2] at H
   have c2b0 : (a0.toList == ([42] : List UInt8)) = true := beq_iff_eq.mpr c2
   have c2b1 : (a0.toList != ([42] : List UInt8)) = false := bne_eq_false_iff_eq.mpr c2
   clear c2
   obtain ⟨y122, hy122⟩ : ∃ y_ : List ByteArray, y_ = (([(⟨#[42]⟩ : ByteArray)] : List ByteArray)) := ⟨_, rfl⟩
   replace H : (some (y122, true)) = some (r1, r2) := hy_ hy122 H
   have Ny122 := A_ hy122
   clear hy122
   simp only [Option.some.injEq, Prod.mk.injEq] at H
   obtain ⟨rfl, rfl⟩ := H
   go_enter Tryd.func12, Tryd.ntmps12
   go_wp2_with (first | ((with_reducible refine gd_ (N := 8) rfl ?_); refine Kd.R_lit Kd.string _ 9 ?hg (N := 8) ?hd (xs := ([(⟨#[42]⟩ : ByteArray)] : List ByteArray)) (inner := [.string (⟨#[42]⟩ : ByteArray)]) (ok := fun _ => True) (okp := fun _ => True) ?hr ?hp (fun _ hk => hk) trivial (Below.refl _ _) (Nat.le_refl _) (by simp) ?_; (case hd => rfl); (case hg => rfl); (case hr => first | (go_simp; done) | (go_simp; rfl)); (case hp => exact (Reps.one (show Kd.M Kd.string _ _ _ (⟨#[42]⟩ : ByteArray) [.string (⟨#[42]⟩ : ByteArray)] from rfl) (Reps.none _ _))); intro v123 w3 ho4 hb hg_ hnew_; clear hg_ hnew_; (first | rw [← Ny122.out] at ho4 | (simp only [Int.reduceToNat] at ho4; rw [← Ny122.out] at ho4)); have HO124 := A_ (Kd.R_lower ho4 (below_size bB_)); replace HB := A_ (below_step bB_ hb); clear hb ho4))
   go_ret2
   exact ⟨_, rr_, by (with_reducible repeat (first | apply Kd.R_alloc | apply Kd.R_drewN | apply Kd.R_drew)); exact HO124.out, bB_⟩
 rw [if_neg c2] at H
 have c2b0 : (a0.toList == ([42] : List UInt8)) = false := beq_eq_false_iff_ne.mpr c2
 have c2b1 : (a0.toList != ([42] : List UInt8)) = true := bne_iff_ne.mpr c2
 obtain ⟨t125, A5, H⟩ := bo_ H
 (try dsimp only at H)
 have H' := A_ H
 clear H
 go_enter Tryd.func12, Tryd.ntmps12
 go_wp2_with (first | ((with_reducible refine gc_ (f := 33) rfl ?_); refine gL_ (some 10) Tryd.func33 #[.string a0] ?_; (with_reducible refine (spec_l9Split.calls k a0 t125 _ A5.out).mono ?_); rintro e w6 ⟨v126, rfl, ho0, hb⟩; refine ⟨_, rfl, ?_⟩; have HO127 := A_ (Kd.R_lower ho0 (below_size bB_)); replace HB := A_ (below_step bB_ hb); (try clear hb); (try clear ho0)))
 go_loopg [5] k (fun kq v5 w' => ∃ (x5_1 : Int), v5 = .int .i64 x5_1 ∧ Aside0 (spec_ParseTags.l0 kq t125 x5_1 = some (r1, r2)) ∧ Aside0 (kq ≤ k) ∧ Aside0 (Kd.R Kd.string 9 w' w.heap.size (fun _ => True) v126 t125) ∧ Aside0 (Below w.heap.size w w'))
 case atStart => exact ⟨(0), rs_, H', ⟨Nat.le_refl _⟩, ⟨vR_ HO127.out⟩, ⟨bB_⟩⟩
 case round =>
  clear H'
  try clear c1
  try clear c2
  try clear c2b0
  try clear c2b1
  try clear p2
  try clear c3
  obtain ⟨x5_1, rfl, HA, HK1, HO_4, HB⟩ := hrel
  cases gk with
  | zero => exact absurd HA.out (by simp [spec_ParseTags.l0])
  | succ k1 =>
   have H := HA.out
   clear HA
   simp only [spec_ParseTags.l0] at H
   by_cases c7 : x5_1 < (t125.length : Int)
   rotate_left
   · rw [if_neg c7] at H
     have c7b0 : decide (x5_1 < (t125.length : Int)) = false := decide_eq_false c7
     clear c7
     by_cases c15 : (t125.length : Int) > 5
     rotate_left
     · rw [if_neg c15] at H
       have c15b0 : decide (5 < (t125.length : Int)) = false := decide_eq_false c15
       have c15b1 : decide (5 < t125.length) = false := decide_eq_false (by omega)
       clear c15
       simp only [Option.some.injEq, Prod.mk.injEq] at H
       obtain ⟨rfl, rfl⟩ := H
       obtain ⟨Ao19, co19, eo19⟩ := Kd.R_slice HO_4.out
       subst eo19
       go_wp2
       go_ret2
       exact ⟨_, rr_, by (with_reducible repeat (first | apply Kd.R_alloc | apply Kd.R_drewN | apply Kd.R_drew)); exact HO_4.out, bB_⟩
     rw [if_pos c15] at H
     have c15b0 : decide (5 < (t125.length : Int)) = true := decide_eq_true c15
     have c15b1 : decide (5 < t125.length) = true := decide_eq_true (by omega)
     clear c15
     obtain ⟨y133, hy133⟩ : ∃ y_ : List ByteArray, y_ = (([] : List ByteArray)) := ⟨_, rfl⟩
     replace H : (some (y133, false)) = some (r1, r2) := hy_ hy133 H
     have Ny133 := A_ hy133
     clear hy133
     simp only [Option.some.injEq, Prod.mk.injEq] at H
     obtain ⟨rfl, rfl⟩ := H
     obtain ⟨Ao16, co16, eo16⟩ := Kd.R_slice HO_4.out
     subst eo16
     go_wp2_with (first | ((with_reducible refine gd_ (N := 27) rfl ?_); refine Kd.R_lit Kd.string _ 9 ?hg (N := 27) ?hd (xs := ([] : List ByteArray)) (inner := []) (ok := fun _ => True) (okp := fun _ => True) ?hr ?hp (fun _ hk => hk) trivial (Below.refl _ _) (Nat.le_refl _) (by simp) ?_; (case hd => rfl); (case hg => rfl); (case hr => first | (go_simp; done) | (go_simp; rfl)); (case hp => exact (Reps.none _ _)); intro v134 w17 ho18 hb hg_ hnew_; clear hg_ hnew_; (first | rw [← Ny133.out] at ho18 | (simp only [Int.reduceToNat] at ho18; rw [← Ny133.out] at ho18)); have HO135 := A_ (Kd.R_lower (Kd.R_new' ho18 (Kd.R_lt (vR_ HO_4.out))) (below_size bB_)); replace HO_4 := A_ (Kd.R_elder' (vR_ HO_4.out) (kb_ ho18) hb); replace HB := A_ (below_step bB_ hb); clear hb ho18))
     go_ret2
     exact ⟨_, rr_, by (with_reducible repeat (first | apply Kd.R_alloc | apply Kd.R_drewN | apply Kd.R_drew)); exact Kd.R_mono HO135.out (fun _ hk => trivial), bB_⟩
   rw [if_pos c7] at H
   have c7b0 : decide (x5_1 < (t125.length : Int)) = true := decide_eq_true c7
   clear c7
   by_cases c8 : 0 ≤ x5_1
   rotate_left
   · exact absurd H (by rw [if_neg c8]; simp)
   rw [if_pos c8] at H
   have c8b0 : decide (0 ≤ x5_1) = true := decide_eq_true c8
   clear c8
   obtain ⟨t129, A9, H⟩ := bo_ H
   (try dsimp only at H)
   by_cases c10 : t129 = true
   · subst c10
     rw [if_pos rfl] at H
     have H' := A_ H
     clear H
     obtain ⟨Ao11, co11, eo11⟩ := Kd.R_slice HO_4.out
     subst eo11
     have p128 : 0 ≤ (x5_1 : Int) := od_
     have q128 : x5_1 < (t125.length : Int) := od_
     obtain ⟨ad128, e128, hx128_0⟩ := Kd.at_string (Kd.R_reads' HO_4.out).2.2 x5_1 p128 q128
     cases e128
     replace p128 := eq_true p128
     replace q128 := eq_true q128
     go_wp2_with (first | ((with_reducible refine gc_ (f := 34) rfl ?_); refine gL_ (some 21) Tryd.func34 #[.string (rdOf ByteArray.empty t125 x5_1)] ?_; (with_reducible refine (spec_l9Tag.calls k1 (rdOf ByteArray.empty t125 x5_1) true _ A9.out).mono ?_); rintro e w' ⟨rfl, ⟨nd, rfl⟩⟩; refine ⟨_, rfl, ?_⟩))
     go_roundg k1
     case measure => have := HK1.out; omega
     case rel => exact ⟨(wrap64 (x5_1 + 1)), rs_, H', ⟨by have := HK1.out; omega⟩, ⟨vR_ HO_4.out⟩, ⟨bB_⟩⟩
   · replace c10 := Bool.eq_false_iff.mpr c10
     subst c10
     rw [if_neg nf_] at H
     obtain ⟨y130, hy130⟩ : ∃ y_ : List ByteArray, y_ = (([] : List ByteArray)) := ⟨_, rfl⟩
     replace H : (some (y130, false)) = some (r1, r2) := hy_ hy130 H
     have Ny130 := A_ hy130
     clear hy130
     simp only [Option.some.injEq, Prod.mk.injEq] at H
     obtain ⟨rfl, rfl⟩ := H
     obtain ⟨Ao12, co12, eo12⟩ := Kd.R_slice HO_4.out
     subst eo12
     have p128 : 0 ≤ (x5_1 : Int) := od_
     have q128 : x5_1 < (t125.length : Int) := od_
     obtain ⟨ad128, e128, hx128_0⟩ := Kd.at_string (Kd.R_reads' HO_4.out).2.2 x5_1 p128 q128
     cases e128
     replace p128 := eq_true p128
     replace q128 := eq_true q128
     go_wp2_with (first | ((with_reducible refine gc_ (f := 34) rfl ?_); refine gL_ (some 21) Tryd.func34 #[.string (rdOf ByteArray.empty t125 x5_1)] ?_; (with_reducible refine (spec_l9Tag.calls k1 (rdOf ByteArray.empty t125 x5_1) false _ A9.out).mono ?_); rintro e w' ⟨rfl, ⟨nd, rfl⟩⟩; refine ⟨_, rfl, ?_⟩) | ((with_reducible refine gd_ (N := 23) rfl ?_); refine Kd.R_lit Kd.string _ 9 ?hg (N := 23) ?hd (xs := ([] : List ByteArray)) (inner := []) (ok := fun _ => True) (okp := fun _ => True) ?hr ?hp (fun _ hk => hk) trivial (Below.refl _ _) (Nat.le_refl _) (by simp) ?_; (case hd => rfl); (case hg => rfl); (case hr => first | (go_simp; done) | (go_simp; rfl)); (case hp => exact (Reps.none _ _)); intro v131 w13 ho14 hb hg_ hnew_; clear hg_ hnew_; (first | rw [← Ny130.out] at ho14 | (simp only [Int.reduceToNat] at ho14; rw [← Ny130.out] at ho14)); have HO132 := A_ (Kd.R_lower (Kd.R_new' ho14 (Kd.R_lt (vR_ HO_4.out))) (below_size bB_)); replace HO_4 := A_ (Kd.R_elder' (vR_ HO_4.out) (kb_ ho14) hb); replace HB := A_ (below_step bB_ hb); clear hb ho14))
     go_ret2
     exact ⟨_, rr_, by (with_reducible repeat (first | apply Kd.R_alloc | apply Kd.R_drewN | apply Kd.R_drew)); exact Kd.R_mono HO132.out (fun _ hk => trivial), bB_⟩
def spec_l9Has.l0 : Nat → List ByteArray → ByteArray → Int → Option (Bool)
 | 0, _, _, _ => none
 | k + 1, x0, x1, x5 => if x5 < (x0.length : Int) then (if 0 ≤ x5 then (if (rdOf ByteArray.empty x0 x5).toList = x1.toList then (some true) else (spec_l9Has.l0 k x0 x1 (wrap64 (x5 + 1)))) else (none)) else (some false)
def spec_l9Has.f (k : Nat) (l0 : List ByteArray) (a1 : ByteArray) : Option (Bool) := spec_l9Has.l0 k l0 a1 0
theorem spec_l9Has.calls (k : Nat) (A0 : Option Addr) (c0 : Nat) (l0 : List ByteArray) (a1 : ByteArray) (r : Bool) (w : World) (hr0 : Kd.C Kd.string w A0 l0.length l0) (hc0 : l0.length ≤ c0) (h : spec_l9Has.f k l0 a1 = some r) :
 Calls Tryd.prog 31 #[.slice A0 l0.length c0, .string a1] w fun e w' => e = .returned (.bool r) ∧ Drawn0 w w' := by
 have HR0 := A_ hr0
 have HC0 := A_ hc0
 clear hr0 hc0
 have H : (spec_l9Has.l0 k l0 a1 0) = some r := h
 clear h
 have H' := A_ H
 clear H
 go_enter Tryd.func31, Tryd.ntmps31
 go_wp2
 go_loopg [5] k (fun kq v5 w' => ∃ (x5_1 : Int), v5 = .int .i64 x5_1 ∧ Aside0 (spec_l9Has.l0 kq l0 a1 x5_1 = some r) ∧ Aside0 (kq ≤ k) ∧ Drawn0 w w')
 case atStart => exact ⟨(0), rs_, H', ⟨Nat.le_refl _⟩, dr_⟩
 case round =>
  clear H'
  try clear p2
  obtain ⟨x5_1, rfl, HA, HK1, ⟨m1, rfl⟩⟩ := hrel
  cases gk with
  | zero => exact absurd HA.out (by simp [spec_l9Has.l0])
  | succ k1 =>
   have H := HA.out
   clear HA
   simp only [spec_l9Has.l0] at H
   by_cases c3 : x5_1 < (l0.length : Int)
   rotate_left
   · rw [if_neg c3] at H
     have c3b0 : decide (x5_1 < (l0.length : Int)) = false := decide_eq_false c3
     clear c3
     obtain rfl := si_ H
     go_wp2
     go_ret
     exact ⟨rs_, dr_⟩
   rw [if_pos c3] at H
   have c3b0 : decide (x5_1 < (l0.length : Int)) = true := decide_eq_true c3
   clear c3
   by_cases c4 : 0 ≤ x5_1
   rotate_left
   · exact absurd H (by rw [if_neg c4]; simp)
   rw [if_pos c4] at H
   have c4b0 : decide (0 ≤ x5_1) = true := decide_eq_true c4
   clear c4
   by_cases c5 : (rdOf ByteArray.empty l0 x5_1).toList = a1.toList
   · rw [if_pos c5] at H
     have c5b0 : ((rdOf ByteArray.empty l0 x5_1).toList == a1.toList) = true := beq_iff_eq.mpr c5
     have c5b1 : ((rdOf ByteArray.empty l0 x5_1).toList != a1.toList) = false := bne_eq_false_iff_eq.mpr c5
     clear c5
     obtain rfl := si_ H
     have p136 : 0 ≤ (x5_1 : Int) := od_
     have q136 : x5_1 < (l0.length : Int) := od_
     obtain ⟨ad136, e136, hx136_0⟩ := Kd.at_string HR0.out x5_1 p136 q136
     cases e136
     replace p136 := eq_true p136
     replace q136 := eq_true q136
     go_wp2
     go_ret
     exact ⟨rs_, dr_⟩
   rw [if_neg c5] at H
   have c5b0 : ((rdOf ByteArray.empty l0 x5_1).toList == a1.toList) = false := beq_eq_false_iff_ne.mpr c5
   have c5b1 : ((rdOf ByteArray.empty l0 x5_1).toList != a1.toList) = true := bne_iff_ne.mpr c5
   have H' := A_ H
   clear H
   have p136 : 0 ≤ (x5_1 : Int) := od_
   have q136 : x5_1 < (l0.length : Int) := od_
   obtain ⟨ad136, e136, hx136_0⟩ := Kd.at_string HR0.out x5_1 p136 q136
   cases e136
   replace p136 := eq_true p136
   replace q136 := eq_true q136
   go_wp2
   go_roundg k1
   case measure => have := HK1.out; omega
   case rel => exact ⟨(wrap64 (x5_1 + 1)), rs_, H', ⟨by have := HK1.out; omega⟩, dr_⟩
def spec_NoneOk.f (k : Nat) (a0 : ByteArray) (a1 : Bool) (a2 : ByteArray) : Option (Bool) := (spec_ParseTags.f k a0).bind fun bt137 => (if bt137.2 = true then (if a1 = true then (if a0.toList = ([42] : List UInt8) then (some false) else ((spec_l9Has.f k bt137.1 a2).bind fun t141 => (some (!t141)))) else (some true)) else (some true))
theorem spec_NoneOk.calls (k : Nat) (a0 : ByteArray) (a1 : Bool) (a2 : ByteArray) (r : Bool) (w : World) (h : spec_NoneOk.f k a0 a1 a2 = some r) :
 Calls Tryd.prog 10 #[.string a0, .bool a1, .string a2] w fun e w' => e = .returned (.bool r) ∧ Below w.heap.size w w' := by
 have HB := A_ (Below.refl w.heap.size w)
 have H : ((spec_ParseTags.f k a0).bind fun bt137 => (if bt137.2 = true then (if a1 = true then (if a0.toList = ([42] : List UInt8) then (some false) else ((spec_l9Has.f k bt137.1 a2).bind fun t141 => (some (!t141)))) else (some true)) else (some true))) = some r := h
 clear h
 obtain ⟨⟨t137, t138⟩, A4, H⟩ := bo_ H
 (try dsimp only at H)
 by_cases c5 : t138 = true
 · subst c5
   rw [if_pos rfl] at H
   by_cases c6 : a1 = true
   · subst c6
     rw [if_pos rfl] at H
     by_cases c7 : a0.toList = ([42] : List UInt8)
     · rw [if_pos c7] at H
       have c7b0 : (a0.toList == ([42] : List UInt8)) = true := beq_iff_eq.mpr c7
       have c7b1 : (a0.toList != ([42] : List UInt8)) = false := bne_eq_false_iff_eq.mpr c7
       clear c7
       obtain rfl := si_ H
       go_enter Tryd.func10, Tryd.ntmps10
       go_wp2_with (first | ((with_reducible refine gc_ (f := 12) rfl ?_); refine gL_ (some 11) Tryd.func12 #[.string a0] ?_; (with_reducible refine (spec_ParseTags.calls k a0 t137 true _ A4.out).mono ?_); rintro e w8 ⟨v139, rfl, ho0, hb⟩; refine ⟨_, rfl, ?_⟩; have HO140 := A_ (Kd.R_lower ho0 (below_size bB_)); replace HB := A_ (below_step bB_ hb); (try clear hb); (try clear ho0)))
       go_ret
       exact ⟨rr_, bB_⟩
     rw [if_neg c7] at H
     have c7b0 : (a0.toList == ([42] : List UInt8)) = false := beq_eq_false_iff_ne.mpr c7
     have c7b1 : (a0.toList != ([42] : List UInt8)) = true := bne_iff_ne.mpr c7
     obtain ⟨t141, A9, H⟩ := bo_ H
     (try dsimp only at H)
     obtain rfl := si_ H
     go_enter Tryd.func10, Tryd.ntmps10
     go_wp2_with (first | ((with_reducible refine gc_ (f := 12) rfl ?_); refine gL_ (some 11) Tryd.func12 #[.string a0] ?_; (with_reducible refine (spec_ParseTags.calls k a0 t137 true _ A4.out).mono ?_); rintro e w10 ⟨v139, rfl, ho0, hb⟩; refine ⟨_, rfl, ?_⟩; have HO140 := A_ (Kd.R_lower ho0 (below_size bB_)); replace HB := A_ (below_step bB_ hb); (try clear hb); (try clear ho0); obtain ⟨Ao11, co11, eo11⟩ := Kd.R_slice HO140.out; subst eo11) | (go_at_call 31; (with_reducible refine (spec_l9Has.calls k _ _ t137 a2 t141 _ ?s1 ?s2 A9.out).mono ?_); (case s1 => exact cC_ (Kd.R_reads' HO140.out).2.2); (case s2 => exact (Kd.R_reads' HO140.out).2.1); rintro e w' ⟨rfl, ⟨nd, rfl⟩⟩))
     go_ret
     exact ⟨rr_, bB_⟩
   · replace c6 := Bool.eq_false_iff.mpr c6
     subst c6
     rw [if_neg nf_] at H
     obtain rfl := si_ H
     go_enter Tryd.func10, Tryd.ntmps10
     go_wp2_with (first | ((with_reducible refine gc_ (f := 12) rfl ?_); refine gL_ (some 11) Tryd.func12 #[.string a0] ?_; (with_reducible refine (spec_ParseTags.calls k a0 t137 true _ A4.out).mono ?_); rintro e w12 ⟨v139, rfl, ho0, hb⟩; refine ⟨_, rfl, ?_⟩; have HO140 := A_ (Kd.R_lower ho0 (below_size bB_)); replace HB := A_ (below_step bB_ hb); (try clear hb); (try clear ho0)))
     go_ret
     exact ⟨rr_, bB_⟩
 · replace c5 := Bool.eq_false_iff.mpr c5
   subst c5
   rw [if_neg nf_] at H
   obtain rfl := si_ H
   go_enter Tryd.func10, Tryd.ntmps10
   go_wp2_with (first | ((with_reducible refine gc_ (f := 12) rfl ?_); refine gL_ (some 11) Tryd.func12 #[.string a0] ?_; (with_reducible refine (spec_ParseTags.calls k a0 t137 false _ A4.out).mono ?_); rintro e w13 ⟨v139, rfl, ho0, hb⟩; refine ⟨_, rfl, ?_⟩; have HO140 := A_ (Kd.R_lower ho0 (below_size bB_)); replace HB := A_ (below_step bB_ hb); (try clear hb); (try clear ho0)))
   go_ret
   exact ⟨rr_, bB_⟩
def impl_in.f (a0 : Int) (a1 : Int) (a2 : Int) : Option (Bool) := if a0 ≥ a1 then (some (decide (a0 ≤ a2))) else (some false)
theorem impl_in.calls (a0 : Int) (a1 : Int) (a2 : Int) (r : Bool) (w : World) (h : impl_in.f a0 a1 a2 = some r) :
 Calls Tryd.prog 63 #[.int .i64 a0, .int .i64 a1, .int .i64 a2] w fun e w' => e = .returned (.bool r) ∧ Drawn0 w w' := by
 have H : (if a0 ≥ a1 then (some (decide (a0 ≤ a2))) else (some false)) = some r := h
 clear h
 by_cases c4 : a0 ≥ a1
 · rw [if_pos c4] at H
   have c4b0 : decide (a1 ≤ a0) = true := decide_eq_true c4
   clear c4
   obtain rfl := si_ H
   go_enter Tryd.func63, Tryd.ntmps63
   go_wp2
   go_ret
   exact ⟨rs_, dr_⟩
 rw [if_neg c4] at H
 have c4b0 : decide (a1 ≤ a0) = false := decide_eq_false c4
 clear c4
 obtain rfl := si_ H
 go_enter Tryd.func63, Tryd.ntmps63
 go_wp2
 go_ret
 exact ⟨rs_, dr_⟩
def impl_isPlain.f (a0 : Int) : Option (Bool) := if a0 ≥ 32 then (some (decide (a0 ≤ 126))) else (some false)
theorem impl_isPlain.calls (a0 : Int) (r : Bool) (w : World) (h : impl_isPlain.f a0 = some r) :
 Calls Tryd.prog 89 #[.int .u8 a0] w fun e w' => e = .returned (.bool r) ∧ Drawn0 w w' := by
 have H : (if a0 ≥ 32 then (some (decide (a0 ≤ 126))) else (some false)) = some r := h
 clear h
 by_cases c2 : a0 ≥ 32
 · rw [if_pos c2] at H
   have c2b0 : decide (32 ≤ a0) = true := decide_eq_true c2
   clear c2
   obtain rfl := si_ H
   go_enter Tryd.func89, Tryd.ntmps89
   go_wp2
   go_ret
   exact ⟨rs_, dr_⟩
 rw [if_neg c2] at H
 have c2b0 : decide (32 ≤ a0) = false := decide_eq_false c2
 clear c2
 obtain rfl := si_ H
 go_enter Tryd.func89, Tryd.ntmps89
 go_wp2
 go_ret
 exact ⟨rs_, dr_⟩
def impl_Plain.l0 : Nat → ByteArray → Int → Option (Bool)
 | 0, _, _ => none
 | k + 1, x0, x3 => if x3 < (x0.size : Int) then (if 0 ≤ x3 then ((impl_isPlain.f (bt x0 x3)).bind fun t142 => (if t142 = true then (impl_Plain.l0 k x0 (wrap64 (x3 + 1))) else (some false))) else (none)) else (some true)
def impl_Plain.f (k : Nat) (a0 : ByteArray) : Option (Bool) := impl_Plain.l0 k a0 0
theorem impl_Plain.calls (k : Nat) (a0 : ByteArray) (r : Bool) (w : World) (h : impl_Plain.f k a0 = some r) :
 Calls Tryd.prog 64 #[.string a0] w fun e w' => e = .returned (.bool r) ∧ Drawn0 w w' := by
 have H : (impl_Plain.l0 k a0 0) = some r := h
 clear h
 have H' := A_ H
 clear H
 go_enter Tryd.func64, Tryd.ntmps64
 go_wp2
 go_loopg [3] k (fun kq v3 w' => ∃ (x3_1 : Int), v3 = .int .i64 x3_1 ∧ Aside0 (impl_Plain.l0 kq a0 x3_1 = some r) ∧ Aside0 (kq ≤ k) ∧ Drawn0 w w')
 case atStart => exact ⟨(0), rs_, H', ⟨Nat.le_refl _⟩, dr_⟩
 case round =>
  clear H'
  obtain ⟨x3_1, rfl, HA, HK1, ⟨m1, rfl⟩⟩ := hrel
  cases gk with
  | zero => exact absurd HA.out (by simp [impl_Plain.l0])
  | succ k1 =>
   have H := HA.out
   clear HA
   simp only [impl_Plain.l0] at H
   by_cases c2 : x3_1 < (a0.size : Int)
   rotate_left
   · rw [if_neg c2] at H
     have c2b0 : decide (x3_1 < (a0.size : Int)) = false := decide_eq_false c2
     clear c2
     obtain rfl := si_ H
     go_wp2
     go_ret
     exact ⟨rs_, dr_⟩
   rw [if_pos c2] at H
   have c2b0 : decide (x3_1 < (a0.size : Int)) = true := decide_eq_true c2
   clear c2
   by_cases c3 : 0 ≤ x3_1
   rotate_left
   · exact absurd H (by rw [if_neg c3]; simp)
   rw [if_pos c3] at H
   have c3b0 : decide (0 ≤ x3_1) = true := decide_eq_true c3
   clear c3
   obtain ⟨t142, A5, H⟩ := bo_ H
   (try dsimp only at H)
   by_cases c6 : t142 = true
   · subst c6
     rw [if_pos rfl] at H
     have H' := A_ H
     clear H
     have p4 : 0 ≤ (x3_1 : Int) := od_
     have q4 : x3_1 < (a0.size : Int) := od_
     have hx4 := bt_at a0 x3_1
     replace p4 := eq_true p4
     replace q4 := eq_true q4
     go_wp2_with (first | ((with_reducible refine gc_ (f := 89) rfl ?_); refine gL_ (some 13) Tryd.func89 #[.int .u8 (bt a0 x3_1)] ?_; (with_reducible refine (impl_isPlain.calls (bt a0 x3_1) true _ A5.out).mono ?_); rintro e w' ⟨rfl, ⟨nd, rfl⟩⟩; refine ⟨_, rfl, ?_⟩))
     go_roundg k1
     case measure => have := HK1.out; omega
     case rel => exact ⟨(wrap64 (x3_1 + 1)), rs_, H', ⟨by have := HK1.out; omega⟩, dr_⟩
   · replace c6 := Bool.eq_false_iff.mpr c6
     subst c6
     rw [if_neg nf_] at H
     obtain rfl := si_ H
     have p4 : 0 ≤ (x3_1 : Int) := od_
     have q4 : x3_1 < (a0.size : Int) := od_
     have hx4 := bt_at a0 x3_1
     replace p4 := eq_true p4
     replace q4 := eq_true q4
     go_wp2_with (first | ((with_reducible refine gc_ (f := 89) rfl ?_); refine gL_ (some 13) Tryd.func89 #[.int .u8 (bt a0 x3_1)] ?_; (with_reducible refine (impl_isPlain.calls (bt a0 x3_1) false _ A5.out).mono ?_); rintro e w' ⟨rfl, ⟨nd, rfl⟩⟩; refine ⟨_, rfl, ?_⟩))
     go_ret
     exact ⟨rs_, dr_⟩
def impl_tagAt.f (k : Nat) (a0 : ByteArray) (a1 : Int) : Option (ByteArray × ByteArray × Bool) := (strings_CutPrefix.f a0 (⟨#[34]⟩ : ByteArray)).bind fun bt143 => ((strings_Cut.f bt143.1 (⟨#[34]⟩ : ByteArray)).bind fun bt145 => (if bt143.2 = true then (if bt145.2.2 = true then ((impl_in.f (bt145.1.size : Int) a1 10).bind fun t148 => (if t148 = true then ((impl_Plain.f k bt145.1).bind fun t149 => (if t149 = true then (if 0 ≤ (wrap64 ((bt145.1.size : Int) + 2)) then (if (wrap64 ((bt145.1.size : Int) + 2)) ≤ (a0.size : Int) then (some (a0.extract 0 ((wrap64 ((bt145.1.size : Int) + 2)) : Int).toNat, bt145.2.1, true)) else (none)) else (none)) else (some ((⟨#[]⟩ : ByteArray), (⟨#[]⟩ : ByteArray), false)))) else (some ((⟨#[]⟩ : ByteArray), (⟨#[]⟩ : ByteArray), false)))) else (some ((⟨#[]⟩ : ByteArray), (⟨#[]⟩ : ByteArray), false))) else (some ((⟨#[]⟩ : ByteArray), (⟨#[]⟩ : ByteArray), false))))
theorem impl_tagAt.calls (k : Nat) (a0 : ByteArray) (a1 : Int) (r1 : ByteArray) (r2 : ByteArray) (r3 : Bool) (w : World) (hGM : GM w) (h : impl_tagAt.f k a0 a1 = some (r1, r2, r3)) :
 Calls Tryd.prog 35 #[.string a0, .int .i64 a1] w fun e w' => e = .returned (.tuple #[.string r1, .string r2, .bool r3]) ∧ Below w.heap.size w w' := by
 have HGM := A_ hGM
 clear hGM
 have HB := A_ (Below.refl w.heap.size w)
 have H : ((strings_CutPrefix.f a0 (⟨#[34]⟩ : ByteArray)).bind fun bt143 => ((strings_Cut.f bt143.1 (⟨#[34]⟩ : ByteArray)).bind fun bt145 => (if bt143.2 = true then (if bt145.2.2 = true then ((impl_in.f (bt145.1.size : Int) a1 10).bind fun t148 => (if t148 = true then ((impl_Plain.f k bt145.1).bind fun t149 => (if t149 = true then (if 0 ≤ (wrap64 ((bt145.1.size : Int) + 2)) then (if (wrap64 ((bt145.1.size : Int) + 2)) ≤ (a0.size : Int) then (some (a0.extract 0 ((wrap64 ((bt145.1.size : Int) + 2)) : Int).toNat, bt145.2.1, true)) else (none)) else (none)) else (some ((⟨#[]⟩ : ByteArray), (⟨#[]⟩ : ByteArray), false)))) else (some ((⟨#[]⟩ : ByteArray), (⟨#[]⟩ : ByteArray), false)))) else (some ((⟨#[]⟩ : ByteArray), (⟨#[]⟩ : ByteArray), false))) else (some ((⟨#[]⟩ : ByteArray), (⟨#[]⟩ : ByteArray), false))))) = some (r1, r2, r3) := h
 clear h
 obtain ⟨⟨t143, t144⟩, A3, H⟩ := bo_ H
 (try dsimp only at H)
 obtain ⟨⟨t145, t146, t147⟩, A4, H⟩ := bo_ H
 (try dsimp only at H)
 by_cases c5 : t144 = true
 · subst c5
   rw [if_pos rfl] at H
   by_cases c6 : t147 = true
   · subst c6
     rw [if_pos rfl] at H
     obtain ⟨t148, A7, H⟩ := bo_ H
     (try dsimp only at H)
     by_cases c8 : t148 = true
     · subst c8
       rw [if_pos rfl] at H
       obtain ⟨t149, A9, H⟩ := bo_ H
       (try dsimp only at H)
       by_cases c10 : t149 = true
       · subst c10
         rw [if_pos rfl] at H
         obtain ⟨ji11, hji11⟩ : ∃ j_ : Int, (wrap64 ((t145.size : Int) + 2)) = j_ := ⟨_, rfl⟩
         replace H : (if 0 ≤ (ji11) then (if (ji11) ≤ (a0.size : Int) then (some (a0.extract 0 ((ji11) : Int).toNat, t146, true)) else (none)) else (none)) = some (r1, r2, r3) := by first | (rw [hji11] at H; exact H) | (simp only [hji11] at H ⊢; exact H)
         (try rw [hji11] at A3)
         (try rw [hji11] at A4)
         (try rw [hji11] at A7)
         (try rw [hji11] at A9)
         have hji11w : (IntKind.i64.wrap ((t145.size : Int) + 2)) = ji11 := (i64_w _).trans hji11
         by_cases c12 : 0 ≤ (ji11)
         rotate_left
         · exact absurd H (by rw [if_neg c12]; simp)
         rw [if_pos c12] at H
         have c12b0 := eq_true c12
         have c12b1 : decide (0 ≤ (ji11)) = true := decide_eq_true c12
         clear c12
         by_cases c13 : (ji11) ≤ (a0.size : Int)
         rotate_left
         · exact absurd H (by rw [if_neg c13]; simp)
         rw [if_pos c13] at H
         have c13b0 := eq_true c13
         have c13b1 : decide ((ji11) ≤ (a0.size : Int)) = true := decide_eq_true c13
         clear c13
         simp only [Option.some.injEq, Prod.mk.injEq] at H
         obtain ⟨rfl, rfl, rfl⟩ := H
         go_enter Tryd.func35, Tryd.ntmps35
         go_wp2_with (first | ((with_reducible refine gc_ (f := 61) rfl ?_); refine gL_ (some 14) Tryd.func61 #[.string a0, .string (⟨#[34]⟩ : ByteArray)] ?_; (with_reducible refine (strings_CutPrefix.calls a0 (⟨#[34]⟩ : ByteArray) t143 true _ A3.out).mono ?_); rintro e w14 ⟨rfl, hb⟩; refine ⟨_, rfl, ?_⟩; replace HB := A_ (below_step bB_ hb); (try clear hb)) | ((with_reducible refine gc_ (f := 62) rfl ?_); refine gL_ (some 19) Tryd.func62 #[.string t143, .string (⟨#[34]⟩ : ByteArray)] ?_; (with_reducible refine (strings_Cut.calls t143 (⟨#[34]⟩ : ByteArray) t145 t146 true _ ?gM26 A4.out).mono ?_); (case gM26 => exact gM_ HGM.out bB_); rintro e w15 ⟨rfl, hb⟩; refine ⟨_, rfl, ?_⟩; replace HB := A_ (below_step bB_ hb); (try clear hb)) | (go_at_call 63; (with_reducible refine (impl_in.calls (t145.size : Int) a1 10 true _ A7.out).mono ?_); rintro e w' ⟨rfl, ⟨nd, rfl⟩⟩) | (go_at_call 64; (with_reducible refine (impl_Plain.calls k t145 true _ A9.out).mono ?_); rintro e w' ⟨rfl, ⟨nd, rfl⟩⟩))
         go_ret3
         exact ⟨by first | rfl | (simp [errW_none, errW_some] <;> rfl) | (simp only [← hji11]; first | rfl | (simp [errW_none, errW_some] <;> rfl)) | (simp [*, errW_none, errW_some] <;> rfl), bB_⟩
       · replace c10 := Bool.eq_false_iff.mpr c10
         subst c10
         rw [if_neg nf_] at H
         simp only [Option.some.injEq, Prod.mk.injEq] at H
         obtain ⟨rfl, rfl, rfl⟩ := H
         go_enter Tryd.func35, Tryd.ntmps35
         go_wp2_with (first | ((with_reducible refine gc_ (f := 61) rfl ?_); refine gL_ (some 14) Tryd.func61 #[.string a0, .string (⟨#[34]⟩ : ByteArray)] ?_; (with_reducible refine (strings_CutPrefix.calls a0 (⟨#[34]⟩ : ByteArray) t143 true _ A3.out).mono ?_); rintro e w16 ⟨rfl, hb⟩; refine ⟨_, rfl, ?_⟩; replace HB := A_ (below_step bB_ hb); (try clear hb)) | ((with_reducible refine gc_ (f := 62) rfl ?_); refine gL_ (some 19) Tryd.func62 #[.string t143, .string (⟨#[34]⟩ : ByteArray)] ?_; (with_reducible refine (strings_Cut.calls t143 (⟨#[34]⟩ : ByteArray) t145 t146 true _ ?gM27 A4.out).mono ?_); (case gM27 => exact gM_ HGM.out bB_); rintro e w17 ⟨rfl, hb⟩; refine ⟨_, rfl, ?_⟩; replace HB := A_ (below_step bB_ hb); (try clear hb)) | (go_at_call 63; (with_reducible refine (impl_in.calls (t145.size : Int) a1 10 true _ A7.out).mono ?_); rintro e w' ⟨rfl, ⟨nd, rfl⟩⟩) | (go_at_call 64; (with_reducible refine (impl_Plain.calls k t145 false _ A9.out).mono ?_); rintro e w' ⟨rfl, ⟨nd, rfl⟩⟩))
         go_ret3
         exact ⟨rr_, bB_⟩
     · replace c8 := Bool.eq_false_iff.mpr c8
       subst c8
       rw [if_neg nf_] at H
       simp only [Option.some.injEq, Prod.mk.injEq] at H
       obtain ⟨rfl, rfl, rfl⟩ := H
       go_enter Tryd.func35, Tryd.ntmps35
       go_wp2_with (first | ((with_reducible refine gc_ (f := 61) rfl ?_); refine gL_ (some 14) Tryd.func61 #[.string a0, .string (⟨#[34]⟩ : ByteArray)] ?_; (with_reducible refine (strings_CutPrefix.calls a0 (⟨#[34]⟩ : ByteArray) t143 true _ A3.out).mono ?_); rintro e w18 ⟨rfl, hb⟩; refine ⟨_, rfl, ?_⟩; replace HB := A_ (below_step bB_ hb); (try clear hb)) | ((with_reducible refine gc_ (f := 62) rfl ?_); refine gL_ (some 19) Tryd.func62 #[.string t143, .string (⟨#[34]⟩ : ByteArray)] ?_; (with_reducible refine (strings_Cut.calls t143 (⟨#[34]⟩ : ByteArray) t145 t146 true _ ?gM28 A4.out).mono ?_); (case gM28 => exact gM_ HGM.out bB_); rintro e w19 ⟨rfl, hb⟩; refine ⟨_, rfl, ?_⟩; replace HB := A_ (below_step bB_ hb); (try clear hb)) | (go_at_call 63; (with_reducible refine (impl_in.calls (t145.size : Int) a1 10 false _ A7.out).mono ?_); rintro e w' ⟨rfl, ⟨nd, rfl⟩⟩))
       go_ret3
       exact ⟨rr_, bB_⟩
   · replace c6 := Bool.eq_false_iff.mpr c6
     subst c6
     rw [if_neg nf_] at H
     simp only [Option.some.injEq, Prod.mk.injEq] at H
     obtain ⟨rfl, rfl, rfl⟩ := H
     go_enter Tryd.func35, Tryd.ntmps35
     go_wp2_with (first | ((with_reducible refine gc_ (f := 61) rfl ?_); refine gL_ (some 14) Tryd.func61 #[.string a0, .string (⟨#[34]⟩ : ByteArray)] ?_; (with_reducible refine (strings_CutPrefix.calls a0 (⟨#[34]⟩ : ByteArray) t143 true _ A3.out).mono ?_); rintro e w20 ⟨rfl, hb⟩; refine ⟨_, rfl, ?_⟩; replace HB := A_ (below_step bB_ hb); (try clear hb)) | ((with_reducible refine gc_ (f := 62) rfl ?_); refine gL_ (some 19) Tryd.func62 #[.string t143, .string (⟨#[34]⟩ : ByteArray)] ?_; (with_reducible refine (strings_Cut.calls t143 (⟨#[34]⟩ : ByteArray) t145 t146 false _ ?gM29 A4.out).mono ?_); (case gM29 => exact gM_ HGM.out bB_); rintro e w21 ⟨rfl, hb⟩; refine ⟨_, rfl, ?_⟩; replace HB := A_ (below_step bB_ hb); (try clear hb)))
     go_ret3
     exact ⟨rr_, bB_⟩
 · replace c5 := Bool.eq_false_iff.mpr c5
   subst c5
   rw [if_neg nf_] at H
   simp only [Option.some.injEq, Prod.mk.injEq] at H
   obtain ⟨rfl, rfl, rfl⟩ := H
   go_enter Tryd.func35, Tryd.ntmps35
   go_wp2_with (first | ((with_reducible refine gc_ (f := 61) rfl ?_); refine gL_ (some 14) Tryd.func61 #[.string a0, .string (⟨#[34]⟩ : ByteArray)] ?_; (with_reducible refine (strings_CutPrefix.calls a0 (⟨#[34]⟩ : ByteArray) t143 false _ A3.out).mono ?_); rintro e w22 ⟨rfl, hb⟩; refine ⟨_, rfl, ?_⟩; replace HB := A_ (below_step bB_ hb); (try clear hb)) | ((with_reducible refine gc_ (f := 62) rfl ?_); refine gL_ (some 19) Tryd.func62 #[.string t143, .string (⟨#[34]⟩ : ByteArray)] ?_; (with_reducible refine (strings_Cut.calls t143 (⟨#[34]⟩ : ByteArray) t145 t146 t147 _ ?gM30 A4.out).mono ?_); (case gM30 => exact gM_ HGM.out bB_); rintro e w23 ⟨rfl, hb⟩; refine ⟨_, rfl, ?_⟩; replace HB := A_ (below_step bB_ hb); (try clear hb)))
   go_ret3
   exact ⟨rr_, bB_⟩
def impl_Trim.f (a0 : ByteArray) : Option (ByteArray) := (strings_Trim.f a0 (⟨#[32, 9]⟩ : ByteArray)).bind fun t150 => (some t150)
theorem impl_Trim.calls (a0 : ByteArray) (r : ByteArray) (w : World) (h : impl_Trim.f a0 = some r) :
 Calls Tryd.prog 36 #[.string a0] w fun e w' => e = .returned (.string r) ∧ Below w.heap.size w w' := by
 have HB := A_ (Below.refl w.heap.size w)
 have H : ((strings_Trim.f a0 (⟨#[32, 9]⟩ : ByteArray)).bind fun t150 => (some t150)) = some r := h
 clear h
 obtain ⟨t150, A2, H⟩ := bo_ H
 (try dsimp only at H)
 obtain rfl := si_ H
 go_enter Tryd.func36, Tryd.ntmps36
 go_wp2_with (first | ((with_reducible refine gc_ (f := 65) rfl ?_); refine gL_ (some 4) Tryd.func65 #[.string a0, .string (⟨#[32, 9]⟩ : ByteArray)] ?_; (with_reducible refine (strings_Trim.calls a0 (⟨#[32, 9]⟩ : ByteArray) t150 _ A2.out).mono ?_); rintro e w3 ⟨rfl, hb⟩; refine ⟨_, rfl, ?_⟩; replace HB := A_ (below_step bB_ hb); (try clear hb)))
 go_ret
 exact ⟨rr_, bB_⟩
set_option maxHeartbeats 8000000
set_option maxRecDepth 100000
mutual
def impl_ParseTags.l0 : Nat → ByteArray → List ByteArray → Option (List ByteArray × Bool)
 | 0, _, _ => none
 | k + 1, x0, x4 => (impl_Trim.f x0).bind fun t154 => ((impl_tagAt.f k t154 0).bind fun bt155 => (if bt155.2.2 = true then (impl_ParseTags.j1 k x4 bt155.1 bt155.2.1 (decide ((x4.length : Int) ≥ 5))) else (impl_ParseTags.j1 k x4 bt155.1 bt155.2.1 true)))
def impl_ParseTags.j1 : Nat → List ByteArray → ByteArray → ByteArray → Bool → Option (List ByteArray × Bool)
 | 0, _, _, _, _ => none
 | k + 1, x4, x5, x6, x24 => if x24 = true then (some (([] : List ByteArray), false)) else (if x4.length < 8796093022208 then ((some (x4 ++ [x5] : List ByteArray)).bind fun y158 => ((impl_Trim.f x6).bind fun t161 => (if t161.toList = ([] : List UInt8) then (some (y158, true)) else (if 0 < (t161.size : Int) then (if (bt t161 0) = 44 then (if 1 ≤ (t161.size : Int) then (impl_ParseTags.l0 k (t161.extract 1 t161.size) y158) else (none)) else (some (([] : List ByteArray), false))) else (none))))) else (none))
end
def impl_ParseTags.f (k : Nat) (a0 : ByteArray) : Option (List ByteArray × Bool) := if a0.toList = ([42] : List UInt8) then (some ((([(⟨#[42]⟩ : ByteArray)] : List ByteArray)), true)) else (impl_ParseTags.l0 k a0 ([] : List ByteArray))
theorem impl_ParseTags.calls (k : Nat) (a0 : ByteArray) (r1 : List ByteArray) (r2 : Bool) (w : World) (hGM : GM w) (h : impl_ParseTags.f k a0 = some (r1, r2)) :
 Calls Tryd.prog 13 #[.string a0] w fun e w' => ∃ v0_ : Value, e = .returned (.tuple #[v0_, .bool r2]) ∧ Kd.R Kd.string 9 w' w.heap.size (fun _ => True) v0_ r1 ∧ Below w.heap.size w w' := by
 have HGM := A_ hGM
 clear hGM
 have HB := A_ (Below.refl w.heap.size w)
 have H : (if a0.toList = ([42] : List UInt8) then (some ((([(⟨#[42]⟩ : ByteArray)] : List ByteArray)), true)) else (impl_ParseTags.l0 k a0 ([] : List ByteArray))) = some (r1, r2) := h
 clear h
 by_cases c2 : a0.toList = ([42] : List UInt8)
 · rw [if_pos c2] at H
   have c2b0 : (a0.toList == ([42] : List UInt8)) = true := beq_iff_eq.mpr c2
   have c2b1 : (a0.toList != ([42] : List UInt8)) = false := bne_eq_false_iff_eq.mpr c2
   clear c2
   obtain ⟨y151, hy151⟩ : ∃ y_ : List ByteArray, y_ = (([(⟨#[42]⟩ : ByteArray)] : List ByteArray)) := ⟨_, rfl⟩
   replace H : (some (y151, true)) = some (r1, r2) := hy_ hy151 H
   have Ny151 := A_ hy151
   clear hy151
   simp only [Option.some.injEq, Prod.mk.injEq] at H
   obtain ⟨rfl, rfl⟩ := H
   go_enter Tryd.func13, Tryd.ntmps13
   go_wp2_with (first | ((with_reducible refine gd_ (N := 10) rfl ?_); (try (refine gate_guard (by rfl) ?_; dsimp only)); refine Kd.R_lit Kd.string _ 9 ?hg (N := 10) ?hd (xs := ([(⟨#[42]⟩ : ByteArray)] : List ByteArray)) (inner := [.string (⟨#[42]⟩ : ByteArray)]) (ok := fun _ => True) (okp := fun _ => True) ?hr ?hp (fun _ hk => hk) trivial (Below.refl _ _) (Nat.le_refl _) (by simp) ?_; (case hd => rfl); (case hg => rfl); (case hr => first | (go_simp; done) | (go_simp; rfl)); (case hp => exact (Reps.one (show Kd.M Kd.string _ _ _ (⟨#[42]⟩ : ByteArray) [.string (⟨#[42]⟩ : ByteArray)] from rfl) (Reps.none _ _))); intro v152 w3 ho4 hb hg_ hnew_; clear hg_ hnew_; (first | rw [← Ny151.out] at ho4 | (simp only [Int.reduceToNat] at ho4; rw [← Ny151.out] at ho4)); have HO153 := A_ (Kd.R_lower ho4 (below_size bB_)); replace HB := A_ (below_step bB_ hb); clear hb ho4))
   go_ret2
   exact ⟨_, rr_, by (with_reducible repeat (first | apply Kd.R_alloc | apply Kd.R_drewN | apply Kd.R_drew)); exact HO153.out, bB_⟩
 rw [if_neg c2] at H
 have c2b0 : (a0.toList == ([42] : List UInt8)) = false := beq_eq_false_iff_ne.mpr c2
 have c2b1 : (a0.toList != ([42] : List UInt8)) = true := bne_iff_ne.mpr c2
 have H' := A_ H
 clear H
 go_enter Tryd.func13, Tryd.ntmps13
 go_wp2
 go_loopg [0, 4] k (fun kq v0 v4 w' => ∃ (x0_1 : ByteArray) (x4_1 : List ByteArray), v0 = .string x0_1 ∧ Aside0 (impl_ParseTags.l0 kq x0_1 x4_1 = some (r1, r2)) ∧ Aside0 (kq ≤ k) ∧ Aside0 (Kd.R Kd.string 9 w' w.heap.size (fun _ => True) v4 x4_1) ∧ Aside0 (Below w.heap.size w w'))
 case atStart => exact ⟨(a0), (([] : List ByteArray)), rs_, H', ⟨Nat.le_refl _⟩, ⟨by first | exact Kd.R_nil _ _ _ _ _ | exact Kd.N_nil _ _ _ _ _ | exact Kd.V_nil _ _ _ _ _ | exact Kd.Q_nil _ _ _ _ _ | exact Kd.S_nil _ _ _ _ _⟩, ⟨bB_⟩⟩
 case round =>
  clear H'
  try clear c1
  try clear c2
  try clear c2b0
  try clear c2b1
  try clear p2
  obtain ⟨x0_1, x4_1, rfl, HA, HK1, HO_4, HB⟩ := hrel
  cases gk with
  | zero => exact absurd HA.out (by simp [impl_ParseTags.l0])
  | succ k1 =>
   have H := HA.out
   clear HA
   simp only [impl_ParseTags.l0] at H
   obtain ⟨t154, A5, H⟩ := bo_ H
   (try dsimp only at H)
   obtain ⟨⟨t155, t156, t157⟩, A6, H⟩ := bo_ H
   (try dsimp only at H)
   have HC7 := A_ H
   clear H
   go_upto_region 5 with (first | ((with_reducible refine gc_ (f := 36) rfl ?_); refine gL_ (some 13) Tryd.func36 #[.string x0_1] ?_; (with_reducible refine (impl_Trim.calls x0_1 t154 _ A5.out).mono ?_); rintro e w8 ⟨rfl, hb⟩; refine ⟨_, rfl, ?_⟩; replace HO_4 := A_ (Kd.R_below (vR_ HO_4.out) hb); replace HB := A_ (below_step bB_ hb); (try clear hb)) | ((with_reducible refine gc_ (f := 35) rfl ?_); refine gL_ (some 14) Tryd.func35 #[.string t154, .int .i64 0] ?_; (with_reducible refine (impl_tagAt.calls k1 t154 0 t155 t156 t157 _ ?gM31 A6.out).mono ?_); (case gM31 => exact gM_ HGM.out bB_); rintro e w9 ⟨rfl, hb⟩; refine ⟨_, rfl, ?_⟩; replace HO_4 := A_ (Kd.R_below (vR_ HO_4.out) hb); replace HB := A_ (below_step bB_ hb); (try clear hb)))
   (try simp only [Act.put, List.setIfInBounds_toArray, List.set_cons_zero, List.set_cons_succ])
   go_cut [24] (fun v24 wc => ∃ (kq : Nat) (x24_6 : Bool), v24 = .bool x24_6 ∧ Aside0 (impl_ParseTags.j1 kq x4_1 t155 t156 x24_6 = some (r1, r2)) ∧ Aside0 (kq ≤ k1) ∧ Aside0 (Kd.R Kd.string 9 wc w.heap.size (fun _ => True) u4 x4_1) ∧ Aside0 (Below w.heap.size w wc))
   case first =>
    have H := HC7.out
    clear HC7
    by_cases c10 : t157 = true
    · subst c10
      rw [if_pos rfl] at H
      have H' := A_ H
      clear H
      obtain ⟨Ao11, co11, eo11⟩ := Kd.R_slice HO_4.out
      subst eo11
      go_wp2
      go_meet
      case rel => exact ⟨_, (decide ((x4_1.length : Int) ≥ 5)), rs_, H', ⟨by have := HK1.out; first | omega | exact Nat.le_refl _⟩, ⟨vR_ HO_4.out⟩, ⟨bB_⟩⟩
    · replace c10 := Bool.eq_false_iff.mpr c10
      subst c10
      rw [if_neg nf_] at H
      have H' := A_ H
      clear H
      go_wp2
      go_meet
      case rel => exact ⟨_, (true), rs_, H', ⟨by have := HK1.out; first | omega | exact Nat.le_refl _⟩, ⟨vR_ HO_4.out⟩, ⟨bB_⟩⟩
   case rest =>
    clear HC7
    try clear c1
    try clear c2
    try clear c2b0
    try clear c2b1
    try clear p2
    try clear c3
    try clear c10
    try clear p2
    obtain ⟨kq, x24_6, rfl, HA, HJ6, HO_4, HB⟩ := hcut
    cases kq with
    | zero => exact absurd HA.out (by simp [impl_ParseTags.j1])
    | succ kj6 =>
     have H := HA.out
     clear HA
     simp only [impl_ParseTags.j1] at H
     by_cases c12 : x24_6 = true
     · subst c12
       rw [if_pos rfl] at H
       simp only [Option.some.injEq, Prod.mk.injEq] at H
       obtain ⟨rfl, rfl⟩ := H
       go_wp2
       go_ret2
       exact ⟨_, rr_, by first | exact Kd.R_nil _ _ _ _ _ | exact Kd.N_nil _ _ _ _ _ | exact Kd.V_nil _ _ _ _ _ | exact Kd.Q_nil _ _ _ _ _ | exact Kd.S_nil _ _ _ _ _, bB_⟩
     · replace c12 := Bool.eq_false_iff.mpr c12
       subst c12
       rw [if_neg nf_] at H
       by_cases c13 : x4_1.length < 8796093022208
       rotate_left
       · exact absurd H (by rw [if_neg c13]; simp)
       rw [if_pos c13] at H
       have LMc13 := A_ c13
       clear c13
       obtain ⟨y158, hy158⟩ : ∃ y_ : List ByteArray, y_ = (x4_1 ++ [t155]) := ⟨_, rfl⟩
       replace H : ((impl_Trim.f t156).bind fun t161 => (if t161.toList = ([] : List UInt8) then (some (y158, true)) else (if 0 < (t161.size : Int) then (if (bt t161 0) = 44 then (if 1 ≤ (t161.size : Int) then (impl_ParseTags.l0 kj6 (t161.extract 1 t161.size) y158) else (none)) else (some (([] : List ByteArray), false))) else (none)))) = some (r1, r2) := hy_ hy158 H
       have Ny158 := A_ hy158
       clear hy158
       obtain ⟨t161, A14, H⟩ := bo_ H
       (try dsimp only at H)
       by_cases c15 : t161.toList = ([] : List UInt8)
       · rw [if_pos c15] at H
         have c15b0 : (t161.toList == ([] : List UInt8)) = true := beq_iff_eq.mpr c15
         have c15b1 : (t161.toList != ([] : List UInt8)) = false := bne_eq_false_iff_eq.mpr c15
         clear c15
         simp only [Option.some.injEq, Prod.mk.injEq] at H
         obtain ⟨rfl, rfl⟩ := H
         go_wp2_with (first | ((with_reducible refine gate_builtin (b := .append) (xs := #[.tmp 25, .tmp 27]) rfl ?_); (try (refine gate_guard (by rfl) ?_; dsimp only)); at_builtin; refine Kd.R_append Kd.string (w0 := w) w.heap.size rfl (.tmp 25) (.tmp 27) 25 9 (.string ⟨#[]⟩) 16 rfl Tryd.underlying25 info9 rfl (by decide) (by omega) u4 x4_1 t155 [.string t155] (fun _ => True) (fun _ => False) rfl rfl ?aP (fun _ hk => hk.elim) ?aF ?aO ?aB ?aS ?aL ?_; (case aP => exact rfl); (case aB => exact bB_); (case aF => exact (fun _ _ => trivial)); (case aO => exact (vR_ HO_4.out)); (case aS => exact (below_size bB_)); (case aL => have := LMc13.out; omega); intro v159 w16 ho hb hg hat; rw [← Ny158.out] at ho; replace HB := A_ (hb); have HO160 := A_ (ho); clear HO_4; clear ho hb hg hat) | ((with_reducible refine gc_ (f := 36) rfl ?_); refine gL_ (some 30) Tryd.func36 #[.string t156] ?_; (with_reducible refine (impl_Trim.calls t156 t161 _ A14.out).mono ?_); rintro e w17 ⟨rfl, hb⟩; refine ⟨_, rfl, ?_⟩; replace HO160 := A_ (Kd.R_below (vR_ HO160.out) hb); replace HB := A_ (below_step bB_ hb); (try clear hb)))
         go_ret2
         exact ⟨_, rr_, by (with_reducible repeat (first | apply Kd.R_alloc | apply Kd.R_drewN | apply Kd.R_drew)); exact HO160.out, bB_⟩
       rw [if_neg c15] at H
       have c15b0 : (t161.toList == ([] : List UInt8)) = false := beq_eq_false_iff_ne.mpr c15
       have c15b1 : (t161.toList != ([] : List UInt8)) = true := bne_iff_ne.mpr c15
       by_cases c18 : 0 < (t161.size : Int)
       rotate_left
       · exact absurd H (by rw [if_neg c18]; simp)
       rw [if_pos c18] at H
       have c18b0 : decide (0 < (t161.size : Int)) = true := decide_eq_true c18
       have c18b1 : decide (0 < t161.size) = true := decide_eq_true (by omega)
       clear c18
       by_cases c20 : (bt t161 0) = 44
       rotate_left
       · rw [if_neg c20] at H
         have c20b0 : ((bt t161 0) == 44) = false := beq_eq_false_iff_ne.mpr c20
         have c20b1 : ((bt t161 0) != 44) = true := bne_iff_ne.mpr c20
         simp only [Option.some.injEq, Prod.mk.injEq] at H
         obtain ⟨rfl, rfl⟩ := H
         go_wp2_with (first | ((with_reducible refine gate_builtin (b := .append) (xs := #[.tmp 25, .tmp 27]) rfl ?_); (try (refine gate_guard (by rfl) ?_; dsimp only)); at_builtin; refine Kd.R_append Kd.string (w0 := w) w.heap.size rfl (.tmp 25) (.tmp 27) 25 9 (.string ⟨#[]⟩) 16 rfl Tryd.underlying25 info9 rfl (by decide) (by omega) u4 x4_1 t155 [.string t155] (fun _ => True) (fun _ => False) rfl rfl ?aP (fun _ hk => hk.elim) ?aF ?aO ?aB ?aS ?aL ?_; (case aP => exact rfl); (case aB => exact bB_); (case aF => exact (fun _ _ => trivial)); (case aO => exact (vR_ HO_4.out)); (case aS => exact (below_size bB_)); (case aL => have := LMc13.out; omega); intro v159 w24 ho hb hg hat; rw [← Ny158.out] at ho; replace HB := A_ (hb); have HO160 := A_ (ho); clear HO_4; clear ho hb hg hat) | ((with_reducible refine gc_ (f := 36) rfl ?_); refine gL_ (some 30) Tryd.func36 #[.string t156] ?_; (with_reducible refine (impl_Trim.calls t156 t161 _ A14.out).mono ?_); rintro e w25 ⟨rfl, hb⟩; refine ⟨_, rfl, ?_⟩; replace HO160 := A_ (Kd.R_below (vR_ HO160.out) hb); replace HB := A_ (below_step bB_ hb); (try clear hb); have p19 : 0 ≤ (0 : Int) := (by omega); have q19 : 0 < t161.size := (by have : (0 : Int) < (t161.size : Int) := od_; omega); have hx19 : ∀ h : 0 < t161.size, ((t161[0]'h).toNat : Int) = bt t161 0 := bt_at t161 0; clear p19; have qi19 : (0 < (t161.size : Int)) = True := eq_true od_; replace q19 := eq_true q19))
         go_ret2
         exact ⟨_, rr_, by first | exact Kd.R_nil _ _ _ _ _ | exact Kd.N_nil _ _ _ _ _ | exact Kd.V_nil _ _ _ _ _ | exact Kd.Q_nil _ _ _ _ _ | exact Kd.S_nil _ _ _ _ _, bB_⟩
       rw [if_pos c20] at H
       have c20b0 : ((bt t161 0) == 44) = true := beq_iff_eq.mpr c20
       have c20b1 : ((bt t161 0) != 44) = false := bne_eq_false_iff_eq.mpr c20
       clear c20
       by_cases c21 : 1 ≤ (t161.size : Int)
       rotate_left
       · exact absurd H (by rw [if_neg c21]; simp)
       rw [if_pos c21] at H
       have c21b0 := eq_true c21
       have c21b1 : decide (1 ≤ (t161.size : Int)) = true := decide_eq_true c21
       clear c21
       have H' := A_ H
       clear H
       go_wp2_with (first | ((with_reducible refine gate_builtin (b := .append) (xs := #[.tmp 25, .tmp 27]) rfl ?_); (try (refine gate_guard (by rfl) ?_; dsimp only)); at_builtin; refine Kd.R_append Kd.string (w0 := w) w.heap.size rfl (.tmp 25) (.tmp 27) 25 9 (.string ⟨#[]⟩) 16 rfl Tryd.underlying25 info9 rfl (by decide) (by omega) u4 x4_1 t155 [.string t155] (fun _ => True) (fun _ => False) rfl rfl ?aP (fun _ hk => hk.elim) ?aF ?aO ?aB ?aS ?aL ?_; (case aP => exact rfl); (case aB => exact bB_); (case aF => exact (fun _ _ => trivial)); (case aO => exact (vR_ HO_4.out)); (case aS => exact (below_size bB_)); (case aL => have := LMc13.out; omega); intro v159 w22 ho hb hg hat; rw [← Ny158.out] at ho; replace HB := A_ (hb); have HO160 := A_ (ho); clear HO_4; clear ho hb hg hat) | ((with_reducible refine gc_ (f := 36) rfl ?_); refine gL_ (some 30) Tryd.func36 #[.string t156] ?_; (with_reducible refine (impl_Trim.calls t156 t161 _ A14.out).mono ?_); rintro e w23 ⟨rfl, hb⟩; refine ⟨_, rfl, ?_⟩; replace HO160 := A_ (Kd.R_below (vR_ HO160.out) hb); replace HB := A_ (below_step bB_ hb); (try clear hb); have p19 : 0 ≤ (0 : Int) := (by omega); have q19 : 0 < t161.size := (by have : (0 : Int) < (t161.size : Int) := od_; omega); have hx19 : ∀ h : 0 < t161.size, ((t161[0]'h).toNat : Int) = bt t161 0 := bt_at t161 0; clear p19; have qi19 : (0 < (t161.size : Int)) = True := eq_true od_; replace q19 := eq_true q19))
       go_roundg kj6
       case measure => have := HK1.out; have := HJ6.out; omega
       case rel => exact ⟨(t161.extract 1 t161.size), (y158), rs_, H', ⟨by have := HK1.out; have := HJ6.out; omega⟩, ⟨vR_ HO160.out⟩, ⟨bB_⟩⟩
def impl_tagged.l0 : Nat → ByteArray → Bool → List ByteArray → Int → Int → Option (Bool × Bool)
 | 0, _, _, _, _, _ => none
 | k + 1, x1, x7, x15, x16, x17 => if x17 < x16 then (if 0 ≤ x17 then (if x17 < (x15.length : Int) then (if (rdOf ByteArray.empty x15 x17).toList = x1.toList then (some (true, x7)) else (impl_tagged.l0 k x1 x7 x15 x16 (wrap64 (x17 + 1)))) else (none)) else (none)) else (some (false, x7))
def impl_tagged.f (k : Nat) (a0 : ByteArray) (a1 : ByteArray) : Option (Bool × Bool) := (impl_ParseTags.f k a0).bind fun bt162 => (impl_tagged.l0 k a1 bt162.2 bt162.1 (bt162.1.length : Int) 0)
theorem impl_tagged.calls (k : Nat) (a0 : ByteArray) (a1 : ByteArray) (r1 : Bool) (r2 : Bool) (w : World) (hGM : GM w) (h : impl_tagged.f k a0 a1 = some (r1, r2)) :
 Calls Tryd.prog 32 #[.string a0, .string a1] w fun e w' => e = .returned (.tuple #[.bool r1, .bool r2]) ∧ Below w.heap.size w w' := by
 have HGM := A_ hGM
 clear hGM
 have HB := A_ (Below.refl w.heap.size w)
 have H : ((impl_ParseTags.f k a0).bind fun bt162 => (impl_tagged.l0 k a1 bt162.2 bt162.1 (bt162.1.length : Int) 0)) = some (r1, r2) := h
 clear h
 obtain ⟨⟨t162, t163⟩, A3, H⟩ := bo_ H
 (try dsimp only at H)
 have H' := A_ H
 clear H
 go_enter Tryd.func32, Tryd.ntmps32
 go_wp2_with (first | ((with_reducible refine gc_ (f := 13) rfl ?_); refine gL_ (some 12) Tryd.func13 #[.string a0] ?_; (with_reducible refine (impl_ParseTags.calls k a0 t162 t163 _ ?gM32 A3.out).mono ?_); (case gM32 => exact gM_ HGM.out bB_); rintro e w4 ⟨v164, rfl, ho0, hb⟩; refine ⟨_, rfl, ?_⟩; have HO165 := A_ (Kd.R_lower ho0 (below_size bB_)); replace HB := A_ (below_step bB_ hb); (try clear hb); (try clear ho0); obtain ⟨Ao5, co5, eo5⟩ := Kd.R_slice HO165.out; subst eo5))
 go_loopg [17] k (fun kq v17 w' => ∃ (x17_1 : Int), v17 = .int .i64 x17_1 ∧ Aside0 (impl_tagged.l0 kq a1 t163 t162 (t162.length : Int) x17_1 = some (r1, r2)) ∧ Aside0 (kq ≤ k) ∧ Aside0 (Kd.R Kd.string 9 w' w.heap.size (fun _ => True) (.slice Ao5 t162.length co5) t162) ∧ Aside0 (Below w.heap.size w w'))
 case atStart => exact ⟨(0), rs_, H', ⟨Nat.le_refl _⟩, ⟨vR_ HO165.out⟩, ⟨bB_⟩⟩
 case round =>
  clear H'
  try clear c1
  try clear p2
  try clear c3
  obtain ⟨x17_1, rfl, HA, HK1, HO_15, HB⟩ := hrel
  cases gk with
  | zero => exact absurd HA.out (by simp [impl_tagged.l0])
  | succ k1 =>
   have H := HA.out
   clear HA
   simp only [impl_tagged.l0] at H
   by_cases c6 : x17_1 < (t162.length : Int)
   rotate_left
   · rw [if_neg c6] at H
     have c6b0 : decide (x17_1 < (t162.length : Int)) = false := decide_eq_false c6
     clear c6
     simp only [Option.some.injEq, Prod.mk.injEq] at H
     obtain ⟨rfl, rfl⟩ := H
     go_wp2
     go_ret2
     exact ⟨rr_, bB_⟩
   rw [if_pos c6] at H
   have c6b0 : decide (x17_1 < (t162.length : Int)) = true := decide_eq_true c6
   clear c6
   by_cases c7 : 0 ≤ x17_1
   rotate_left
   · exact absurd H (by rw [if_neg c7]; simp)
   rw [if_pos c7] at H
   have c7b0 : decide (0 ≤ x17_1) = true := decide_eq_true c7
   clear c7
   by_cases c8 : x17_1 < (t162.length : Int)
   rotate_left
   · exact absurd H (by rw [if_neg c8]; simp)
   rw [if_pos c8] at H
   have c8b0 : decide (x17_1 < (t162.length : Int)) = true := decide_eq_true c8
   clear c8
   by_cases c9 : (rdOf ByteArray.empty t162 x17_1).toList = a1.toList
   · rw [if_pos c9] at H
     have c9b0 : ((rdOf ByteArray.empty t162 x17_1).toList == a1.toList) = true := beq_iff_eq.mpr c9
     have c9b1 : ((rdOf ByteArray.empty t162 x17_1).toList != a1.toList) = false := bne_eq_false_iff_eq.mpr c9
     clear c9
     simp only [Option.some.injEq, Prod.mk.injEq] at H
     obtain ⟨rfl, rfl⟩ := H
     have p166 : 0 ≤ (x17_1 : Int) := od_
     have q166 : x17_1 < (t162.length : Int) := od_
     obtain ⟨ad166, e166, hx166_0⟩ := Kd.at_string (Kd.R_reads' HO_15.out).2.2 x17_1 p166 q166
     cases e166
     replace p166 := eq_true p166
     replace q166 := eq_true q166
     go_wp2
     go_ret2
     exact ⟨rr_, bB_⟩
   rw [if_neg c9] at H
   have c9b0 : ((rdOf ByteArray.empty t162 x17_1).toList == a1.toList) = false := beq_eq_false_iff_ne.mpr c9
   have c9b1 : ((rdOf ByteArray.empty t162 x17_1).toList != a1.toList) = true := bne_iff_ne.mpr c9
   have H' := A_ H
   clear H
   have p166 : 0 ≤ (x17_1 : Int) := od_
   have q166 : x17_1 < (t162.length : Int) := od_
   obtain ⟨ad166, e166, hx166_0⟩ := Kd.at_string (Kd.R_reads' HO_15.out).2.2 x17_1 p166 q166
   cases e166
   replace p166 := eq_true p166
   replace q166 := eq_true q166
   go_wp2
   go_roundg k1
   case measure => have := HK1.out; omega
   case rel => exact ⟨(wrap64 (x17_1 + 1)), rs_, H', ⟨by have := HK1.out; omega⟩, ⟨vR_ HO_15.out⟩, ⟨bB_⟩⟩
def impl_NoneOk.f (k : Nat) (a0 : ByteArray) (a1 : Bool) (a2 : ByteArray) : Option (Bool) := (impl_tagged.f k a0 a2).bind fun bt167 => (if a1 = true then (if a0.toList = ([42] : List UInt8) then (some false) else (if bt167.2 = true then (some (!bt167.1)) else (some (!false)))) else (some true))
theorem impl_NoneOk.calls (k : Nat) (a0 : ByteArray) (a1 : Bool) (a2 : ByteArray) (r : Bool) (w : World) (hGM : GM w) (h : impl_NoneOk.f k a0 a1 a2 = some r) :
 Calls Tryd.prog 11 #[.string a0, .bool a1, .string a2] w fun e w' => e = .returned (.bool r) ∧ Below w.heap.size w w' := by
 have HGM := A_ hGM
 clear hGM
 have HB := A_ (Below.refl w.heap.size w)
 have H : ((impl_tagged.f k a0 a2).bind fun bt167 => (if a1 = true then (if a0.toList = ([42] : List UInt8) then (some false) else (if bt167.2 = true then (some (!bt167.1)) else (some (!false)))) else (some true))) = some r := h
 clear h
 obtain ⟨⟨t167, t168⟩, A4, H⟩ := bo_ H
 (try dsimp only at H)
 by_cases c5 : a1 = true
 · subst c5
   rw [if_pos rfl] at H
   by_cases c6 : a0.toList = ([42] : List UInt8)
   · rw [if_pos c6] at H
     have c6b0 : (a0.toList == ([42] : List UInt8)) = true := beq_iff_eq.mpr c6
     have c6b1 : (a0.toList != ([42] : List UInt8)) = false := bne_eq_false_iff_eq.mpr c6
     clear c6
     obtain rfl := si_ H
     go_enter Tryd.func11, Tryd.ntmps11
     go_wp2_with (first | ((with_reducible refine gc_ (f := 32) rfl ?_); refine gL_ (some 12) Tryd.func32 #[.string a0, .string a2] ?_; (with_reducible refine (impl_tagged.calls k a0 a2 t167 t168 _ ?gM33 A4.out).mono ?_); (case gM33 => exact gM_ HGM.out bB_); rintro e w7 ⟨rfl, hb⟩; refine ⟨_, rfl, ?_⟩; replace HB := A_ (below_step bB_ hb); (try clear hb)))
     go_ret
     exact ⟨rr_, bB_⟩
   rw [if_neg c6] at H
   have c6b0 : (a0.toList == ([42] : List UInt8)) = false := beq_eq_false_iff_ne.mpr c6
   have c6b1 : (a0.toList != ([42] : List UInt8)) = true := bne_iff_ne.mpr c6
   by_cases c8 : t168 = true
   · subst c8
     rw [if_pos rfl] at H
     obtain rfl := si_ H
     go_enter Tryd.func11, Tryd.ntmps11
     go_wp2_with (first | ((with_reducible refine gc_ (f := 32) rfl ?_); refine gL_ (some 12) Tryd.func32 #[.string a0, .string a2] ?_; (with_reducible refine (impl_tagged.calls k a0 a2 t167 true _ ?gM34 A4.out).mono ?_); (case gM34 => exact gM_ HGM.out bB_); rintro e w9 ⟨rfl, hb⟩; refine ⟨_, rfl, ?_⟩; replace HB := A_ (below_step bB_ hb); (try clear hb)))
     go_ret
     exact ⟨rr_, bB_⟩
   · replace c8 := Bool.eq_false_iff.mpr c8
     subst c8
     rw [if_neg nf_] at H
     obtain rfl := si_ H
     go_enter Tryd.func11, Tryd.ntmps11
     go_wp2_with (first | ((with_reducible refine gc_ (f := 32) rfl ?_); refine gL_ (some 12) Tryd.func32 #[.string a0, .string a2] ?_; (with_reducible refine (impl_tagged.calls k a0 a2 t167 false _ ?gM35 A4.out).mono ?_); (case gM35 => exact gM_ HGM.out bB_); rintro e w10 ⟨rfl, hb⟩; refine ⟨_, rfl, ?_⟩; replace HB := A_ (below_step bB_ hb); (try clear hb)))
     go_ret
     exact ⟨rr_, bB_⟩
 · replace c5 := Bool.eq_false_iff.mpr c5
   subst c5
   rw [if_neg nf_] at H
   obtain rfl := si_ H
   go_enter Tryd.func11, Tryd.ntmps11
   go_wp2_with (first | ((with_reducible refine gc_ (f := 32) rfl ?_); refine gL_ (some 12) Tryd.func32 #[.string a0, .string a2] ?_; (with_reducible refine (impl_tagged.calls k a0 a2 t167 t168 _ ?gM36 A4.out).mono ?_); (case gM36 => exact gM_ HGM.out bB_); rintro e w11 ⟨rfl, hb⟩; refine ⟨_, rfl, ?_⟩; replace HB := A_ (below_step bB_ hb); (try clear hb)))
   go_ret
   exact ⟨rr_, bB_⟩
def laws_FnExactNoneOk.f (k : Nat) (a0 : ByteArray) (a1 : Bool) (a2 : ByteArray) : Option (Bool) := if (a0.size : Int) > 1048576 then (some true) else (if (a2.size : Int) > 1048576 then (some true) else ((spec_NoneOk.f k a0 a1 a2).bind fun t169 => ((impl_NoneOk.f k a0 a1 a2).bind fun t170 => (if (t170 != t169) = true then (some false) else (some true)))))
theorem laws_FnExactNoneOk.calls (k : Nat) (a0 : ByteArray) (a1 : Bool) (a2 : ByteArray) (r : Bool) (w : World) (hGM : GM w) (h : laws_FnExactNoneOk.f k a0 a1 a2 = some r) :
 Calls Tryd.prog 4 #[.string a0, .bool a1, .string a2] w fun e w' => e = .returned (.bool r) ∧ Below w.heap.size w w' := by
 have HGM := A_ hGM
 clear hGM
 have HB := A_ (Below.refl w.heap.size w)
 have H : (if (a0.size : Int) > 1048576 then (some true) else (if (a2.size : Int) > 1048576 then (some true) else ((spec_NoneOk.f k a0 a1 a2).bind fun t169 => ((impl_NoneOk.f k a0 a1 a2).bind fun t170 => (if (t170 != t169) = true then (some false) else (some true)))))) = some r := h
 clear h
 by_cases c4 : (a0.size : Int) > 1048576
 · rw [if_pos c4] at H
   have c4b0 : decide (1048576 < (a0.size : Int)) = true := decide_eq_true c4
   have c4b1 : decide (1048576 < a0.size) = true := decide_eq_true (by omega)
   clear c4
   obtain rfl := si_ H
   go_enter Tryd.func4, Tryd.ntmps4
   go_wp2
   go_ret
   exact ⟨rr_, bB_⟩
 rw [if_neg c4] at H
 have c4b0 : decide (1048576 < (a0.size : Int)) = false := decide_eq_false c4
 have c4b1 : decide (1048576 < a0.size) = false := decide_eq_false (by omega)
 clear c4
 by_cases c5 : (a2.size : Int) > 1048576
 · rw [if_pos c5] at H
   have c5b0 : decide (1048576 < (a2.size : Int)) = true := decide_eq_true c5
   have c5b1 : decide (1048576 < a2.size) = true := decide_eq_true (by omega)
   clear c5
   obtain rfl := si_ H
   go_enter Tryd.func4, Tryd.ntmps4
   go_wp2
   go_ret
   exact ⟨rr_, bB_⟩
 rw [if_neg c5] at H
 have c5b0 : decide (1048576 < (a2.size : Int)) = false := decide_eq_false c5
 have c5b1 : decide (1048576 < a2.size) = false := decide_eq_false (by omega)
 clear c5
 obtain ⟨t169, A6, H⟩ := bo_ H
 (try dsimp only at H)
 obtain ⟨t170, A7, H⟩ := bo_ H
 (try dsimp only at H)
 by_cases c8 : (t170 != t169) = true
 rotate_left
 · rw [if_neg c8] at H
   have c8b0 : (t170 != t169) = false := by simpa using c8
   (try (have c8b1 : decide (t170 = t169) = true := by simpa using c8))
   (try (have c8b2 : (t170 == t169) = true := by simpa using c8))
   clear c8
   obtain rfl := si_ H
   go_enter Tryd.func4, Tryd.ntmps4
   go_wp2_with (first | ((with_reducible refine gc_ (f := 10) rfl ?_); refine gL_ (some 18) Tryd.func10 #[.string a0, .bool a1, .string a2] ?_; (with_reducible refine (spec_NoneOk.calls k a0 a1 a2 t169 _ A6.out).mono ?_); rintro e w11 ⟨rfl, hb⟩; refine ⟨_, rfl, ?_⟩; replace HB := A_ (below_step bB_ hb); (try clear hb)) | ((with_reducible refine gc_ (f := 11) rfl ?_); refine gL_ (some 22) Tryd.func11 #[.string a0, .bool a1, .string a2] ?_; (with_reducible refine (impl_NoneOk.calls k a0 a1 a2 t170 _ ?gM38 A7.out).mono ?_); (case gM38 => exact gM_ HGM.out bB_); rintro e w12 ⟨rfl, hb⟩; refine ⟨_, rfl, ?_⟩; replace HB := A_ (below_step bB_ hb); (try clear hb)))
   go_ret
   exact ⟨rr_, bB_⟩
 rw [if_pos c8] at H
 have c8b0 : (t170 != t169) = true := c8
 (try (have c8b1 : decide (t170 = t169) = false := by simpa using c8))
 (try (have c8b2 : (t170 == t169) = false := by simpa using c8))
 (try (have c8b3 : ¬ (t170 = t169) := by simpa using c8))
 clear c8
 obtain rfl := si_ H
 go_enter Tryd.func4, Tryd.ntmps4
 go_wp2_with (first | ((with_reducible refine gc_ (f := 10) rfl ?_); refine gL_ (some 18) Tryd.func10 #[.string a0, .bool a1, .string a2] ?_; (with_reducible refine (spec_NoneOk.calls k a0 a1 a2 t169 _ A6.out).mono ?_); rintro e w9 ⟨rfl, hb⟩; refine ⟨_, rfl, ?_⟩; replace HB := A_ (below_step bB_ hb); (try clear hb)) | ((with_reducible refine gc_ (f := 11) rfl ?_); refine gL_ (some 22) Tryd.func11 #[.string a0, .bool a1, .string a2] ?_; (with_reducible refine (impl_NoneOk.calls k a0 a1 a2 t170 _ ?gM37 A7.out).mono ?_); (case gM37 => exact gM_ HGM.out bB_); rintro e w10 ⟨rfl, hb⟩; refine ⟨_, rfl, ?_⟩; replace HB := A_ (below_step bB_ hb); (try clear hb)))
 go_ret
 exact ⟨rr_, bB_⟩
end Go.Proofs.YtigoeooelfeopaaDoor.Q

/- What a reading of a struct says of its cells. No condition. -/
namespace Go.Proofs.YtigoeooelfeopaaDoor.Q
open Go.RowKit Go.ChangeShapes Go.WideShapes Go.Proofs.YtigoeooelfeopaaDoorW.PrintWords Go.Proofs.YtigoeooelfeopaaDoor
set_option linter.unusedVariables false
set_option linter.unusedSimpArgs false
structure S35 where
  f0 : List (S93)
  f1 : List (S96)
  f2 : Int
  f3 : Int
  f4 : List Int
  f5 : List Int
def z35 : S35 := ⟨([] : List (S93)), ([] : List (S96)), (0 : Int), (0 : Int), ([] : List Int), ([] : List Int)⟩
instance : Inhabited S147 := ⟨z147⟩
instance : Inhabited S93 := ⟨z93⟩
instance : Inhabited S96 := ⟨z96⟩
instance : Inhabited S35 := ⟨z35⟩
instance : Inhabited S103 := ⟨z103⟩
end Go.Proofs.YtigoeooelfeopaaDoor.Q
