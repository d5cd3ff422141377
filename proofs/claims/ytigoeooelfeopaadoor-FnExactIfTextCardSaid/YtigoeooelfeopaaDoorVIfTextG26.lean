-- PRINTED by print.py (a twelfth state) out of the translation. Not trusted: Lean checks it.
import Derived.Test.YtigoeooelfeopaaDoorVIfTextG25
set_option maxHeartbeats 8000000
set_option maxRecDepth 100000
namespace Go.Proofs.YtigoeooelfeopaaDoor.Q
open Go.RowKit Go.Proofs.YtigoeooelfeopaaDoorW.PrintWords Go.Proofs.YtigoeooelfeopaaDoorW.PrintLast Go.Proofs.YtigoeooelfeopaaDoorW.PrintMore
attribute [local go_sem] max2_int min2_int max_two min_two max_three min_three max_four min_four   -- for this text's walks alone
set_option linter.unusedVariables false
set_option linter.unusedSimpArgs false
attribute [local go_sem high] eqA79
mutual
def impl_sameConds.l0 : Nat → List (List (S79)) → List (List (S79)) → Int → Int → Option (Bool)
 | 0, _, _, _, _ => none
 | k + 1, x0, x1, x13, x14 => if x14 < x13 then (if 0 ≤ x14 then (if x14 < (x0.length : Int) then (if x14 < (x1.length : Int) then (if ((rd_L16 x0 x14).length : Int) = ((rd_L16 x1 x14).length : Int) then (impl_sameConds.l1 k x0 x1 x14 x13 x14 ((rd_L16 x0 x14).length : Int) 0) else (some false)) else (none)) else (none)) else (none)) else (some true)
def impl_sameConds.l1 : Nat → List (List (S79)) → List (List (S79)) → Int → Int → Int → Int → Int → Option (Bool)
 | 0, _, _, _, _, _, _, _ => none
 | k + 1, x0, x1, x5, x13, x14, x32, x33 => if x33 < x32 then (if 0 ≤ x5 then (if x5 < (x0.length : Int) then (if 0 ≤ x33 then (if x33 < ((rd_L16 x0 x5).length : Int) then (if x5 < (x1.length : Int) then (if x33 < ((rd_L16 x1 x5).length : Int) then (if (!(((rd_T79 (rd_L16 x0 x5) x33).f0) == ((rd_T79 (rd_L16 x1 x5) x33).f0)) || (!(((rd_T79 (rd_L16 x0 x5) x33).f1) == ((rd_T79 (rd_L16 x1 x5) x33).f1)) || (!((((rd_T79 (rd_L16 x0 x5) x33).f2).toList) == (((rd_T79 (rd_L16 x1 x5) x33).f2).toList))))) = true then (some false) else (impl_sameConds.l1 k x0 x1 x5 x13 x14 x32 (wrap64 (x33 + 1)))) else (none)) else (none)) else (none)) else (none)) else (none)) else (none)) else (impl_sameConds.l0 k x0 x1 x13 (wrap64 (x14 + 1)))
end
def impl_sameConds.f (k : Nat) (l0 : List (List (S79))) (l1 : List (List (S79))) : Option (Bool) := if (l0.length : Int) = (l1.length : Int) then (impl_sameConds.l0 k l0 l1 (l0.length : Int) 0) else (some false)
theorem impl_sameConds.calls (k : Nat) (A0 : Option Addr) (c0 : Nat) (l0 : List (List (S79))) (A1 : Option Addr) (c1 : Nat) (l1 : List (List (S79))) (r : Bool) (w : World) (hr0 : Kd.C (Kd.slice 79 k79) w A0 l0.length l0) (hc0 : l0.length ≤ c0) (hr1 : Kd.C (Kd.slice 79 k79) w A1 l1.length l1) (hc1 : l1.length ≤ c1) (h : impl_sameConds.f k l0 l1 = some r) :
 Calls Tryd.prog 56 #[.slice A0 l0.length c0, .slice A1 l1.length c1] w fun e w' => e = .returned (.bool r) ∧ Drawn0 w w' := by
 have hu79 := Tryd.underlying79
 have HR0 := A_ hr0
 have HC0 := A_ hc0
 clear hr0 hc0
 have HR1 := A_ hr1
 have HC1 := A_ hc1
 clear hr1 hc1
 have H : (if (l0.length : Int) = (l1.length : Int) then (impl_sameConds.l0 k l0 l1 (l0.length : Int) 0) else (some false)) = some r := h
 clear h
 by_cases c3 : (l0.length : Int) = (l1.length : Int)
 rotate_left
 · rw [if_neg c3] at H
   have c3b0 : ((l0.length : Int) == (l1.length : Int)) = false := beq_eq_false_iff_ne.mpr c3
   have c3b1 : ((l0.length : Int) != (l1.length : Int)) = true := bne_iff_ne.mpr c3
   have c3b2 : (l0.length == l1.length) = false := by first | simpa using c3 | (simp at c3 ⊢; omega)
   obtain rfl := si_ H
   go_enter Tryd.func56, Tryd.ntmps56
   go_wp2
   repeat (go_quiet (fail); try go_wp2)
   go_ret
   exact ⟨rs_, dr_⟩
 rw [if_pos c3] at H
 have c3b0 : ((l0.length : Int) == (l1.length : Int)) = true := beq_iff_eq.mpr c3
 have c3b1 : ((l0.length : Int) != (l1.length : Int)) = false := bne_eq_false_iff_eq.mpr c3
 have c3b2 : (l0.length == l1.length) = true := by first | simpa using c3 | (simp at c3 ⊢; omega)
 clear c3
 have H' := A_ H
 clear H
 go_enter Tryd.func56, Tryd.ntmps56
 go_wp2
 repeat (go_quiet (fail); try go_wp2)
 go_loopg [14] k (fun kq v14 w' => ∃ (x14_1 : Int), v14 = .int .i64 x14_1 ∧ Aside0 (impl_sameConds.l0 kq l0 l1 (l0.length : Int) x14_1 = some r) ∧ Aside0 (kq ≤ k) ∧ Drawn0 w w')
 case atStart => exact ⟨(0), rs_, H', ⟨Nat.le_refl _⟩, dr_⟩
 case round =>
  clear H'
  try clear c1
  try clear p2
  try clear c3
  try clear c3b0
  try clear c3b1
  try clear c3b2
  obtain ⟨x14_1, rfl, HA, HK1, ⟨m1, rfl⟩⟩ := hrel
  cases gk with
  | zero => exact absurd HA.out (by simp [impl_sameConds.l0])
  | succ k1 =>
   have H := HA.out
   clear HA
   simp only [impl_sameConds.l0] at H
   by_cases c4 : x14_1 < (l0.length : Int)
   rotate_left
   · rw [if_neg c4] at H
     have c4b0 : decide (x14_1 < (l0.length : Int)) = false := decide_eq_false c4
     clear c4
     obtain rfl := si_ H
     go_wp2
     repeat (go_quiet (fail); try go_wp2)
     go_ret
     exact ⟨rs_, dr_⟩
   rw [if_pos c4] at H
   have c4b0 : decide (x14_1 < (l0.length : Int)) = true := decide_eq_true c4
   clear c4
   by_cases c5 : 0 ≤ x14_1
   rotate_left
   · exact absurd H (by rw [if_neg c5]; simp)
   rw [if_pos c5] at H
   have c5b0 : decide (0 ≤ x14_1) = true := decide_eq_true c5
   clear c5
   by_cases c6 : x14_1 < (l0.length : Int)
   rotate_left
   · exact absurd H (by rw [if_neg c6]; simp)
   rw [if_pos c6] at H
   have c6b0 : decide (x14_1 < (l0.length : Int)) = true := decide_eq_true c6
   clear c6
   by_cases c7 : x14_1 < (l1.length : Int)
   rotate_left
   · exact absurd H (by rw [if_neg c7]; simp)
   rw [if_pos c7] at H
   have c7b0 : decide (x14_1 < (l1.length : Int)) = true := decide_eq_true c7
   clear c7
   by_cases c8 : ((rd_L16 l0 x14_1).length : Int) = ((rd_L16 l1 x14_1).length : Int)
   rotate_left
   · rw [if_neg c8] at H
     have c8b0 : (((rd_L16 l0 x14_1).length : Int) == ((rd_L16 l1 x14_1).length : Int)) = false := beq_eq_false_iff_ne.mpr c8
     have c8b1 : (((rd_L16 l0 x14_1).length : Int) != ((rd_L16 l1 x14_1).length : Int)) = true := bne_iff_ne.mpr c8
     have c8b2 : ((rd_L16 l0 x14_1).length == (rd_L16 l1 x14_1).length) = false := by first | simpa using c8 | (simp at c8 ⊢; omega)
     obtain rfl := si_ H
     have p571 : 0 ≤ (x14_1 : Int) := od_
     have q571 : x14_1 < (l0.length : Int) := od_
     obtain ⟨ad571, A571_0, c571_0, e571, hx571_0, hl571_0, hi571_0⟩ := at_L16 HR0.out x14_1 p571 q571
     cases e571
     have HR571_0 := A_ hi571_0
     have HC571_0 := A_ hl571_0
     clear hi571_0 hl571_0
     replace p571 := eq_true p571
     replace q571 := eq_true q571
     have p572 : 0 ≤ (x14_1 : Int) := od_
     have q572 : x14_1 < (l1.length : Int) := od_
     obtain ⟨ad572, A572_0, c572_0, e572, hx572_0, hl572_0, hi572_0⟩ := at_L16 HR1.out x14_1 p572 q572
     cases e572
     have HR572_0 := A_ hi572_0
     have HC572_0 := A_ hl572_0
     clear hi572_0 hl572_0
     replace p572 := eq_true p572
     replace q572 := eq_true q572
     go_wp2
     repeat (go_quiet (fail); try go_wp2)
     go_ret
     exact ⟨rs_, dr_⟩
   rw [if_pos c8] at H
   have c8b0 : (((rd_L16 l0 x14_1).length : Int) == ((rd_L16 l1 x14_1).length : Int)) = true := beq_iff_eq.mpr c8
   have c8b1 : (((rd_L16 l0 x14_1).length : Int) != ((rd_L16 l1 x14_1).length : Int)) = false := bne_eq_false_iff_eq.mpr c8
   have c8b2 : ((rd_L16 l0 x14_1).length == (rd_L16 l1 x14_1).length) = true := by first | simpa using c8 | (simp at c8 ⊢; omega)
   clear c8
   have H' := A_ H
   clear H
   have p571 : 0 ≤ (x14_1 : Int) := od_
   have q571 : x14_1 < (l0.length : Int) := od_
   obtain ⟨ad571, A571_0, c571_0, e571, hx571_0, hl571_0, hi571_0⟩ := at_L16 HR0.out x14_1 p571 q571
   cases e571
   have HR571_0 := A_ hi571_0
   have HC571_0 := A_ hl571_0
   clear hi571_0 hl571_0
   replace p571 := eq_true p571
   replace q571 := eq_true q571
   have p572 : 0 ≤ (x14_1 : Int) := od_
   have q572 : x14_1 < (l1.length : Int) := od_
   obtain ⟨ad572, A572_0, c572_0, e572, hx572_0, hl572_0, hi572_0⟩ := at_L16 HR1.out x14_1 p572 q572
   cases e572
   have HR572_0 := A_ hi572_0
   have HC572_0 := A_ hl572_0
   clear hi572_0 hl572_0
   replace p572 := eq_true p572
   replace q572 := eq_true q572
   have p573 : 0 ≤ (x14_1 : Int) := od_
   have q573 : x14_1 < (l0.length : Int) := od_
   obtain ⟨ad573, A573_0, c573_0, e573, hx573_0, hl573_0, hi573_0⟩ := at_L16 HR0.out x14_1 p573 q573
   obtain rfl : ad571 = ad573 := (by injection e573)
   have HR573_0 := A_ hi573_0
   have HC573_0 := A_ hl573_0
   clear hi573_0 hl573_0
   replace p573 := eq_true p573
   replace q573 := eq_true q573
   have ea_ := Option.some.inj (hx571_0.symm.trans hx573_0)
   injection ea_ with ea_ en_ ec_
   subst ea_
   subst ec_
   clear en_
   go_wp2
   repeat (go_quiet (fail); try go_wp2)
   go_loopg [33] k1 (fun kq v33 w' => ∃ (x33_2 : Int), v33 = .int .i64 x33_2 ∧ Aside0 (impl_sameConds.l1 kq l0 l1 x14_1 (l0.length : Int) x14_1 ((rd_L16 l0 x14_1).length : Int) x33_2 = some r) ∧ Aside0 (kq ≤ k1) ∧ Drawn0 w w')
   case atStart => exact ⟨(0), rs_, H', ⟨Nat.le_refl _⟩, dr_⟩
   case round =>
    clear H'
    try clear c1
    try clear p2
    try clear c3
    try clear c3b0
    try clear c3b1
    try clear c3b2
    try clear c4
    try clear c4b0
    try clear c5
    try clear c5b0
    try clear p5
    try clear q5
    try clear hx5
    try clear c6
    try clear c6b0
    try clear c7
    try clear c7b0
    try clear c8
    try clear c8b0
    try clear c8b1
    try clear c8b2
    try clear hx571_0
    try clear hx572_0
    try clear hx573_0
    try clear p2
    try clear p571
    try clear p572
    try clear p573
    try clear q571
    try clear q572
    try clear q573
    obtain ⟨x33_2, rfl, HA, HK2, ⟨m2, rfl⟩⟩ := hrel
    cases gk with
    | zero => exact absurd HA.out (by simp [impl_sameConds.l1])
    | succ k2 =>
     have H := HA.out
     clear HA
     simp only [impl_sameConds.l1] at H
     by_cases c9 : x33_2 < ((rd_L16 l0 x14_1).length : Int)
     rotate_left
     · rw [if_neg c9] at H
       have c9b0 : decide (x33_2 < ((rd_L16 l0 x14_1).length : Int)) = false := decide_eq_false c9
       clear c9
       have H' := A_ H
       clear H
       go_wp2
       repeat (go_quiet (fail); try go_wp2)
       go_roundg k2
       case measure => have := HK1.out; have := HK2.out; omega
       case rel => exact ⟨(wrap64 (x14_1 + 1)), rs_, H', ⟨by have := HK1.out; have := HK2.out; omega⟩, dr_⟩
     rw [if_pos c9] at H
     have c9b0 : decide (x33_2 < ((rd_L16 l0 x14_1).length : Int)) = true := decide_eq_true c9
     clear c9
     by_cases c10 : 0 ≤ x14_1
     rotate_left
     · exact absurd H (by rw [if_neg c10]; simp)
     rw [if_pos c10] at H
     have c10b0 : decide (0 ≤ x14_1) = true := decide_eq_true c10
     clear c10
     by_cases c11 : x14_1 < (l0.length : Int)
     rotate_left
     · exact absurd H (by rw [if_neg c11]; simp)
     rw [if_pos c11] at H
     have c11b0 : decide (x14_1 < (l0.length : Int)) = true := decide_eq_true c11
     clear c11
     by_cases c12 : 0 ≤ x33_2
     rotate_left
     · exact absurd H (by rw [if_neg c12]; simp)
     rw [if_pos c12] at H
     have c12b0 : decide (0 ≤ x33_2) = true := decide_eq_true c12
     clear c12
     by_cases c13 : x33_2 < ((rd_L16 l0 x14_1).length : Int)
     rotate_left
     · exact absurd H (by rw [if_neg c13]; simp)
     rw [if_pos c13] at H
     have c13b0 : decide (x33_2 < ((rd_L16 l0 x14_1).length : Int)) = true := decide_eq_true c13
     clear c13
     by_cases c14 : x14_1 < (l1.length : Int)
     rotate_left
     · exact absurd H (by rw [if_neg c14]; simp)
     rw [if_pos c14] at H
     have c14b0 : decide (x14_1 < (l1.length : Int)) = true := decide_eq_true c14
     clear c14
     by_cases c15 : x33_2 < ((rd_L16 l1 x14_1).length : Int)
     rotate_left
     · exact absurd H (by rw [if_neg c15]; simp)
     rw [if_pos c15] at H
     have c15b0 : decide (x33_2 < ((rd_L16 l1 x14_1).length : Int)) = true := decide_eq_true c15
     clear c15
     by_cases c16 : (!(((rd_T79 (rd_L16 l0 x14_1) x33_2).f0) == ((rd_T79 (rd_L16 l1 x14_1) x33_2).f0)) || (!(((rd_T79 (rd_L16 l0 x14_1) x33_2).f1) == ((rd_T79 (rd_L16 l1 x14_1) x33_2).f1)) || (!((((rd_T79 (rd_L16 l0 x14_1) x33_2).f2).toList) == (((rd_T79 (rd_L16 l1 x14_1) x33_2).f2).toList))))) = true
     · rw [if_pos c16] at H
       have c16b0 : (!(((rd_T79 (rd_L16 l0 x14_1) x33_2).f0) == ((rd_T79 (rd_L16 l1 x14_1) x33_2).f0)) || (!(((rd_T79 (rd_L16 l0 x14_1) x33_2).f1) == ((rd_T79 (rd_L16 l1 x14_1) x33_2).f1)) || (!((((rd_T79 (rd_L16 l0 x14_1) x33_2).f2).toList) == (((rd_T79 (rd_L16 l1 x14_1) x33_2).f2).toList))))) = true := c16
       clear c16
       obtain rfl := si_ H
       have p574 : 0 ≤ (x14_1 : Int) := od_
       have q574 : x14_1 < (l0.length : Int) := od_
       obtain ⟨ad574, A574_0, c574_0, e574, hx574_0, hl574_0, hi574_0⟩ := at_L16 HR0.out x14_1 p574 q574
       obtain rfl : ad571 = ad574 := (by injection e574)
       have HR574_0 := A_ hi574_0
       have HC574_0 := A_ hl574_0
       clear hi574_0 hl574_0
       replace p574 := eq_true p574
       replace q574 := eq_true q574
       have p575 : 0 ≤ (x33_2 : Int) := od_
       have q575 : x33_2 < ((rd_L16 l0 x14_1).length : Int) := od_
       obtain ⟨ad575, e575, hx575_0, hx575_1, hx575_2⟩ := at_T79 HR574_0.out x33_2 p575 q575
       cases e575
       replace p575 := eq_true p575
       replace q575 := eq_true q575
       have p576 : 0 ≤ (x14_1 : Int) := od_
       have q576 : x14_1 < (l1.length : Int) := od_
       obtain ⟨ad576, A576_0, c576_0, e576, hx576_0, hl576_0, hi576_0⟩ := at_L16 HR1.out x14_1 p576 q576
       obtain rfl : ad572 = ad576 := (by injection e576)
       have HR576_0 := A_ hi576_0
       have HC576_0 := A_ hl576_0
       clear hi576_0 hl576_0
       replace p576 := eq_true p576
       replace q576 := eq_true q576
       have p577 : 0 ≤ (x33_2 : Int) := od_
       have q577 : x33_2 < ((rd_L16 l1 x14_1).length : Int) := od_
       obtain ⟨ad577, e577, hx577_0, hx577_1, hx577_2⟩ := at_T79 HR576_0.out x33_2 p577 q577
       cases e577
       replace p577 := eq_true p577
       replace q577 := eq_true q577
       go_wp2
       repeat (go_quiet (fail); try go_wp2)
       go_ret
       exact ⟨rs_, dr_⟩
     rw [if_neg c16] at H
     have c16b0 : (!(((rd_T79 (rd_L16 l0 x14_1) x33_2).f0) == ((rd_T79 (rd_L16 l1 x14_1) x33_2).f0)) || (!(((rd_T79 (rd_L16 l0 x14_1) x33_2).f1) == ((rd_T79 (rd_L16 l1 x14_1) x33_2).f1)) || (!((((rd_T79 (rd_L16 l0 x14_1) x33_2).f2).toList) == (((rd_T79 (rd_L16 l1 x14_1) x33_2).f2).toList))))) = false := by simpa using c16
     clear c16
     have H' := A_ H
     clear H
     have p574 : 0 ≤ (x14_1 : Int) := od_
     have q574 : x14_1 < (l0.length : Int) := od_
     obtain ⟨ad574, A574_0, c574_0, e574, hx574_0, hl574_0, hi574_0⟩ := at_L16 HR0.out x14_1 p574 q574
     obtain rfl : ad571 = ad574 := (by injection e574)
     have HR574_0 := A_ hi574_0
     have HC574_0 := A_ hl574_0
     clear hi574_0 hl574_0
     replace p574 := eq_true p574
     replace q574 := eq_true q574
     have p575 : 0 ≤ (x33_2 : Int) := od_
     have q575 : x33_2 < ((rd_L16 l0 x14_1).length : Int) := od_
     obtain ⟨ad575, e575, hx575_0, hx575_1, hx575_2⟩ := at_T79 HR574_0.out x33_2 p575 q575
     cases e575
     replace p575 := eq_true p575
     replace q575 := eq_true q575
     have p576 : 0 ≤ (x14_1 : Int) := od_
     have q576 : x14_1 < (l1.length : Int) := od_
     obtain ⟨ad576, A576_0, c576_0, e576, hx576_0, hl576_0, hi576_0⟩ := at_L16 HR1.out x14_1 p576 q576
     obtain rfl : ad572 = ad576 := (by injection e576)
     have HR576_0 := A_ hi576_0
     have HC576_0 := A_ hl576_0
     clear hi576_0 hl576_0
     replace p576 := eq_true p576
     replace q576 := eq_true q576
     have p577 : 0 ≤ (x33_2 : Int) := od_
     have q577 : x33_2 < ((rd_L16 l1 x14_1).length : Int) := od_
     obtain ⟨ad577, e577, hx577_0, hx577_1, hx577_2⟩ := at_T79 HR576_0.out x33_2 p577 q577
     cases e577
     replace p577 := eq_true p577
     replace q577 := eq_true q577
     go_wp2
     repeat (go_quiet (fail); try go_wp2)
     go_roundg k2
     case measure => have := HK1.out; have := HK2.out; omega
     case rel => exact ⟨(wrap64 (x33_2 + 1)), rs_, H', ⟨by have := HK1.out; have := HK2.out; omega⟩, dr_⟩
mutual
def impl_IfText.l0 : Nat → List (List (S79)) → List ByteArray → List (List (S79)) → Int → Int → Option (ByteArray)
 | 0, _, _, _, _, _ => none
 | k + 1, x0, x3, x13, x14, x15 => if x15 < x14 then (if 0 ≤ x15 then (if x15 < (x13.length : Int) then (impl_IfText.l1 k x0 x3 ([] : List ByteArray) x13 x14 x15 (rd_L16 x13 x15) ((rd_L16 x13 x15).length : Int) 0) else (none)) else (none)) else ((strings_Join.f x3 (⟨#[32]⟩ : ByteArray)).bind fun t598 => ((impl_ParseIf.f k t598).bind fun bt599 => (if bt599.2 = true then ((impl_sameConds.f k bt599.1 x0).bind fun t603 => (if t603 = true then (some t598) else (some (⟨#[]⟩ : ByteArray)))) else (some (⟨#[]⟩ : ByteArray)))))
def impl_IfText.l1 : Nat → List (List (S79)) → List ByteArray → List ByteArray → List (List (S79)) → Int → Int → List (S79) → Int → Int → Option (ByteArray)
 | 0, _, _, _, _, _, _, _, _, _ => none
 | k + 1, x0, x3, x6, x13, x14, x15, x19, x20, x21 => if x21 < x20 then (if 0 ≤ x21 then (if x21 < (x19.length : Int) then (if 1 + ((rd_T79 x19 x21).f2).size ≤ 9223372036854775807 then (if ((⟨#[91]⟩ : ByteArray) ++ ((rd_T79 x19 x21).f2)).size + 1 ≤ 9223372036854775807 then (if ((rd_T79 x19 x21).f1) = 0 then (if (rd_T79 x19 x21).f0 = true then (if 4 + (((⟨#[91]⟩ : ByteArray) ++ ((rd_T79 x19 x21).f2)) ++ (⟨#[93]⟩ : ByteArray)).size ≤ 9223372036854775807 then (if x6.length < 8796093022208 then (impl_IfText.l1 k x0 x3 (x6 ++ [(⟨#[78, 111, 116, 32]⟩ : ByteArray) ++ (((⟨#[91]⟩ : ByteArray) ++ ((rd_T79 x19 x21).f2)) ++ (⟨#[93]⟩ : ByteArray))]) x13 x14 x15 x19 x20 (wrap64 (x21 + 1))) else (none)) else (none)) else (if x6.length < 8796093022208 then (impl_IfText.l1 k x0 x3 (x6 ++ [((⟨#[91]⟩ : ByteArray) ++ ((rd_T79 x19 x21).f2)) ++ (⟨#[93]⟩ : ByteArray)]) x13 x14 x15 x19 x20 (wrap64 (x21 + 1))) else (none))) else ((impl_NumText.f ((rd_T79 x19 x21).f1)).bind fun t591 => (if 1 + t591.size ≤ 9223372036854775807 then (if ((⟨#[60]⟩ : ByteArray) ++ t591).size + 1 ≤ 9223372036854775807 then (if (rd_T79 x19 x21).f0 = true then (if 4 + (((⟨#[60]⟩ : ByteArray) ++ t591) ++ (⟨#[62]⟩ : ByteArray)).size ≤ 9223372036854775807 then (if x6.length < 8796093022208 then (impl_IfText.l1 k x0 x3 (x6 ++ [(⟨#[78, 111, 116, 32]⟩ : ByteArray) ++ (((⟨#[60]⟩ : ByteArray) ++ t591) ++ (⟨#[62]⟩ : ByteArray))]) x13 x14 x15 x19 x20 (wrap64 (x21 + 1))) else (none)) else (none)) else (if x6.length < 8796093022208 then (impl_IfText.l1 k x0 x3 (x6 ++ [((⟨#[60]⟩ : ByteArray) ++ t591) ++ (⟨#[62]⟩ : ByteArray)]) x13 x14 x15 x19 x20 (wrap64 (x21 + 1))) else (none))) else (none)) else (none)))) else (none)) else (none)) else (none)) else (none)) else ((strings_Join.f x6 (⟨#[32]⟩ : ByteArray)).bind fun t579 => (if 1 + t579.size ≤ 9223372036854775807 then (if ((⟨#[40]⟩ : ByteArray) ++ t579).size + 1 ≤ 9223372036854775807 then (if x3.length < 8796093022208 then (impl_IfText.l0 k x0 (x3 ++ [((⟨#[40]⟩ : ByteArray) ++ t579) ++ (⟨#[41]⟩ : ByteArray)]) x13 x14 (wrap64 (x15 + 1))) else (none)) else (none)) else (none)))
end
def impl_IfText.f (k : Nat) (l0 : List (List (S79))) : Option (ByteArray) := impl_IfText.l0 k l0 ([] : List ByteArray) l0 (l0.length : Int) 0
theorem impl_IfText.calls (k : Nat) (A0 : Option Addr) (c0 : Nat) (l0 : List (List (S79))) (r : ByteArray) (w : World) (hr0 : Kd.C (Kd.slice 79 k79) w A0 l0.length l0) (hc0 : l0.length ≤ c0) (hGT : GT w) (hGM : GM w) (hGE : GE w) (h : impl_IfText.f k l0 = some r) :
 Calls Tryd.prog 27 #[.slice A0 l0.length c0] w fun e w' => e = .returned (.string r) ∧ Below w.heap.size w w' := by
 have HGT := A_ hGT
 have HGM := A_ hGM
 have HGE := A_ hGE
 clear hGT hGM hGE
 have hu79 := Tryd.underlying79
 have HR0 := A_ hr0
 have HC0 := A_ hc0
 clear hr0 hc0
 have HB := A_ (Below.refl w.heap.size w)
 have H : (impl_IfText.l0 k l0 ([] : List ByteArray) l0 (l0.length : Int) 0) = some r := h
 clear h
 have H' := A_ H
 clear H
 go_enter Tryd.func27, Tryd.ntmps27
 go_wp2
 go_loopg [3, 15] k (fun kq v3 v15 w' => ∃ (x3_1 : List ByteArray) (x15_1 : Int), v15 = .int .i64 x15_1 ∧ Aside0 (impl_IfText.l0 kq l0 x3_1 l0 (l0.length : Int) x15_1 = some r) ∧ Aside0 (kq ≤ k) ∧ Aside0 (Kd.R Kd.string 9 w' w.heap.size (fun _ => True) v3 x3_1) ∧ Aside0 (Below w.heap.size w w'))
 case atStart => exact ⟨(([] : List ByteArray)), (0), rs_, H', ⟨Nat.le_refl _⟩, ⟨by first | exact Kd.R_nil _ _ _ _ _ | exact Kd.N_nil _ _ _ _ _ | exact Kd.V_nil _ _ _ _ _ | exact Kd.Q_nil _ _ _ _ _ | exact Kd.S_nil _ _ _ _ _⟩, ⟨bB_⟩⟩
 case round =>
  clear H'
  obtain ⟨x3_1, x15_1, rfl, HA, HK1, HO_3, HB⟩ := hrel
  cases gk with
  | zero => exact absurd HA.out (by simp [impl_IfText.l0])
  | succ k1 =>
   have H := HA.out
   clear HA
   simp only [impl_IfText.l0] at H
   by_cases c2 : x15_1 < (l0.length : Int)
   rotate_left
   · rw [if_neg c2] at H
     have c2b0 : decide (x15_1 < (l0.length : Int)) = false := decide_eq_false c2
     clear c2
     obtain ⟨t598, A47, H⟩ := bo_ H
     (try dsimp only at H)
     obtain ⟨⟨t599, t600⟩, A48, H⟩ := bo_ H
     (try dsimp only at H)
     by_cases c49 : t600 = true
     · subst c49
       rw [if_pos rfl] at H
       obtain ⟨t603, A50, H⟩ := bo_ H
       (try dsimp only at H)
       by_cases c51 : t603 = true
       · subst c51
         rw [if_pos rfl] at H
         obtain rfl := si_ H
         obtain ⟨Ao52, co52, eo52⟩ := Kd.R_slice HO_3.out
         subst eo52
         go_wp2_with (first | ((with_reducible refine gc_ (f := 54) rfl ?_); refine gL_ (some 55) Tryd.func54 #[.slice Ao52 x3_1.length co52, .string (⟨#[32]⟩ : ByteArray)] ?_; (with_reducible refine (strings_Join.calls _ _ x3_1 (⟨#[32]⟩ : ByteArray) t598 _ ?s1 ?s2 A47.out).mono ?_); (case s1 => exact cC_ (Kd.R_reads' HO_3.out).2.2); (case s2 => exact (Kd.R_reads' HO_3.out).2.1); rintro e w53 ⟨rfl, hb⟩; refine ⟨_, rfl, ?_⟩; replace HO_3 := A_ (Kd.R_below (vR_ HO_3.out) hb); replace HB := A_ (below_step bB_ hb); (try clear hb)) | ((with_reducible refine gc_ (f := 55) rfl ?_); refine gL_ (some 58) Tryd.func55 #[.string t598] ?_; (with_reducible refine (impl_ParseIf.calls k1 t598 t599 true _ ?gT17 ?gM17 ?gE17 A48.out).mono ?_); (case gT17 => first | exact gT_ HGT.out (bG_ GE584.out) | exact gT_ HGT.out bB_); (case gM17 => first | exact gM_ HGM.out (bG_ GE584.out) | exact gM_ HGM.out bB_); (case gE17 => first | exact gE_ HGE.out (bG_ GE584.out) | exact gE_ HGE.out bB_); rintro e w54 ⟨v601, rfl, ho0, hb⟩; refine ⟨_, rfl, ?_⟩; replace HO_3 := A_ (Kd.R_below (vR_ HO_3.out) hb); have HO602 := A_ (Kd.S_lower ho0 (below_size bB_)); replace HB := A_ (below_step bB_ hb); (try clear hb); (try clear ho0); obtain ⟨Ao55, co55, eo55⟩ := Kd.S_slice HO602.out; subst eo55) | (go_at_call 56; (with_reducible refine (impl_sameConds.calls k1 _ _ t599 _ _ l0 true _ ?s1 ?s2 ?s3 ?s4 A50.out).mono ?_); (case s1 => exact cC_ (Kd.S_reads' HO602.out).2.2); (case s2 => exact (Kd.S_reads' HO602.out).2.1); (case s3 => exact cC_ (Kd.C_below HR0.out HB.out)); (case s4 => exact HC0.out); rintro e w' ⟨rfl, ⟨nd, rfl⟩⟩))
         go_ret
         exact ⟨rr_, bB_⟩
       · replace c51 := Bool.eq_false_iff.mpr c51
         subst c51
         rw [if_neg nf_] at H
         obtain rfl := si_ H
         obtain ⟨Ao56, co56, eo56⟩ := Kd.R_slice HO_3.out
         subst eo56
         go_wp2_with (first | ((with_reducible refine gc_ (f := 54) rfl ?_); refine gL_ (some 55) Tryd.func54 #[.slice Ao56 x3_1.length co56, .string (⟨#[32]⟩ : ByteArray)] ?_; (with_reducible refine (strings_Join.calls _ _ x3_1 (⟨#[32]⟩ : ByteArray) t598 _ ?s1 ?s2 A47.out).mono ?_); (case s1 => exact cC_ (Kd.R_reads' HO_3.out).2.2); (case s2 => exact (Kd.R_reads' HO_3.out).2.1); rintro e w57 ⟨rfl, hb⟩; refine ⟨_, rfl, ?_⟩; replace HO_3 := A_ (Kd.R_below (vR_ HO_3.out) hb); replace HB := A_ (below_step bB_ hb); (try clear hb)) | ((with_reducible refine gc_ (f := 55) rfl ?_); refine gL_ (some 58) Tryd.func55 #[.string t598] ?_; (with_reducible refine (impl_ParseIf.calls k1 t598 t599 true _ ?gT18 ?gM18 ?gE18 A48.out).mono ?_); (case gT18 => first | exact gT_ HGT.out (bG_ GE584.out) | exact gT_ HGT.out bB_); (case gM18 => first | exact gM_ HGM.out (bG_ GE584.out) | exact gM_ HGM.out bB_); (case gE18 => first | exact gE_ HGE.out (bG_ GE584.out) | exact gE_ HGE.out bB_); rintro e w58 ⟨v601, rfl, ho0, hb⟩; refine ⟨_, rfl, ?_⟩; replace HO_3 := A_ (Kd.R_below (vR_ HO_3.out) hb); have HO602 := A_ (Kd.S_lower ho0 (below_size bB_)); replace HB := A_ (below_step bB_ hb); (try clear hb); (try clear ho0); obtain ⟨Ao59, co59, eo59⟩ := Kd.S_slice HO602.out; subst eo59) | (go_at_call 56; (with_reducible refine (impl_sameConds.calls k1 _ _ t599 _ _ l0 false _ ?s1 ?s2 ?s3 ?s4 A50.out).mono ?_); (case s1 => exact cC_ (Kd.S_reads' HO602.out).2.2); (case s2 => exact (Kd.S_reads' HO602.out).2.1); (case s3 => exact cC_ (Kd.C_below HR0.out HB.out)); (case s4 => exact HC0.out); rintro e w' ⟨rfl, ⟨nd, rfl⟩⟩))
         go_ret
         exact ⟨rr_, bB_⟩
     · replace c49 := Bool.eq_false_iff.mpr c49
       subst c49
       rw [if_neg nf_] at H
       obtain rfl := si_ H
       obtain ⟨Ao60, co60, eo60⟩ := Kd.R_slice HO_3.out
       subst eo60
       go_wp2_with (first | ((with_reducible refine gc_ (f := 54) rfl ?_); refine gL_ (some 55) Tryd.func54 #[.slice Ao60 x3_1.length co60, .string (⟨#[32]⟩ : ByteArray)] ?_; (with_reducible refine (strings_Join.calls _ _ x3_1 (⟨#[32]⟩ : ByteArray) t598 _ ?s1 ?s2 A47.out).mono ?_); (case s1 => exact cC_ (Kd.R_reads' HO_3.out).2.2); (case s2 => exact (Kd.R_reads' HO_3.out).2.1); rintro e w61 ⟨rfl, hb⟩; refine ⟨_, rfl, ?_⟩; replace HO_3 := A_ (Kd.R_below (vR_ HO_3.out) hb); replace HB := A_ (below_step bB_ hb); (try clear hb)) | ((with_reducible refine gc_ (f := 55) rfl ?_); refine gL_ (some 58) Tryd.func55 #[.string t598] ?_; (with_reducible refine (impl_ParseIf.calls k1 t598 t599 false _ ?gT19 ?gM19 ?gE19 A48.out).mono ?_); (case gT19 => first | exact gT_ HGT.out (bG_ GE584.out) | exact gT_ HGT.out bB_); (case gM19 => first | exact gM_ HGM.out (bG_ GE584.out) | exact gM_ HGM.out bB_); (case gE19 => first | exact gE_ HGE.out (bG_ GE584.out) | exact gE_ HGE.out bB_); rintro e w62 ⟨v601, rfl, ho0, hb⟩; refine ⟨_, rfl, ?_⟩; replace HO_3 := A_ (Kd.R_below (vR_ HO_3.out) hb); have HO602 := A_ (Kd.S_lower ho0 (below_size bB_)); replace HB := A_ (below_step bB_ hb); (try clear hb); (try clear ho0)))
       go_ret
       exact ⟨rr_, bB_⟩
   rw [if_pos c2] at H
   have c2b0 : decide (x15_1 < (l0.length : Int)) = true := decide_eq_true c2
   clear c2
   by_cases c3 : 0 ≤ x15_1
   rotate_left
   · exact absurd H (by rw [if_neg c3]; simp)
   rw [if_pos c3] at H
   have c3b0 : decide (0 ≤ x15_1) = true := decide_eq_true c3
   clear c3
   by_cases c4 : x15_1 < (l0.length : Int)
   rotate_left
   · exact absurd H (by rw [if_neg c4]; simp)
   rw [if_pos c4] at H
   have c4b0 : decide (x15_1 < (l0.length : Int)) = true := decide_eq_true c4
   clear c4
   have H' := A_ H
   clear H
   have p578 : 0 ≤ (x15_1 : Int) := od_
   have q578 : x15_1 < (l0.length : Int) := od_
   obtain ⟨ad578, A578_0, c578_0, e578, hx578_0, hl578_0, hi578_0⟩ := at_L16 HR0.out x15_1 p578 q578
   cases e578
   replace hx578_0 := bc_ HB.out hx578_0
   have HR578_0 := A_ hi578_0
   have HC578_0 := A_ hl578_0
   clear hi578_0 hl578_0
   replace p578 := eq_true p578
   replace q578 := eq_true q578
   go_wp2
   go_loopg [6, 21] k1 (fun kq v6 v21 w' => ∃ (x6_2 : List ByteArray) (x21_2 : Int), v21 = .int .i64 x21_2 ∧ Aside0 (impl_IfText.l1 kq l0 x3_1 x6_2 l0 (l0.length : Int) x15_1 (rd_L16 l0 x15_1) ((rd_L16 l0 x15_1).length : Int) x21_2 = some r) ∧ Aside0 (kq ≤ k1) ∧ Aside0 (Kd.R Kd.string 9 w' w.heap.size (fun k_ => some k_ ≠ (v6 : Value).ownBlock) u3 x3_1) ∧ Aside0 (Kd.R Kd.string 9 w' w.heap.size (fun k_ => some k_ ≠ (u3 : Value).ownBlock) v6 x6_2) ∧ Aside0 (Below w.heap.size w w'))
   case atStart => exact ⟨(([] : List ByteArray)), (0), rs_, H', ⟨Nat.le_refl _⟩, ⟨by (with_reducible repeat (first | apply Kd.R_alloc | apply Kd.R_drewN | apply Kd.R_drew)); exact Kd.R_mono HO_3.out (fun _ hk => (by simp [Value.ownBlock]))⟩, ⟨by first | exact Kd.R_nil _ _ _ _ _ | exact Kd.N_nil _ _ _ _ _ | exact Kd.V_nil _ _ _ _ _ | exact Kd.Q_nil _ _ _ _ _ | exact Kd.S_nil _ _ _ _ _⟩, ⟨bB_⟩⟩
   case round =>
    clear H'
    try clear c2
    try clear c2b0
    try clear p2
    try clear c3
    try clear c3b0
    try clear c4
    try clear c4b0
    try clear hx578_0
    try clear p578
    try clear q578
    obtain ⟨x6_2, x21_2, rfl, HA, HK2, HO_3, HO_6, HB⟩ := hrel
    cases gk with
    | zero => exact absurd HA.out (by simp [impl_IfText.l1])
    | succ k2 =>
     have H := HA.out
     clear HA
     simp only [impl_IfText.l1] at H
     by_cases c5 : x21_2 < ((rd_L16 l0 x15_1).length : Int)
     rotate_left
     · rw [if_neg c5] at H
       have c5b0 : decide (x21_2 < ((rd_L16 l0 x15_1).length : Int)) = false := decide_eq_false c5
       clear c5
       obtain ⟨t579, A40, H⟩ := bo_ H
       (try dsimp only at H)
       by_cases c41 : 1 + t579.size ≤ 9223372036854775807
       rotate_left
       · exact absurd H (by rw [if_neg c41]; simp)
       rw [if_pos c41] at H
       have c41b0 := eq_true c41
       have c41b1 : decide (1 + t579.size ≤ 9223372036854775807) = true := decide_eq_true c41
       try have c41b2 : (9223372036854775807 < 1 + t579.size) = False := eq_false (Nat.not_lt.2 c41)
       by_cases c42 : ((⟨#[40]⟩ : ByteArray) ++ t579).size + 1 ≤ 9223372036854775807
       rotate_left
       · exact absurd H (by rw [if_neg c42]; simp)
       rw [if_pos c42] at H
       have c42b0 := eq_true c42
       have c42b1 : decide (((⟨#[40]⟩ : ByteArray) ++ t579).size + 1 ≤ 9223372036854775807) = true := decide_eq_true c42
       try have c42b2 : (9223372036854775807 < ((⟨#[40]⟩ : ByteArray) ++ t579).size + 1) = False := eq_false (Nat.not_lt.2 c42)
       try have c42b3 : (9223372036854775807 < 1 + t579.size + 1) = False := eq_false (Nat.not_lt.2 (by have h_ := c42; simp only [ByteArray.size_append] at h_; exact h_))
       by_cases c43 : x3_1.length < 8796093022208
       rotate_left
       · exact absurd H (by rw [if_neg c43]; simp)
       rw [if_pos c43] at H
       have LMc43 := A_ c43
       clear c43
       obtain ⟨y580, hy580⟩ : ∃ y_ : List ByteArray, y_ = (x3_1 ++ [((⟨#[40]⟩ : ByteArray) ++ t579) ++ (⟨#[41]⟩ : ByteArray)]) := ⟨_, rfl⟩
       replace H : (impl_IfText.l0 k2 l0 y580 l0 (l0.length : Int) (wrap64 (x15_1 + 1))) = some r := hy_ hy580 H
       have Ny580 := A_ hy580
       clear hy580
       have H' := A_ H
       clear H
       obtain ⟨Ao44, co44, eo44⟩ := Kd.R_slice HO_6.out
       subst eo44
       go_wp2_with (first | ((with_reducible refine gc_ (f := 54) rfl ?_); refine gL_ (some 48) Tryd.func54 #[.slice Ao44 x6_2.length co44, .string (⟨#[32]⟩ : ByteArray)] ?_; (with_reducible refine (strings_Join.calls _ _ x6_2 (⟨#[32]⟩ : ByteArray) t579 _ ?s1 ?s2 A40.out).mono ?_); (case s1 => exact cC_ (Kd.R_reads' HO_6.out).2.2); (case s2 => exact (Kd.R_reads' HO_6.out).2.1); rintro e w45 ⟨rfl, hb⟩; refine ⟨_, rfl, ?_⟩; replace HO_3 := A_ (Kd.R_below (vR_ HO_3.out) hb); replace HO_6 := A_ (Kd.R_below (vR_ HO_6.out) hb); replace HB := A_ (below_step bB_ hb); (try clear hb); (try clear hk)) | ((with_reducible refine gate_builtin (b := .append) (xs := #[.tmp 46, .tmp 51]) rfl ?_); at_builtin; refine Kd.R_append Kd.string (w0 := w) w.heap.size rfl (.tmp 46) (.tmp 51) 25 9 (.string ⟨#[]⟩) 16 rfl Tryd.underlying25 info9 rfl (by decide) (by omega) u3 x3_1 (((⟨#[40]⟩ : ByteArray) ++ t579) ++ (⟨#[41]⟩ : ByteArray)) [.string (((⟨#[40]⟩ : ByteArray) ++ t579) ++ (⟨#[41]⟩ : ByteArray))] (fun k_ => some k_ ≠ (.slice Ao44 x6_2.length co44 : Value).ownBlock) (fun _ => False) rfl rfl ?aP (fun _ hk => hk.elim) ?aF ?aO ?aB ?aS ?aL ?_; (case aP => exact rfl); (case aB => exact bB_); (case aF => exact (fun k_ hk => Kd.fresh' (Kd.R_lt (vR_ HO_6.out)) k_ hk)); (case aO => exact (vR_ HO_3.out)); (case aS => exact (below_size bB_)); (case aL => have := LMc43.out; omega); intro v581 w46 ho hb hg hat; rw [← Ny580.out] at ho; replace HO_6 := A_ (Kd.R_after (ok := (fun _ => True)) (by (with_reducible repeat (first | apply Kd.R_alloc | apply Kd.R_drewN | apply Kd.R_drew)); exact Kd.R_mono HO_6.out (fun _ hk => ⟨trivial, hk⟩)) hg hat); replace HB := A_ (hb); have HO582 := A_ (ho); clear HO_3; clear ho hb hg hat))
       go_roundg k2
       case measure => have := HK1.out; have := HK2.out; omega
       case rel => exact ⟨(y580), (wrap64 (x15_1 + 1)), rs_, H', ⟨by have := HK1.out; have := HK2.out; omega⟩, ⟨by (with_reducible repeat (first | apply Kd.R_alloc | apply Kd.R_drewN | apply Kd.R_drew)); exact Kd.R_mono HO582.out (fun _ hk => trivial)⟩, ⟨bB_⟩⟩
     rw [if_pos c5] at H
     have c5b0 : decide (x21_2 < ((rd_L16 l0 x15_1).length : Int)) = true := decide_eq_true c5
     clear c5
     by_cases c6 : 0 ≤ x21_2
     rotate_left
     · exact absurd H (by rw [if_neg c6]; simp)
     rw [if_pos c6] at H
     have c6b0 : decide (0 ≤ x21_2) = true := decide_eq_true c6
     clear c6
     by_cases c7 : x21_2 < ((rd_L16 l0 x15_1).length : Int)
     rotate_left
     · exact absurd H (by rw [if_neg c7]; simp)
     rw [if_pos c7] at H
     have c7b0 : decide (x21_2 < ((rd_L16 l0 x15_1).length : Int)) = true := decide_eq_true c7
     clear c7
     by_cases c8 : 1 + ((rd_T79 (rd_L16 l0 x15_1) x21_2).f2).size ≤ 9223372036854775807
     rotate_left
     · exact absurd H (by rw [if_neg c8]; simp)
     rw [if_pos c8] at H
     have c8b0 := eq_true c8
     have c8b1 : decide (1 + ((rd_T79 (rd_L16 l0 x15_1) x21_2).f2).size ≤ 9223372036854775807) = true := decide_eq_true c8
     try have c8b2 : (9223372036854775807 < 1 + ((rd_T79 (rd_L16 l0 x15_1) x21_2).f2).size) = False := eq_false (Nat.not_lt.2 c8)
     by_cases c9 : ((⟨#[91]⟩ : ByteArray) ++ ((rd_T79 (rd_L16 l0 x15_1) x21_2).f2)).size + 1 ≤ 9223372036854775807
     rotate_left
     · exact absurd H (by rw [if_neg c9]; simp)
     rw [if_pos c9] at H
     have c9b0 := eq_true c9
     have c9b1 : decide (((⟨#[91]⟩ : ByteArray) ++ ((rd_T79 (rd_L16 l0 x15_1) x21_2).f2)).size + 1 ≤ 9223372036854775807) = true := decide_eq_true c9
     try have c9b2 : (9223372036854775807 < ((⟨#[91]⟩ : ByteArray) ++ ((rd_T79 (rd_L16 l0 x15_1) x21_2).f2)).size + 1) = False := eq_false (Nat.not_lt.2 c9)
     try have c9b3 : (9223372036854775807 < 1 + (rd_T79 (rd_L16 l0 x15_1) x21_2).f2.size + 1) = False := eq_false (Nat.not_lt.2 (by have h_ := c9; simp only [ByteArray.size_append] at h_; exact h_))
     by_cases c10 : ((rd_T79 (rd_L16 l0 x15_1) x21_2).f1) = 0
     · rw [if_pos c10] at H
       have c10b0 : (((rd_T79 (rd_L16 l0 x15_1) x21_2).f1) == 0) = true := beq_iff_eq.mpr c10
       have c10b1 : (((rd_T79 (rd_L16 l0 x15_1) x21_2).f1) != 0) = false := bne_eq_false_iff_eq.mpr c10
       clear c10
       obtain ⟨bq11, hbq11⟩ : ∃ b_ : Bool, b_ = ((rd_T79 (rd_L16 l0 x15_1) x21_2).f0) := ⟨_, rfl⟩
       replace H : (if bq11 = true then (if 4 + (((⟨#[91]⟩ : ByteArray) ++ ((rd_T79 (rd_L16 l0 x15_1) x21_2).f2)) ++ (⟨#[93]⟩ : ByteArray)).size ≤ 9223372036854775807 then (if x6_2.length < 8796093022208 then (impl_IfText.l1 k2 l0 x3_1 (x6_2 ++ [(⟨#[78, 111, 116, 32]⟩ : ByteArray) ++ (((⟨#[91]⟩ : ByteArray) ++ ((rd_T79 (rd_L16 l0 x15_1) x21_2).f2)) ++ (⟨#[93]⟩ : ByteArray))]) l0 (l0.length : Int) x15_1 (rd_L16 l0 x15_1) ((rd_L16 l0 x15_1).length : Int) (wrap64 (x21_2 + 1))) else (none)) else (none)) else (if x6_2.length < 8796093022208 then (impl_IfText.l1 k2 l0 x3_1 (x6_2 ++ [((⟨#[91]⟩ : ByteArray) ++ ((rd_T79 (rd_L16 l0 x15_1) x21_2).f2)) ++ (⟨#[93]⟩ : ByteArray)]) l0 (l0.length : Int) x15_1 (rd_L16 l0 x15_1) ((rd_L16 l0 x15_1).length : Int) (wrap64 (x21_2 + 1))) else (none))) = some r := by rw [← hbq11] at H; exact H
       have Nbq11 := A_ hbq11
       clear hbq11
       (try rw [← Nbq11.out])
       by_cases c12 : bq11 = true
       · subst c12
         rw [if_pos rfl] at H
         by_cases c13 : 4 + (((⟨#[91]⟩ : ByteArray) ++ ((rd_T79 (rd_L16 l0 x15_1) x21_2).f2)) ++ (⟨#[93]⟩ : ByteArray)).size ≤ 9223372036854775807
         rotate_left
         · exact absurd H (by rw [if_neg c13]; simp)
         rw [if_pos c13] at H
         have c13b0 := eq_true c13
         have c13b1 : decide (4 + (((⟨#[91]⟩ : ByteArray) ++ ((rd_T79 (rd_L16 l0 x15_1) x21_2).f2)) ++ (⟨#[93]⟩ : ByteArray)).size ≤ 9223372036854775807) = true := decide_eq_true c13
         try have c13b2 : (9223372036854775807 < 4 + (((⟨#[91]⟩ : ByteArray) ++ ((rd_T79 (rd_L16 l0 x15_1) x21_2).f2)) ++ (⟨#[93]⟩ : ByteArray)).size) = False := eq_false (Nat.not_lt.2 c13)
         try have c13b3 : (9223372036854775807 < 4 + (1 + (rd_T79 (rd_L16 l0 x15_1) x21_2).f2.size + 1)) = False := eq_false (Nat.not_lt.2 (by have h_ := c13; simp only [ByteArray.size_append] at h_; exact h_))
         by_cases c14 : x6_2.length < 8796093022208
         rotate_left
         · exact absurd H (by rw [if_neg c14]; simp)
         rw [if_pos c14] at H
         have LMc14 := A_ c14
         clear c14
         obtain ⟨y585, hy585⟩ : ∃ y_ : List ByteArray, y_ = (x6_2 ++ [(⟨#[78, 111, 116, 32]⟩ : ByteArray) ++ (((⟨#[91]⟩ : ByteArray) ++ ((rd_T79 (rd_L16 l0 x15_1) x21_2).f2)) ++ (⟨#[93]⟩ : ByteArray))]) := ⟨_, rfl⟩
         replace H : (impl_IfText.l1 k2 l0 x3_1 y585 l0 (l0.length : Int) x15_1 (rd_L16 l0 x15_1) ((rd_L16 l0 x15_1).length : Int) (wrap64 (x21_2 + 1))) = some r := hy_ hy585 H
         have Ny585 := A_ hy585
         clear hy585
         have H' := A_ H
         clear H
         have p583 : 0 ≤ (x21_2 : Int) := od_
         have q583 : x21_2 < ((rd_L16 l0 x15_1).length : Int) := od_
         obtain ⟨ad583, e583, hx583_0, hx583_1, hx583_2⟩ := at_T79 HR578_0.out x21_2 p583 q583
         (try rw [← Nbq11.out] at hx583_0)
         cases e583
         replace hx583_0 := bc_ HB.out hx583_0
         replace hx583_1 := bc_ HB.out hx583_1
         replace hx583_2 := bc_ HB.out hx583_2
         replace p583 := eq_true p583
         replace q583 := eq_true q583
         go_wp2_with (first | ((with_reducible refine gd_ (N := 8) rfl ?_); refine bx_ (N := 8) (cs := #[.bool false, .int .i64 0, .string (⟨#[]⟩ : ByteArray)]) (t := 79) ?_; intro gb584 hg w15 hbox hb; replace HO_3 := A_ (Kd.R_below (vR_ HO_3.out) hb); replace HO_6 := A_ (Kd.R_below (vR_ HO_6.out) hb); have BK584 := A_ (hbox); have GW584 := A_ (ge_ hg bB_ : w.heap.size ≤ gb584); have GE584 := A_ (ge_ hg bB_ : w.heap.size ≤ gb584); replace HB := A_ (below_step bB_ hb); clear hb hbox hg; obtain ⟨hcz16_0, hcz16_1, hcz16_2, hfz16_0, hfz16_1, hfz16_2⟩ := cz3_ BK584.out) | ((with_reducible refine gate_builtin (b := .append) (xs := #[.tmp 41, .tmp 43]) rfl ?_); at_builtin; refine Kd.R_append Kd.string (w0 := w) w.heap.size rfl (.tmp 41) (.tmp 43) 25 9 (.string ⟨#[]⟩) 16 rfl Tryd.underlying25 info9 rfl (by decide) (by omega) u6 x6_2 ((⟨#[78, 111, 116, 32]⟩ : ByteArray) ++ (((⟨#[91]⟩ : ByteArray) ++ ((rd_T79 (rd_L16 l0 x15_1) x21_2).f2)) ++ (⟨#[93]⟩ : ByteArray))) [.string ((⟨#[78, 111, 116, 32]⟩ : ByteArray) ++ (((⟨#[91]⟩ : ByteArray) ++ ((rd_T79 (rd_L16 l0 x15_1) x21_2).f2)) ++ (⟨#[93]⟩ : ByteArray)))] (fun k_ => some k_ ≠ (u3 : Value).ownBlock) (fun _ => False) rfl (by first | (go_simp; done) | (go_simp; rfl)) ?aP (fun _ hk => hk.elim) ?aF ?aO ?aB ?aS ?aL ?_; (case aP => exact rfl); (case aB => exact (bG_ GE584.out)); (case aF => exact (fun k_ hk => Kd.fresh' (Kd.R_lt (by (with_reducible repeat (first | apply Kd.R_alloc | apply Kd.R_drewN | apply Kd.R_drew)); exact (Kd.R_mono (Kd.R_far (p := ⟨gb584, 2, none⟩) (Kd.R_far (p := ⟨gb584, 1, none⟩) (Kd.R_far (p := ⟨gb584, 0, none⟩) (Kd.R_types HO_3.out BK584.out (by decide)) (fun _ hk => hk.2) (.bool true)) (fun _ hk => hk.2) (.int .i64 ((rd_T79 (rd_L16 l0 x15_1) x21_2).f1))) (fun _ hk => hk.2) (.string ((rd_T79 (rd_L16 l0 x15_1) x21_2).f2))) (fun _ h_ => h_.1)))) k_ hk)); (case aO => exact (by (with_reducible repeat (first | apply Kd.R_alloc | apply Kd.R_drewN | apply Kd.R_drew)); exact Kd.R_mono (Kd.R_far (p := ⟨gb584, 2, none⟩) (Kd.R_far (p := ⟨gb584, 1, none⟩) (Kd.R_far (p := ⟨gb584, 0, none⟩) (Kd.R_types HO_6.out BK584.out (by decide)) (fun _ hk => hk.2) (.bool true)) (fun _ hk => hk.2) (.int .i64 ((rd_T79 (rd_L16 l0 x15_1) x21_2).f1))) (fun _ hk => hk.2) (.string ((rd_T79 (rd_L16 l0 x15_1) x21_2).f2))) (fun _ hk => hk.1))); (case aS => exact (below_size (bG_ GE584.out))); (case aL => have := LMc14.out; omega); intro v586 w17 ho hb hg hat; rw [← Ny585.out] at ho; replace HO_3 := A_ (Kd.R_after (ok := (fun _ => True)) (by (with_reducible repeat (first | apply Kd.R_alloc | apply Kd.R_drewN | apply Kd.R_drew)); exact Kd.R_mono (Kd.R_far (p := ⟨gb584, 2, none⟩) (Kd.R_far (p := ⟨gb584, 1, none⟩) (Kd.R_far (p := ⟨gb584, 0, none⟩) (Kd.R_types HO_3.out BK584.out (by decide)) (fun _ hk => hk.2) (.bool true)) (fun _ hk => hk.2) (.int .i64 ((rd_T79 (rd_L16 l0 x15_1) x21_2).f1))) (fun _ hk => hk.2) (.string ((rd_T79 (rd_L16 l0 x15_1) x21_2).f2))) (fun _ hk => ⟨trivial, hk.1⟩)) hg hat); replace BK584 := A_ (blk_grown (g := gb584) (o := .cells #[.bool true, .int .i64 ((rd_T79 (rd_L16 l0 x15_1) x21_2).f1), .string ((rd_T79 (rd_L16 l0 x15_1) x21_2).f2)] 79 (0, 0)) (by (with_reducible repeat (first | refine blk_drewN ?_ _ | refine blk_drew ?_ | refine blk_alloc ?_ _)); refine blk_put (cs := #[.bool true, .int .i64 ((rd_T79 (rd_L16 l0 x15_1) x21_2).f1), .string (⟨#[]⟩ : ByteArray)]) ?_ 2 _ rfl; (with_reducible repeat (first | refine blk_drewN ?_ _ | refine blk_drew ?_ | refine blk_alloc ?_ _)); refine blk_put (cs := #[.bool true, .int .i64 0, .string (⟨#[]⟩ : ByteArray)]) ?_ 1 _ rfl; (with_reducible repeat (first | refine blk_drewN ?_ _ | refine blk_drew ?_ | refine blk_alloc ?_ _)); refine blk_put (cs := #[.bool false, .int .i64 0, .string (⟨#[]⟩ : ByteArray)]) ?_ 0 _ rfl; (with_reducible repeat (first | refine blk_drewN ?_ _ | refine blk_drew ?_ | refine blk_alloc ?_ _)); exact BK584.out) hg (Kd.R_ne HO_6.out BK584.out (by decide))); replace HB := A_ (hb); have HO587 := A_ (ho); clear HO_6; clear ho hb hg hat))
         go_roundg k2
         case measure => have := HK1.out; have := HK2.out; omega
         case rel => (try rw [← Nbq11.out]); exact ⟨(y585), (wrap64 (x21_2 + 1)), rs_, H', ⟨by have := HK1.out; have := HK2.out; omega⟩, ⟨by (with_reducible repeat (first | apply Kd.R_alloc | apply Kd.R_drewN | apply Kd.R_drew)); exact Kd.R_mono HO_3.out (fun _ hk => hk.2)⟩, ⟨vR_ HO587.out⟩, ⟨bG_ GE584.out⟩⟩
       · replace c12 := Bool.eq_false_iff.mpr c12
         subst c12
         rw [if_neg nf_] at H
         by_cases c18 : x6_2.length < 8796093022208
         rotate_left
         · exact absurd H (by rw [if_neg c18]; simp)
         rw [if_pos c18] at H
         have LMc18 := A_ c18
         clear c18
         obtain ⟨y588, hy588⟩ : ∃ y_ : List ByteArray, y_ = (x6_2 ++ [((⟨#[91]⟩ : ByteArray) ++ ((rd_T79 (rd_L16 l0 x15_1) x21_2).f2)) ++ (⟨#[93]⟩ : ByteArray)]) := ⟨_, rfl⟩
         replace H : (impl_IfText.l1 k2 l0 x3_1 y588 l0 (l0.length : Int) x15_1 (rd_L16 l0 x15_1) ((rd_L16 l0 x15_1).length : Int) (wrap64 (x21_2 + 1))) = some r := hy_ hy588 H
         have Ny588 := A_ hy588
         clear hy588
         have H' := A_ H
         clear H
         have p583 : 0 ≤ (x21_2 : Int) := od_
         have q583 : x21_2 < ((rd_L16 l0 x15_1).length : Int) := od_
         obtain ⟨ad583, e583, hx583_0, hx583_1, hx583_2⟩ := at_T79 HR578_0.out x21_2 p583 q583
         (try rw [← Nbq11.out] at hx583_0)
         cases e583
         replace hx583_0 := bc_ HB.out hx583_0
         replace hx583_1 := bc_ HB.out hx583_1
         replace hx583_2 := bc_ HB.out hx583_2
         replace p583 := eq_true p583
         replace q583 := eq_true q583
         go_wp2_with (first | ((with_reducible refine gd_ (N := 8) rfl ?_); refine bx_ (N := 8) (cs := #[.bool false, .int .i64 0, .string (⟨#[]⟩ : ByteArray)]) (t := 79) ?_; intro gb584 hg w19 hbox hb; replace HO_3 := A_ (Kd.R_below (vR_ HO_3.out) hb); replace HO_6 := A_ (Kd.R_below (vR_ HO_6.out) hb); have BK584 := A_ (hbox); have GW584 := A_ (ge_ hg bB_ : w.heap.size ≤ gb584); have GE584 := A_ (ge_ hg bB_ : w.heap.size ≤ gb584); replace HB := A_ (below_step bB_ hb); clear hb hbox hg; obtain ⟨hcz20_0, hcz20_1, hcz20_2, hfz20_0, hfz20_1, hfz20_2⟩ := cz3_ BK584.out) | ((with_reducible refine gate_builtin (b := .append) (xs := #[.tmp 41, .tmp 43]) rfl ?_); at_builtin; refine Kd.R_append Kd.string (w0 := w) w.heap.size rfl (.tmp 41) (.tmp 43) 25 9 (.string ⟨#[]⟩) 16 rfl Tryd.underlying25 info9 rfl (by decide) (by omega) u6 x6_2 (((⟨#[91]⟩ : ByteArray) ++ ((rd_T79 (rd_L16 l0 x15_1) x21_2).f2)) ++ (⟨#[93]⟩ : ByteArray)) [.string (((⟨#[91]⟩ : ByteArray) ++ ((rd_T79 (rd_L16 l0 x15_1) x21_2).f2)) ++ (⟨#[93]⟩ : ByteArray))] (fun k_ => some k_ ≠ (u3 : Value).ownBlock) (fun _ => False) rfl (by first | (go_simp; done) | (go_simp; rfl)) ?aP (fun _ hk => hk.elim) ?aF ?aO ?aB ?aS ?aL ?_; (case aP => exact rfl); (case aB => exact (bG_ GE584.out)); (case aF => exact (fun k_ hk => Kd.fresh' (Kd.R_lt (by (with_reducible repeat (first | apply Kd.R_alloc | apply Kd.R_drewN | apply Kd.R_drew)); exact (Kd.R_mono (Kd.R_far (p := ⟨gb584, 2, none⟩) (Kd.R_far (p := ⟨gb584, 1, none⟩) (Kd.R_far (p := ⟨gb584, 0, none⟩) (Kd.R_types HO_3.out BK584.out (by decide)) (fun _ hk => hk.2) (.bool false)) (fun _ hk => hk.2) (.int .i64 ((rd_T79 (rd_L16 l0 x15_1) x21_2).f1))) (fun _ hk => hk.2) (.string ((rd_T79 (rd_L16 l0 x15_1) x21_2).f2))) (fun _ h_ => h_.1)))) k_ hk)); (case aO => exact (by (with_reducible repeat (first | apply Kd.R_alloc | apply Kd.R_drewN | apply Kd.R_drew)); exact Kd.R_mono (Kd.R_far (p := ⟨gb584, 2, none⟩) (Kd.R_far (p := ⟨gb584, 1, none⟩) (Kd.R_far (p := ⟨gb584, 0, none⟩) (Kd.R_types HO_6.out BK584.out (by decide)) (fun _ hk => hk.2) (.bool false)) (fun _ hk => hk.2) (.int .i64 ((rd_T79 (rd_L16 l0 x15_1) x21_2).f1))) (fun _ hk => hk.2) (.string ((rd_T79 (rd_L16 l0 x15_1) x21_2).f2))) (fun _ hk => hk.1))); (case aS => exact (below_size (bG_ GE584.out))); (case aL => have := LMc18.out; omega); intro v589 w21 ho hb hg hat; rw [← Ny588.out] at ho; replace HO_3 := A_ (Kd.R_after (ok := (fun _ => True)) (by (with_reducible repeat (first | apply Kd.R_alloc | apply Kd.R_drewN | apply Kd.R_drew)); exact Kd.R_mono (Kd.R_far (p := ⟨gb584, 2, none⟩) (Kd.R_far (p := ⟨gb584, 1, none⟩) (Kd.R_far (p := ⟨gb584, 0, none⟩) (Kd.R_types HO_3.out BK584.out (by decide)) (fun _ hk => hk.2) (.bool false)) (fun _ hk => hk.2) (.int .i64 ((rd_T79 (rd_L16 l0 x15_1) x21_2).f1))) (fun _ hk => hk.2) (.string ((rd_T79 (rd_L16 l0 x15_1) x21_2).f2))) (fun _ hk => ⟨trivial, hk.1⟩)) hg hat); replace BK584 := A_ (blk_grown (g := gb584) (o := .cells #[.bool false, .int .i64 ((rd_T79 (rd_L16 l0 x15_1) x21_2).f1), .string ((rd_T79 (rd_L16 l0 x15_1) x21_2).f2)] 79 (0, 0)) (by (with_reducible repeat (first | refine blk_drewN ?_ _ | refine blk_drew ?_ | refine blk_alloc ?_ _)); refine blk_put (cs := #[.bool false, .int .i64 ((rd_T79 (rd_L16 l0 x15_1) x21_2).f1), .string (⟨#[]⟩ : ByteArray)]) ?_ 2 _ rfl; (with_reducible repeat (first | refine blk_drewN ?_ _ | refine blk_drew ?_ | refine blk_alloc ?_ _)); refine blk_put (cs := #[.bool false, .int .i64 0, .string (⟨#[]⟩ : ByteArray)]) ?_ 1 _ rfl; (with_reducible repeat (first | refine blk_drewN ?_ _ | refine blk_drew ?_ | refine blk_alloc ?_ _)); refine blk_put (cs := #[.bool false, .int .i64 0, .string (⟨#[]⟩ : ByteArray)]) ?_ 0 _ rfl; (with_reducible repeat (first | refine blk_drewN ?_ _ | refine blk_drew ?_ | refine blk_alloc ?_ _)); exact BK584.out) hg (Kd.R_ne HO_6.out BK584.out (by decide))); replace HB := A_ (hb); have HO590 := A_ (ho); clear HO_6; clear ho hb hg hat))
         go_roundg k2
         case measure => have := HK1.out; have := HK2.out; omega
         case rel => (try rw [← Nbq11.out]); exact ⟨(y588), (wrap64 (x21_2 + 1)), rs_, H', ⟨by have := HK1.out; have := HK2.out; omega⟩, ⟨by (with_reducible repeat (first | apply Kd.R_alloc | apply Kd.R_drewN | apply Kd.R_drew)); exact Kd.R_mono HO_3.out (fun _ hk => hk.2)⟩, ⟨vR_ HO590.out⟩, ⟨bG_ GE584.out⟩⟩
     rw [if_neg c10] at H
     have c10b0 : (((rd_T79 (rd_L16 l0 x15_1) x21_2).f1) == 0) = false := beq_eq_false_iff_ne.mpr c10
     have c10b1 : (((rd_T79 (rd_L16 l0 x15_1) x21_2).f1) != 0) = true := bne_iff_ne.mpr c10
     obtain ⟨t591, A22, H⟩ := bo_ H
     (try dsimp only at H)
     by_cases c23 : 1 + t591.size ≤ 9223372036854775807
     rotate_left
     · exact absurd H (by rw [if_neg c23]; simp)
     rw [if_pos c23] at H
     have c23b0 := eq_true c23
     have c23b1 : decide (1 + t591.size ≤ 9223372036854775807) = true := decide_eq_true c23
     try have c23b2 : (9223372036854775807 < 1 + t591.size) = False := eq_false (Nat.not_lt.2 c23)
     by_cases c24 : ((⟨#[60]⟩ : ByteArray) ++ t591).size + 1 ≤ 9223372036854775807
     rotate_left
     · exact absurd H (by rw [if_neg c24]; simp)
     rw [if_pos c24] at H
     have c24b0 := eq_true c24
     have c24b1 : decide (((⟨#[60]⟩ : ByteArray) ++ t591).size + 1 ≤ 9223372036854775807) = true := decide_eq_true c24
     try have c24b2 : (9223372036854775807 < ((⟨#[60]⟩ : ByteArray) ++ t591).size + 1) = False := eq_false (Nat.not_lt.2 c24)
     try have c24b3 : (9223372036854775807 < 1 + t591.size + 1) = False := eq_false (Nat.not_lt.2 (by have h_ := c24; simp only [ByteArray.size_append] at h_; exact h_))
     obtain ⟨bq25, hbq25⟩ : ∃ b_ : Bool, b_ = ((rd_T79 (rd_L16 l0 x15_1) x21_2).f0) := ⟨_, rfl⟩
     replace H : (if bq25 = true then (if 4 + (((⟨#[60]⟩ : ByteArray) ++ t591) ++ (⟨#[62]⟩ : ByteArray)).size ≤ 9223372036854775807 then (if x6_2.length < 8796093022208 then (impl_IfText.l1 k2 l0 x3_1 (x6_2 ++ [(⟨#[78, 111, 116, 32]⟩ : ByteArray) ++ (((⟨#[60]⟩ : ByteArray) ++ t591) ++ (⟨#[62]⟩ : ByteArray))]) l0 (l0.length : Int) x15_1 (rd_L16 l0 x15_1) ((rd_L16 l0 x15_1).length : Int) (wrap64 (x21_2 + 1))) else (none)) else (none)) else (if x6_2.length < 8796093022208 then (impl_IfText.l1 k2 l0 x3_1 (x6_2 ++ [((⟨#[60]⟩ : ByteArray) ++ t591) ++ (⟨#[62]⟩ : ByteArray)]) l0 (l0.length : Int) x15_1 (rd_L16 l0 x15_1) ((rd_L16 l0 x15_1).length : Int) (wrap64 (x21_2 + 1))) else (none))) = some r := by rw [← hbq25] at H; exact H
     have Nbq25 := A_ hbq25
     clear hbq25
     (try rw [← Nbq25.out])
     by_cases c26 : bq25 = true
     · subst c26
       rw [if_pos rfl] at H
       by_cases c27 : 4 + (((⟨#[60]⟩ : ByteArray) ++ t591) ++ (⟨#[62]⟩ : ByteArray)).size ≤ 9223372036854775807
       rotate_left
       · exact absurd H (by rw [if_neg c27]; simp)
       rw [if_pos c27] at H
       have c27b0 := eq_true c27
       have c27b1 : decide (4 + (((⟨#[60]⟩ : ByteArray) ++ t591) ++ (⟨#[62]⟩ : ByteArray)).size ≤ 9223372036854775807) = true := decide_eq_true c27
       try have c27b2 : (9223372036854775807 < 4 + (((⟨#[60]⟩ : ByteArray) ++ t591) ++ (⟨#[62]⟩ : ByteArray)).size) = False := eq_false (Nat.not_lt.2 c27)
       try have c27b3 : (9223372036854775807 < 4 + (1 + t591.size + 1)) = False := eq_false (Nat.not_lt.2 (by have h_ := c27; simp only [ByteArray.size_append] at h_; exact h_))
       by_cases c28 : x6_2.length < 8796093022208
       rotate_left
       · exact absurd H (by rw [if_neg c28]; simp)
       rw [if_pos c28] at H
       have LMc28 := A_ c28
       clear c28
       obtain ⟨y592, hy592⟩ : ∃ y_ : List ByteArray, y_ = (x6_2 ++ [(⟨#[78, 111, 116, 32]⟩ : ByteArray) ++ (((⟨#[60]⟩ : ByteArray) ++ t591) ++ (⟨#[62]⟩ : ByteArray))]) := ⟨_, rfl⟩
       replace H : (impl_IfText.l1 k2 l0 x3_1 y592 l0 (l0.length : Int) x15_1 (rd_L16 l0 x15_1) ((rd_L16 l0 x15_1).length : Int) (wrap64 (x21_2 + 1))) = some r := hy_ hy592 H
       have Ny592 := A_ hy592
       clear hy592
       have H' := A_ H
       clear H
       have p583 : 0 ≤ (x21_2 : Int) := od_
       have q583 : x21_2 < ((rd_L16 l0 x15_1).length : Int) := od_
       obtain ⟨ad583, e583, hx583_0, hx583_1, hx583_2⟩ := at_T79 HR578_0.out x21_2 p583 q583
       (try rw [← Nbq25.out] at hx583_0)
       cases e583
       replace hx583_0 := bc_ HB.out hx583_0
       replace hx583_1 := bc_ HB.out hx583_1
       replace hx583_2 := bc_ HB.out hx583_2
       replace p583 := eq_true p583
       replace q583 := eq_true q583
       go_wp2_with (first | ((with_reducible refine gd_ (N := 8) rfl ?_); refine bx_ (N := 8) (cs := #[.bool false, .int .i64 0, .string (⟨#[]⟩ : ByteArray)]) (t := 79) ?_; intro gb584 hg w29 hbox hb; replace HO_3 := A_ (Kd.R_below (vR_ HO_3.out) hb); replace HO_6 := A_ (Kd.R_below (vR_ HO_6.out) hb); have BK584 := A_ (hbox); have GW584 := A_ (ge_ hg bB_ : w.heap.size ≤ gb584); have GE584 := A_ (ge_ hg bB_ : w.heap.size ≤ gb584); replace HB := A_ (below_step bB_ hb); clear hb hbox hg; obtain ⟨hcz30_0, hcz30_1, hcz30_2, hfz30_0, hfz30_1, hfz30_2⟩ := cz3_ BK584.out) | ((with_reducible refine gc_ (f := 30) rfl ?_); refine gL_ (some 34) Tryd.func30 #[.int .i64 ((rd_T79 (rd_L16 l0 x15_1) x21_2).f1)] ?_; (with_reducible refine (impl_NumText.calls ((rd_T79 (rd_L16 l0 x15_1) x21_2).f1) t591 _ ?gT15 A22.out).mono ?_); (case gT15 => first | exact gT_ HGT.out (bG_ GE584.out) | exact gT_ HGT.out bB_); rintro e w31 ⟨rfl, hb⟩; refine ⟨_, rfl, ?_⟩; replace HO_3 := A_ (Kd.R_below (by (with_reducible repeat (first | apply Kd.R_alloc | apply Kd.R_drewN | apply Kd.R_drew)); exact (Kd.R_mono (Kd.R_far (p := ⟨gb584, 2, none⟩) (Kd.R_far (p := ⟨gb584, 1, none⟩) (Kd.R_far (p := ⟨gb584, 0, none⟩) (Kd.R_types HO_3.out BK584.out (by decide)) (fun _ hk => hk.2) (.bool true)) (fun _ hk => hk.2) (.int .i64 ((rd_T79 (rd_L16 l0 x15_1) x21_2).f1))) (fun _ hk => hk.2) (.string ((rd_T79 (rd_L16 l0 x15_1) x21_2).f2))) (fun _ h_ => h_.1))) hb); replace HO_6 := A_ (Kd.R_below (by (with_reducible repeat (first | apply Kd.R_alloc | apply Kd.R_drewN | apply Kd.R_drew)); exact (Kd.R_mono (Kd.R_far (p := ⟨gb584, 2, none⟩) (Kd.R_far (p := ⟨gb584, 1, none⟩) (Kd.R_far (p := ⟨gb584, 0, none⟩) (Kd.R_types HO_6.out BK584.out (by decide)) (fun _ hk => hk.2) (.bool true)) (fun _ hk => hk.2) (.int .i64 ((rd_T79 (rd_L16 l0 x15_1) x21_2).f1))) (fun _ hk => hk.2) (.string ((rd_T79 (rd_L16 l0 x15_1) x21_2).f2))) (fun _ h_ => h_.1))) hb); replace BK584 := A_ (blk_below (g := gb584) (o := .cells #[.bool true, .int .i64 ((rd_T79 (rd_L16 l0 x15_1) x21_2).f1), .string ((rd_T79 (rd_L16 l0 x15_1) x21_2).f2)] 79 (0, 0)) (by (with_reducible repeat (first | refine blk_drewN ?_ _ | refine blk_drew ?_ | refine blk_alloc ?_ _)); refine blk_put (cs := #[.bool true, .int .i64 ((rd_T79 (rd_L16 l0 x15_1) x21_2).f1), .string (⟨#[]⟩ : ByteArray)]) ?_ 2 _ rfl; (with_reducible repeat (first | refine blk_drewN ?_ _ | refine blk_drew ?_ | refine blk_alloc ?_ _)); refine blk_put (cs := #[.bool true, .int .i64 0, .string (⟨#[]⟩ : ByteArray)]) ?_ 1 _ rfl; (with_reducible repeat (first | refine blk_drewN ?_ _ | refine blk_drew ?_ | refine blk_alloc ?_ _)); refine blk_put (cs := #[.bool false, .int .i64 0, .string (⟨#[]⟩ : ByteArray)]) ?_ 0 _ rfl; (with_reducible repeat (first | refine blk_drewN ?_ _ | refine blk_drew ?_ | refine blk_alloc ?_ _)); exact BK584.out) hb); replace HB := A_ (below_step (bG_ GE584.out) hb); (try clear hb); (try clear hk); obtain ⟨hcz32_0, hcz32_1, hcz32_2, hfz32_0, hfz32_1, hfz32_2⟩ := cz3_ BK584.out) | ((with_reducible refine gate_builtin (b := .append) (xs := #[.tmp 41, .tmp 43]) rfl ?_); at_builtin; refine Kd.R_append Kd.string (w0 := w) w.heap.size rfl (.tmp 41) (.tmp 43) 25 9 (.string ⟨#[]⟩) 16 rfl Tryd.underlying25 info9 rfl (by decide) (by omega) u6 x6_2 ((⟨#[78, 111, 116, 32]⟩ : ByteArray) ++ (((⟨#[60]⟩ : ByteArray) ++ t591) ++ (⟨#[62]⟩ : ByteArray))) [.string ((⟨#[78, 111, 116, 32]⟩ : ByteArray) ++ (((⟨#[60]⟩ : ByteArray) ++ t591) ++ (⟨#[62]⟩ : ByteArray)))] (fun k_ => some k_ ≠ (u3 : Value).ownBlock) (fun _ => False) rfl rfl ?aP (fun _ hk => hk.elim) ?aF ?aO ?aB ?aS ?aL ?_; (case aP => exact rfl); (case aB => exact (bG_ GE584.out)); (case aF => exact (fun k_ hk => Kd.fresh' (Kd.R_lt (vR_ HO_3.out)) k_ hk)); (case aO => exact (vR_ HO_6.out)); (case aS => exact (below_size (bG_ GE584.out))); (case aL => have := LMc28.out; omega); intro v593 w33 ho hb hg hat; rw [← Ny592.out] at ho; replace HO_3 := A_ (Kd.R_after (ok := (fun _ => True)) (by (with_reducible repeat (first | apply Kd.R_alloc | apply Kd.R_drewN | apply Kd.R_drew)); exact Kd.R_mono HO_3.out (fun _ hk => ⟨trivial, hk⟩)) hg hat); replace BK584 := A_ (blk_grown (g := gb584) (o := .cells #[.bool true, .int .i64 ((rd_T79 (rd_L16 l0 x15_1) x21_2).f1), .string ((rd_T79 (rd_L16 l0 x15_1) x21_2).f2)] 79 (0, 0)) (vb_ BK584.out) hg (Kd.R_ne HO_6.out BK584.out (by decide))); replace HB := A_ (hb); have HO594 := A_ (ho); clear HO_6; clear ho hb hg hat))
       go_roundg k2
       case measure => have := HK1.out; have := HK2.out; omega
       case rel => (try rw [← Nbq25.out]); exact ⟨(y592), (wrap64 (x21_2 + 1)), rs_, H', ⟨by have := HK1.out; have := HK2.out; omega⟩, ⟨by (with_reducible repeat (first | apply Kd.R_alloc | apply Kd.R_drewN | apply Kd.R_drew)); exact Kd.R_mono HO_3.out (fun _ hk => hk.2)⟩, ⟨vR_ HO594.out⟩, ⟨bG_ GE584.out⟩⟩
     · replace c26 := Bool.eq_false_iff.mpr c26
       subst c26
       rw [if_neg nf_] at H
       by_cases c34 : x6_2.length < 8796093022208
       rotate_left
       · exact absurd H (by rw [if_neg c34]; simp)
       rw [if_pos c34] at H
       have LMc34 := A_ c34
       clear c34
       obtain ⟨y595, hy595⟩ : ∃ y_ : List ByteArray, y_ = (x6_2 ++ [((⟨#[60]⟩ : ByteArray) ++ t591) ++ (⟨#[62]⟩ : ByteArray)]) := ⟨_, rfl⟩
       replace H : (impl_IfText.l1 k2 l0 x3_1 y595 l0 (l0.length : Int) x15_1 (rd_L16 l0 x15_1) ((rd_L16 l0 x15_1).length : Int) (wrap64 (x21_2 + 1))) = some r := hy_ hy595 H
       have Ny595 := A_ hy595
       clear hy595
       have H' := A_ H
       clear H
       have p583 : 0 ≤ (x21_2 : Int) := od_
       have q583 : x21_2 < ((rd_L16 l0 x15_1).length : Int) := od_
       obtain ⟨ad583, e583, hx583_0, hx583_1, hx583_2⟩ := at_T79 HR578_0.out x21_2 p583 q583
       (try rw [← Nbq25.out] at hx583_0)
       cases e583
       replace hx583_0 := bc_ HB.out hx583_0
       replace hx583_1 := bc_ HB.out hx583_1
       replace hx583_2 := bc_ HB.out hx583_2
       replace p583 := eq_true p583
       replace q583 := eq_true q583
       go_wp2_with (first | ((with_reducible refine gd_ (N := 8) rfl ?_); refine bx_ (N := 8) (cs := #[.bool false, .int .i64 0, .string (⟨#[]⟩ : ByteArray)]) (t := 79) ?_; intro gb584 hg w35 hbox hb; replace HO_3 := A_ (Kd.R_below (vR_ HO_3.out) hb); replace HO_6 := A_ (Kd.R_below (vR_ HO_6.out) hb); have BK584 := A_ (hbox); have GW584 := A_ (ge_ hg bB_ : w.heap.size ≤ gb584); have GE584 := A_ (ge_ hg bB_ : w.heap.size ≤ gb584); replace HB := A_ (below_step bB_ hb); clear hb hbox hg; obtain ⟨hcz36_0, hcz36_1, hcz36_2, hfz36_0, hfz36_1, hfz36_2⟩ := cz3_ BK584.out) | ((with_reducible refine gc_ (f := 30) rfl ?_); refine gL_ (some 34) Tryd.func30 #[.int .i64 ((rd_T79 (rd_L16 l0 x15_1) x21_2).f1)] ?_; (with_reducible refine (impl_NumText.calls ((rd_T79 (rd_L16 l0 x15_1) x21_2).f1) t591 _ ?gT16 A22.out).mono ?_); (case gT16 => first | exact gT_ HGT.out (bG_ GE584.out) | exact gT_ HGT.out bB_); rintro e w37 ⟨rfl, hb⟩; refine ⟨_, rfl, ?_⟩; replace HO_3 := A_ (Kd.R_below (by (with_reducible repeat (first | apply Kd.R_alloc | apply Kd.R_drewN | apply Kd.R_drew)); exact (Kd.R_mono (Kd.R_far (p := ⟨gb584, 2, none⟩) (Kd.R_far (p := ⟨gb584, 1, none⟩) (Kd.R_far (p := ⟨gb584, 0, none⟩) (Kd.R_types HO_3.out BK584.out (by decide)) (fun _ hk => hk.2) (.bool false)) (fun _ hk => hk.2) (.int .i64 ((rd_T79 (rd_L16 l0 x15_1) x21_2).f1))) (fun _ hk => hk.2) (.string ((rd_T79 (rd_L16 l0 x15_1) x21_2).f2))) (fun _ h_ => h_.1))) hb); replace HO_6 := A_ (Kd.R_below (by (with_reducible repeat (first | apply Kd.R_alloc | apply Kd.R_drewN | apply Kd.R_drew)); exact (Kd.R_mono (Kd.R_far (p := ⟨gb584, 2, none⟩) (Kd.R_far (p := ⟨gb584, 1, none⟩) (Kd.R_far (p := ⟨gb584, 0, none⟩) (Kd.R_types HO_6.out BK584.out (by decide)) (fun _ hk => hk.2) (.bool false)) (fun _ hk => hk.2) (.int .i64 ((rd_T79 (rd_L16 l0 x15_1) x21_2).f1))) (fun _ hk => hk.2) (.string ((rd_T79 (rd_L16 l0 x15_1) x21_2).f2))) (fun _ h_ => h_.1))) hb); replace BK584 := A_ (blk_below (g := gb584) (o := .cells #[.bool false, .int .i64 ((rd_T79 (rd_L16 l0 x15_1) x21_2).f1), .string ((rd_T79 (rd_L16 l0 x15_1) x21_2).f2)] 79 (0, 0)) (by (with_reducible repeat (first | refine blk_drewN ?_ _ | refine blk_drew ?_ | refine blk_alloc ?_ _)); refine blk_put (cs := #[.bool false, .int .i64 ((rd_T79 (rd_L16 l0 x15_1) x21_2).f1), .string (⟨#[]⟩ : ByteArray)]) ?_ 2 _ rfl; (with_reducible repeat (first | refine blk_drewN ?_ _ | refine blk_drew ?_ | refine blk_alloc ?_ _)); refine blk_put (cs := #[.bool false, .int .i64 0, .string (⟨#[]⟩ : ByteArray)]) ?_ 1 _ rfl; (with_reducible repeat (first | refine blk_drewN ?_ _ | refine blk_drew ?_ | refine blk_alloc ?_ _)); refine blk_put (cs := #[.bool false, .int .i64 0, .string (⟨#[]⟩ : ByteArray)]) ?_ 0 _ rfl; (with_reducible repeat (first | refine blk_drewN ?_ _ | refine blk_drew ?_ | refine blk_alloc ?_ _)); exact BK584.out) hb); replace HB := A_ (below_step (bG_ GE584.out) hb); (try clear hb); (try clear hk); obtain ⟨hcz38_0, hcz38_1, hcz38_2, hfz38_0, hfz38_1, hfz38_2⟩ := cz3_ BK584.out) | ((with_reducible refine gate_builtin (b := .append) (xs := #[.tmp 41, .tmp 43]) rfl ?_); at_builtin; refine Kd.R_append Kd.string (w0 := w) w.heap.size rfl (.tmp 41) (.tmp 43) 25 9 (.string ⟨#[]⟩) 16 rfl Tryd.underlying25 info9 rfl (by decide) (by omega) u6 x6_2 (((⟨#[60]⟩ : ByteArray) ++ t591) ++ (⟨#[62]⟩ : ByteArray)) [.string (((⟨#[60]⟩ : ByteArray) ++ t591) ++ (⟨#[62]⟩ : ByteArray))] (fun k_ => some k_ ≠ (u3 : Value).ownBlock) (fun _ => False) rfl rfl ?aP (fun _ hk => hk.elim) ?aF ?aO ?aB ?aS ?aL ?_; (case aP => exact rfl); (case aB => exact (bG_ GE584.out)); (case aF => exact (fun k_ hk => Kd.fresh' (Kd.R_lt (vR_ HO_3.out)) k_ hk)); (case aO => exact (vR_ HO_6.out)); (case aS => exact (below_size (bG_ GE584.out))); (case aL => have := LMc34.out; omega); intro v596 w39 ho hb hg hat; rw [← Ny595.out] at ho; replace HO_3 := A_ (Kd.R_after (ok := (fun _ => True)) (by (with_reducible repeat (first | apply Kd.R_alloc | apply Kd.R_drewN | apply Kd.R_drew)); exact Kd.R_mono HO_3.out (fun _ hk => ⟨trivial, hk⟩)) hg hat); replace BK584 := A_ (blk_grown (g := gb584) (o := .cells #[.bool false, .int .i64 ((rd_T79 (rd_L16 l0 x15_1) x21_2).f1), .string ((rd_T79 (rd_L16 l0 x15_1) x21_2).f2)] 79 (0, 0)) (vb_ BK584.out) hg (Kd.R_ne HO_6.out BK584.out (by decide))); replace HB := A_ (hb); have HO597 := A_ (ho); clear HO_6; clear ho hb hg hat))
       go_roundg k2
       case measure => have := HK1.out; have := HK2.out; omega
       case rel => (try rw [← Nbq25.out]); exact ⟨(y595), (wrap64 (x21_2 + 1)), rs_, H', ⟨by have := HK1.out; have := HK2.out; omega⟩, ⟨by (with_reducible repeat (first | apply Kd.R_alloc | apply Kd.R_drewN | apply Kd.R_drew)); exact Kd.R_mono HO_3.out (fun _ hk => hk.2)⟩, ⟨vR_ HO597.out⟩, ⟨bG_ GE584.out⟩⟩
def laws_eqCond.f (a0_0 : Bool) (a0_1 : Int) (a0_2 : ByteArray) (a1_0 : Bool) (a1_1 : Int) (a1_2 : ByteArray) : Option (Bool) := if (a0_0 != a1_0) = true then (some false) else (if a0_1 = a1_1 then (if a0_2.toList = a1_2.toList then (some true) else (some false)) else (some false))
theorem laws_eqCond.calls (a0_0 : Bool) (a0_1 : Int) (a0_2 : ByteArray) (a1_0 : Bool) (a1_1 : Int) (a1_2 : ByteArray) (r : Bool) (w : World) (h : laws_eqCond.f a0_0 a0_1 a0_2 a1_0 a1_1 a1_2 = some r) :
 Calls Tryd.prog 83 #[.agg #[.bool a0_0, .int .i64 a0_1, .string a0_2], .agg #[.bool a1_0, .int .i64 a1_1, .string a1_2]] w fun e w' => e = .returned (.bool r) ∧ Below w.heap.size w w' := by
 have hu79 := Tryd.underlying79
 have HB := A_ (Below.refl w.heap.size w)
 have H : (if (a0_0 != a1_0) = true then (some false) else (if a0_1 = a1_1 then (if a0_2.toList = a1_2.toList then (some true) else (some false)) else (some false))) = some r := h
 clear h
 by_cases c3 : (a0_0 != a1_0) = true
 · rw [if_pos c3] at H
   have c3b0 : (a0_0 != a1_0) = true := c3
   (try (have c3b1 : decide (a0_0 = a1_0) = false := by simpa using c3))
   (try (have c3b2 : (a0_0 == a1_0) = false := by simpa using c3))
   (try (have c3b3 : ¬ (a0_0 = a1_0) := by simpa using c3))
   clear c3
   obtain rfl := si_ H
   go_enter Tryd.func83, Tryd.ntmps83
   go_wp2_with (first | ((with_reducible refine gd_ (N := 2) rfl ?_); refine bx_ (N := 2) (cs := #[.bool a0_0, .int .i64 a0_1, .string a0_2]) (t := 79) ?_; intro gb604 hg w4 hbox hb; have BK604 := A_ (hbox); have GW604 := A_ (ge_ hg bB_ : w.heap.size ≤ gb604); have GE604 := A_ (ge_ hg bB_ : w.heap.size ≤ gb604); replace HB := A_ (below_step bB_ hb); clear hb hbox hg) | ((with_reducible refine gd_ (N := 3) rfl ?_); refine bx_ (N := 3) (cs := #[.bool a1_0, .int .i64 a1_1, .string a1_2]) (t := 79) ?_; intro gb605 hg w5 hbox hb; have BK605 := A_ (hbox); have GW605 := A_ (ge_ hg (bG_ GE604.out) : w.heap.size ≤ gb605); have GE605 := A_ (ge_ hg (bG_ GE604.out) : w.heap.size ≤ gb605); replace HB := A_ (below_step (bG_ GE604.out) hb); have NB604_605 := A_ (gm_ hg BK604.out); have NB605_604 := A_ (gn_ hg BK604.out); replace BK604 := A_ (bw_ BK604.out hb); clear hb hbox hg; have hnb6 := NB604_605.out; have hnc6 := NB605_604.out; obtain ⟨hcz7_0, hcz7_1, hcz7_2, hfz7_0, hfz7_1, hfz7_2⟩ := cz3_ BK604.out; obtain ⟨hcz8_0, hcz8_1, hcz8_2, hfz8_0, hfz8_1, hfz8_2⟩ := cz3_ BK605.out))
   go_ret
   exact ⟨rr_, by repeat (first | (with_reducible first | exact HB.out | apply below_alloc | apply pw_below_drewN | apply below_drew1 | refine below_set ?_ GE604.out | refine below_set ?_ GE605.out) | exact HB.out)⟩
 rw [if_neg c3] at H
 have c3b0 : (a0_0 != a1_0) = false := by simpa using c3
 (try (have c3b1 : decide (a0_0 = a1_0) = true := by simpa using c3))
 (try (have c3b2 : (a0_0 == a1_0) = true := by simpa using c3))
 clear c3
 by_cases c9 : a0_1 = a1_1
 rotate_left
 · rw [if_neg c9] at H
   have c9b0 : (a0_1 == a1_1) = false := beq_eq_false_iff_ne.mpr c9
   have c9b1 : (a0_1 != a1_1) = true := bne_iff_ne.mpr c9
   obtain rfl := si_ H
   go_enter Tryd.func83, Tryd.ntmps83
   go_wp2_with (first | ((with_reducible refine gd_ (N := 2) rfl ?_); refine bx_ (N := 2) (cs := #[.bool a0_0, .int .i64 a0_1, .string a0_2]) (t := 79) ?_; intro gb604 hg w21 hbox hb; have BK604 := A_ (hbox); have GW604 := A_ (ge_ hg bB_ : w.heap.size ≤ gb604); have GE604 := A_ (ge_ hg bB_ : w.heap.size ≤ gb604); replace HB := A_ (below_step bB_ hb); clear hb hbox hg) | ((with_reducible refine gd_ (N := 3) rfl ?_); refine bx_ (N := 3) (cs := #[.bool a1_0, .int .i64 a1_1, .string a1_2]) (t := 79) ?_; intro gb605 hg w22 hbox hb; have BK605 := A_ (hbox); have GW605 := A_ (ge_ hg (bG_ GE604.out) : w.heap.size ≤ gb605); have GE605 := A_ (ge_ hg (bG_ GE604.out) : w.heap.size ≤ gb605); replace HB := A_ (below_step (bG_ GE604.out) hb); have NB604_605 := A_ (gm_ hg BK604.out); have NB605_604 := A_ (gn_ hg BK604.out); replace BK604 := A_ (bw_ BK604.out hb); clear hb hbox hg; have hnb23 := NB604_605.out; have hnc23 := NB605_604.out; obtain ⟨hcz24_0, hcz24_1, hcz24_2, hfz24_0, hfz24_1, hfz24_2⟩ := cz3_ BK604.out; obtain ⟨hcz25_0, hcz25_1, hcz25_2, hfz25_0, hfz25_1, hfz25_2⟩ := cz3_ BK605.out))
   go_ret
   exact ⟨rr_, by repeat (first | (with_reducible first | exact HB.out | apply below_alloc | apply pw_below_drewN | apply below_drew1 | refine below_set ?_ GE604.out | refine below_set ?_ GE605.out) | exact HB.out)⟩
 rw [if_pos c9] at H
 have c9b0 : (a0_1 == a1_1) = true := beq_iff_eq.mpr c9
 have c9b1 : (a0_1 != a1_1) = false := bne_eq_false_iff_eq.mpr c9
 clear c9
 by_cases c10 : a0_2.toList = a1_2.toList
 rotate_left
 · rw [if_neg c10] at H
   have c10b0 : (a0_2.toList == a1_2.toList) = false := beq_eq_false_iff_ne.mpr c10
   have c10b1 : (a0_2.toList != a1_2.toList) = true := bne_iff_ne.mpr c10
   obtain rfl := si_ H
   go_enter Tryd.func83, Tryd.ntmps83
   go_wp2_with (first | ((with_reducible refine gd_ (N := 2) rfl ?_); refine bx_ (N := 2) (cs := #[.bool a0_0, .int .i64 a0_1, .string a0_2]) (t := 79) ?_; intro gb604 hg w16 hbox hb; have BK604 := A_ (hbox); have GW604 := A_ (ge_ hg bB_ : w.heap.size ≤ gb604); have GE604 := A_ (ge_ hg bB_ : w.heap.size ≤ gb604); replace HB := A_ (below_step bB_ hb); clear hb hbox hg) | ((with_reducible refine gd_ (N := 3) rfl ?_); refine bx_ (N := 3) (cs := #[.bool a1_0, .int .i64 a1_1, .string a1_2]) (t := 79) ?_; intro gb605 hg w17 hbox hb; have BK605 := A_ (hbox); have GW605 := A_ (ge_ hg (bG_ GE604.out) : w.heap.size ≤ gb605); have GE605 := A_ (ge_ hg (bG_ GE604.out) : w.heap.size ≤ gb605); replace HB := A_ (below_step (bG_ GE604.out) hb); have NB604_605 := A_ (gm_ hg BK604.out); have NB605_604 := A_ (gn_ hg BK604.out); replace BK604 := A_ (bw_ BK604.out hb); clear hb hbox hg; have hnb18 := NB604_605.out; have hnc18 := NB605_604.out; obtain ⟨hcz19_0, hcz19_1, hcz19_2, hfz19_0, hfz19_1, hfz19_2⟩ := cz3_ BK604.out; obtain ⟨hcz20_0, hcz20_1, hcz20_2, hfz20_0, hfz20_1, hfz20_2⟩ := cz3_ BK605.out))
   go_ret
   exact ⟨rr_, by repeat (first | (with_reducible first | exact HB.out | apply below_alloc | apply pw_below_drewN | apply below_drew1 | refine below_set ?_ GE604.out | refine below_set ?_ GE605.out) | exact HB.out)⟩
 rw [if_pos c10] at H
 have c10b0 : (a0_2.toList == a1_2.toList) = true := beq_iff_eq.mpr c10
 have c10b1 : (a0_2.toList != a1_2.toList) = false := bne_eq_false_iff_eq.mpr c10
 clear c10
 obtain rfl := si_ H
 go_enter Tryd.func83, Tryd.ntmps83
 go_wp2_with (first | ((with_reducible refine gd_ (N := 2) rfl ?_); refine bx_ (N := 2) (cs := #[.bool a0_0, .int .i64 a0_1, .string a0_2]) (t := 79) ?_; intro gb604 hg w11 hbox hb; have BK604 := A_ (hbox); have GW604 := A_ (ge_ hg bB_ : w.heap.size ≤ gb604); have GE604 := A_ (ge_ hg bB_ : w.heap.size ≤ gb604); replace HB := A_ (below_step bB_ hb); clear hb hbox hg) | ((with_reducible refine gd_ (N := 3) rfl ?_); refine bx_ (N := 3) (cs := #[.bool a1_0, .int .i64 a1_1, .string a1_2]) (t := 79) ?_; intro gb605 hg w12 hbox hb; have BK605 := A_ (hbox); have GW605 := A_ (ge_ hg (bG_ GE604.out) : w.heap.size ≤ gb605); have GE605 := A_ (ge_ hg (bG_ GE604.out) : w.heap.size ≤ gb605); replace HB := A_ (below_step (bG_ GE604.out) hb); have NB604_605 := A_ (gm_ hg BK604.out); have NB605_604 := A_ (gn_ hg BK604.out); replace BK604 := A_ (bw_ BK604.out hb); clear hb hbox hg; have hnb13 := NB604_605.out; have hnc13 := NB605_604.out; obtain ⟨hcz14_0, hcz14_1, hcz14_2, hfz14_0, hfz14_1, hfz14_2⟩ := cz3_ BK604.out; obtain ⟨hcz15_0, hcz15_1, hcz15_2, hfz15_0, hfz15_1, hfz15_2⟩ := cz3_ BK605.out))
 go_ret
 exact ⟨rr_, by repeat (first | (with_reducible first | exact HB.out | apply below_alloc | apply pw_below_drewN | apply below_drew1 | refine below_set ?_ GE604.out | refine below_set ?_ GE605.out) | exact HB.out)⟩
set_option maxHeartbeats 8000000
set_option maxRecDepth 100000
def laws_eqCondS.l0 : Nat → List (S79) → List (S79) → Int → Option (Bool)
 | 0, _, _, _ => none
 | k + 1, x0, x1, x5 => if x5 < (x0.length : Int) then (if 0 ≤ x5 then (if x5 < (x1.length : Int) then ((laws_eqCond.f ((rd_T79 x0 x5).f0) ((rd_T79 x0 x5).f1) ((rd_T79 x0 x5).f2) ((rd_T79 x1 x5).f0) ((rd_T79 x1 x5).f1) ((rd_T79 x1 x5).f2)).bind fun t608 => (if t608 = true then (laws_eqCondS.l0 k x0 x1 (wrap64 (x5 + 1))) else (some false))) else (none)) else (none)) else (some true)
def laws_eqCondS.f (k : Nat) (l0 : List (S79)) (l1 : List (S79)) : Option (Bool) := if (l0.length : Int) = (l1.length : Int) then (laws_eqCondS.l0 k l0 l1 0) else (some false)
def laws_eqCondS.T6 : Bool × List (List Nat × List Nat) := (true, [([], []), ([], []), ([0, 1], [0, 1]), ([2], [2]), ([], []), ([], []), ([4, 5], [4, 5]), ([6], [6]), ([3, 7], [3, 7]), ([8], [8])])
def laws_eqCondS.B6 : List Nat := [0, 0, 3, 7, 0, 0, 48, 112, 255, 511]
theorem laws_eqCondS.tab6 : rtab .any (opsOf Tryd.f57 6) = laws_eqCondS.T6 := by kernel_rfl
theorem laws_eqCondS.bits6 : waitsOk laws_eqCondS.T6.2 laws_eqCondS.B6 = true := by kernel_rfl
theorem laws_eqCondS.calls (k : Nat) (A0 : Option Addr) (c0 : Nat) (l0 : List (S79)) (A1 : Option Addr) (c1 : Nat) (l1 : List (S79)) (r : Bool) (w : World) (hr0 : Kd.C k79 w A0 l0.length l0) (hc0 : l0.length ≤ c0) (hr1 : Kd.C k79 w A1 l1.length l1) (hc1 : l1.length ≤ c1) (h : laws_eqCondS.f k l0 l1 = some r) :
 Calls Tryd.prog 57 #[.slice A0 l0.length c0, .slice A1 l1.length c1] w fun e w' => e = .returned (.bool r) ∧ Below w.heap.size w w' := by
 have hu79 := Tryd.underlying79
 have HR0 := A_ hr0
 have HC0 := A_ hc0
 clear hr0 hc0
 have HR1 := A_ hr1
 have HC1 := A_ hc1
 clear hr1 hc1
 have HB := A_ (Below.refl w.heap.size w)
 have H : (if (l0.length : Int) = (l1.length : Int) then (laws_eqCondS.l0 k l0 l1 0) else (some false)) = some r := h
 clear h
 by_cases c3 : (l0.length : Int) = (l1.length : Int)
 rotate_left
 · rw [if_neg c3] at H
   have c3b0 : ((l0.length : Int) == (l1.length : Int)) = false := beq_eq_false_iff_ne.mpr c3
   have c3b1 : ((l0.length : Int) != (l1.length : Int)) = true := bne_iff_ne.mpr c3
   have c3b2 : (l0.length == l1.length) = false := by first | simpa using c3 | (simp at c3 ⊢; omega)
   obtain rfl := si_ H
   go_enter Tryd.func57, Tryd.ntmps57
   go_wp2
   go_ret
   exact ⟨rr_, bB_⟩
 rw [if_pos c3] at H
 have c3b0 : ((l0.length : Int) == (l1.length : Int)) = true := beq_iff_eq.mpr c3
 have c3b1 : ((l0.length : Int) != (l1.length : Int)) = false := bne_eq_false_iff_eq.mpr c3
 have c3b2 : (l0.length == l1.length) = true := by first | simpa using c3 | (simp at c3 ⊢; omega)
 clear c3
 have H' := A_ H
 clear H
 go_enter Tryd.func57, Tryd.ntmps57
 go_wp2
 go_loopg [5] k (fun kq v5 w' => ∃ (x5_1 : Int), v5 = .int .i64 x5_1 ∧ Aside0 (laws_eqCondS.l0 kq l0 l1 x5_1 = some r) ∧ Aside0 (kq ≤ k) ∧ Aside0 (Below w.heap.size w w'))
 case atStart => exact ⟨(0), rs_, H', ⟨Nat.le_refl _⟩, ⟨bB_⟩⟩
 case round =>
  clear H'
  try clear c1
  try clear p2
  try clear c3
  try clear c3b0
  try clear c3b1
  try clear c3b2
  obtain ⟨x5_1, rfl, HA, HK1, HB⟩ := hrel
  cases gk with
  | zero => exact absurd HA.out (by simp [laws_eqCondS.l0])
  | succ k1 =>
   have H := HA.out
   clear HA
   simp only [laws_eqCondS.l0] at H
   by_cases c4 : x5_1 < (l0.length : Int)
   rotate_left
   · rw [if_neg c4] at H
     have c4b0 : decide (x5_1 < (l0.length : Int)) = false := decide_eq_false c4
     clear c4
     obtain rfl := si_ H
     go_wp2
     go_ret
     exact ⟨rr_, bB_⟩
   rw [if_pos c4] at H
   have c4b0 : decide (x5_1 < (l0.length : Int)) = true := decide_eq_true c4
   clear c4
   by_cases c5 : 0 ≤ x5_1
   rotate_left
   · exact absurd H (by rw [if_neg c5]; simp)
   rw [if_pos c5] at H
   have c5b0 : decide (0 ≤ x5_1) = true := decide_eq_true c5
   clear c5
   by_cases c6 : x5_1 < (l1.length : Int)
   rotate_left
   · exact absurd H (by rw [if_neg c6]; simp)
   rw [if_pos c6] at H
   have c6b0 : decide (x5_1 < (l1.length : Int)) = true := decide_eq_true c6
   clear c6
   obtain ⟨t608, A7, H⟩ := bo_ H
   (try dsimp only at H)
   by_cases c8 : t608 = true
   · subst c8
     rw [if_pos rfl] at H
     have H' := A_ H
     clear H
     try go_wp2
     replace HB := A_ (below_drew1 HB.out)
     have p606 : 0 ≤ (x5_1 : Int) := od_
     have q606 : x5_1 < (l0.length : Int) := od_
     obtain ⟨ad606, e606, hx606_0, hx606_1, hx606_2⟩ := at_T79 HR0.out x5_1 p606 q606
     have hw606_2 := hx606_2
     have hw606_1 := hx606_1
     have hw606_0 := hx606_0
     cases e606
     replace hx606_0 := bc_ HB.out hx606_0
     replace hx606_1 := bc_ HB.out hx606_1
     replace hx606_2 := bc_ HB.out hx606_2
     replace p606 := eq_true p606
     replace q606 := eq_true q606
     have p607 : 0 ≤ (x5_1 : Int) := od_
     have q607 : x5_1 < (l1.length : Int) := od_
     obtain ⟨ad607, e607, hx607_0, hx607_1, hx607_2⟩ := at_T79 HR1.out x5_1 p607 q607
     have hw607_2 := hx607_2
     have hw607_1 := hx607_1
     have hw607_0 := hx607_0
     cases e607
     replace hx607_0 := bc_ HB.out hx607_0
     replace hx607_1 := bc_ HB.out hx607_1
     replace hx607_2 := bc_ HB.out hx607_2
     replace p607 := eq_true p607
     replace q607 := eq_true q607
     refine start_ (n := 10) (S := fun w' => w'.cell? (ad606.add ((x5_1).toNat * 3)) = some (.bool ((rd_T79 l0 x5_1).f0)) ∧ w'.cell? ⟨(ad606.add ((x5_1).toNat * 3)).block, (ad606.add ((x5_1).toNat * 3)).off + 1, none⟩ = some (.int .i64 ((rd_T79 l0 x5_1).f1)) ∧ w'.cell? ⟨(ad606.add ((x5_1).toNat * 3)).block, (ad606.add ((x5_1).toNat * 3)).off + 2, none⟩ = some (.string ((rd_T79 l0 x5_1).f2)) ∧ w'.cell? (ad607.add ((x5_1).toNat * 3)) = some (.bool ((rd_T79 l1 x5_1).f0)) ∧ w'.cell? ⟨(ad607.add ((x5_1).toNat * 3)).block, (ad607.add ((x5_1).toNat * 3)).off + 1, none⟩ = some (.int .i64 ((rd_T79 l1 x5_1).f1)) ∧ w'.cell? ⟨(ad607.add ((x5_1).toNat * 3)).block, (ad607.add ((x5_1).toNat * 3)).off + 2, none⟩ = some (.string ((rd_T79 l1 x5_1).f2))) (ds := []) #[false, false, false, false, false, false, false, false, false, false] (by kernel_rfl) rfl rfl ⟨(be_ hw606_0), (be_ hw606_1), (be_ hw606_2), (be_ hw607_0), (be_ hw607_1), (be_ hw607_2)⟩ (fun hHeld => ?_); refine with_tabW laws_eqCondS.tab6 laws_eqCondS.bits6 (fun HT_ HW_ => ?_)
     generalize wr.drew = w9 at HB hx606_0 hx606_1 hx606_2 hx607_0 hx607_1 hx607_2 hHeld ⊢
     refine pu_ (i := 0) (N := some 17) ?_
     refine pu_ (i := 1) (N := some 18) ?_
     refine pu_ (i := 2) (N := some 19) ?_
     refine pu_ (i := 4) (N := some 21) ?_
     refine pu_ (i := 5) (N := some 22) ?_
     refine pu_ (i := 6) (N := some 23) ?_
     refine tk_ (i := 3) (N := some 20) hHeld ?_
     refine tk_ (i := 7) (N := some 24) hHeld ?_
     refine on_ (i := 8) (N := some 25) (fun K hK => ?_)
     refine goes_ Tryd.func83 (by kernel_rfl) rfl #[.agg #[.bool ((rd_T79 l0 x5_1).f0), .int .i64 ((rd_T79 l0 x5_1).f1), .string ((rd_T79 l0 x5_1).f2)], .agg #[.bool ((rd_T79 l1 x5_1).f0), .int .i64 ((rd_T79 l1 x5_1).f1), .string ((rd_T79 l1 x5_1).f2)]] (by rfl) rfl rfl ml_ ?_
     with_reducible refine (laws_eqCond.calls ((rd_T79 l0 x5_1).f0) ((rd_T79 l0 x5_1).f1) ((rd_T79 l0 x5_1).f2) ((rd_T79 l1 x5_1).f0) ((rd_T79 l1 x5_1).f1) ((rd_T79 l1 x5_1).f2) true _ A7.out).mono ?_
     rintro e w10 ⟨rfl, hb⟩
     refine ⟨_, rfl, ?_⟩
     replace HB := A_ (below_step bB_ hb)
     (try clear hb)
     (try clear hb2)
     (try clear hk)
     (try clear hi)
     refine hK.out _ _ ⟨(be_ hw606_0), (be_ hw606_1), (be_ hw606_2), (be_ hw607_0), (be_ hw607_1), (be_ hw607_2)⟩ (fun hHeld => ?_)
     clear hK K
     refine no_ (some 25) ?_
     refine pu_ (i := 9) (N := some 26) ?_
     refine done_ (done_of HT_.out (by kernel_rfl)) ?_
     (try clear hHeld)
     try go_wp2
     go_roundg k1
     case measure => have := HK1.out; omega
     case rel => exact ⟨(wrap64 (x5_1 + 1)), rs_, H', ⟨by have := HK1.out; omega⟩, ⟨bB_⟩⟩
   · replace c8 := Bool.eq_false_iff.mpr c8
     subst c8
     rw [if_neg nf_] at H
     obtain rfl := si_ H
     try go_wp2
     replace HB := A_ (below_drew1 HB.out)
     have p606 : 0 ≤ (x5_1 : Int) := od_
     have q606 : x5_1 < (l0.length : Int) := od_
     obtain ⟨ad606, e606, hx606_0, hx606_1, hx606_2⟩ := at_T79 HR0.out x5_1 p606 q606
     have hw606_2 := hx606_2
     have hw606_1 := hx606_1
     have hw606_0 := hx606_0
     cases e606
     replace hx606_0 := bc_ HB.out hx606_0
     replace hx606_1 := bc_ HB.out hx606_1
     replace hx606_2 := bc_ HB.out hx606_2
     replace p606 := eq_true p606
     replace q606 := eq_true q606
     have p607 : 0 ≤ (x5_1 : Int) := od_
     have q607 : x5_1 < (l1.length : Int) := od_
     obtain ⟨ad607, e607, hx607_0, hx607_1, hx607_2⟩ := at_T79 HR1.out x5_1 p607 q607
     have hw607_2 := hx607_2
     have hw607_1 := hx607_1
     have hw607_0 := hx607_0
     cases e607
     replace hx607_0 := bc_ HB.out hx607_0
     replace hx607_1 := bc_ HB.out hx607_1
     replace hx607_2 := bc_ HB.out hx607_2
     replace p607 := eq_true p607
     replace q607 := eq_true q607
     refine start_ (n := 10) (S := fun w' => w'.cell? (ad606.add ((x5_1).toNat * 3)) = some (.bool ((rd_T79 l0 x5_1).f0)) ∧ w'.cell? ⟨(ad606.add ((x5_1).toNat * 3)).block, (ad606.add ((x5_1).toNat * 3)).off + 1, none⟩ = some (.int .i64 ((rd_T79 l0 x5_1).f1)) ∧ w'.cell? ⟨(ad606.add ((x5_1).toNat * 3)).block, (ad606.add ((x5_1).toNat * 3)).off + 2, none⟩ = some (.string ((rd_T79 l0 x5_1).f2)) ∧ w'.cell? (ad607.add ((x5_1).toNat * 3)) = some (.bool ((rd_T79 l1 x5_1).f0)) ∧ w'.cell? ⟨(ad607.add ((x5_1).toNat * 3)).block, (ad607.add ((x5_1).toNat * 3)).off + 1, none⟩ = some (.int .i64 ((rd_T79 l1 x5_1).f1)) ∧ w'.cell? ⟨(ad607.add ((x5_1).toNat * 3)).block, (ad607.add ((x5_1).toNat * 3)).off + 2, none⟩ = some (.string ((rd_T79 l1 x5_1).f2))) (ds := []) #[false, false, false, false, false, false, false, false, false, false] (by kernel_rfl) rfl rfl ⟨(be_ hw606_0), (be_ hw606_1), (be_ hw606_2), (be_ hw607_0), (be_ hw607_1), (be_ hw607_2)⟩ (fun hHeld => ?_); refine with_tabW laws_eqCondS.tab6 laws_eqCondS.bits6 (fun HT_ HW_ => ?_)
     generalize wr.drew = w11 at HB hx606_0 hx606_1 hx606_2 hx607_0 hx607_1 hx607_2 hHeld ⊢
     refine pu_ (i := 0) (N := some 17) ?_
     refine pu_ (i := 1) (N := some 18) ?_
     refine pu_ (i := 2) (N := some 19) ?_
     refine pu_ (i := 4) (N := some 21) ?_
     refine pu_ (i := 5) (N := some 22) ?_
     refine pu_ (i := 6) (N := some 23) ?_
     refine tk_ (i := 3) (N := some 20) hHeld ?_
     refine tk_ (i := 7) (N := some 24) hHeld ?_
     refine on_ (i := 8) (N := some 25) (fun K hK => ?_)
     refine goes_ Tryd.func83 (by kernel_rfl) rfl #[.agg #[.bool ((rd_T79 l0 x5_1).f0), .int .i64 ((rd_T79 l0 x5_1).f1), .string ((rd_T79 l0 x5_1).f2)], .agg #[.bool ((rd_T79 l1 x5_1).f0), .int .i64 ((rd_T79 l1 x5_1).f1), .string ((rd_T79 l1 x5_1).f2)]] (by rfl) rfl rfl ml_ ?_
     with_reducible refine (laws_eqCond.calls ((rd_T79 l0 x5_1).f0) ((rd_T79 l0 x5_1).f1) ((rd_T79 l0 x5_1).f2) ((rd_T79 l1 x5_1).f0) ((rd_T79 l1 x5_1).f1) ((rd_T79 l1 x5_1).f2) false _ A7.out).mono ?_
     rintro e w12 ⟨rfl, hb⟩
     refine ⟨_, rfl, ?_⟩
     replace HB := A_ (below_step bB_ hb)
     (try clear hb)
     (try clear hb2)
     (try clear hk)
     (try clear hi)
     refine hK.out _ _ ⟨(be_ hw606_0), (be_ hw606_1), (be_ hw606_2), (be_ hw607_0), (be_ hw607_1), (be_ hw607_2)⟩ (fun hHeld => ?_)
     clear hK K
     refine no_ (some 25) ?_
     refine pu_ (i := 9) (N := some 26) ?_
     refine done_ (done_of HT_.out (by kernel_rfl)) ?_
     (try clear hHeld)
     try go_wp2
     go_ret
     exact ⟨rr_, bB_⟩
def laws_eqCondSS.l0 : Nat → List (List (S79)) → List (List (S79)) → Int → Option (Bool)
 | 0, _, _, _ => none
 | k + 1, x0, x1, x5 => if x5 < (x0.length : Int) then (if 0 ≤ x5 then (if x5 < (x1.length : Int) then ((laws_eqCondS.f k (rd_L16 x0 x5) (rd_L16 x1 x5)).bind fun t611 => (if t611 = true then (laws_eqCondSS.l0 k x0 x1 (wrap64 (x5 + 1))) else (some false))) else (none)) else (none)) else (some true)
def laws_eqCondSS.f (k : Nat) (l0 : List (List (S79))) (l1 : List (List (S79))) : Option (Bool) := if (l0.length : Int) = (l1.length : Int) then (laws_eqCondSS.l0 k l0 l1 0) else (some false)
def laws_eqCondSS.T6 : Bool × List (List Nat × List Nat) := (true, [([], []), ([], []), ([0, 1], [0, 1]), ([2], [2]), ([], []), ([], []), ([4, 5], [4, 5]), ([6], [6]), ([3, 7], [3, 7]), ([8], [8])])
def laws_eqCondSS.B6 : List Nat := [0, 0, 3, 7, 0, 0, 48, 112, 255, 511]
theorem laws_eqCondSS.tab6 : rtab .any (opsOf Tryd.f28 6) = laws_eqCondSS.T6 := by kernel_rfl
theorem laws_eqCondSS.bits6 : waitsOk laws_eqCondSS.T6.2 laws_eqCondSS.B6 = true := by kernel_rfl
theorem laws_eqCondSS.calls (k : Nat) (A0 : Option Addr) (c0 : Nat) (l0 : List (List (S79))) (A1 : Option Addr) (c1 : Nat) (l1 : List (List (S79))) (r : Bool) (w : World) (hr0 : Kd.C (Kd.slice 79 k79) w A0 l0.length l0) (hc0 : l0.length ≤ c0) (hr1 : Kd.C (Kd.slice 79 k79) w A1 l1.length l1) (hc1 : l1.length ≤ c1) (h : laws_eqCondSS.f k l0 l1 = some r) :
 Calls Tryd.prog 28 #[.slice A0 l0.length c0, .slice A1 l1.length c1] w fun e w' => e = .returned (.bool r) ∧ Below w.heap.size w w' := by
 have HR0 := A_ hr0
 have HC0 := A_ hc0
 clear hr0 hc0
 have HR1 := A_ hr1
 have HC1 := A_ hc1
 clear hr1 hc1
 have HB := A_ (Below.refl w.heap.size w)
 have H : (if (l0.length : Int) = (l1.length : Int) then (laws_eqCondSS.l0 k l0 l1 0) else (some false)) = some r := h
 clear h
 by_cases c3 : (l0.length : Int) = (l1.length : Int)
 rotate_left
 · rw [if_neg c3] at H
   have c3b0 : ((l0.length : Int) == (l1.length : Int)) = false := beq_eq_false_iff_ne.mpr c3
   have c3b1 : ((l0.length : Int) != (l1.length : Int)) = true := bne_iff_ne.mpr c3
   have c3b2 : (l0.length == l1.length) = false := by first | simpa using c3 | (simp at c3 ⊢; omega)
   obtain rfl := si_ H
   go_enter Tryd.func28, Tryd.ntmps28
   go_wp2
   go_ret
   exact ⟨rr_, bB_⟩
 rw [if_pos c3] at H
 have c3b0 : ((l0.length : Int) == (l1.length : Int)) = true := beq_iff_eq.mpr c3
 have c3b1 : ((l0.length : Int) != (l1.length : Int)) = false := bne_eq_false_iff_eq.mpr c3
 have c3b2 : (l0.length == l1.length) = true := by first | simpa using c3 | (simp at c3 ⊢; omega)
 clear c3
 have H' := A_ H
 clear H
 go_enter Tryd.func28, Tryd.ntmps28
 go_wp2
 go_loopg [5] k (fun kq v5 w' => ∃ (x5_1 : Int), v5 = .int .i64 x5_1 ∧ Aside0 (laws_eqCondSS.l0 kq l0 l1 x5_1 = some r) ∧ Aside0 (kq ≤ k) ∧ Aside0 (Below w.heap.size w w'))
 case atStart => exact ⟨(0), rs_, H', ⟨Nat.le_refl _⟩, ⟨bB_⟩⟩
 case round =>
  clear H'
  try clear c1
  try clear c2
  try clear p2
  try clear c3
  try clear c3b0
  try clear c3b1
  try clear c3b2
  obtain ⟨x5_1, rfl, HA, HK1, HB⟩ := hrel
  cases gk with
  | zero => exact absurd HA.out (by simp [laws_eqCondSS.l0])
  | succ k1 =>
   have H := HA.out
   clear HA
   simp only [laws_eqCondSS.l0] at H
   by_cases c4 : x5_1 < (l0.length : Int)
   rotate_left
   · rw [if_neg c4] at H
     have c4b0 : decide (x5_1 < (l0.length : Int)) = false := decide_eq_false c4
     clear c4
     obtain rfl := si_ H
     go_wp2
     go_ret
     exact ⟨rr_, bB_⟩
   rw [if_pos c4] at H
   have c4b0 : decide (x5_1 < (l0.length : Int)) = true := decide_eq_true c4
   clear c4
   by_cases c5 : 0 ≤ x5_1
   rotate_left
   · exact absurd H (by rw [if_neg c5]; simp)
   rw [if_pos c5] at H
   have c5b0 : decide (0 ≤ x5_1) = true := decide_eq_true c5
   clear c5
   by_cases c6 : x5_1 < (l1.length : Int)
   rotate_left
   · exact absurd H (by rw [if_neg c6]; simp)
   rw [if_pos c6] at H
   have c6b0 : decide (x5_1 < (l1.length : Int)) = true := decide_eq_true c6
   clear c6
   obtain ⟨t611, A7, H⟩ := bo_ H
   (try dsimp only at H)
   by_cases c8 : t611 = true
   · subst c8
     rw [if_pos rfl] at H
     have H' := A_ H
     clear H
     try go_wp2
     replace HB := A_ (below_drew1 HB.out)
     have p609 : 0 ≤ (x5_1 : Int) := od_
     have q609 : x5_1 < (l0.length : Int) := od_
     obtain ⟨ad609, A609_0, c609_0, e609, hx609_0, hl609_0, hi609_0⟩ := at_L16 HR0.out x5_1 p609 q609
     have hw609_0 := hx609_0
     cases e609
     replace hx609_0 := bc_ HB.out hx609_0
     have HR609_0 := A_ hi609_0
     have HC609_0 := A_ hl609_0
     clear hi609_0 hl609_0
     replace p609 := eq_true p609
     replace q609 := eq_true q609
     have p610 : 0 ≤ (x5_1 : Int) := od_
     have q610 : x5_1 < (l1.length : Int) := od_
     obtain ⟨ad610, A610_0, c610_0, e610, hx610_0, hl610_0, hi610_0⟩ := at_L16 HR1.out x5_1 p610 q610
     have hw610_0 := hx610_0
     cases e610
     replace hx610_0 := bc_ HB.out hx610_0
     have HR610_0 := A_ hi610_0
     have HC610_0 := A_ hl610_0
     clear hi610_0 hl610_0
     replace p610 := eq_true p610
     replace q610 := eq_true q610
     refine start_ (n := 10) (S := fun w' => w'.cell? (ad609.add (x5_1).toNat) = some (.slice A609_0 (rd_L16 l0 x5_1).length c609_0) ∧ w'.cell? (ad610.add (x5_1).toNat) = some (.slice A610_0 (rd_L16 l1 x5_1).length c610_0)) (ds := []) #[false, false, false, false, false, false, false, false, false, false] (by kernel_rfl) rfl rfl ⟨(be_ hw609_0), (be_ hw610_0)⟩ (fun hHeld => ?_); refine with_tabW laws_eqCondSS.tab6 laws_eqCondSS.bits6 (fun HT_ HW_ => ?_)
     generalize wr.drew = w9 at HB HR609_0 HR610_0 hx609_0 hx610_0 hHeld ⊢
     refine pu_ (i := 0) (N := some 17) ?_
     refine pu_ (i := 1) (N := some 18) ?_
     refine pu_ (i := 2) (N := some 19) ?_
     refine pu_ (i := 4) (N := some 21) ?_
     refine pu_ (i := 5) (N := some 22) ?_
     refine pu_ (i := 6) (N := some 23) ?_
     refine tk_ (i := 3) (N := some 20) hHeld ?_
     refine tk_ (i := 7) (N := some 24) hHeld ?_
     refine on_ (i := 8) (N := some 25) (fun K hK => ?_)
     refine goes_ Tryd.func57 (by kernel_rfl) rfl #[.slice A609_0 (rd_L16 l0 x5_1).length c609_0, .slice A610_0 (rd_L16 l1 x5_1).length c610_0] (by rfl) rfl rfl ml_ ?_
     with_reducible refine (laws_eqCondS.calls k1 _ _ (rd_L16 l0 x5_1) _ _ (rd_L16 l1 x5_1) true _ ?s1 ?s2 ?s3 ?s4 A7.out).mono ?_
     (case s1 => exact cC_ (Kd.C_below HR609_0.out HB.out))
     (case s2 => exact HC609_0.out)
     (case s3 => exact cC_ (Kd.C_below HR610_0.out HB.out))
     (case s4 => exact HC610_0.out)
     rintro e w10 ⟨rfl, hb⟩
     refine ⟨_, rfl, ?_⟩
     replace HB := A_ (below_step bB_ hb)
     (try clear hb)
     (try clear hb2)
     (try clear hk)
     (try clear hi)
     refine hK.out _ _ ⟨(be_ hw609_0), (be_ hw610_0)⟩ (fun hHeld => ?_)
     clear hK K
     refine no_ (some 25) ?_
     refine pu_ (i := 9) (N := some 26) ?_
     refine done_ (done_of HT_.out (by kernel_rfl)) ?_
     (try clear hHeld)
     try go_wp2
     go_roundg k1
     case measure => have := HK1.out; omega
     case rel => exact ⟨(wrap64 (x5_1 + 1)), rs_, H', ⟨by have := HK1.out; omega⟩, ⟨bB_⟩⟩
   · replace c8 := Bool.eq_false_iff.mpr c8
     subst c8
     rw [if_neg nf_] at H
     obtain rfl := si_ H
     try go_wp2
     replace HB := A_ (below_drew1 HB.out)
     have p609 : 0 ≤ (x5_1 : Int) := od_
     have q609 : x5_1 < (l0.length : Int) := od_
     obtain ⟨ad609, A609_0, c609_0, e609, hx609_0, hl609_0, hi609_0⟩ := at_L16 HR0.out x5_1 p609 q609
     have hw609_0 := hx609_0
     cases e609
     replace hx609_0 := bc_ HB.out hx609_0
     have HR609_0 := A_ hi609_0
     have HC609_0 := A_ hl609_0
     clear hi609_0 hl609_0
     replace p609 := eq_true p609
     replace q609 := eq_true q609
     have p610 : 0 ≤ (x5_1 : Int) := od_
     have q610 : x5_1 < (l1.length : Int) := od_
     obtain ⟨ad610, A610_0, c610_0, e610, hx610_0, hl610_0, hi610_0⟩ := at_L16 HR1.out x5_1 p610 q610
     have hw610_0 := hx610_0
     cases e610
     replace hx610_0 := bc_ HB.out hx610_0
     have HR610_0 := A_ hi610_0
     have HC610_0 := A_ hl610_0
     clear hi610_0 hl610_0
     replace p610 := eq_true p610
     replace q610 := eq_true q610
     refine start_ (n := 10) (S := fun w' => w'.cell? (ad609.add (x5_1).toNat) = some (.slice A609_0 (rd_L16 l0 x5_1).length c609_0) ∧ w'.cell? (ad610.add (x5_1).toNat) = some (.slice A610_0 (rd_L16 l1 x5_1).length c610_0)) (ds := []) #[false, false, false, false, false, false, false, false, false, false] (by kernel_rfl) rfl rfl ⟨(be_ hw609_0), (be_ hw610_0)⟩ (fun hHeld => ?_); refine with_tabW laws_eqCondSS.tab6 laws_eqCondSS.bits6 (fun HT_ HW_ => ?_)
     generalize wr.drew = w11 at HB HR609_0 HR610_0 hx609_0 hx610_0 hHeld ⊢
     refine pu_ (i := 0) (N := some 17) ?_
     refine pu_ (i := 1) (N := some 18) ?_
     refine pu_ (i := 2) (N := some 19) ?_
     refine pu_ (i := 4) (N := some 21) ?_
     refine pu_ (i := 5) (N := some 22) ?_
     refine pu_ (i := 6) (N := some 23) ?_
     refine tk_ (i := 3) (N := some 20) hHeld ?_
     refine tk_ (i := 7) (N := some 24) hHeld ?_
     refine on_ (i := 8) (N := some 25) (fun K hK => ?_)
     refine goes_ Tryd.func57 (by kernel_rfl) rfl #[.slice A609_0 (rd_L16 l0 x5_1).length c609_0, .slice A610_0 (rd_L16 l1 x5_1).length c610_0] (by rfl) rfl rfl ml_ ?_
     with_reducible refine (laws_eqCondS.calls k1 _ _ (rd_L16 l0 x5_1) _ _ (rd_L16 l1 x5_1) false _ ?s1 ?s2 ?s3 ?s4 A7.out).mono ?_
     (case s1 => exact cC_ (Kd.C_below HR609_0.out HB.out))
     (case s2 => exact HC609_0.out)
     (case s3 => exact cC_ (Kd.C_below HR610_0.out HB.out))
     (case s4 => exact HC610_0.out)
     rintro e w12 ⟨rfl, hb⟩
     refine ⟨_, rfl, ?_⟩
     replace HB := A_ (below_step bB_ hb)
     (try clear hb)
     (try clear hb2)
     (try clear hk)
     (try clear hi)
     refine hK.out _ _ ⟨(be_ hw609_0), (be_ hw610_0)⟩ (fun hHeld => ?_)
     clear hK K
     refine no_ (some 25) ?_
     refine pu_ (i := 9) (N := some 26) ?_
     refine done_ (done_of HT_.out (by kernel_rfl)) ?_
     (try clear hHeld)
     try go_wp2
     go_ret
     exact ⟨rr_, bB_⟩
end Go.Proofs.YtigoeooelfeopaaDoor.Q
