-- PRINTED by print.py (a twelfth state) out of the translation. Not trusted: Lean checks it.
import Derived.Test.YtigoeooelfeopaaGreatDoorVFnIfsG28
import Derived.Deep.Slices
import Derived.WideShapes
import Derived.Laws.Strings
set_option maxHeartbeats 8000000
set_option maxRecDepth 100000
namespace Go.Proofs.YtigoeooelfeopaaGreatDoor.Q
open Go.RowKit Go.Proofs.YtigoeooelfeopaaGreatDoorW.PrintWords Go.Proofs.YtigoeooelfeopaaGreatDoorW.PrintLast Go.Proofs.YtigoeooelfeopaaGreatDoorW.PrintMore
attribute [local go_sem] max2_int min2_int max_two min_two max_three min_three max_four min_four   -- for this text's walks alone
set_option linter.unusedVariables false
set_option linter.unusedSimpArgs false
mutual
def spec_EvalIf.l0 : Nat → List (List (S43)) → List Int → ByteArray → Int → Option (Bool)
 | 0, _, _, _, _ => none
 | k + 1, x0, x1, x2, x7 => if x7 < (x0.length : Int) then (spec_EvalIf.l1 k x0 x1 x2 x7 true 0) else (some false)
def spec_EvalIf.l1 : Nat → List (List (S43)) → List Int → ByteArray → Int → Bool → Int → Option (Bool)
 | 0, _, _, _, _, _, _ => none
 | k + 1, x0, x1, x2, x7, x8, x9 => if 0 ≤ x7 then (if x7 < (x0.length : Int) then (if x9 < ((rd_L5 x0 x7).length : Int) then (if 0 ≤ x9 then (if ((rd_T43 (rd_L5 x0 x7) x9).f1) = 0 then (if x8 = true then (spec_EvalIf.l1 k x0 x1 x2 x7 ((((rd_T43 (rd_L5 x0 x7) x9).f2).toList == x2.toList) != ((rd_T43 (rd_L5 x0 x7) x9).f0)) (wrap64 (x9 + 1))) else (spec_EvalIf.l1 k x0 x1 x2 x7 false (wrap64 (x9 + 1)))) else ((spec_l13Has.f k x1 ((rd_T43 (rd_L5 x0 x7) x9).f1)).bind fun t496 => (if x8 = true then (spec_EvalIf.l1 k x0 x1 x2 x7 (t496 != ((rd_T43 (rd_L5 x0 x7) x9).f0)) (wrap64 (x9 + 1))) else (spec_EvalIf.l1 k x0 x1 x2 x7 false (wrap64 (x9 + 1)))))) else (none)) else (if x8 = true then (some true) else (spec_EvalIf.l0 k x0 x1 x2 (wrap64 (x7 + 1))))) else (none)) else (none)
end
def spec_EvalIf.f (k : Nat) (l0 : List (List (S43))) (l1 : List Int) (a2 : ByteArray) : Option (Bool) := spec_EvalIf.l0 k l0 l1 a2 0
theorem spec_EvalIf.calls (k : Nat) (A0 : Option Addr) (c0 : Nat) (l0 : List (List (S43))) (A1 : Option Addr) (c1 : Nat) (l1 : List Int) (a2 : ByteArray) (r : Bool) (w : World) (hr0 : Kd.C (Kd.slice 43 k43) w A0 l0.length l0) (hc0 : l0.length ≤ c0) (hr1 : Kd.C (Kd.int .i64) w A1 l1.length l1) (hc1 : l1.length ≤ c1) (h : spec_EvalIf.f k l0 l1 a2 = some r) :
 Calls Tryz.prog 15 #[.slice A0 l0.length c0, .slice A1 l1.length c1, .string a2] w fun e w' => e = .returned (.bool r) ∧ Below w.heap.size w w' := by
 have hu43 := Tryz.underlying43
 have HR0 := A_ hr0
 have HC0 := A_ hc0
 clear hr0 hc0
 have HR1 := A_ hr1
 have HC1 := A_ hc1
 clear hr1 hc1
 have HB := A_ (Below.refl w.heap.size w)
 have H : (spec_EvalIf.l0 k l0 l1 a2 0) = some r := h
 clear h
 have H' := A_ H
 clear H
 go_enter Tryz.func15, Tryz.ntmps15
 go_wp2
 go_loopg [7] k (fun kq v7 w' => ∃ (x7_1 : Int), v7 = .int .i64 x7_1 ∧ Aside0 (spec_EvalIf.l0 kq l0 l1 a2 x7_1 = some r) ∧ Aside0 (kq ≤ k) ∧ Aside0 (Below w.heap.size w w'))
 case atStart => exact ⟨(0), rs_, H', ⟨Nat.le_refl _⟩, ⟨bB_⟩⟩
 case round =>
  clear H'
  try clear c1
  try clear p2
  obtain ⟨x7_1, rfl, HA, HK1, HB⟩ := hrel
  cases gk with
  | zero => exact absurd HA.out (by simp [spec_EvalIf.l0])
  | succ k1 =>
   have H := HA.out
   clear HA
   simp only [spec_EvalIf.l0] at H
   by_cases c4 : x7_1 < (l0.length : Int)
   rotate_left
   · rw [if_neg c4] at H
     have c4b0 : decide (x7_1 < (l0.length : Int)) = false := decide_eq_false c4
     clear c4
     obtain rfl := si_ H
     go_wp2
     go_ret
     exact ⟨rr_, bB_⟩
   rw [if_pos c4] at H
   have c4b0 : decide (x7_1 < (l0.length : Int)) = true := decide_eq_true c4
   clear c4
   have H' := A_ H
   clear H
   go_wp2
   go_loopg [8, 9] k1 (fun kq v8 v9 w' => ∃ (x8_2 : Bool) (x9_2 : Int), v8 = .bool x8_2 ∧ v9 = .int .i64 x9_2 ∧ Aside0 (spec_EvalIf.l1 kq l0 l1 a2 x7_1 x8_2 x9_2 = some r) ∧ Aside0 (kq ≤ k1) ∧ Aside0 (Below w.heap.size w w'))
   case atStart => exact ⟨(true), (0), rs_, rs_, H', ⟨Nat.le_refl _⟩, ⟨bB_⟩⟩
   case round =>
    clear H'
    try clear c1
    try clear p2
    try clear c4
    try clear c4b0
    try clear p2
    obtain ⟨x8_2, x9_2, rfl, rfl, HA, HK2, HB⟩ := hrel
    cases gk with
    | zero => exact absurd HA.out (by simp [spec_EvalIf.l1])
    | succ k2 =>
     have H := HA.out
     clear HA
     simp only [spec_EvalIf.l1] at H
     by_cases c5 : 0 ≤ x7_1
     rotate_left
     · exact absurd H (by rw [if_neg c5]; simp)
     rw [if_pos c5] at H
     have c5b0 : decide (0 ≤ x7_1) = true := decide_eq_true c5
     clear c5
     by_cases c6 : x7_1 < (l0.length : Int)
     rotate_left
     · exact absurd H (by rw [if_neg c6]; simp)
     rw [if_pos c6] at H
     have c6b0 : decide (x7_1 < (l0.length : Int)) = true := decide_eq_true c6
     clear c6
     by_cases c7 : x9_2 < ((rd_L5 l0 x7_1).length : Int)
     rotate_left
     · rw [if_neg c7] at H
       have c7b0 : decide (x9_2 < ((rd_L5 l0 x7_1).length : Int)) = false := decide_eq_false c7
       clear c7
       by_cases c21 : x8_2 = true
       · subst c21
         rw [if_pos rfl] at H
         obtain rfl := si_ H
         have p492 : 0 ≤ (x7_1 : Int) := od_
         have q492 : x7_1 < (l0.length : Int) := od_
         obtain ⟨ad492, A492_0, c492_0, e492, hx492_0, hl492_0, hi492_0⟩ := at_L5 HR0.out x7_1 p492 q492
         cases e492
         replace hx492_0 := bc_ HB.out hx492_0
         have HR492_0 := A_ hi492_0
         have HC492_0 := A_ hl492_0
         clear hi492_0 hl492_0
         replace p492 := eq_true p492
         replace q492 := eq_true q492
         go_wp2
         go_ret
         exact ⟨rr_, bB_⟩
       · replace c21 := Bool.eq_false_iff.mpr c21
         subst c21
         rw [if_neg nf_] at H
         have H' := A_ H
         clear H
         have p492 : 0 ≤ (x7_1 : Int) := od_
         have q492 : x7_1 < (l0.length : Int) := od_
         obtain ⟨ad492, A492_0, c492_0, e492, hx492_0, hl492_0, hi492_0⟩ := at_L5 HR0.out x7_1 p492 q492
         cases e492
         replace hx492_0 := bc_ HB.out hx492_0
         have HR492_0 := A_ hi492_0
         have HC492_0 := A_ hl492_0
         clear hi492_0 hl492_0
         replace p492 := eq_true p492
         replace q492 := eq_true q492
         go_wp2
         go_roundg k2
         case measure => have := HK1.out; have := HK2.out; omega
         case rel => exact ⟨(wrap64 (x7_1 + 1)), rs_, H', ⟨by have := HK1.out; have := HK2.out; omega⟩, ⟨bB_⟩⟩
     rw [if_pos c7] at H
     have c7b0 : decide (x9_2 < ((rd_L5 l0 x7_1).length : Int)) = true := decide_eq_true c7
     clear c7
     by_cases c8 : 0 ≤ x9_2
     rotate_left
     · exact absurd H (by rw [if_neg c8]; simp)
     rw [if_pos c8] at H
     have c8b0 : decide (0 ≤ x9_2) = true := decide_eq_true c8
     clear c8
     by_cases c9 : ((rd_T43 (rd_L5 l0 x7_1) x9_2).f1) = 0
     · rw [if_pos c9] at H
       have c9b0 : (((rd_T43 (rd_L5 l0 x7_1) x9_2).f1) == 0) = true := beq_iff_eq.mpr c9
       have c9b1 : (((rd_T43 (rd_L5 l0 x7_1) x9_2).f1) != 0) = false := bne_eq_false_iff_eq.mpr c9
       clear c9
       by_cases c10 : x8_2 = true
       · subst c10
         rw [if_pos rfl] at H
         have H' := A_ H
         clear H
         have p492 : 0 ≤ (x7_1 : Int) := od_
         have q492 : x7_1 < (l0.length : Int) := od_
         obtain ⟨ad492, A492_0, c492_0, e492, hx492_0, hl492_0, hi492_0⟩ := at_L5 HR0.out x7_1 p492 q492
         cases e492
         replace hx492_0 := bc_ HB.out hx492_0
         have HR492_0 := A_ hi492_0
         have HC492_0 := A_ hl492_0
         clear hi492_0 hl492_0
         replace p492 := eq_true p492
         replace q492 := eq_true q492
         have p493 : 0 ≤ (x7_1 : Int) := od_
         have q493 : x7_1 < (l0.length : Int) := od_
         obtain ⟨ad493, A493_0, c493_0, e493, hx493_0, hl493_0, hi493_0⟩ := at_L5 HR0.out x7_1 p493 q493
         obtain rfl : ad492 = ad493 := (by injection e493)
         replace hx493_0 := bc_ HB.out hx493_0
         have HR493_0 := A_ hi493_0
         have HC493_0 := A_ hl493_0
         clear hi493_0 hl493_0
         replace p493 := eq_true p493
         replace q493 := eq_true q493
         have ea_ := Option.some.inj (hx492_0.symm.trans hx493_0)
         injection ea_ with ea_ en_ ec_
         subst ea_
         subst ec_
         clear en_
         have p494 : 0 ≤ (x9_2 : Int) := od_
         have q494 : x9_2 < ((rd_L5 l0 x7_1).length : Int) := od_
         obtain ⟨ad494, e494, hx494_0, hx494_1, hx494_2⟩ := at_T43 HR493_0.out x9_2 p494 q494
         cases e494
         replace hx494_0 := bc_ HB.out hx494_0
         replace hx494_1 := bc_ HB.out hx494_1
         replace hx494_2 := bc_ HB.out hx494_2
         replace p494 := eq_true p494
         replace q494 := eq_true q494
         go_wp2_with (first | ((with_reducible refine gd_ (N := 10) rfl ?_); refine bx_ (N := 10) (cs := #[.bool false, .int .i64 0, .string (⟨#[]⟩ : ByteArray)]) (t := 43) ?_; intro gb495 hg w11 hbox hb; have BK495 := A_ (hbox); have GW495 := A_ (ge_ hg bB_ : w.heap.size ≤ gb495); have GE495 := A_ (ge_ hg bB_ : w.heap.size ≤ gb495); replace HB := A_ (below_step bB_ hb); clear hb hbox hg; obtain ⟨hcz12_0, hcz12_1, hcz12_2, hfz12_0, hfz12_1, hfz12_2⟩ := cz3_ BK495.out))
         go_roundg k2
         case measure => have := HK1.out; have := HK2.out; omega
         case rel => exact ⟨(((((rd_T43 (rd_L5 l0 x7_1) x9_2).f2).toList == a2.toList) != ((rd_T43 (rd_L5 l0 x7_1) x9_2).f0))), (wrap64 (x9_2 + 1)), rs_, rs_, H', ⟨by have := HK1.out; have := HK2.out; omega⟩, ⟨bG_ GE495.out⟩⟩
       · replace c10 := Bool.eq_false_iff.mpr c10
         subst c10
         rw [if_neg nf_] at H
         have H' := A_ H
         clear H
         have p492 : 0 ≤ (x7_1 : Int) := od_
         have q492 : x7_1 < (l0.length : Int) := od_
         obtain ⟨ad492, A492_0, c492_0, e492, hx492_0, hl492_0, hi492_0⟩ := at_L5 HR0.out x7_1 p492 q492
         cases e492
         replace hx492_0 := bc_ HB.out hx492_0
         have HR492_0 := A_ hi492_0
         have HC492_0 := A_ hl492_0
         clear hi492_0 hl492_0
         replace p492 := eq_true p492
         replace q492 := eq_true q492
         have p493 : 0 ≤ (x7_1 : Int) := od_
         have q493 : x7_1 < (l0.length : Int) := od_
         obtain ⟨ad493, A493_0, c493_0, e493, hx493_0, hl493_0, hi493_0⟩ := at_L5 HR0.out x7_1 p493 q493
         obtain rfl : ad492 = ad493 := (by injection e493)
         replace hx493_0 := bc_ HB.out hx493_0
         have HR493_0 := A_ hi493_0
         have HC493_0 := A_ hl493_0
         clear hi493_0 hl493_0
         replace p493 := eq_true p493
         replace q493 := eq_true q493
         have ea_ := Option.some.inj (hx492_0.symm.trans hx493_0)
         injection ea_ with ea_ en_ ec_
         subst ea_
         subst ec_
         clear en_
         have p494 : 0 ≤ (x9_2 : Int) := od_
         have q494 : x9_2 < ((rd_L5 l0 x7_1).length : Int) := od_
         obtain ⟨ad494, e494, hx494_0, hx494_1, hx494_2⟩ := at_T43 HR493_0.out x9_2 p494 q494
         cases e494
         replace hx494_0 := bc_ HB.out hx494_0
         replace hx494_1 := bc_ HB.out hx494_1
         replace hx494_2 := bc_ HB.out hx494_2
         replace p494 := eq_true p494
         replace q494 := eq_true q494
         go_wp2_with (first | ((with_reducible refine gd_ (N := 10) rfl ?_); refine bx_ (N := 10) (cs := #[.bool false, .int .i64 0, .string (⟨#[]⟩ : ByteArray)]) (t := 43) ?_; intro gb495 hg w13 hbox hb; have BK495 := A_ (hbox); have GW495 := A_ (ge_ hg bB_ : w.heap.size ≤ gb495); have GE495 := A_ (ge_ hg bB_ : w.heap.size ≤ gb495); replace HB := A_ (below_step bB_ hb); clear hb hbox hg; obtain ⟨hcz14_0, hcz14_1, hcz14_2, hfz14_0, hfz14_1, hfz14_2⟩ := cz3_ BK495.out))
         go_roundg k2
         case measure => have := HK1.out; have := HK2.out; omega
         case rel => exact ⟨(false), (wrap64 (x9_2 + 1)), rs_, rs_, H', ⟨by have := HK1.out; have := HK2.out; omega⟩, ⟨bG_ GE495.out⟩⟩
     rw [if_neg c9] at H
     have c9b0 : (((rd_T43 (rd_L5 l0 x7_1) x9_2).f1) == 0) = false := beq_eq_false_iff_ne.mpr c9
     have c9b1 : (((rd_T43 (rd_L5 l0 x7_1) x9_2).f1) != 0) = true := bne_iff_ne.mpr c9
     obtain ⟨t496, A15, H⟩ := bo_ H
     (try dsimp only at H)
     by_cases c16 : x8_2 = true
     · subst c16
       rw [if_pos rfl] at H
       have H' := A_ H
       clear H
       have p492 : 0 ≤ (x7_1 : Int) := od_
       have q492 : x7_1 < (l0.length : Int) := od_
       obtain ⟨ad492, A492_0, c492_0, e492, hx492_0, hl492_0, hi492_0⟩ := at_L5 HR0.out x7_1 p492 q492
       cases e492
       replace hx492_0 := bc_ HB.out hx492_0
       have HR492_0 := A_ hi492_0
       have HC492_0 := A_ hl492_0
       clear hi492_0 hl492_0
       replace p492 := eq_true p492
       replace q492 := eq_true q492
       have p493 : 0 ≤ (x7_1 : Int) := od_
       have q493 : x7_1 < (l0.length : Int) := od_
       obtain ⟨ad493, A493_0, c493_0, e493, hx493_0, hl493_0, hi493_0⟩ := at_L5 HR0.out x7_1 p493 q493
       obtain rfl : ad492 = ad493 := (by injection e493)
       replace hx493_0 := bc_ HB.out hx493_0
       have HR493_0 := A_ hi493_0
       have HC493_0 := A_ hl493_0
       clear hi493_0 hl493_0
       replace p493 := eq_true p493
       replace q493 := eq_true q493
       have ea_ := Option.some.inj (hx492_0.symm.trans hx493_0)
       injection ea_ with ea_ en_ ec_
       subst ea_
       subst ec_
       clear en_
       have p494 : 0 ≤ (x9_2 : Int) := od_
       have q494 : x9_2 < ((rd_L5 l0 x7_1).length : Int) := od_
       obtain ⟨ad494, e494, hx494_0, hx494_1, hx494_2⟩ := at_T43 HR493_0.out x9_2 p494 q494
       cases e494
       replace hx494_0 := bc_ HB.out hx494_0
       replace hx494_1 := bc_ HB.out hx494_1
       replace hx494_2 := bc_ HB.out hx494_2
       replace p494 := eq_true p494
       replace q494 := eq_true q494
       go_wp2_with (first | ((with_reducible refine gd_ (N := 10) rfl ?_); refine bx_ (N := 10) (cs := #[.bool false, .int .i64 0, .string (⟨#[]⟩ : ByteArray)]) (t := 43) ?_; intro gb495 hg w17 hbox hb; have BK495 := A_ (hbox); have GW495 := A_ (ge_ hg bB_ : w.heap.size ≤ gb495); have GE495 := A_ (ge_ hg bB_ : w.heap.size ≤ gb495); replace HB := A_ (below_step bB_ hb); clear hb hbox hg; obtain ⟨hcz18_0, hcz18_1, hcz18_2, hfz18_0, hfz18_1, hfz18_2⟩ := cz3_ BK495.out) | ((with_reducible refine gc_ (f := 35) rfl ?_); refine gL_ (some 44) Tryz.func35 #[.slice A1 l1.length c1, .int .i64 ((rd_T43 (rd_L5 l0 x7_1) x9_2).f1)] ?_; (with_reducible refine (spec_l13Has.calls k2 _ _ l1 ((rd_T43 (rd_L5 l0 x7_1) x9_2).f1) t496 _ ?s1 ?s2 A15.out).mono ?_); (case s1 => exact Kd.C_below HR1.out (bG_ GE495.out)); (case s2 => exact HC1.out); rintro e w' ⟨rfl, ⟨nd, rfl⟩⟩; refine ⟨_, rfl, ?_⟩))
       go_roundg k2
       case measure => have := HK1.out; have := HK2.out; omega
       case rel => exact ⟨((t496 != ((rd_T43 (rd_L5 l0 x7_1) x9_2).f0))), (wrap64 (x9_2 + 1)), rs_, rs_, H', ⟨by have := HK1.out; have := HK2.out; omega⟩, ⟨bG_ GE495.out⟩⟩
     · replace c16 := Bool.eq_false_iff.mpr c16
       subst c16
       rw [if_neg nf_] at H
       have H' := A_ H
       clear H
       have p492 : 0 ≤ (x7_1 : Int) := od_
       have q492 : x7_1 < (l0.length : Int) := od_
       obtain ⟨ad492, A492_0, c492_0, e492, hx492_0, hl492_0, hi492_0⟩ := at_L5 HR0.out x7_1 p492 q492
       cases e492
       replace hx492_0 := bc_ HB.out hx492_0
       have HR492_0 := A_ hi492_0
       have HC492_0 := A_ hl492_0
       clear hi492_0 hl492_0
       replace p492 := eq_true p492
       replace q492 := eq_true q492
       have p493 : 0 ≤ (x7_1 : Int) := od_
       have q493 : x7_1 < (l0.length : Int) := od_
       obtain ⟨ad493, A493_0, c493_0, e493, hx493_0, hl493_0, hi493_0⟩ := at_L5 HR0.out x7_1 p493 q493
       obtain rfl : ad492 = ad493 := (by injection e493)
       replace hx493_0 := bc_ HB.out hx493_0
       have HR493_0 := A_ hi493_0
       have HC493_0 := A_ hl493_0
       clear hi493_0 hl493_0
       replace p493 := eq_true p493
       replace q493 := eq_true q493
       have ea_ := Option.some.inj (hx492_0.symm.trans hx493_0)
       injection ea_ with ea_ en_ ec_
       subst ea_
       subst ec_
       clear en_
       have p494 : 0 ≤ (x9_2 : Int) := od_
       have q494 : x9_2 < ((rd_L5 l0 x7_1).length : Int) := od_
       obtain ⟨ad494, e494, hx494_0, hx494_1, hx494_2⟩ := at_T43 HR493_0.out x9_2 p494 q494
       cases e494
       replace hx494_0 := bc_ HB.out hx494_0
       replace hx494_1 := bc_ HB.out hx494_1
       replace hx494_2 := bc_ HB.out hx494_2
       replace p494 := eq_true p494
       replace q494 := eq_true q494
       go_wp2_with (first | ((with_reducible refine gd_ (N := 10) rfl ?_); refine bx_ (N := 10) (cs := #[.bool false, .int .i64 0, .string (⟨#[]⟩ : ByteArray)]) (t := 43) ?_; intro gb495 hg w19 hbox hb; have BK495 := A_ (hbox); have GW495 := A_ (ge_ hg bB_ : w.heap.size ≤ gb495); have GE495 := A_ (ge_ hg bB_ : w.heap.size ≤ gb495); replace HB := A_ (below_step bB_ hb); clear hb hbox hg; obtain ⟨hcz20_0, hcz20_1, hcz20_2, hfz20_0, hfz20_1, hfz20_2⟩ := cz3_ BK495.out) | ((with_reducible refine gc_ (f := 35) rfl ?_); refine gL_ (some 44) Tryz.func35 #[.slice A1 l1.length c1, .int .i64 ((rd_T43 (rd_L5 l0 x7_1) x9_2).f1)] ?_; (with_reducible refine (spec_l13Has.calls k2 _ _ l1 ((rd_T43 (rd_L5 l0 x7_1) x9_2).f1) t496 _ ?s1 ?s2 A15.out).mono ?_); (case s1 => exact Kd.C_below HR1.out (bG_ GE495.out)); (case s2 => exact HC1.out); rintro e w' ⟨rfl, ⟨nd, rfl⟩⟩; refine ⟨_, rfl, ?_⟩))
       go_roundg k2
       case measure => have := HK1.out; have := HK2.out; omega
       case rel => exact ⟨(false), (wrap64 (x9_2 + 1)), rs_, rs_, H', ⟨by have := HK1.out; have := HK2.out; omega⟩, ⟨bG_ GE495.out⟩⟩
def laws_sameInts.l0 : Nat → List Int → List Int → Int → Option (Bool)
 | 0, _, _, _ => none
 | k + 1, x0, x1, x5 => if x5 < (x0.length : Int) then (if 0 ≤ x5 then (if x5 < (x1.length : Int) then (if (rd x0 x5) = (rd x1 x5) then (laws_sameInts.l0 k x0 x1 (wrap64 (x5 + 1))) else (some false)) else (none)) else (none)) else (some true)
def laws_sameInts.f (k : Nat) (l0 : List Int) (l1 : List Int) : Option (Bool) := if (l0.length : Int) = (l1.length : Int) then (laws_sameInts.l0 k l0 l1 0) else (some false)
theorem laws_sameInts.calls (k : Nat) (A0 : Option Addr) (c0 : Nat) (l0 : List Int) (A1 : Option Addr) (c1 : Nat) (l1 : List Int) (r : Bool) (w : World) (hr0 : Kd.C (Kd.int .i64) w A0 l0.length l0) (hc0 : l0.length ≤ c0) (hr1 : Kd.C (Kd.int .i64) w A1 l1.length l1) (hc1 : l1.length ≤ c1) (h : laws_sameInts.f k l0 l1 = some r) :
 Calls Tryz.prog 16 #[.slice A0 l0.length c0, .slice A1 l1.length c1] w fun e w' => e = .returned (.bool r) ∧ Drawn0 w w' := by
 have HR0 := A_ hr0
 have HC0 := A_ hc0
 clear hr0 hc0
 have HR1 := A_ hr1
 have HC1 := A_ hc1
 clear hr1 hc1
 have H : (if (l0.length : Int) = (l1.length : Int) then (laws_sameInts.l0 k l0 l1 0) else (some false)) = some r := h
 clear h
 by_cases c3 : (l0.length : Int) = (l1.length : Int)
 rotate_left
 · rw [if_neg c3] at H
   have c3b0 : ((l0.length : Int) == (l1.length : Int)) = false := beq_eq_false_iff_ne.mpr c3
   have c3b1 : ((l0.length : Int) != (l1.length : Int)) = true := bne_iff_ne.mpr c3
   have c3b2 : (l0.length == l1.length) = false := by first | simpa using c3 | (simp at c3 ⊢; omega)
   obtain rfl := si_ H
   go_enter Tryz.func16, Tryz.ntmps16
   go_wp2
   repeat (go_quiet (fail); try go_wp2)
   go_ret
   exact ⟨rs_, dr_⟩
 rw [if_pos c3] at H
 have c3b0 : ((l0.length : Int) == (l1.length : Int)) = true := beq_iff_eq.mpr c3
 have c3b1 : ((l0.length : Int) != (l1.length : Int)) = false := bne_eq_false_iff_eq.mpr c3
 have c3b2 : (l0.length == l1.length) = true := by first | simpa using c3 | (simp at c3 ⊢; omega)
 clear c3
 have H' := A_ H
 clear H
 go_enter Tryz.func16, Tryz.ntmps16
 go_wp2
 repeat (go_quiet (fail); try go_wp2)
 go_loopg [5] k (fun kq v5 w' => ∃ (x5_1 : Int), v5 = .int .i64 x5_1 ∧ Aside0 (laws_sameInts.l0 kq l0 l1 x5_1 = some r) ∧ Aside0 (kq ≤ k) ∧ Drawn0 w w')
 case atStart => exact ⟨(0), rs_, H', ⟨Nat.le_refl _⟩, dr_⟩
 case round =>
  clear H'
  try clear c1
  try clear p2
  try clear c3
  try clear c3b0
  try clear c3b1
  try clear c3b2
  obtain ⟨x5_1, rfl, HA, HK1, ⟨m1, rfl⟩⟩ := hrel
  cases gk with
  | zero => exact absurd HA.out (by simp [laws_sameInts.l0])
  | succ k1 =>
   have H := HA.out
   clear HA
   simp only [laws_sameInts.l0] at H
   by_cases c4 : x5_1 < (l0.length : Int)
   rotate_left
   · rw [if_neg c4] at H
     have c4b0 : decide (x5_1 < (l0.length : Int)) = false := decide_eq_false c4
     clear c4
     obtain rfl := si_ H
     go_wp2
     repeat (go_quiet (fail); try go_wp2)
     go_ret
     exact ⟨rs_, dr_⟩
   rw [if_pos c4] at H
   have c4b0 : decide (x5_1 < (l0.length : Int)) = true := decide_eq_true c4
   clear c4
   by_cases c5 : 0 ≤ x5_1
   rotate_left
   · exact absurd H (by rw [if_neg c5]; simp)
   rw [if_pos c5] at H
   have c5b0 : decide (0 ≤ x5_1) = true := decide_eq_true c5
   clear c5
   by_cases c6 : x5_1 < (l1.length : Int)
   rotate_left
   · exact absurd H (by rw [if_neg c6]; simp)
   rw [if_pos c6] at H
   have c6b0 : decide (x5_1 < (l1.length : Int)) = true := decide_eq_true c6
   clear c6
   by_cases c7 : (rd l0 x5_1) = (rd l1 x5_1)
   rotate_left
   · rw [if_neg c7] at H
     have c7b0 : ((rd l0 x5_1) == (rd l1 x5_1)) = false := beq_eq_false_iff_ne.mpr c7
     have c7b1 : ((rd l0 x5_1) != (rd l1 x5_1)) = true := bne_iff_ne.mpr c7
     obtain rfl := si_ H
     have p497 : 0 ≤ (x5_1 : Int) := od_
     have q497 : x5_1 < (l0.length : Int) := od_
     obtain ⟨ad497, e497, hx497_0⟩ := Kd.at_int HR0.out x5_1 p497 q497
     cases e497
     replace p497 := eq_true p497
     replace q497 := eq_true q497
     have p498 : 0 ≤ (x5_1 : Int) := od_
     have q498 : x5_1 < (l1.length : Int) := od_
     obtain ⟨ad498, e498, hx498_0⟩ := Kd.at_int HR1.out x5_1 p498 q498
     cases e498
     replace p498 := eq_true p498
     replace q498 := eq_true q498
     go_wp2
     repeat (go_quiet (fail); try go_wp2)
     go_ret
     exact ⟨rs_, dr_⟩
   rw [if_pos c7] at H
   have c7b0 : ((rd l0 x5_1) == (rd l1 x5_1)) = true := beq_iff_eq.mpr c7
   have c7b1 : ((rd l0 x5_1) != (rd l1 x5_1)) = false := bne_eq_false_iff_eq.mpr c7
   clear c7
   have H' := A_ H
   clear H
   have p497 : 0 ≤ (x5_1 : Int) := od_
   have q497 : x5_1 < (l0.length : Int) := od_
   obtain ⟨ad497, e497, hx497_0⟩ := Kd.at_int HR0.out x5_1 p497 q497
   cases e497
   replace p497 := eq_true p497
   replace q497 := eq_true q497
   have p498 : 0 ≤ (x5_1 : Int) := od_
   have q498 : x5_1 < (l1.length : Int) := od_
   obtain ⟨ad498, e498, hx498_0⟩ := Kd.at_int HR1.out x5_1 p498 q498
   cases e498
   replace p498 := eq_true p498
   replace q498 := eq_true q498
   go_wp2
   repeat (go_quiet (fail); try go_wp2)
   go_roundg k1
   case measure => have := HK1.out; omega
   case rel => exact ⟨(wrap64 (x5_1 + 1)), rs_, H', ⟨by have := HK1.out; omega⟩, dr_⟩
mutual
def impl_Submitted.l0 : Nat → List Int → List (List (S43)) → Int → Int → Option (List Int)
 | 0, _, _, _, _ => none
 | k + 1, x3, x8, x9, x10 => if x10 < x9 then (if 0 ≤ x10 then (if x10 < (x8.length : Int) then (impl_Submitted.l1 k x3 x8 x9 x10 (rd_L5 x8 x10) ((rd_L5 x8 x10).length : Int) 0) else (none)) else (none)) else (some x3)
def impl_Submitted.l1 : Nat → List Int → List (List (S43)) → Int → Int → List (S43) → Int → Int → Option (List Int)
 | 0, _, _, _, _, _, _, _ => none
 | k + 1, x3, x8, x9, x10, x14, x15, x16 => if x16 < x15 then (if 0 ≤ x16 then (if x16 < (x14.length : Int) then (if ((rd_T43 x14 x16).f1) = 0 then (impl_Submitted.l1 k x3 x8 x9 x10 x14 x15 (wrap64 (x16 + 1))) else (if ((rd_T43 x14 x16).f0 = true) then (impl_Submitted.l1 k x3 x8 x9 x10 x14 x15 (wrap64 (x16 + 1))) else (if x3.length < 17592186044416 then (impl_Submitted.l1 k (x3 ++ [(rd_T43 x14 x16).f1]) x8 x9 x10 x14 x15 (wrap64 (x16 + 1))) else (none)))) else (none)) else (none)) else (impl_Submitted.l0 k x3 x8 x9 (wrap64 (x10 + 1)))
end
def impl_Submitted.f (k : Nat) (l0 : List (List (S43))) : Option (List Int) := impl_Submitted.l0 k ([] : List Int) l0 (l0.length : Int) 0
theorem impl_Submitted.calls (k : Nat) (A0 : Option Addr) (c0 : Nat) (l0 : List (List (S43))) (r : List Int) (w : World) (hr0 : Kd.C (Kd.slice 43 k43) w A0 l0.length l0) (hc0 : l0.length ≤ c0) (h : impl_Submitted.f k l0 = some r) :
 Calls Tryz.prog 17 #[.slice A0 l0.length c0] w fun e w' => ∃ v0_ : Value, e = .returned (v0_) ∧ Kd.R (Kd.int .i64) 3 w' w.heap.size (fun _ => True) v0_ r ∧ Below w.heap.size w w' := by
 have hu43 := Tryz.underlying43
 have HR0 := A_ hr0
 have HC0 := A_ hc0
 clear hr0 hc0
 have HB := A_ (Below.refl w.heap.size w)
 have H : (impl_Submitted.l0 k ([] : List Int) l0 (l0.length : Int) 0) = some r := h
 clear h
 have H' := A_ H
 clear H
 go_enter Tryz.func17, Tryz.ntmps17
 go_wp2
 go_loopg [3, 10] k (fun kq v3 v10 w' => ∃ (x3_1 : List Int) (x10_1 : Int), v10 = .int .i64 x10_1 ∧ Aside0 (impl_Submitted.l0 kq x3_1 l0 (l0.length : Int) x10_1 = some r) ∧ Aside0 (kq ≤ k) ∧ Aside0 (Kd.R (Kd.int .i64) 3 w' w.heap.size (fun _ => True) v3 x3_1) ∧ Aside0 (Below w.heap.size w w'))
 case atStart => exact ⟨(([] : List Int)), (0), rs_, H', ⟨Nat.le_refl _⟩, ⟨by first | exact Kd.R_nil _ _ _ _ _ | exact Kd.N_nil _ _ _ _ _ | exact Kd.V_nil _ _ _ _ _ | exact Kd.Q_nil _ _ _ _ _ | exact Kd.S_nil _ _ _ _ _⟩, ⟨bB_⟩⟩
 case round =>
  clear H'
  try clear c1
  obtain ⟨x3_1, x10_1, rfl, HA, HK1, HO_3, HB⟩ := hrel
  cases gk with
  | zero => exact absurd HA.out (by simp [impl_Submitted.l0])
  | succ k1 =>
   have H := HA.out
   clear HA
   simp only [impl_Submitted.l0] at H
   by_cases c2 : x10_1 < (l0.length : Int)
   rotate_left
   · rw [if_neg c2] at H
     have c2b0 : decide (x10_1 < (l0.length : Int)) = false := decide_eq_false c2
     clear c2
     obtain rfl := si_ H
     go_wp2
     go_ret
     exact ⟨_, rr_, by (with_reducible repeat (first | apply Kd.R_alloc | apply Kd.R_drewN | apply Kd.R_drew)); exact HO_3.out, bB_⟩
   rw [if_pos c2] at H
   have c2b0 : decide (x10_1 < (l0.length : Int)) = true := decide_eq_true c2
   clear c2
   by_cases c3 : 0 ≤ x10_1
   rotate_left
   · exact absurd H (by rw [if_neg c3]; simp)
   rw [if_pos c3] at H
   have c3b0 : decide (0 ≤ x10_1) = true := decide_eq_true c3
   clear c3
   by_cases c4 : x10_1 < (l0.length : Int)
   rotate_left
   · exact absurd H (by rw [if_neg c4]; simp)
   rw [if_pos c4] at H
   have c4b0 : decide (x10_1 < (l0.length : Int)) = true := decide_eq_true c4
   clear c4
   have H' := A_ H
   clear H
   have p499 : 0 ≤ (x10_1 : Int) := od_
   have q499 : x10_1 < (l0.length : Int) := od_
   obtain ⟨ad499, A499_0, c499_0, e499, hx499_0, hl499_0, hi499_0⟩ := at_L5 HR0.out x10_1 p499 q499
   cases e499
   replace hx499_0 := bc_ HB.out hx499_0
   have HR499_0 := A_ hi499_0
   have HC499_0 := A_ hl499_0
   clear hi499_0 hl499_0
   replace p499 := eq_true p499
   replace q499 := eq_true q499
   go_wp2
   go_loopg [3, 16] k1 (fun kq v3 v16 w' => ∃ (x3_2 : List Int) (x16_2 : Int), v16 = .int .i64 x16_2 ∧ Aside0 (impl_Submitted.l1 kq x3_2 l0 (l0.length : Int) x10_1 (rd_L5 l0 x10_1) ((rd_L5 l0 x10_1).length : Int) x16_2 = some r) ∧ Aside0 (kq ≤ k1) ∧ Aside0 (Kd.R (Kd.int .i64) 3 w' w.heap.size (fun _ => True) v3 x3_2) ∧ Aside0 (Below w.heap.size w w'))
   case atStart => exact ⟨(x3_1), (0), rs_, H', ⟨Nat.le_refl _⟩, ⟨vR_ HO_3.out⟩, ⟨bB_⟩⟩
   case round =>
    clear H'
    try clear c1
    try clear c2
    try clear c2b0
    try clear p2
    try clear c3
    try clear c3b0
    try clear c4
    try clear c4b0
    try clear p4
    try clear q4
    try clear hx4
    try clear hx499_0
    try clear p499
    try clear q499
    obtain ⟨x3_2, x16_2, rfl, HA, HK2, HO_3, HB⟩ := hrel
    cases gk with
    | zero => exact absurd HA.out (by simp [impl_Submitted.l1])
    | succ k2 =>
     have H := HA.out
     clear HA
     simp only [impl_Submitted.l1] at H
     by_cases c5 : x16_2 < ((rd_L5 l0 x10_1).length : Int)
     rotate_left
     · rw [if_neg c5] at H
       have c5b0 : decide (x16_2 < ((rd_L5 l0 x10_1).length : Int)) = false := decide_eq_false c5
       clear c5
       have H' := A_ H
       clear H
       go_wp2
       go_roundg k2
       case measure => have := HK1.out; have := HK2.out; omega
       case rel => exact ⟨(x3_2), (wrap64 (x10_1 + 1)), rs_, H', ⟨by have := HK1.out; have := HK2.out; omega⟩, ⟨vR_ HO_3.out⟩, ⟨bB_⟩⟩
     rw [if_pos c5] at H
     have c5b0 : decide (x16_2 < ((rd_L5 l0 x10_1).length : Int)) = true := decide_eq_true c5
     clear c5
     by_cases c6 : 0 ≤ x16_2
     rotate_left
     · exact absurd H (by rw [if_neg c6]; simp)
     rw [if_pos c6] at H
     have c6b0 : decide (0 ≤ x16_2) = true := decide_eq_true c6
     clear c6
     by_cases c7 : x16_2 < ((rd_L5 l0 x10_1).length : Int)
     rotate_left
     · exact absurd H (by rw [if_neg c7]; simp)
     rw [if_pos c7] at H
     have c7b0 : decide (x16_2 < ((rd_L5 l0 x10_1).length : Int)) = true := decide_eq_true c7
     clear c7
     by_cases c8 : ((rd_T43 (rd_L5 l0 x10_1) x16_2).f1) = 0
     · rw [if_pos c8] at H
       have c8b0 : (((rd_T43 (rd_L5 l0 x10_1) x16_2).f1) == 0) = true := beq_iff_eq.mpr c8
       have c8b1 : (((rd_T43 (rd_L5 l0 x10_1) x16_2).f1) != 0) = false := bne_eq_false_iff_eq.mpr c8
       clear c8
       have H' := A_ H
       clear H
       have p500 : 0 ≤ (x16_2 : Int) := od_
       have q500 : x16_2 < ((rd_L5 l0 x10_1).length : Int) := od_
       obtain ⟨ad500, e500, hx500_0, hx500_1, hx500_2⟩ := at_T43 HR499_0.out x16_2 p500 q500
       cases e500
       replace hx500_0 := bc_ HB.out hx500_0
       replace hx500_1 := bc_ HB.out hx500_1
       replace hx500_2 := bc_ HB.out hx500_2
       replace p500 := eq_true p500
       replace q500 := eq_true q500
       go_wp2_with (first | ((with_reducible refine gd_ (N := 7) rfl ?_); refine bx_ (N := 7) (cs := #[.bool false, .int .i64 0, .string (⟨#[]⟩ : ByteArray)]) (t := 43) ?_; intro gb501 hg w9 hbox hb; replace HO_3 := A_ (Kd.R_below (vR_ HO_3.out) hb); have BK501 := A_ (hbox); have GW501 := A_ (ge_ hg bB_ : w.heap.size ≤ gb501); have GE501 := A_ (ge_ hg bB_ : w.heap.size ≤ gb501); replace HB := A_ (below_step bB_ hb); clear hb hbox hg; obtain ⟨hcz10_0, hcz10_1, hcz10_2, hfz10_0, hfz10_1, hfz10_2⟩ := cz3_ BK501.out))
       go_roundg k2
       case measure => have := HK1.out; have := HK2.out; omega
       case rel => exact ⟨(x3_2), (wrap64 (x16_2 + 1)), rs_, H', ⟨by have := HK1.out; have := HK2.out; omega⟩, ⟨by (with_reducible repeat (first | apply Kd.R_alloc | apply Kd.R_drewN | apply Kd.R_drew)); exact Kd.R_mono (Kd.R_far (p := ⟨gb501, 2, none⟩) (Kd.R_far (p := ⟨gb501, 1, none⟩) (Kd.R_far (p := ⟨gb501, 0, none⟩) (Kd.R_types HO_3.out BK501.out (by decide)) (fun _ hk => hk.2) (.bool ((rd_T43 (rd_L5 l0 x10_1) x16_2).f0))) (fun _ hk => hk.2) (.int .i64 ((rd_T43 (rd_L5 l0 x10_1) x16_2).f1))) (fun _ hk => hk.2) (.string ((rd_T43 (rd_L5 l0 x10_1) x16_2).f2))) (fun _ hk => trivial)⟩, ⟨bG_ GE501.out⟩⟩
     rw [if_neg c8] at H
     have c8b0 : (((rd_T43 (rd_L5 l0 x10_1) x16_2).f1) == 0) = false := beq_eq_false_iff_ne.mpr c8
     have c8b1 : (((rd_T43 (rd_L5 l0 x10_1) x16_2).f1) != 0) = true := bne_iff_ne.mpr c8
     obtain ⟨bq11, hbq11⟩ : ∃ b_ : Bool, b_ = ((rd_T43 (rd_L5 l0 x10_1) x16_2).f0) := ⟨_, rfl⟩
     replace H : (if (bq11 = true) then (impl_Submitted.l1 k2 x3_2 l0 (l0.length : Int) x10_1 (rd_L5 l0 x10_1) ((rd_L5 l0 x10_1).length : Int) (wrap64 (x16_2 + 1))) else (if x3_2.length < 17592186044416 then (impl_Submitted.l1 k2 (x3_2 ++ [(rd_T43 (rd_L5 l0 x10_1) x16_2).f1]) l0 (l0.length : Int) x10_1 (rd_L5 l0 x10_1) ((rd_L5 l0 x10_1).length : Int) (wrap64 (x16_2 + 1))) else (none))) = some r := by rw [← hbq11] at H; exact H
     have Nbq11 := A_ hbq11
     clear hbq11
     (try rw [← Nbq11.out])
     by_cases c12 : (bq11 = true)
     · subst c12
       rw [if_pos rfl] at H
       have H' := A_ H
       clear H
       have p500 : 0 ≤ (x16_2 : Int) := od_
       have q500 : x16_2 < ((rd_L5 l0 x10_1).length : Int) := od_
       obtain ⟨ad500, e500, hx500_0, hx500_1, hx500_2⟩ := at_T43 HR499_0.out x16_2 p500 q500
       (try rw [← Nbq11.out] at hx500_0)
       cases e500
       replace hx500_0 := bc_ HB.out hx500_0
       replace hx500_1 := bc_ HB.out hx500_1
       replace hx500_2 := bc_ HB.out hx500_2
       replace p500 := eq_true p500
       replace q500 := eq_true q500
       go_wp2_with (first | ((with_reducible refine gd_ (N := 7) rfl ?_); refine bx_ (N := 7) (cs := #[.bool false, .int .i64 0, .string (⟨#[]⟩ : ByteArray)]) (t := 43) ?_; intro gb501 hg w13 hbox hb; replace HO_3 := A_ (Kd.R_below (vR_ HO_3.out) hb); have BK501 := A_ (hbox); have GW501 := A_ (ge_ hg bB_ : w.heap.size ≤ gb501); have GE501 := A_ (ge_ hg bB_ : w.heap.size ≤ gb501); replace HB := A_ (below_step bB_ hb); clear hb hbox hg; obtain ⟨hcz14_0, hcz14_1, hcz14_2, hfz14_0, hfz14_1, hfz14_2⟩ := cz3_ BK501.out))
       go_roundg k2
       case measure => have := HK1.out; have := HK2.out; omega
       case rel => (try rw [← Nbq11.out]); exact ⟨(x3_2), (wrap64 (x16_2 + 1)), rs_, H', ⟨by have := HK1.out; have := HK2.out; omega⟩, ⟨by (with_reducible repeat (first | apply Kd.R_alloc | apply Kd.R_drewN | apply Kd.R_drew)); exact Kd.R_mono (Kd.R_far (p := ⟨gb501, 2, none⟩) (Kd.R_far (p := ⟨gb501, 1, none⟩) (Kd.R_far (p := ⟨gb501, 0, none⟩) (Kd.R_types HO_3.out BK501.out (by decide)) (fun _ hk => hk.2) (.bool true)) (fun _ hk => hk.2) (.int .i64 ((rd_T43 (rd_L5 l0 x10_1) x16_2).f1))) (fun _ hk => hk.2) (.string ((rd_T43 (rd_L5 l0 x10_1) x16_2).f2))) (fun _ hk => trivial)⟩, ⟨bG_ GE501.out⟩⟩
     · replace c12 := Bool.eq_false_iff.mpr c12
       subst c12
       rw [if_neg nf_] at H
       by_cases c15 : x3_2.length < 17592186044416
       rotate_left
       · exact absurd H (by rw [if_neg c15]; simp)
       rw [if_pos c15] at H
       have LMc15 := A_ c15
       clear c15
       obtain ⟨y502, hy502⟩ : ∃ y_ : List Int, y_ = (x3_2 ++ [(rd_T43 (rd_L5 l0 x10_1) x16_2).f1]) := ⟨_, rfl⟩
       replace H : (impl_Submitted.l1 k2 y502 l0 (l0.length : Int) x10_1 (rd_L5 l0 x10_1) ((rd_L5 l0 x10_1).length : Int) (wrap64 (x16_2 + 1))) = some r := hy_ hy502 H
       have Ny502 := A_ hy502
       clear hy502
       have H' := A_ H
       clear H
       have p500 : 0 ≤ (x16_2 : Int) := od_
       have q500 : x16_2 < ((rd_L5 l0 x10_1).length : Int) := od_
       obtain ⟨ad500, e500, hx500_0, hx500_1, hx500_2⟩ := at_T43 HR499_0.out x16_2 p500 q500
       (try rw [← Nbq11.out] at hx500_0)
       cases e500
       replace hx500_0 := bc_ HB.out hx500_0
       replace hx500_1 := bc_ HB.out hx500_1
       replace hx500_2 := bc_ HB.out hx500_2
       replace p500 := eq_true p500
       replace q500 := eq_true q500
       go_wp2_with (first | ((with_reducible refine gd_ (N := 7) rfl ?_); refine bx_ (N := 7) (cs := #[.bool false, .int .i64 0, .string (⟨#[]⟩ : ByteArray)]) (t := 43) ?_; intro gb501 hg w16 hbox hb; replace HO_3 := A_ (Kd.R_below (vR_ HO_3.out) hb); have BK501 := A_ (hbox); have GW501 := A_ (ge_ hg bB_ : w.heap.size ≤ gb501); have GE501 := A_ (ge_ hg bB_ : w.heap.size ≤ gb501); replace HB := A_ (below_step bB_ hb); clear hb hbox hg; obtain ⟨hcz17_0, hcz17_1, hcz17_2, hfz17_0, hfz17_1, hfz17_2⟩ := cz3_ BK501.out) | ((with_reducible refine gate_builtin (b := .append) (xs := #[.tmp 28, .tmp 31]) rfl ?_); at_builtin; refine Kd.R_append (Kd.int .i64) (w0 := w) w.heap.size rfl (.tmp 28) (.tmp 31) 30 3 (.int .i64 0) 8 rfl Tryz.underlying30 info3 rfl (by decide) (by omega) u3 x3_2 ((rd_T43 (rd_L5 l0 x10_1) x16_2).f1) [.int .i64 ((rd_T43 (rd_L5 l0 x10_1) x16_2).f1)] (fun _ => True) (fun _ => False) rfl (by first | (go_simp; done) | (go_simp; rfl)) ?aP (fun _ hk => hk.elim) ?aF ?aO ?aB ?aS ?aL ?_; (case aP => exact rfl); (case aB => exact (bG_ GE501.out)); (case aF => exact (fun _ _ => trivial)); (case aO => exact (by (with_reducible repeat (first | apply Kd.R_alloc | apply Kd.R_drewN | apply Kd.R_drew)); exact Kd.R_mono (Kd.R_far (p := ⟨gb501, 2, none⟩) (Kd.R_far (p := ⟨gb501, 1, none⟩) (Kd.R_far (p := ⟨gb501, 0, none⟩) (Kd.R_types HO_3.out BK501.out (by decide)) (fun _ hk => hk.2) (.bool false)) (fun _ hk => hk.2) (.int .i64 ((rd_T43 (rd_L5 l0 x10_1) x16_2).f1))) (fun _ hk => hk.2) (.string ((rd_T43 (rd_L5 l0 x10_1) x16_2).f2))) (fun _ hk => trivial))); (case aS => exact (below_size (bG_ GE501.out))); (case aL => have := LMc15.out; omega); intro v503 w18 ho hb hg hat; rw [← Ny502.out] at ho; replace BK501 := A_ (blk_grown (g := gb501) (o := .cells #[.bool false, .int .i64 ((rd_T43 (rd_L5 l0 x10_1) x16_2).f1), .string ((rd_T43 (rd_L5 l0 x10_1) x16_2).f2)] 43 (0, 0)) (by (with_reducible repeat (first | refine blk_drewN ?_ _ | refine blk_drew ?_ | refine blk_alloc ?_ _)); refine blk_put (cs := #[.bool false, .int .i64 ((rd_T43 (rd_L5 l0 x10_1) x16_2).f1), .string (⟨#[]⟩ : ByteArray)]) ?_ 2 _ rfl; (with_reducible repeat (first | refine blk_drewN ?_ _ | refine blk_drew ?_ | refine blk_alloc ?_ _)); refine blk_put (cs := #[.bool false, .int .i64 0, .string (⟨#[]⟩ : ByteArray)]) ?_ 1 _ rfl; (with_reducible repeat (first | refine blk_drewN ?_ _ | refine blk_drew ?_ | refine blk_alloc ?_ _)); refine blk_put (cs := #[.bool false, .int .i64 0, .string (⟨#[]⟩ : ByteArray)]) ?_ 0 _ rfl; (with_reducible repeat (first | refine blk_drewN ?_ _ | refine blk_drew ?_ | refine blk_alloc ?_ _)); exact BK501.out) hg (Kd.R_ne HO_3.out BK501.out (by decide))); replace HB := A_ (hb); have HO504 := A_ (ho); clear HO_3; clear ho hb hg hat))
       go_roundg k2
       case measure => have := HK1.out; have := HK2.out; omega
       case rel => (try rw [← Nbq11.out]); exact ⟨(y502), (wrap64 (x16_2 + 1)), rs_, H', ⟨by have := HK1.out; have := HK2.out; omega⟩, ⟨vR_ HO504.out⟩, ⟨bG_ GE501.out⟩⟩
mutual
def spec_Submitted.l0 : Nat → List (List (S43)) → List Int → Int → Option (List Int)
 | 0, _, _, _ => none
 | k + 1, x0, x3, x4 => if x4 < (x0.length : Int) then (spec_Submitted.l1 k x0 x3 x4 0) else (some x3)
def spec_Submitted.l1 : Nat → List (List (S43)) → List Int → Int → Int → Option (List Int)
 | 0, _, _, _, _ => none
 | k + 1, x0, x3, x4, x5 => if 0 ≤ x4 then (if x4 < (x0.length : Int) then (if x5 < ((rd_L5 x0 x4).length : Int) then (if 0 ≤ x5 then (if ((rd_T43 (rd_L5 x0 x4) x5).f1) = 0 then (spec_Submitted.l1 k x0 x3 x4 (wrap64 (x5 + 1))) else (if ((rd_T43 (rd_L5 x0 x4) x5).f0 = true) then (spec_Submitted.l1 k x0 x3 x4 (wrap64 (x5 + 1))) else (if x3.length < 17592186044416 then (spec_Submitted.l1 k x0 (x3 ++ [(rd_T43 (rd_L5 x0 x4) x5).f1]) x4 (wrap64 (x5 + 1))) else (none)))) else (none)) else (spec_Submitted.l0 k x0 x3 (wrap64 (x4 + 1)))) else (none)) else (none)
end
def spec_Submitted.f (k : Nat) (l0 : List (List (S43))) : Option (List Int) := spec_Submitted.l0 k l0 (([] : List Int)) 0
set_option maxHeartbeats 8000000 in
set_option maxRecDepth 100000 in
theorem spec_Submitted.calls (k : Nat) (A0 : Option Addr) (c0 : Nat) (l0 : List (List (S43))) (r : List Int) (w : World) (hr0 : Kd.C (Kd.slice 43 k43) w A0 l0.length l0) (hc0 : l0.length ≤ c0) (h : spec_Submitted.f k l0 = some r) :
 Calls Tryz.prog 18 #[.slice A0 l0.length c0] w fun e w' => ∃ v0_ : Value, e = .returned (v0_) ∧ Kd.R (Kd.int .i64) 3 w' w.heap.size (fun _ => True) v0_ r ∧ Below w.heap.size w w' := by
 have HR0 := A_ hr0
 have HC0 := A_ hc0
 clear hr0 hc0
 have HB := A_ (Below.refl w.heap.size w)
 have H : (spec_Submitted.l0 k l0 (([] : List Int)) 0) = some r := h
 clear h
 obtain ⟨y505, hy505⟩ : ∃ y_ : List Int, y_ = (([] : List Int)) := ⟨_, rfl⟩
 replace H : (spec_Submitted.l0 k l0 y505 0) = some r := hy_ hy505 H
 have Ny505 := A_ hy505
 clear hy505
 have H' := A_ H
 clear H
 go_enter Tryz.func18, Tryz.ntmps18
 go_wp2_with (first | ((with_reducible refine gd_ (N := 6) rfl ?_); refine Kd.R_lit (Kd.int .i64) _ 3 ?hg (N := 6) ?hd (xs := ([] : List Int)) (inner := []) (ok := fun _ => True) (okp := fun _ => True) ?hr ?hp (fun _ hk => hk) trivial (Below.refl _ _) (Nat.le_refl _) (by simp) ?_; (case hd => rfl); (case hg => rfl); (case hr => first | (go_simp; done) | (go_simp; rfl)); (case hp => exact (Reps.none _ _)); intro v506 w2 ho3 hb hg_ hnew_; clear hg_ hnew_; (first | rw [← Ny505.out] at ho3 | (simp only [Int.reduceToNat] at ho3; rw [← Ny505.out] at ho3)); have HO507 := A_ (Kd.R_lower ho3 (below_size bB_)); replace HB := A_ (below_step bB_ hb); clear hb ho3))
 go_loopg [3, 4] k (fun kq v3 v4 w' => ∃ (x3_1 : List Int) (x4_1 : Int), v4 = .int .i64 x4_1 ∧ Aside0 (spec_Submitted.l0 kq l0 x3_1 x4_1 = some r) ∧ Aside0 (kq ≤ k) ∧ Aside0 (Kd.R (Kd.int .i64) 3 w' w.heap.size (fun _ => True) v3 x3_1) ∧ Aside0 (Below w.heap.size w w'))
 case atStart => exact ⟨(y505), (0), rs_, H', ⟨Nat.le_refl _⟩, ⟨vR_ HO507.out⟩, ⟨bB_⟩⟩
 case round =>
  clear H'
  try clear c1
  try clear p2
  obtain ⟨x3_1, x4_1, rfl, HA, HK1, HO_3, HB⟩ := hrel
  cases gk with
  | zero => exact absurd HA.out (by simp [spec_Submitted.l0])
  | succ k1 =>
   have H := HA.out
   clear HA
   simp only [spec_Submitted.l0] at H
   by_cases c4 : x4_1 < (l0.length : Int)
   rotate_left
   · rw [if_neg c4] at H
     have c4b0 : decide (x4_1 < (l0.length : Int)) = false := decide_eq_false c4
     clear c4
     obtain rfl := si_ H
     go_wp2
     go_ret
     exact ⟨_, rr_, by (with_reducible repeat (first | apply Kd.R_alloc | apply Kd.R_drewN | apply Kd.R_drew)); exact HO_3.out, bB_⟩
   rw [if_pos c4] at H
   have c4b0 : decide (x4_1 < (l0.length : Int)) = true := decide_eq_true c4
   clear c4
   have H' := A_ H
   clear H
   go_wp2
   go_loopg [3, 5] k1 (fun kq v3 v5 w' => ∃ (x3_2 : List Int) (x5_2 : Int), v5 = .int .i64 x5_2 ∧ Aside0 (spec_Submitted.l1 kq l0 x3_2 x4_1 x5_2 = some r) ∧ Aside0 (kq ≤ k1) ∧ Aside0 (Kd.R (Kd.int .i64) 3 w' w.heap.size (fun _ => True) v3 x3_2) ∧ Aside0 (Below w.heap.size w w'))
   case atStart => exact ⟨(x3_1), (0), rs_, H', ⟨Nat.le_refl _⟩, ⟨vR_ HO_3.out⟩, ⟨bB_⟩⟩
   case round =>
    clear H'
    try clear c1
    try clear p2
    try clear c4
    try clear c4b0
    try clear p2
    obtain ⟨x3_2, x5_2, rfl, HA, HK2, HO_3, HB⟩ := hrel
    cases gk with
    | zero => exact absurd HA.out (by simp [spec_Submitted.l1])
    | succ k2 =>
     have H := HA.out
     clear HA
     simp only [spec_Submitted.l1] at H
     by_cases c5 : 0 ≤ x4_1
     rotate_left
     · exact absurd H (by rw [if_neg c5]; simp)
     rw [if_pos c5] at H
     have c5b0 : decide (0 ≤ x4_1) = true := decide_eq_true c5
     clear c5
     by_cases c6 : x4_1 < (l0.length : Int)
     rotate_left
     · exact absurd H (by rw [if_neg c6]; simp)
     rw [if_pos c6] at H
     have c6b0 : decide (x4_1 < (l0.length : Int)) = true := decide_eq_true c6
     clear c6
     by_cases c7 : x5_2 < ((rd_L5 l0 x4_1).length : Int)
     rotate_left
     · rw [if_neg c7] at H
       have c7b0 : decide (x5_2 < ((rd_L5 l0 x4_1).length : Int)) = false := decide_eq_false c7
       clear c7
       have H' := A_ H
       clear H
       have p508 : 0 ≤ (x4_1 : Int) := od_
       have q508 : x4_1 < (l0.length : Int) := od_
       obtain ⟨ad508, A508_0, c508_0, e508, hx508_0, hl508_0, hi508_0⟩ := at_L5 HR0.out x4_1 p508 q508
       cases e508
       replace hx508_0 := bc_ HB.out hx508_0
       have HR508_0 := A_ hi508_0
       have HC508_0 := A_ hl508_0
       clear hi508_0 hl508_0
       replace p508 := eq_true p508
       replace q508 := eq_true q508
       go_wp2
       go_roundg k2
       case measure => have := HK1.out; have := HK2.out; omega
       case rel => exact ⟨(x3_2), (wrap64 (x4_1 + 1)), rs_, H', ⟨by have := HK1.out; have := HK2.out; omega⟩, ⟨vR_ HO_3.out⟩, ⟨bB_⟩⟩
     rw [if_pos c7] at H
     have c7b0 : decide (x5_2 < ((rd_L5 l0 x4_1).length : Int)) = true := decide_eq_true c7
     clear c7
     by_cases c8 : 0 ≤ x5_2
     rotate_left
     · exact absurd H (by rw [if_neg c8]; simp)
     rw [if_pos c8] at H
     have c8b0 : decide (0 ≤ x5_2) = true := decide_eq_true c8
     clear c8
     by_cases c9 : ((rd_T43 (rd_L5 l0 x4_1) x5_2).f1) = 0
     · rw [if_pos c9] at H
       have c9b0 : (((rd_T43 (rd_L5 l0 x4_1) x5_2).f1) == 0) = true := beq_iff_eq.mpr c9
       have c9b1 : (((rd_T43 (rd_L5 l0 x4_1) x5_2).f1) != 0) = false := bne_eq_false_iff_eq.mpr c9
       clear c9
       have H' := A_ H
       clear H
       have p508 : 0 ≤ (x4_1 : Int) := od_
       have q508 : x4_1 < (l0.length : Int) := od_
       obtain ⟨ad508, A508_0, c508_0, e508, hx508_0, hl508_0, hi508_0⟩ := at_L5 HR0.out x4_1 p508 q508
       cases e508
       replace hx508_0 := bc_ HB.out hx508_0
       have HR508_0 := A_ hi508_0
       have HC508_0 := A_ hl508_0
       clear hi508_0 hl508_0
       replace p508 := eq_true p508
       replace q508 := eq_true q508
       have p509 : 0 ≤ (x4_1 : Int) := od_
       have q509 : x4_1 < (l0.length : Int) := od_
       obtain ⟨ad509, A509_0, c509_0, e509, hx509_0, hl509_0, hi509_0⟩ := at_L5 HR0.out x4_1 p509 q509
       obtain rfl : ad508 = ad509 := (by injection e509)
       replace hx509_0 := bc_ HB.out hx509_0
       have HR509_0 := A_ hi509_0
       have HC509_0 := A_ hl509_0
       clear hi509_0 hl509_0
       replace p509 := eq_true p509
       replace q509 := eq_true q509
       have ea_ := Option.some.inj (hx508_0.symm.trans hx509_0)
       injection ea_ with ea_ en_ ec_
       subst ea_
       subst ec_
       clear en_
       have p510 : 0 ≤ (x5_2 : Int) := od_
       have q510 : x5_2 < ((rd_L5 l0 x4_1).length : Int) := od_
       obtain ⟨ad510, e510, hx510_0, hx510_1, hx510_2⟩ := at_T43 HR509_0.out x5_2 p510 q510
       cases e510
       replace hx510_0 := bc_ HB.out hx510_0
       replace hx510_1 := bc_ HB.out hx510_1
       replace hx510_2 := bc_ HB.out hx510_2
       replace p510 := eq_true p510
       replace q510 := eq_true q510
       go_wp2
       go_roundg k2
       case measure => have := HK1.out; have := HK2.out; omega
       case rel => exact ⟨(x3_2), (wrap64 (x5_2 + 1)), rs_, H', ⟨by have := HK1.out; have := HK2.out; omega⟩, ⟨vR_ HO_3.out⟩, ⟨bB_⟩⟩
     rw [if_neg c9] at H
     have c9b0 : (((rd_T43 (rd_L5 l0 x4_1) x5_2).f1) == 0) = false := beq_eq_false_iff_ne.mpr c9
     have c9b1 : (((rd_T43 (rd_L5 l0 x4_1) x5_2).f1) != 0) = true := bne_iff_ne.mpr c9
     obtain ⟨bq10, hbq10⟩ : ∃ b_ : Bool, b_ = ((rd_T43 (rd_L5 l0 x4_1) x5_2).f0) := ⟨_, rfl⟩
     replace H : (if (bq10 = true) then (spec_Submitted.l1 k2 l0 x3_2 x4_1 (wrap64 (x5_2 + 1))) else (if x3_2.length < 17592186044416 then (spec_Submitted.l1 k2 l0 (x3_2 ++ [(rd_T43 (rd_L5 l0 x4_1) x5_2).f1]) x4_1 (wrap64 (x5_2 + 1))) else (none))) = some r := by rw [← hbq10] at H; exact H
     have Nbq10 := A_ hbq10
     clear hbq10
     (try rw [← Nbq10.out])
     by_cases c11 : (bq10 = true)
     · subst c11
       rw [if_pos rfl] at H
       have H' := A_ H
       clear H
       have p508 : 0 ≤ (x4_1 : Int) := od_
       have q508 : x4_1 < (l0.length : Int) := od_
       obtain ⟨ad508, A508_0, c508_0, e508, hx508_0, hl508_0, hi508_0⟩ := at_L5 HR0.out x4_1 p508 q508
       cases e508
       replace hx508_0 := bc_ HB.out hx508_0
       have HR508_0 := A_ hi508_0
       have HC508_0 := A_ hl508_0
       clear hi508_0 hl508_0
       replace p508 := eq_true p508
       replace q508 := eq_true q508
       have p509 : 0 ≤ (x4_1 : Int) := od_
       have q509 : x4_1 < (l0.length : Int) := od_
       obtain ⟨ad509, A509_0, c509_0, e509, hx509_0, hl509_0, hi509_0⟩ := at_L5 HR0.out x4_1 p509 q509
       obtain rfl : ad508 = ad509 := (by injection e509)
       replace hx509_0 := bc_ HB.out hx509_0
       have HR509_0 := A_ hi509_0
       have HC509_0 := A_ hl509_0
       clear hi509_0 hl509_0
       replace p509 := eq_true p509
       replace q509 := eq_true q509
       have ea_ := Option.some.inj (hx508_0.symm.trans hx509_0)
       injection ea_ with ea_ en_ ec_
       subst ea_
       subst ec_
       clear en_
       have p510 : 0 ≤ (x5_2 : Int) := od_
       have q510 : x5_2 < ((rd_L5 l0 x4_1).length : Int) := od_
       obtain ⟨ad510, e510, hx510_0, hx510_1, hx510_2⟩ := at_T43 HR509_0.out x5_2 p510 q510
       (try rw [← Nbq10.out] at hx510_0)
       cases e510
       replace hx510_0 := bc_ HB.out hx510_0
       replace hx510_1 := bc_ HB.out hx510_1
       replace hx510_2 := bc_ HB.out hx510_2
       replace p510 := eq_true p510
       replace q510 := eq_true q510
       have p511 : 0 ≤ (x4_1 : Int) := od_
       have q511 : x4_1 < (l0.length : Int) := od_
       obtain ⟨ad511, A511_0, c511_0, e511, hx511_0, hl511_0, hi511_0⟩ := at_L5 HR0.out x4_1 p511 q511
       obtain rfl : ad508 = ad511 := (by injection e511)
       replace hx511_0 := bc_ HB.out hx511_0
       have HR511_0 := A_ hi511_0
       have HC511_0 := A_ hl511_0
       clear hi511_0 hl511_0
       replace p511 := eq_true p511
       replace q511 := eq_true q511
       have ea_ := Option.some.inj (hx508_0.symm.trans hx511_0)
       injection ea_ with ea_ en_ ec_
       subst ea_
       subst ec_
       clear en_
       have p512 : 0 ≤ (x5_2 : Int) := od_
       have q512 : x5_2 < ((rd_L5 l0 x4_1).length : Int) := od_
       obtain ⟨ad512, e512, hx512_0, hx512_1, hx512_2⟩ := at_T43 HR511_0.out x5_2 p512 q512
       (try rw [← Nbq10.out] at hx512_0)
       cases e512
       replace hx512_0 := bc_ HB.out hx512_0
       replace hx512_1 := bc_ HB.out hx512_1
       replace hx512_2 := bc_ HB.out hx512_2
       replace p512 := eq_true p512
       replace q512 := eq_true q512
       go_wp2
       go_roundg k2
       case measure => have := HK1.out; have := HK2.out; omega
       case rel => (try rw [← Nbq10.out]); exact ⟨(x3_2), (wrap64 (x5_2 + 1)), rs_, H', ⟨by have := HK1.out; have := HK2.out; omega⟩, ⟨vR_ HO_3.out⟩, ⟨bB_⟩⟩
     · replace c11 := Bool.eq_false_iff.mpr c11
       subst c11
       rw [if_neg nf_] at H
       by_cases c12 : x3_2.length < 17592186044416
       rotate_left
       · exact absurd H (by rw [if_neg c12]; simp)
       rw [if_pos c12] at H
       have LMc12 := A_ c12
       clear c12
       obtain ⟨y515, hy515⟩ : ∃ y_ : List Int, y_ = (x3_2 ++ [(rd_T43 (rd_L5 l0 x4_1) x5_2).f1]) := ⟨_, rfl⟩
       replace H : (spec_Submitted.l1 k2 l0 y515 x4_1 (wrap64 (x5_2 + 1))) = some r := hy_ hy515 H
       have Ny515 := A_ hy515
       clear hy515
       have H' := A_ H
       clear H
       have p508 : 0 ≤ (x4_1 : Int) := od_
       have q508 : x4_1 < (l0.length : Int) := od_
       obtain ⟨ad508, A508_0, c508_0, e508, hx508_0, hl508_0, hi508_0⟩ := at_L5 HR0.out x4_1 p508 q508
       cases e508
       replace hx508_0 := bc_ HB.out hx508_0
       have HR508_0 := A_ hi508_0
       have HC508_0 := A_ hl508_0
       clear hi508_0 hl508_0
       replace p508 := eq_true p508
       replace q508 := eq_true q508
       have p509 : 0 ≤ (x4_1 : Int) := od_
       have q509 : x4_1 < (l0.length : Int) := od_
       obtain ⟨ad509, A509_0, c509_0, e509, hx509_0, hl509_0, hi509_0⟩ := at_L5 HR0.out x4_1 p509 q509
       obtain rfl : ad508 = ad509 := (by injection e509)
       replace hx509_0 := bc_ HB.out hx509_0
       have HR509_0 := A_ hi509_0
       have HC509_0 := A_ hl509_0
       clear hi509_0 hl509_0
       replace p509 := eq_true p509
       replace q509 := eq_true q509
       have ea_ := Option.some.inj (hx508_0.symm.trans hx509_0)
       injection ea_ with ea_ en_ ec_
       subst ea_
       subst ec_
       clear en_
       have p510 : 0 ≤ (x5_2 : Int) := od_
       have q510 : x5_2 < ((rd_L5 l0 x4_1).length : Int) := od_
       obtain ⟨ad510, e510, hx510_0, hx510_1, hx510_2⟩ := at_T43 HR509_0.out x5_2 p510 q510
       (try rw [← Nbq10.out] at hx510_0)
       cases e510
       replace hx510_0 := bc_ HB.out hx510_0
       replace hx510_1 := bc_ HB.out hx510_1
       replace hx510_2 := bc_ HB.out hx510_2
       replace p510 := eq_true p510
       replace q510 := eq_true q510
       have p511 : 0 ≤ (x4_1 : Int) := od_
       have q511 : x4_1 < (l0.length : Int) := od_
       obtain ⟨ad511, A511_0, c511_0, e511, hx511_0, hl511_0, hi511_0⟩ := at_L5 HR0.out x4_1 p511 q511
       obtain rfl : ad508 = ad511 := (by injection e511)
       replace hx511_0 := bc_ HB.out hx511_0
       have HR511_0 := A_ hi511_0
       have HC511_0 := A_ hl511_0
       clear hi511_0 hl511_0
       replace p511 := eq_true p511
       replace q511 := eq_true q511
       have ea_ := Option.some.inj (hx508_0.symm.trans hx511_0)
       injection ea_ with ea_ en_ ec_
       subst ea_
       subst ec_
       clear en_
       have p512 : 0 ≤ (x5_2 : Int) := od_
       have q512 : x5_2 < ((rd_L5 l0 x4_1).length : Int) := od_
       obtain ⟨ad512, e512, hx512_0, hx512_1, hx512_2⟩ := at_T43 HR511_0.out x5_2 p512 q512
       (try rw [← Nbq10.out] at hx512_0)
       cases e512
       replace hx512_0 := bc_ HB.out hx512_0
       replace hx512_1 := bc_ HB.out hx512_1
       replace hx512_2 := bc_ HB.out hx512_2
       replace p512 := eq_true p512
       replace q512 := eq_true q512
       have p513 : 0 ≤ (x4_1 : Int) := od_
       have q513 : x4_1 < (l0.length : Int) := od_
       obtain ⟨ad513, A513_0, c513_0, e513, hx513_0, hl513_0, hi513_0⟩ := at_L5 HR0.out x4_1 p513 q513
       obtain rfl : ad508 = ad513 := (by injection e513)
       replace hx513_0 := bc_ HB.out hx513_0
       have HR513_0 := A_ hi513_0
       have HC513_0 := A_ hl513_0
       clear hi513_0 hl513_0
       replace p513 := eq_true p513
       replace q513 := eq_true q513
       have ea_ := Option.some.inj (hx508_0.symm.trans hx513_0)
       injection ea_ with ea_ en_ ec_
       subst ea_
       subst ec_
       clear en_
       have p514 : 0 ≤ (x5_2 : Int) := od_
       have q514 : x5_2 < ((rd_L5 l0 x4_1).length : Int) := od_
       obtain ⟨ad514, e514, hx514_0, hx514_1, hx514_2⟩ := at_T43 HR513_0.out x5_2 p514 q514
       (try rw [← Nbq10.out] at hx514_0)
       cases e514
       replace hx514_0 := bc_ HB.out hx514_0
       replace hx514_1 := bc_ HB.out hx514_1
       replace hx514_2 := bc_ HB.out hx514_2
       replace p514 := eq_true p514
       replace q514 := eq_true q514
       go_wp2_with (first | ((with_reducible refine gate_builtin (b := .append) (xs := #[.tmp 42, .tmp 51]) rfl ?_); at_builtin; refine Kd.R_append (Kd.int .i64) (w0 := w) w.heap.size rfl (.tmp 42) (.tmp 51) 30 3 (.int .i64 0) 8 rfl Tryz.underlying30 info3 rfl (by decide) (by omega) u3 x3_2 ((rd_T43 (rd_L5 l0 x4_1) x5_2).f1) [.int .i64 ((rd_T43 (rd_L5 l0 x4_1) x5_2).f1)] (fun _ => True) (fun _ => False) rfl rfl ?aP (fun _ hk => hk.elim) ?aF ?aO ?aB ?aS ?aL ?_; (case aP => exact rfl); (case aB => exact bB_); (case aF => exact (fun _ _ => trivial)); (case aO => exact (vR_ HO_3.out)); (case aS => exact (below_size bB_)); (case aL => have := LMc12.out; omega); intro v516 w13 ho hb hg hat; rw [← Ny515.out] at ho; replace HB := A_ (hb); have HO517 := A_ (ho); clear HO_3; clear ho hb hg hat))
       go_roundg k2
       case measure => have := HK1.out; have := HK2.out; omega
       case rel => (try rw [← Nbq10.out]); exact ⟨(y515), (wrap64 (x5_2 + 1)), rs_, H', ⟨by have := HK1.out; have := HK2.out; omega⟩, ⟨vR_ HO517.out⟩, ⟨bB_⟩⟩
mutual
def laws_FnIfs.j0 : Nat → List (List (S43)) → ByteArray → List (List (S43)) → Bool → Bool → Option (Bool)
 | 0, _, _, _, _, _ => none
 | k + 1, x3, x4, x6, x7, x77 => if x77 = true then (some false) else (if x7 = true then ((impl_IfText.f k x6).bind fun t553 => ((impl_ParseIf.f k t553).bind fun bt554 => (if bt554.2 = true then ((laws_sameIf.f k bt554.1 x6).bind fun t558 => (laws_FnIfs.j1 k x3 x4 (!t558))) else (laws_FnIfs.j1 k x3 x4 true)))) else ((impl_ParseIf.f k x4).bind fun bt564 => (if x4.toList = ([] : List UInt8) then (some true) else (if bt564.2 = true then ((laws_sameIf.f k bt564.1 x3).bind fun t568 => (some t568)) else (some false)))))
def laws_FnIfs.j1 : Nat → List (List (S43)) → ByteArray → Bool → Option (Bool)
 | 0, _, _, _ => none
 | k + 1, x3, x4, x92 => if x92 = true then (some false) else ((impl_ParseIf.f k x4).bind fun bt559 => (if x4.toList = ([] : List UInt8) then (some true) else (if bt559.2 = true then ((laws_sameIf.f k bt559.1 x3).bind fun t563 => (some t563)) else (some false))))
end
def laws_FnIfs.f (k : Nat) (l0 : List Int) : Option (Bool) := (laws_big.f l0).bind fun t518 => (if t518 = true then (some true) else ((spec_DrawIfText.f k l0).bind fun t519 => ((impl_IfText.f k t519).bind fun t522 => ((spec_DrawParseIf.f k l0).bind fun t523 => ((impl_ParseIf.f k t523).bind fun bt524 => ((spec_ParseIf.f k t523).bind fun bt528 => ((spec_DrawEvalIf.f k l0).bind fun bt532 => ((spec_DrawSubmitted.f k l0).bind fun t539 => (if (bt524.2 != bt528.2) = true then (laws_FnIfs.j0 k t519 t522 bt524.1 bt524.2 true) else ((laws_sameIf.f k bt524.1 bt528.1).bind fun t542 => (if t542 = true then ((spec_IfText.f k t519).bind fun t543 => (if t522.toList = t543.toList then ((impl_EvalIf.f k bt532.1 bt532.2.1 bt532.2.2).bind fun t544 => ((spec_EvalIf.f k bt532.1 bt532.2.1 bt532.2.2).bind fun t545 => (if (t544 != t545) = true then (laws_FnIfs.j0 k t519 t522 bt524.1 bt524.2 true) else ((impl_Submitted.f k t539).bind fun t546 => ((spec_Submitted.f k t539).bind fun t549 => ((laws_sameInts.f k t546 t549).bind fun t552 => (laws_FnIfs.j0 k t519 t522 bt524.1 bt524.2 (!t552)))))))) else (laws_FnIfs.j0 k t519 t522 bt524.1 bt524.2 true))) else (laws_FnIfs.j0 k t519 t522 bt524.1 bt524.2 true))))))))))))
set_option maxHeartbeats 8000000 in
set_option maxRecDepth 100000 in
theorem laws_FnIfs.calls (k : Nat) (A0 : Option Addr) (c0 : Nat) (l0 : List Int) (r : Bool) (w : World) (hr0 : Kd.C (Kd.int .u8) w A0 l0.length l0) (hc0 : l0.length ≤ c0) (hGT : GT w) (hGM : GM w) (hGE : GE w) (h : laws_FnIfs.f k l0 = some r) :
 Calls Tryz.prog 3 #[.slice A0 l0.length c0] w fun e w' => e = .returned (.bool r) ∧ Below w.heap.size w w' := by
 have HGT := A_ hGT
 have HGM := A_ hGM
 have HGE := A_ hGE
 clear hGT hGM hGE
 have HR0 := A_ hr0
 have HC0 := A_ hc0
 clear hr0 hc0
 have HB := A_ (Below.refl w.heap.size w)
 have H : ((laws_big.f l0).bind fun t518 => (if t518 = true then (some true) else ((spec_DrawIfText.f k l0).bind fun t519 => ((impl_IfText.f k t519).bind fun t522 => ((spec_DrawParseIf.f k l0).bind fun t523 => ((impl_ParseIf.f k t523).bind fun bt524 => ((spec_ParseIf.f k t523).bind fun bt528 => ((spec_DrawEvalIf.f k l0).bind fun bt532 => ((spec_DrawSubmitted.f k l0).bind fun t539 => (if (bt524.2 != bt528.2) = true then (laws_FnIfs.j0 k t519 t522 bt524.1 bt524.2 true) else ((laws_sameIf.f k bt524.1 bt528.1).bind fun t542 => (if t542 = true then ((spec_IfText.f k t519).bind fun t543 => (if t522.toList = t543.toList then ((impl_EvalIf.f k bt532.1 bt532.2.1 bt532.2.2).bind fun t544 => ((spec_EvalIf.f k bt532.1 bt532.2.1 bt532.2.2).bind fun t545 => (if (t544 != t545) = true then (laws_FnIfs.j0 k t519 t522 bt524.1 bt524.2 true) else ((impl_Submitted.f k t539).bind fun t546 => ((spec_Submitted.f k t539).bind fun t549 => ((laws_sameInts.f k t546 t549).bind fun t552 => (laws_FnIfs.j0 k t519 t522 bt524.1 bt524.2 (!t552)))))))) else (laws_FnIfs.j0 k t519 t522 bt524.1 bt524.2 true))) else (laws_FnIfs.j0 k t519 t522 bt524.1 bt524.2 true))))))))))))) = some r := h
 clear h
 obtain ⟨t518, A2, H⟩ := bo_ H
 (try dsimp only at H)
 by_cases c3 : t518 = true
 · subst c3
   rw [if_pos rfl] at H
   obtain rfl := si_ H
   go_enter Tryz.func3, Tryz.ntmps3
   go_wp2_with (first | ((with_reducible refine gc_ (f := 4) rfl ?_); refine gL_ (some 19) Tryz.func4 #[.slice A0 l0.length c0] ?_; (with_reducible refine (laws_big.calls _ _ l0 true _ ?s1 ?s2 A2.out).mono ?_); (case s1 => exact cC_ HR0.out); (case s2 => exact HC0.out); rintro e w' ⟨rfl, ⟨nd, rfl⟩⟩; refine ⟨_, rfl, ?_⟩))
   go_ret
   (try rw [show (t522.toList == ([] : List UInt8)) = t522.toList.isEmpty from by cases t522.toList <;> rfl])   -- as the walk has it
   exact ⟨rr_, bB_⟩
 · replace c3 := Bool.eq_false_iff.mpr c3
   subst c3
   rw [if_neg nf_] at H
   obtain ⟨t519, A4, H⟩ := bo_ H
   (try dsimp only at H)
   obtain ⟨t522, A5, H⟩ := bo_ H
   (try dsimp only at H)
   obtain ⟨t523, A6, H⟩ := bo_ H
   (try dsimp only at H)
   obtain ⟨⟨t524, t525⟩, A7, H⟩ := bo_ H
   (try dsimp only at H)
   obtain ⟨⟨t528, t529⟩, A8, H⟩ := bo_ H
   (try dsimp only at H)
   obtain ⟨⟨t532, t533, t534⟩, A9, H⟩ := bo_ H
   (try dsimp only at H)
   obtain ⟨t539, A10, H⟩ := bo_ H
   (try dsimp only at H)
   have HC11 := A_ H
   clear H
   go_enter Tryz.func3, Tryz.ntmps3
   go_upto_region 10 with (first | ((with_reducible refine gc_ (f := 4) rfl ?_); refine gL_ (some 19) Tryz.func4 #[.slice A0 l0.length c0] ?_; (with_reducible refine (laws_big.calls _ _ l0 false _ ?s1 ?s2 A2.out).mono ?_); (case s1 => exact cC_ HR0.out); (case s2 => exact HC0.out); rintro e w' ⟨rfl, ⟨nd, rfl⟩⟩; refine ⟨_, rfl, ?_⟩) | ((with_reducible refine gc_ (f := 5) rfl ?_); refine gL_ (some 21) Tryz.func5 #[.slice A0 l0.length c0] ?_; (with_reducible refine (spec_DrawIfText.calls k _ _ l0 t519 _ ?s1 ?s2 A4.out).mono ?_); (case s1 => exact cC_ HR0.out); (case s2 => exact HC0.out); rintro e w12 ⟨v520, rfl, ho0, hb⟩; refine ⟨_, rfl, ?_⟩; have HO521 := A_ (Kd.S_lower ho0 (below_size bB_)); replace HB := A_ (below_step bB_ hb); (try clear hb); (try clear ho0); obtain ⟨Ao13, co13, eo13⟩ := Kd.S_slice HO521.out; subst eo13) | ((with_reducible refine gc_ (f := 6) rfl ?_); refine gL_ (some 23) Tryz.func6 #[.slice Ao13 t519.length co13] ?_; (with_reducible refine (impl_IfText.calls k _ _ t519 t522 _ ?s1 ?s2 ?gT1 ?gM1 ?gE1 A5.out).mono ?_); (case gT1 => exact gT_ HGT.out bB_); (case gM1 => exact gM_ HGM.out bB_); (case gE1 => exact gE_ HGE.out bB_); (case s1 => exact cC_ (Kd.S_reads' HO521.out).2.2); (case s2 => exact (Kd.S_reads' HO521.out).2.1); rintro e w14 ⟨rfl, hb⟩; refine ⟨_, rfl, ?_⟩; replace HO521 := A_ (Kd.S_below (vS_ HO521.out) hb); replace HB := A_ (below_step bB_ hb); (try clear hb)) | ((with_reducible refine gc_ (f := 7) rfl ?_); refine gL_ (some 25) Tryz.func7 #[.slice A0 l0.length c0] ?_; (with_reducible refine (spec_DrawParseIf.calls k _ _ l0 t523 _ ?s1 ?s2 A6.out).mono ?_); (case s1 => exact cC_ (Kd.C_below HR0.out HB.out)); (case s2 => exact HC0.out); rintro e w15 ⟨rfl, hb⟩; refine ⟨_, rfl, ?_⟩; replace HO521 := A_ (Kd.S_below (vS_ HO521.out) hb); replace HB := A_ (below_step bB_ hb); (try clear hb)) | ((with_reducible refine gc_ (f := 8) rfl ?_); refine gL_ (some 28) Tryz.func8 #[.string t523] ?_; (with_reducible refine (impl_ParseIf.calls k t523 t524 t525 _ ?gT2 ?gM2 ?gE2 A7.out).mono ?_); (case gT2 => exact gT_ HGT.out bB_); (case gM2 => exact gM_ HGM.out bB_); (case gE2 => exact gE_ HGE.out bB_); rintro e w16 ⟨v526, rfl, ho0, hb⟩; refine ⟨_, rfl, ?_⟩; have HO527 := A_ (Kd.S_lower (Kd.S_new' ho0 (Kd.S_lt (vS_ HO521.out))) (below_size bB_)); replace HO521 := A_ (Kd.S_elder' (vS_ HO521.out) (kb_ ho0) hb); replace HB := A_ (below_step bB_ hb); (try clear hb); (try clear ho0)) | ((with_reducible refine gc_ (f := 9) rfl ?_); refine gL_ (some 33) Tryz.func9 #[.string t523] ?_; (with_reducible refine (spec_ParseIf.calls k t523 t528 t529 _ A8.out).mono ?_); rintro e w17 ⟨v530, rfl, ho0, hb⟩; refine ⟨_, rfl, ?_⟩; have HO531 := A_ (Kd.S_lower (Kd.S_new' (Kd.S_new' ho0 (Kd.S_lt (vS_ HO521.out))) (Kd.S_lt (vS_ HO527.out))) (below_size bB_)); replace HO521 := A_ (Kd.S_elder' (vS_ HO521.out) (kb_ ho0) hb); replace HO527 := A_ (Kd.S_elder' (vS_ HO527.out) (kb_ ho0) hb); replace HB := A_ (below_step bB_ hb); (try clear hb); (try clear ho0)) | ((with_reducible refine gc_ (f := 10) rfl ?_); refine gL_ (some 38) Tryz.func10 #[.slice A0 l0.length c0] ?_; (with_reducible refine (spec_DrawEvalIf.calls k _ _ l0 t532 t533 t534 _ ?s1 ?s2 A9.out).mono ?_); (case s1 => exact cC_ (Kd.C_below HR0.out HB.out)); (case s2 => exact HC0.out); rintro e w18 ⟨v535, v537, rfl, ho0, ho1, hb⟩; refine ⟨_, rfl, ?_⟩; have HO536 := A_ (Kd.S_lower (Kd.S_new' (Kd.S_new' (Kd.S_new' ho0 (Kd.S_lt (vS_ HO521.out))) (Kd.S_lt (vS_ HO527.out))) (Kd.S_lt (vS_ HO531.out))) (below_size bB_)); replace HO521 := A_ (Kd.S_elder' (vS_ HO521.out) (kb_ ho0) hb); replace HO527 := A_ (Kd.S_elder' (vS_ HO527.out) (kb_ ho0) hb); replace HO531 := A_ (Kd.S_elder' (vS_ HO531.out) (kb_ ho0) hb); have HO538 := A_ (Kd.R_lower ho1 (below_size bB_)); replace HB := A_ (below_step bB_ hb); (try clear hb); (try clear ho0); (try clear ho1)) | ((with_reducible refine gc_ (f := 11) rfl ?_); refine gL_ (some 43) Tryz.func11 #[.slice A0 l0.length c0] ?_; (with_reducible refine (spec_DrawSubmitted.calls k _ _ l0 t539 _ ?s1 ?s2 A10.out).mono ?_); (case s1 => exact cC_ (Kd.C_below HR0.out HB.out)); (case s2 => exact HC0.out); rintro e w19 ⟨v540, rfl, ho0, hb⟩; refine ⟨_, rfl, ?_⟩; replace HO538 := A_ (Kd.R_below (vR_ HO538.out) hb); have HO541 := A_ (Kd.S_lower (Kd.S_new' (Kd.S_new' (Kd.S_new' (Kd.S_new' ho0 (Kd.S_lt (vS_ HO521.out))) (Kd.S_lt (vS_ HO527.out))) (Kd.S_lt (vS_ HO531.out))) (Kd.S_lt (vS_ HO536.out))) (below_size bB_)); replace HO521 := A_ (Kd.S_elder' (vS_ HO521.out) (kb_ ho0) hb); replace HO527 := A_ (Kd.S_elder' (vS_ HO527.out) (kb_ ho0) hb); replace HO531 := A_ (Kd.S_elder' (vS_ HO531.out) (kb_ ho0) hb); replace HO536 := A_ (Kd.S_elder' (vS_ HO536.out) (kb_ ho0) hb); replace HB := A_ (below_step bB_ hb); (try clear hb); (try clear ho0)))
   (try simp only [Act.put, List.setIfInBounds_toArray, List.set_cons_zero, List.set_cons_succ])
   go_cut [77] (fun v77 wc => ∃ (kq : Nat) (x77_10 : Bool), v77 = .bool x77_10 ∧ Aside0 (laws_FnIfs.j0 kq t519 t522 t524 t525 x77_10 = some r) ∧ Aside0 (kq ≤ k) ∧ Aside0 (Kd.S (Kd.slice 43 k43) 41 wc w.heap.size (fun k_ => some k_ ≠ (v526 : Value).ownBlock) (.slice Ao13 t519.length co13) t519) ∧ Aside0 (Kd.S (Kd.slice 43 k43) 41 wc w.heap.size (fun k_ => some k_ ≠ ((.slice Ao13 t519.length co13) : Value).ownBlock) v526 t524) ∧ Aside0 (Below w.heap.size w wc))
   case first =>
    have H := HC11.out
    clear HC11
    by_cases c20 : (t525 != t529) = true
    · rw [if_pos c20] at H
      have c20b0 : (t525 != t529) = true := c20
      (try (have c20b1 : decide (t525 = t529) = false := by simpa using c20))
      (try (have c20b2 : (t525 == t529) = false := by simpa using c20))
      (try (have c20b3 : ¬ (t525 = t529) := by simpa using c20))
      clear c20
      (first | rw [c20b0] | (simp only [i64_w, i32_w]; rw [c20b0]) | skip)
      have H' := A_ H
      clear H
      go_wp2
      go_meet
      case rel => exact ⟨_, (true), rs_, H', ⟨by first | omega | exact Nat.le_refl _⟩, ⟨by (with_reducible repeat (first | apply Kd.S_alloc | apply Kd.S_drewN | apply Kd.S_drew)); exact Kd.S_mono HO521.out (fun _ hk => hk.1.1.1.2)⟩, ⟨by (with_reducible repeat (first | apply Kd.S_alloc | apply Kd.S_drewN | apply Kd.S_drew)); exact Kd.S_mono HO527.out (fun _ hk => hk.1.1.1.2)⟩, ⟨bB_⟩⟩
    rw [if_neg c20] at H
    have c20b0 : (t525 != t529) = false := by simpa using c20
    (try (have c20b1 : decide (t525 = t529) = true := by simpa using c20))
    (try (have c20b2 : (t525 == t529) = true := by simpa using c20))
    clear c20
    (first | rw [c20b0] | (simp only [i64_w, i32_w]; rw [c20b0]) | skip)
    obtain ⟨t542, A21, H⟩ := bo_ H
    (try dsimp only at H)
    by_cases c22 : t542 = true
    · subst c22
      rw [if_pos rfl] at H
      obtain ⟨t543, A23, H⟩ := bo_ H
      (try dsimp only at H)
      by_cases c24 : t522.toList = t543.toList
      rotate_left
      · rw [if_neg c24] at H
        have c24b0 : (t522.toList == t543.toList) = false := beq_eq_false_iff_ne.mpr c24
        have c24b1 : (t522.toList != t543.toList) = true := bne_iff_ne.mpr c24
        have H' := A_ H
        clear H
        obtain ⟨Ao50, co50, eo50⟩ := Kd.S_slice HO527.out
        subst eo50
        obtain ⟨Ao51, co51, eo51⟩ := Kd.S_slice HO531.out
        subst eo51
        go_wp2_with (first | (go_at_call 12; (with_reducible refine (laws_sameIf.calls k _ _ t524 _ _ t528 true _ ?s1 ?s2 ?s3 ?s4 A21.out).mono ?_); (case s1 => exact cC_ (Kd.S_reads' HO527.out).2.2); (case s2 => exact (Kd.S_reads' HO527.out).2.1); (case s3 => exact cC_ (Kd.S_reads' HO531.out).2.2); (case s4 => exact (Kd.S_reads' HO531.out).2.1); rintro e w' ⟨rfl, ⟨nd, rfl⟩⟩) | (go_at_call 13; (with_reducible refine (spec_IfText.calls k _ _ t519 t543 _ ?s1 ?s2 A23.out).mono ?_); (case s1 => exact cC_ (Kd.S_reads' HO521.out).2.2); (case s2 => exact (Kd.S_reads' HO521.out).2.1); rintro e w52 ⟨rfl, hb⟩; replace HO521 := A_ (Kd.S_below (vS_ HO521.out) hb); replace HO527 := A_ (Kd.S_below (vS_ HO527.out) hb); replace HO531 := A_ (Kd.S_below (vS_ HO531.out) hb); replace HO536 := A_ (Kd.S_below (vS_ HO536.out) hb); replace HO538 := A_ (Kd.R_below (vR_ HO538.out) hb); replace HO541 := A_ (Kd.S_below (vS_ HO541.out) hb); replace HB := A_ (below_step bB_ hb); (try clear hb)))
        go_meet
        case rel => exact ⟨_, (true), rs_, H', ⟨by first | omega | exact Nat.le_refl _⟩, ⟨by (with_reducible repeat (first | apply Kd.S_alloc | apply Kd.S_drewN | apply Kd.S_drew)); exact Kd.S_mono HO521.out (fun _ hk => hk.1.1.1.2)⟩, ⟨by (with_reducible repeat (first | apply Kd.S_alloc | apply Kd.S_drewN | apply Kd.S_drew)); exact Kd.S_mono HO527.out (fun _ hk => hk.1.1.1.2)⟩, ⟨bB_⟩⟩
      rw [if_pos c24] at H
      have c24b0 : (t522.toList == t543.toList) = true := beq_iff_eq.mpr c24
      have c24b1 : (t522.toList != t543.toList) = false := bne_eq_false_iff_eq.mpr c24
      clear c24
      obtain ⟨t544, A25, H⟩ := bo_ H
      (try dsimp only at H)
      obtain ⟨t545, A26, H⟩ := bo_ H
      (try dsimp only at H)
      by_cases c27 : (t544 != t545) = true
      · rw [if_pos c27] at H
        have c27b0 : (t544 != t545) = true := c27
        (try (have c27b1 : decide (t544 = t545) = false := by simpa using c27))
        (try (have c27b2 : (t544 == t545) = false := by simpa using c27))
        (try (have c27b3 : ¬ (t544 = t545) := by simpa using c27))
        clear c27
        have H' := A_ H
        clear H
        obtain ⟨Ao28, co28, eo28⟩ := Kd.S_slice HO527.out
        subst eo28
        obtain ⟨Ao29, co29, eo29⟩ := Kd.S_slice HO531.out
        subst eo29
        go_wp2_with (first | (go_at_call 12; (with_reducible refine (laws_sameIf.calls k _ _ t524 _ _ t528 true _ ?s1 ?s2 ?s3 ?s4 A21.out).mono ?_); (case s1 => exact cC_ (Kd.S_reads' HO527.out).2.2); (case s2 => exact (Kd.S_reads' HO527.out).2.1); (case s3 => exact cC_ (Kd.S_reads' HO531.out).2.2); (case s4 => exact (Kd.S_reads' HO531.out).2.1); rintro e w' ⟨rfl, ⟨nd, rfl⟩⟩) | (go_at_call 13; (with_reducible refine (spec_IfText.calls k _ _ t519 t543 _ ?s1 ?s2 A23.out).mono ?_); (case s1 => exact cC_ (Kd.S_reads' HO521.out).2.2); (case s2 => exact (Kd.S_reads' HO521.out).2.1); rintro e w30 ⟨rfl, hb⟩; replace HO521 := A_ (Kd.S_below (vS_ HO521.out) hb); replace HO527 := A_ (Kd.S_below (vS_ HO527.out) hb); replace HO531 := A_ (Kd.S_below (vS_ HO531.out) hb); replace HO536 := A_ (Kd.S_below (vS_ HO536.out) hb); replace HO538 := A_ (Kd.R_below (vR_ HO538.out) hb); replace HO541 := A_ (Kd.S_below (vS_ HO541.out) hb); replace HB := A_ (below_step bB_ hb); (try clear hb); obtain ⟨Ao31, co31, eo31⟩ := Kd.S_slice HO536.out; subst eo31; obtain ⟨Ao32, co32, eo32⟩ := Kd.R_slice HO538.out; subst eo32) | (go_at_call 14; (with_reducible refine (impl_EvalIf.calls k _ _ t532 _ _ t533 t534 t544 _ ?s1 ?s2 ?s3 ?s4 A25.out).mono ?_); (case s1 => exact cC_ (Kd.S_reads' HO536.out).2.2); (case s2 => exact (Kd.S_reads' HO536.out).2.1); (case s3 => exact cC_ (Kd.R_reads' HO538.out).2.2); (case s4 => exact (Kd.R_reads' HO538.out).2.1); rintro e w33 ⟨rfl, hb⟩; replace HO521 := A_ (Kd.S_below (vS_ HO521.out) hb); replace HO527 := A_ (Kd.S_below (vS_ HO527.out) hb); replace HO531 := A_ (Kd.S_below (vS_ HO531.out) hb); replace HO536 := A_ (Kd.S_below (vS_ HO536.out) hb); replace HO538 := A_ (Kd.R_below (vR_ HO538.out) hb); replace HO541 := A_ (Kd.S_below (vS_ HO541.out) hb); replace HB := A_ (below_step bB_ hb); (try clear hb)) | (go_at_call 15; (with_reducible refine (spec_EvalIf.calls k _ _ t532 _ _ t533 t534 t545 _ ?s1 ?s2 ?s3 ?s4 A26.out).mono ?_); (case s1 => exact cC_ (Kd.S_reads' HO536.out).2.2); (case s2 => exact (Kd.S_reads' HO536.out).2.1); (case s3 => exact cC_ (Kd.R_reads' HO538.out).2.2); (case s4 => exact (Kd.R_reads' HO538.out).2.1); rintro e w34 ⟨rfl, hb⟩; replace HO521 := A_ (Kd.S_below (vS_ HO521.out) hb); replace HO527 := A_ (Kd.S_below (vS_ HO527.out) hb); replace HO531 := A_ (Kd.S_below (vS_ HO531.out) hb); replace HO536 := A_ (Kd.S_below (vS_ HO536.out) hb); replace HO538 := A_ (Kd.R_below (vR_ HO538.out) hb); replace HO541 := A_ (Kd.S_below (vS_ HO541.out) hb); replace HB := A_ (below_step bB_ hb); (try clear hb)))
        go_meet
        case rel => exact ⟨_, (true), rs_, H', ⟨by first | omega | exact Nat.le_refl _⟩, ⟨by (with_reducible repeat (first | apply Kd.S_alloc | apply Kd.S_drewN | apply Kd.S_drew)); exact Kd.S_mono HO521.out (fun _ hk => hk.1.1.1.2)⟩, ⟨by (with_reducible repeat (first | apply Kd.S_alloc | apply Kd.S_drewN | apply Kd.S_drew)); exact Kd.S_mono HO527.out (fun _ hk => hk.1.1.1.2)⟩, ⟨bB_⟩⟩
      rw [if_neg c27] at H
      have c27b0 : (t544 != t545) = false := by simpa using c27
      (try (have c27b1 : decide (t544 = t545) = true := by simpa using c27))
      (try (have c27b2 : (t544 == t545) = true := by simpa using c27))
      clear c27
      obtain ⟨t546, A35, H⟩ := bo_ H
      (try dsimp only at H)
      obtain ⟨t549, A36, H⟩ := bo_ H
      (try dsimp only at H)
      obtain ⟨t552, A37, H⟩ := bo_ H
      (try dsimp only at H)
      have H' := A_ H
      clear H
      obtain ⟨Ao38, co38, eo38⟩ := Kd.S_slice HO527.out
      subst eo38
      obtain ⟨Ao39, co39, eo39⟩ := Kd.S_slice HO531.out
      subst eo39
      go_wp2_with (first | (go_at_call 12; (with_reducible refine (laws_sameIf.calls k _ _ t524 _ _ t528 true _ ?s1 ?s2 ?s3 ?s4 A21.out).mono ?_); (case s1 => exact cC_ (Kd.S_reads' HO527.out).2.2); (case s2 => exact (Kd.S_reads' HO527.out).2.1); (case s3 => exact cC_ (Kd.S_reads' HO531.out).2.2); (case s4 => exact (Kd.S_reads' HO531.out).2.1); rintro e w' ⟨rfl, ⟨nd, rfl⟩⟩) | (go_at_call 13; (with_reducible refine (spec_IfText.calls k _ _ t519 t543 _ ?s1 ?s2 A23.out).mono ?_); (case s1 => exact cC_ (Kd.S_reads' HO521.out).2.2); (case s2 => exact (Kd.S_reads' HO521.out).2.1); rintro e w40 ⟨rfl, hb⟩; replace HO521 := A_ (Kd.S_below (vS_ HO521.out) hb); replace HO527 := A_ (Kd.S_below (vS_ HO527.out) hb); replace HO531 := A_ (Kd.S_below (vS_ HO531.out) hb); replace HO536 := A_ (Kd.S_below (vS_ HO536.out) hb); replace HO538 := A_ (Kd.R_below (vR_ HO538.out) hb); replace HO541 := A_ (Kd.S_below (vS_ HO541.out) hb); replace HB := A_ (below_step bB_ hb); (try clear hb); obtain ⟨Ao41, co41, eo41⟩ := Kd.S_slice HO536.out; subst eo41; obtain ⟨Ao42, co42, eo42⟩ := Kd.R_slice HO538.out; subst eo42) | (go_at_call 14; (with_reducible refine (impl_EvalIf.calls k _ _ t532 _ _ t533 t534 t544 _ ?s1 ?s2 ?s3 ?s4 A25.out).mono ?_); (case s1 => exact cC_ (Kd.S_reads' HO536.out).2.2); (case s2 => exact (Kd.S_reads' HO536.out).2.1); (case s3 => exact cC_ (Kd.R_reads' HO538.out).2.2); (case s4 => exact (Kd.R_reads' HO538.out).2.1); rintro e w43 ⟨rfl, hb⟩; replace HO521 := A_ (Kd.S_below (vS_ HO521.out) hb); replace HO527 := A_ (Kd.S_below (vS_ HO527.out) hb); replace HO531 := A_ (Kd.S_below (vS_ HO531.out) hb); replace HO536 := A_ (Kd.S_below (vS_ HO536.out) hb); replace HO538 := A_ (Kd.R_below (vR_ HO538.out) hb); replace HO541 := A_ (Kd.S_below (vS_ HO541.out) hb); replace HB := A_ (below_step bB_ hb); (try clear hb)) | (go_at_call 15; (with_reducible refine (spec_EvalIf.calls k _ _ t532 _ _ t533 t534 t545 _ ?s1 ?s2 ?s3 ?s4 A26.out).mono ?_); (case s1 => exact cC_ (Kd.S_reads' HO536.out).2.2); (case s2 => exact (Kd.S_reads' HO536.out).2.1); (case s3 => exact cC_ (Kd.R_reads' HO538.out).2.2); (case s4 => exact (Kd.R_reads' HO538.out).2.1); rintro e w44 ⟨rfl, hb⟩; replace HO521 := A_ (Kd.S_below (vS_ HO521.out) hb); replace HO527 := A_ (Kd.S_below (vS_ HO527.out) hb); replace HO531 := A_ (Kd.S_below (vS_ HO531.out) hb); replace HO536 := A_ (Kd.S_below (vS_ HO536.out) hb); replace HO538 := A_ (Kd.R_below (vR_ HO538.out) hb); replace HO541 := A_ (Kd.S_below (vS_ HO541.out) hb); replace HB := A_ (below_step bB_ hb); (try clear hb); obtain ⟨Ao45, co45, eo45⟩ := Kd.S_slice HO541.out; subst eo45) | (go_at_call 17; (with_reducible refine (impl_Submitted.calls k _ _ t539 t546 _ ?s1 ?s2 A35.out).mono ?_); (case s1 => exact cC_ (Kd.S_reads' HO541.out).2.2); (case s2 => exact (Kd.S_reads' HO541.out).2.1); rintro e w46 ⟨v547, rfl, ho0, hb⟩; replace HO521 := A_ (Kd.S_below (vS_ HO521.out) hb); replace HO527 := A_ (Kd.S_below (vS_ HO527.out) hb); replace HO531 := A_ (Kd.S_below (vS_ HO531.out) hb); replace HO536 := A_ (Kd.S_below (vS_ HO536.out) hb); replace HO541 := A_ (Kd.S_below (vS_ HO541.out) hb); have HO548 := A_ (Kd.R_lower (Kd.R_new' ho0 (Kd.R_lt (vR_ HO538.out))) (below_size bB_)); replace HO538 := A_ (Kd.R_elder' (vR_ HO538.out) (kb_ ho0) hb); replace HB := A_ (below_step bB_ hb); (try clear hb); (try clear ho0)) | (go_at_call 18; (with_reducible refine (spec_Submitted.calls k _ _ t539 t549 _ ?s1 ?s2 A36.out).mono ?_); (case s1 => exact cC_ (Kd.S_reads' HO541.out).2.2); (case s2 => exact (Kd.S_reads' HO541.out).2.1); rintro e w47 ⟨v550, rfl, ho0, hb⟩; replace HO521 := A_ (Kd.S_below (vS_ HO521.out) hb); replace HO527 := A_ (Kd.S_below (vS_ HO527.out) hb); replace HO531 := A_ (Kd.S_below (vS_ HO531.out) hb); replace HO536 := A_ (Kd.S_below (vS_ HO536.out) hb); replace HO541 := A_ (Kd.S_below (vS_ HO541.out) hb); have HO551 := A_ (Kd.R_lower (Kd.R_new' (Kd.R_new' ho0 (Kd.R_lt (vR_ HO538.out))) (Kd.R_lt (vR_ HO548.out))) (below_size bB_)); replace HO538 := A_ (Kd.R_elder' (vR_ HO538.out) (kb_ ho0) hb); replace HO548 := A_ (Kd.R_elder' (vR_ HO548.out) (kb_ ho0) hb); replace HB := A_ (below_step bB_ hb); (try clear hb); (try clear ho0); obtain ⟨Ao48, co48, eo48⟩ := Kd.R_slice HO548.out; subst eo48; obtain ⟨Ao49, co49, eo49⟩ := Kd.R_slice HO551.out; subst eo49) | (go_at_call 16; (with_reducible refine (laws_sameInts.calls k _ _ t546 _ _ t549 t552 _ ?s1 ?s2 ?s3 ?s4 A37.out).mono ?_); (case s1 => exact cC_ (Kd.R_reads' HO548.out).2.2); (case s2 => exact (Kd.R_reads' HO548.out).2.1); (case s3 => exact cC_ (Kd.R_reads' HO551.out).2.2); (case s4 => exact (Kd.R_reads' HO551.out).2.1); rintro e w' ⟨rfl, ⟨nd, rfl⟩⟩))
      go_meet
      case rel => exact ⟨_, (!t552), rs_, H', ⟨by first | omega | exact Nat.le_refl _⟩, ⟨by (with_reducible repeat (first | apply Kd.S_alloc | apply Kd.S_drewN | apply Kd.S_drew)); exact Kd.S_mono HO521.out (fun _ hk => hk.1.1.1.2)⟩, ⟨by (with_reducible repeat (first | apply Kd.S_alloc | apply Kd.S_drewN | apply Kd.S_drew)); exact Kd.S_mono HO527.out (fun _ hk => hk.1.1.1.2)⟩, ⟨bB_⟩⟩
    · replace c22 := Bool.eq_false_iff.mpr c22
      subst c22
      rw [if_neg nf_] at H
      have H' := A_ H
      clear H
      obtain ⟨Ao53, co53, eo53⟩ := Kd.S_slice HO527.out
      subst eo53
      obtain ⟨Ao54, co54, eo54⟩ := Kd.S_slice HO531.out
      subst eo54
      go_wp2_with (first | (go_at_call 12; (with_reducible refine (laws_sameIf.calls k _ _ t524 _ _ t528 false _ ?s1 ?s2 ?s3 ?s4 A21.out).mono ?_); (case s1 => exact cC_ (Kd.S_reads' HO527.out).2.2); (case s2 => exact (Kd.S_reads' HO527.out).2.1); (case s3 => exact cC_ (Kd.S_reads' HO531.out).2.2); (case s4 => exact (Kd.S_reads' HO531.out).2.1); rintro e w' ⟨rfl, ⟨nd, rfl⟩⟩))
      go_meet
      case rel => exact ⟨_, (true), rs_, H', ⟨by first | omega | exact Nat.le_refl _⟩, ⟨by (with_reducible repeat (first | apply Kd.S_alloc | apply Kd.S_drewN | apply Kd.S_drew)); exact Kd.S_mono HO521.out (fun _ hk => hk.1.1.1.2)⟩, ⟨by (with_reducible repeat (first | apply Kd.S_alloc | apply Kd.S_drewN | apply Kd.S_drew)); exact Kd.S_mono HO527.out (fun _ hk => hk.1.1.1.2)⟩, ⟨bB_⟩⟩
   case rest =>
    clear HC11
    try clear c1
    try clear c2
    try clear p2
    try clear c3
    try clear c4
    try clear c5
    try clear c6
    try clear c7
    try clear c8
    try clear c9
    try clear c10
    try clear c11
    try clear c20
    try clear c20b0
    try clear c20b1
    try clear c20b2
    try clear c22
    try clear c24
    try clear c24b0
    try clear c24b1
    try clear c27
    try clear c27b0
    try clear c27b1
    try clear c27b2
    obtain ⟨kq, x77_10, rfl, HA, HJ10, HO_3, HO_6, HB⟩ := hcut
    cases kq with
    | zero => exact absurd HA.out (by simp [laws_FnIfs.j0])
    | succ kj10 =>
     have H := HA.out
     clear HA
     simp only [laws_FnIfs.j0] at H
     by_cases c55 : x77_10 = true
     · subst c55
       rw [if_pos rfl] at H
       obtain rfl := si_ H
       go_wp2
       go_ret
       (try rw [show (t522.toList == ([] : List UInt8)) = t522.toList.isEmpty from by cases t522.toList <;> rfl])   -- as the walk has it
       exact ⟨rr_, bB_⟩
     · replace c55 := Bool.eq_false_iff.mpr c55
       subst c55
       rw [if_neg nf_] at H
       by_cases c56 : t525 = true
       · subst c56
         rw [if_pos rfl] at H
         obtain ⟨t553, A57, H⟩ := bo_ H
         (try dsimp only at H)
         obtain ⟨⟨t554, t555⟩, A58, H⟩ := bo_ H
         (try dsimp only at H)
         have HC59 := A_ H
         clear H
         obtain ⟨Ao60, co60, eo60⟩ := Kd.S_slice HO_6.out
         subst eo60
         go_upto_region 14 with (first | ((with_reducible refine gc_ (f := 6) rfl ?_); refine gL_ (some 81) Tryz.func6 #[.slice Ao60 t524.length co60] ?_; (with_reducible refine (impl_IfText.calls kj10 _ _ t524 t553 _ ?s1 ?s2 ?gT3 ?gM3 ?gE3 A57.out).mono ?_); (case gT3 => exact gT_ HGT.out bB_); (case gM3 => exact gM_ HGM.out bB_); (case gE3 => exact gE_ HGE.out bB_); (case s1 => exact cC_ (Kd.S_reads' HO_6.out).2.2); (case s2 => exact (Kd.S_reads' HO_6.out).2.1); rintro e w61 ⟨rfl, hb⟩; refine ⟨_, rfl, ?_⟩; replace HO_3 := A_ (Kd.S_below (vS_ HO_3.out) hb); replace HO_6 := A_ (Kd.S_below (vS_ HO_6.out) hb); replace HB := A_ (below_step bB_ hb); (try clear hb)) | ((with_reducible refine gc_ (f := 8) rfl ?_); refine gL_ (some 82) Tryz.func8 #[.string t553] ?_; (with_reducible refine (impl_ParseIf.calls kj10 t553 t554 t555 _ ?gT4 ?gM4 ?gE4 A58.out).mono ?_); (case gT4 => exact gT_ HGT.out bB_); (case gM4 => exact gM_ HGM.out bB_); (case gE4 => exact gE_ HGE.out bB_); rintro e w62 ⟨v556, rfl, ho0, hb⟩; refine ⟨_, rfl, ?_⟩; have HO557 := A_ (Kd.S_lower (Kd.S_new' (Kd.S_new' ho0 (Kd.S_lt (vS_ HO_3.out))) (Kd.S_lt (vS_ HO_6.out))) (below_size bB_)); replace HO_3 := A_ (Kd.S_elder' (vS_ HO_3.out) (kb_ ho0) hb); replace HO_6 := A_ (Kd.S_elder' (vS_ HO_6.out) (kb_ ho0) hb); replace HB := A_ (below_step bB_ hb); (try clear hb); (try clear ho0)))
         (try simp only [Act.put, List.setIfInBounds_toArray, List.set_cons_zero, List.set_cons_succ])
         go_cut [92] (fun v92 wc => ∃ (kq : Nat) (x92_58 : Bool), v92 = .bool x92_58 ∧ Aside0 (laws_FnIfs.j1 kq t519 t522 x92_58 = some r) ∧ Aside0 (kq ≤ kj10) ∧ Aside0 (Kd.S (Kd.slice 43 k43) 41 wc w.heap.size (fun _ => True) (.slice Ao13 t519.length co13) t519) ∧ Aside0 (Below w.heap.size w wc))
         case first =>
          have H := HC59.out
          clear HC59
          by_cases c63 : t555 = true
          · subst c63
            rw [if_pos rfl] at H
            obtain ⟨t558, A64, H⟩ := bo_ H
            (try dsimp only at H)
            have H' := A_ H
            clear H
            obtain ⟨Ao65, co65, eo65⟩ := Kd.S_slice HO557.out
            subst eo65
            go_wp2_with (first | (go_at_call 12; (with_reducible refine (laws_sameIf.calls kj10 _ _ t554 _ _ t524 t558 _ ?s1 ?s2 ?s3 ?s4 A64.out).mono ?_); (case s1 => exact cC_ (Kd.S_reads' HO557.out).2.2); (case s2 => exact (Kd.S_reads' HO557.out).2.1); (case s3 => exact cC_ (Kd.S_reads' HO_6.out).2.2); (case s4 => exact (Kd.S_reads' HO_6.out).2.1); rintro e w' ⟨rfl, ⟨nd, rfl⟩⟩))
            go_meet
            case rel => exact ⟨_, (!t558), rs_, H', ⟨by have := HJ10.out; first | omega | exact Nat.le_refl _⟩, ⟨by (with_reducible repeat (first | apply Kd.S_alloc | apply Kd.S_drewN | apply Kd.S_drew)); exact Kd.S_mono HO_3.out (fun _ hk => trivial)⟩, ⟨bB_⟩⟩
          · replace c63 := Bool.eq_false_iff.mpr c63
            subst c63
            rw [if_neg nf_] at H
            have H' := A_ H
            clear H
            go_wp2
            go_meet
            case rel => exact ⟨_, (true), rs_, H', ⟨by have := HJ10.out; first | omega | exact Nat.le_refl _⟩, ⟨by (with_reducible repeat (first | apply Kd.S_alloc | apply Kd.S_drewN | apply Kd.S_drew)); exact Kd.S_mono HO_3.out (fun _ hk => trivial)⟩, ⟨bB_⟩⟩
         case rest =>
          clear HC59
          try clear c1
          try clear c2
          try clear p2
          try clear c3
          try clear c4
          try clear c5
          try clear c6
          try clear c7
          try clear c8
          try clear c9
          try clear c10
          try clear c11
          try clear c20
          try clear c20b0
          try clear c20b1
          try clear c20b2
          try clear c22
          try clear c24
          try clear c24b0
          try clear c24b1
          try clear c27
          try clear c27b0
          try clear c27b1
          try clear c27b2
          try clear c55
          try clear c56
          try clear c63
          try clear p2
          obtain ⟨kq, x92_58, rfl, HA, HJ58, HO_3, HB⟩ := hcut
          cases kq with
          | zero => exact absurd HA.out (by simp [laws_FnIfs.j1])
          | succ kj58 =>
           have H := HA.out
           clear HA
           simp only [laws_FnIfs.j1] at H
           by_cases c66 : x92_58 = true
           · subst c66
             rw [if_pos rfl] at H
             obtain rfl := si_ H
             go_wp2
             go_ret
             (try rw [show (t522.toList == ([] : List UInt8)) = t522.toList.isEmpty from by cases t522.toList <;> rfl])   -- as the walk has it
             exact ⟨rr_, bB_⟩
           · replace c66 := Bool.eq_false_iff.mpr c66
             subst c66
             rw [if_neg nf_] at H
             obtain ⟨⟨t559, t560⟩, A67, H⟩ := bo_ H
             (try dsimp only at H)
             by_cases c68 : t522.toList = ([] : List UInt8)
             · rw [if_pos c68] at H
               have c68b0 : (t522.toList == ([] : List UInt8)) = true := beq_iff_eq.mpr c68
               have c68b1 : (t522.toList != ([] : List UInt8)) = false := bne_eq_false_iff_eq.mpr c68
               clear c68
               obtain rfl := si_ H
               go_wp2_with (first | ((with_reducible refine gc_ (f := 8) rfl ?_); refine gL_ (some 95) Tryz.func8 #[.string t522] ?_; (with_reducible refine (impl_ParseIf.calls kj58 t522 t559 t560 _ ?gT5 ?gM5 ?gE5 A67.out).mono ?_); (case gT5 => exact gT_ HGT.out bB_); (case gM5 => exact gM_ HGM.out bB_); (case gE5 => exact gE_ HGE.out bB_); rintro e w69 ⟨v561, rfl, ho0, hb⟩; refine ⟨_, rfl, ?_⟩; have HO562 := A_ (Kd.S_lower (Kd.S_new' ho0 (Kd.S_lt (vS_ HO_3.out))) (below_size bB_)); replace HO_3 := A_ (Kd.S_elder' (vS_ HO_3.out) (kb_ ho0) hb); replace HB := A_ (below_step bB_ hb); (try clear hb); (try clear ho0)))
               go_ret
               (try rw [show (t522.toList == ([] : List UInt8)) = t522.toList.isEmpty from by cases t522.toList <;> rfl])   -- as the walk has it
               exact ⟨rr_, bB_⟩
             rw [if_neg c68] at H
             have c68b0 : (t522.toList == ([] : List UInt8)) = false := beq_eq_false_iff_ne.mpr c68
             have c68b1 : (t522.toList != ([] : List UInt8)) = true := bne_iff_ne.mpr c68
             by_cases c70 : t560 = true
             · subst c70
               rw [if_pos rfl] at H
               obtain ⟨t563, A71, H⟩ := bo_ H
               (try dsimp only at H)
               obtain rfl := si_ H
               go_wp2_with (first | ((with_reducible refine gc_ (f := 8) rfl ?_); refine gL_ (some 95) Tryz.func8 #[.string t522] ?_; (with_reducible refine (impl_ParseIf.calls kj58 t522 t559 true _ ?gT6 ?gM6 ?gE6 A67.out).mono ?_); (case gT6 => exact gT_ HGT.out bB_); (case gM6 => exact gM_ HGM.out bB_); (case gE6 => exact gE_ HGE.out bB_); rintro e w72 ⟨v561, rfl, ho0, hb⟩; refine ⟨_, rfl, ?_⟩; have HO562 := A_ (Kd.S_lower (Kd.S_new' ho0 (Kd.S_lt (vS_ HO_3.out))) (below_size bB_)); replace HO_3 := A_ (Kd.S_elder' (vS_ HO_3.out) (kb_ ho0) hb); replace HB := A_ (below_step bB_ hb); (try clear hb); (try clear ho0); obtain ⟨Ao73, co73, eo73⟩ := Kd.S_slice HO562.out; subst eo73) | (go_at_call 12; (with_reducible refine (laws_sameIf.calls kj58 _ _ t559 _ _ t519 t563 _ ?s1 ?s2 ?s3 ?s4 A71.out).mono ?_); (case s1 => exact cC_ (Kd.S_reads' HO562.out).2.2); (case s2 => exact (Kd.S_reads' HO562.out).2.1); (case s3 => exact cC_ (Kd.S_reads' HO_3.out).2.2); (case s4 => exact (Kd.S_reads' HO_3.out).2.1); rintro e w' ⟨rfl, ⟨nd, rfl⟩⟩))
               go_ret
               (try rw [show (t522.toList == ([] : List UInt8)) = t522.toList.isEmpty from by cases t522.toList <;> rfl])   -- as the walk has it
               exact ⟨rr_, bB_⟩
             · replace c70 := Bool.eq_false_iff.mpr c70
               subst c70
               rw [if_neg nf_] at H
               obtain rfl := si_ H
               go_wp2_with (first | ((with_reducible refine gc_ (f := 8) rfl ?_); refine gL_ (some 95) Tryz.func8 #[.string t522] ?_; (with_reducible refine (impl_ParseIf.calls kj58 t522 t559 false _ ?gT7 ?gM7 ?gE7 A67.out).mono ?_); (case gT7 => exact gT_ HGT.out bB_); (case gM7 => exact gM_ HGM.out bB_); (case gE7 => exact gE_ HGE.out bB_); rintro e w74 ⟨v561, rfl, ho0, hb⟩; refine ⟨_, rfl, ?_⟩; have HO562 := A_ (Kd.S_lower (Kd.S_new' ho0 (Kd.S_lt (vS_ HO_3.out))) (below_size bB_)); replace HO_3 := A_ (Kd.S_elder' (vS_ HO_3.out) (kb_ ho0) hb); replace HB := A_ (below_step bB_ hb); (try clear hb); (try clear ho0)))
               go_ret
               (try rw [show (t522.toList == ([] : List UInt8)) = t522.toList.isEmpty from by cases t522.toList <;> rfl])   -- as the walk has it
               exact ⟨rr_, bB_⟩
       · replace c56 := Bool.eq_false_iff.mpr c56
         subst c56
         rw [if_neg nf_] at H
         obtain ⟨⟨t564, t565⟩, A75, H⟩ := bo_ H
         (try dsimp only at H)
         by_cases c76 : t522.toList = ([] : List UInt8)
         · rw [if_pos c76] at H
           have c76b0 : (t522.toList == ([] : List UInt8)) = true := beq_iff_eq.mpr c76
           have c76b1 : (t522.toList != ([] : List UInt8)) = false := bne_eq_false_iff_eq.mpr c76
           clear c76
           obtain rfl := si_ H
           go_wp2_with (first | ((with_reducible refine gc_ (f := 8) rfl ?_); refine gL_ (some 95) Tryz.func8 #[.string t522] ?_; (with_reducible refine (impl_ParseIf.calls kj10 t522 t564 t565 _ ?gT8 ?gM8 ?gE8 A75.out).mono ?_); (case gT8 => exact gT_ HGT.out bB_); (case gM8 => exact gM_ HGM.out bB_); (case gE8 => exact gE_ HGE.out bB_); rintro e w77 ⟨v566, rfl, ho0, hb⟩; refine ⟨_, rfl, ?_⟩; have HO567 := A_ (Kd.S_lower (Kd.S_new' (Kd.S_new' ho0 (Kd.S_lt (vS_ HO_3.out))) (Kd.S_lt (vS_ HO_6.out))) (below_size bB_)); replace HO_3 := A_ (Kd.S_elder' (vS_ HO_3.out) (kb_ ho0) hb); replace HO_6 := A_ (Kd.S_elder' (vS_ HO_6.out) (kb_ ho0) hb); replace HB := A_ (below_step bB_ hb); (try clear hb); (try clear ho0)))
           go_ret
           (try rw [show (t522.toList == ([] : List UInt8)) = t522.toList.isEmpty from by cases t522.toList <;> rfl])   -- as the walk has it
           exact ⟨rr_, bB_⟩
         rw [if_neg c76] at H
         have c76b0 : (t522.toList == ([] : List UInt8)) = false := beq_eq_false_iff_ne.mpr c76
         have c76b1 : (t522.toList != ([] : List UInt8)) = true := bne_iff_ne.mpr c76
         by_cases c78 : t565 = true
         · subst c78
           rw [if_pos rfl] at H
           obtain ⟨t568, A79, H⟩ := bo_ H
           (try dsimp only at H)
           obtain rfl := si_ H
           go_wp2_with (first | ((with_reducible refine gc_ (f := 8) rfl ?_); refine gL_ (some 95) Tryz.func8 #[.string t522] ?_; (with_reducible refine (impl_ParseIf.calls kj10 t522 t564 true _ ?gT9 ?gM9 ?gE9 A75.out).mono ?_); (case gT9 => exact gT_ HGT.out bB_); (case gM9 => exact gM_ HGM.out bB_); (case gE9 => exact gE_ HGE.out bB_); rintro e w80 ⟨v566, rfl, ho0, hb⟩; refine ⟨_, rfl, ?_⟩; have HO567 := A_ (Kd.S_lower (Kd.S_new' (Kd.S_new' ho0 (Kd.S_lt (vS_ HO_3.out))) (Kd.S_lt (vS_ HO_6.out))) (below_size bB_)); replace HO_3 := A_ (Kd.S_elder' (vS_ HO_3.out) (kb_ ho0) hb); replace HO_6 := A_ (Kd.S_elder' (vS_ HO_6.out) (kb_ ho0) hb); replace HB := A_ (below_step bB_ hb); (try clear hb); (try clear ho0); obtain ⟨Ao81, co81, eo81⟩ := Kd.S_slice HO567.out; subst eo81) | (go_at_call 12; (with_reducible refine (laws_sameIf.calls kj10 _ _ t564 _ _ t519 t568 _ ?s1 ?s2 ?s3 ?s4 A79.out).mono ?_); (case s1 => exact cC_ (Kd.S_reads' HO567.out).2.2); (case s2 => exact (Kd.S_reads' HO567.out).2.1); (case s3 => exact cC_ (Kd.S_reads' HO_3.out).2.2); (case s4 => exact (Kd.S_reads' HO_3.out).2.1); rintro e w' ⟨rfl, ⟨nd, rfl⟩⟩))
           go_ret
           (try rw [show (t522.toList == ([] : List UInt8)) = t522.toList.isEmpty from by cases t522.toList <;> rfl])   -- as the walk has it
           exact ⟨rr_, bB_⟩
         · replace c78 := Bool.eq_false_iff.mpr c78
           subst c78
           rw [if_neg nf_] at H
           obtain rfl := si_ H
           go_wp2_with (first | ((with_reducible refine gc_ (f := 8) rfl ?_); refine gL_ (some 95) Tryz.func8 #[.string t522] ?_; (with_reducible refine (impl_ParseIf.calls kj10 t522 t564 false _ ?gT10 ?gM10 ?gE10 A75.out).mono ?_); (case gT10 => exact gT_ HGT.out bB_); (case gM10 => exact gM_ HGM.out bB_); (case gE10 => exact gE_ HGE.out bB_); rintro e w82 ⟨v566, rfl, ho0, hb⟩; refine ⟨_, rfl, ?_⟩; have HO567 := A_ (Kd.S_lower (Kd.S_new' (Kd.S_new' ho0 (Kd.S_lt (vS_ HO_3.out))) (Kd.S_lt (vS_ HO_6.out))) (below_size bB_)); replace HO_3 := A_ (Kd.S_elder' (vS_ HO_3.out) (kb_ ho0) hb); replace HO_6 := A_ (Kd.S_elder' (vS_ HO_6.out) (kb_ ho0) hb); replace HB := A_ (below_step bB_ hb); (try clear hb); (try clear ho0)))
           go_ret
           (try rw [show (t522.toList == ([] : List UInt8)) = t522.toList.isEmpty from by cases t522.toList <;> rfl])   -- as the walk has it
           exact ⟨rr_, bB_⟩
end Go.Proofs.YtigoeooelfeopaaGreatDoor.Q

/- What a reading of a parameter says of its cells, kind by kind: for the rows of laws whose parameters are slices and structs. No condition. -/
namespace Go.Proofs.YtigoeooelfeopaaGreatDoor.Op
open Go.RowKit Go.ChangeShapes Go.WideShapes Go.Proofs.YtigoeooelfeopaaGreatDoorW.PrintWords
def Opens {α H : Type} (enc : TypeId × Value → H) (P : Program) (w : World) (t : TypeId) (d : Kd α) (G : α → Prop) : Prop :=
  ∀ fuel cs x, DataW.trod enc P w 0 (fun _ => true) true fuel t cs = some x → ∃ a, d.K w a cs ∧ G a
section
variable {H : Type} {enc : TypeId × Value → H} {P : Program} {w : World} {t : TypeId}
theorem opens_int {k : IntKind} (ht : P.underlying t = some (.int k)) : Opens enc P w t (Kd.int k) (fun n => (Lit.int k n).wf = true) := by
  intro fuel cs x h
  obtain ⟨n, rfl, _, hn⟩ := DataW.trod_int ht h
  exact ⟨n, rfl, hn⟩
theorem opens_slice {α : Type} [Inhabited α] {e : TypeId} {d : Kd α} {G : α → Prop} (ht : P.underlying t = some (.slice e)) (hc : P.cellsOf e = d.sz) (he : Opens enc P w e d G) :
    Opens enc P w t (Kd.slice e d) (fun l => l.length ≤ maxLen ∧ ∀ a ∈ l, G a) := by
  intro fuel cs x h
  rcases Go.Deep.open_slice ht h with ⟨rfl, _⟩ | ⟨a, len, cap, m, n, D, Pl, rfl, _, hl, hm, hmm, _, hx⟩
  · exact ⟨[], ⟨none, 0, rfl, Nat.le_refl _, Kd.C_nil d w⟩, by simp, by simp⟩
  · have hm' : m = cap := by simpa using hmm
    have each : ∀ i, i < len → ∃ y : α, G y ∧ ∃ c, d.K w y c ∧ ∀ j u, c[j]? = some u → w.cell? (a.add (i * d.sz + j)) = some u := fun i hi => by
      obtain ⟨cs', h1, h2⟩ := hx i (by omega)
      obtain ⟨y, hK, hG⟩ := he _ _ _ h2
      obtain ⟨_, h3, h4⟩ := World.cells?_some h1
      refine ⟨y, hG, cs', hK, fun j u hu => ?_⟩
      have hj : j < P.cellsOf e := by
        have := (List.getElem?_eq_some_iff.1 hu).1
        omega
      have h5 := h4 j hj
      rw [Go.Deep.add_add, hc, hu] at h5
      exact h5
    obtain ⟨f, hf⟩ := Go.Deep.choose_lt each
    have hmax : maxLen = 9223372036854775807 := by decide
    refine ⟨(List.range len).map f, ⟨some a, cap, by simp, by simpa using hl, ?_⟩, by simp; omega, ?_⟩
    · refine ⟨rfl, by simp; omega, fun _ => ⟨a, rfl, fun j p hj => ?_⟩⟩
      have hjl : j < len := by
        have := (List.getElem?_eq_some_iff.1 hj).1
        simpa using this
      have hp : f j = p := by
        rw [List.getElem?_map, List.getElem?_range hjl] at hj
        simpa using hj
      obtain ⟨_, c, hK, hcell⟩ := hf j hjl
      exact ⟨c, d.K_len hK, hp ▸ hK, hcell⟩
    · intro y hy
      obtain ⟨j, hj, rfl⟩ := List.mem_map.1 hy
      exact (hf j (List.mem_range.1 hj)).1
end
end Go.Proofs.YtigoeooelfeopaaGreatDoor.Op

/- What a reading of a struct says of its cells. No condition. -/
namespace Go.Proofs.YtigoeooelfeopaaGreatDoor.Q
open Go.RowKit Go.ChangeShapes Go.WideShapes Go.Proofs.YtigoeooelfeopaaGreatDoorW.PrintWords Go.Proofs.YtigoeooelfeopaaGreatDoor
set_option linter.unusedVariables false
set_option linter.unusedSimpArgs false
end Go.Proofs.YtigoeooelfeopaaGreatDoor.Q

/- Small lemmas for plain laws over rounds: indices as lengths of what was passed, bytes' equality. No condition. -/
set_option linter.unusedSimpArgs false
set_option linter.unusedVariables false
namespace Go.Proofs.YtigoeooelfeopaaGreatDoor.L
open Go.RowKit Go.Proofs.YtigoeooelfeopaaGreatDoorW.PrintWords Go.Proofs.YtigoeooelfeopaaGreatDoorW.PrintLast
theorem ba_toList (s : ByteArray) : s.toList = s.data.toList := ByteArray.toList_eq s
theorem ba_inj {a b : ByteArray} (h : a.toList = b.toList) : a = b := by
  rw [ba_toList, ba_toList] at h
  cases a with | mk x => cases b with | mk y => congr 1; exact Array.toList_inj.1 h
theorem maxLen_eq : maxLen = 9223372036854775807 := by decide
theorem wrap_id {x : Int} (h0 : -9223372036854775808 ≤ x) (h1 : x < 9223372036854775808) : wrap64 x = x := by
  unfold wrap64
  omega
section
variable {α : Type} {l pre suf : List α} {a : α}
theorem lt_at (h : l = pre ++ a :: suf) : ((pre.length : Nat) : Int) < (l.length : Int) := by subst h; simp; omega
theorem getD_at (d : α) (h : l = pre ++ a :: suf) : l.getD ((pre.length : Nat) : Int).toNat d = a := by subst h; simp [List.getD_eq_getElem?_getD]
theorem next_at (h : l = pre ++ a :: suf) (hl : l.length ≤ maxLen) : wrap64 ((pre.length : Int) + 1) = ((pre ++ [a]).length : Int) := by
  have : l.length = pre.length + 1 + suf.length := by subst h; simp; omega
  rw [maxLen_eq] at hl
  rw [wrap_id (by omega) (by omega)]
  simp
theorem snoc_at (h : l = pre ++ a :: suf) : l = (pre ++ [a]) ++ suf := by subst h; simp
theorem end_at (h : l = pre ++ []) : ¬ ((pre.length : Nat) : Int) < (l.length : Int) := by subst h; simp
theorem nonneg_at (n : Nat) : (0 : Int) ≤ (n : Int) := Int.natCast_nonneg n
end
def IntOk (x : Int) : Prop := -9223372036854775808 ≤ x ∧ x < 9223372036854775808
theorem eq_loop {α : Type} [DecidableEq α] {a b : List α} (g : Nat → Int → Option Bool)
    (hend : Ev (fun k => g k a.length) true)
    (hstep : ∀ pre x su pre' y sv, a = pre ++ x :: su → b = pre' ++ y :: sv → pre.length = pre'.length → (x ≠ y → Ev (fun k => g k (pre.length : Int)) false) ∧ (x = y → ∀ r, Ev (fun k => g k ((pre ++ [x]).length : Int)) r → Ev (fun k => g k (pre.length : Int)) r)) :
    ∀ (su sv pu pv : List α), a = pu ++ su → b = pv ++ sv → pu.length = pv.length → su.length = sv.length → Ev (fun k => g k (pu.length : Int)) (decide (su = sv)) := by
  intro su
  induction su with
  | nil =>
    intro sv pu pv h h' hp hs
    obtain rfl : sv = [] := by simpa using hs.symm
    rw [h, List.append_nil] at hend
    exact hend
  | cons x su ih =>
    intro sv pu pv h h' hp hs
    cases sv with
    | nil => simp at hs
    | cons y sv =>
      obtain ⟨h1, h2⟩ := hstep pu x su pv y sv h h' hp
      by_cases e : x = y
      · have h3 := h2 e _ (ih sv (pu ++ [x]) (pv ++ [y]) (snoc_at h) (snoc_at h') (by simp [hp]) (by simpa using hs))
        simp only [e, List.cons.injEq, true_and]
        exact h3
      · rw [show decide (x :: su = y :: sv) = false from decide_eq_false (fun h => e (List.cons.inj h).1)]
        exact h1 e
theorem ev_ite {α : Type} {p : Prop} [Decidable p] {g f : Nat → Option α} {r s : α} (h : p → Ev g r) (h' : ¬ p → Ev f s) : Ev (fun k => if p then g k else f k) (if p then r else s) := by
  by_cases e : p
  · simp only [if_pos e]; exact h e
  · simp only [if_neg e]; exact h' e
theorem ev_cast {α : Type} {g : Nat → Option α} {r s : α} (h : Ev g r) (e : r = s) : Ev g s := e ▸ h
end Go.Proofs.YtigoeooelfeopaaGreatDoor.L

/- Conditions as they are: read, and of a bounded size. No condition. -/
set_option linter.unusedSimpArgs false
set_option linter.unusedVariables false
namespace Go.Proofs.YtigoeooelfeopaaGreatDoor.L
open Go.RowKit Go.Proofs.YtigoeooelfeopaaGreatDoorW.PrintWords Go.Proofs.YtigoeooelfeopaaGreatDoorW.PrintLast Go.Proofs.YtigoeooelfeopaaGreatDoor.Q
instance : DecidableEq S43 := fun a b => if h : a.f0 = b.f0 ∧ a.f1 = b.f1 ∧ a.f2 = b.f2 then .isTrue (by cases a; cases b; simp_all) else .isFalse (fun e => h (by rw [e]; exact ⟨rfl, rfl, rfl⟩))
theorem rd_implCond {l pre suf : List S43} {a : S43} (h : l = pre ++ a :: suf) : rd_T43 l (pre.length : Int) = a := getD_at _ h
def SmCond (p : S43) : Prop := True ∧ IntOk p.f1 ∧ p.f2.size ≤ 1048576
def SmConds (l : List S43) : Prop := l.length ≤ 1048576 ∧ ∀ p ∈ l, SmCond p
theorem rd_implCondL {l pre suf : List (List S43)} {a : List S43} (h : l = pre ++ a :: suf) : rd_L5 l (pre.length : Int) = a := getD_at _ h
def SmCondss (l : List (List S43)) : Prop := l.length ≤ 1048576 ∧ ∀ s ∈ l, SmConds s
end Go.Proofs.YtigoeooelfeopaaGreatDoor.L
