-- PRINTED by print.py (a twelfth state) out of the translation. Not trusted: Lean checks it.
import Derived.Test.YteabkidfgdmmpaaVFnTreesBentG26
namespace Go.Proofs.Yteabkidfgdmmpaa.Q
open Go.RowKit Go.Proofs.YteabkidfgdmmpaaW.PrintWords Go.Proofs.YteabkidfgdmmpaaW.PrintLast Go.Proofs.YteabkidfgdmmpaaW.PrintMore
attribute [local go_sem] max2_int min2_int max_two min_two max_three min_three max_four min_four   -- for this text's walks alone
set_option linter.unusedVariables false
set_option linter.unusedSimpArgs false
def impl_TreeOk.l0 : Nat → List (S59) → List (S59) → Int → Int → Option (Bool)
 | 0, _, _, _, _ => none
 | k + 1, x0, x5, x6, x7 => if x7 < x6 then (if 0 ≤ x7 then (if x7 < (x5.length : Int) then ((impl_resOk.f k ((rd_T59 x5 x7).f0) ((rd_T59 x5 x7).f1) ((rd_T59 x5 x7).f2) ((rd_T59 x5 x7).f3) ((rd_T59 x5 x7).f4)).bind fun t614 => (if t614 = true then (if x7 > 0 then (if 0 ≤ (wrap64 (x7 - 1)) then (if (wrap64 (x7 - 1)) < (x0.length : Int) then ((impl_LessPath.f k ((rd_T59 x0 (wrap64 (x7 - 1))).f0) ((rd_T59 x5 x7).f0)).bind fun t616 => (if t616 = true then ((impl_Above.f ((rd_T59 x5 x7).f0)).bind fun t617 => ((impl_IsColl.f k x0 t617).bind fun t620 => (if t620 = true then (impl_TreeOk.l0 k x0 x5 x6 (wrap64 (x7 + 1))) else (some false)))) else (some false))) else (none)) else (none)) else ((impl_Above.f ((rd_T59 x5 x7).f0)).bind fun t621 => ((impl_IsColl.f k x0 t621).bind fun t624 => (if t624 = true then (impl_TreeOk.l0 k x0 x5 x6 (wrap64 (x7 + 1))) else (some false))))) else (some false))) else (none)) else (none)) else (some (decide ((x0.length : Int) ≤ 12)))
def impl_TreeOk.f (k : Nat) (l0 : List (S59)) : Option (Bool) := impl_TreeOk.l0 k l0 l0 (l0.length : Int) 0
def impl_TreeOk.T4 : Bool × List (List Nat × List Nat) := (true, [([], []), ([0], [0]), ([1], [1]), ([2, 1], [2]), ([3], [3]), ([4, 3], [3, 4]), ([5, 3, 3], [3, 5]), ([6], [6]), ([6], [6]), ([8, 6], [6, 8]), ([7, 9, 6], [6, 7, 9]), ([10, 6], [6, 10]), ([11, 6], [6, 11]), ([6], [6]), ([13, 6], [6, 13]), ([12, 14, 6, 6], [6, 12, 14]), ([15, 6], [6, 15]), ([6, 16, 3], [3, 6, 16]), ([3, 17], [3, 17]), ([18, 15], [18]), ([19], [19]), ([19], [19]), ([21, 19], [19, 21]), ([22, 19, 19], [19, 22]), ([20, 23, 23, 19], [19, 20, 23]), ([24, 19], [19, 24]), ([19, 25], [19, 25])])
def impl_TreeOk.B4 : List Nat := [0, 1, 3, 7, 15, 31, 63, 127, 127, 383, 1023, 2047, 4095, 127, 8319, 32767, 65535, 131071, 262143, 524287, 1048575, 1048575, 3145727, 7340031, 16777215, 33554431, 67108863]
theorem impl_TreeOk.tab4 : rtab .any (opsOf Try.f50 4) = impl_TreeOk.T4 := by kernel_rfl
theorem impl_TreeOk.bits4 : waitsOk impl_TreeOk.T4.2 impl_TreeOk.B4 = true := by kernel_rfl
set_option maxHeartbeats 8000000 in
set_option maxRecDepth 100000 in
theorem impl_TreeOk.calls (k : Nat) (A0 : Option Addr) (c0 : Nat) (l0 : List (S59)) (r : Bool) (w : World) (hr0 : Kd.C k59 w A0 l0.length l0) (hc0 : l0.length ≤ c0) (h : impl_TreeOk.f k l0 = some r) :
 Calls Try.prog 50 #[.slice A0 l0.length c0] w fun e w' => e = .returned (.bool r) ∧ Below w.heap.size w w' := by
 have hu59 := Try.underlying59
 have HR0 := A_ hr0
 have HC0 := A_ hc0
 clear hr0 hc0
 have HB := A_ (Below.refl w.heap.size w)
 have H : (impl_TreeOk.l0 k l0 l0 (l0.length : Int) 0) = some r := h
 clear h
 have H' := A_ H
 clear H
 go_enter Try.func50, Try.ntmps50
 go_wp2
 go_loopg [7] k (fun kq v7 w' => ∃ (x7_1 : Int), v7 = .int .i64 x7_1 ∧ Aside0 (impl_TreeOk.l0 kq l0 l0 (l0.length : Int) x7_1 = some r) ∧ Aside0 (kq ≤ k) ∧ Aside0 (Below w.heap.size w w'))
 case atStart => exact ⟨(0), rs_, H', ⟨Nat.le_refl _⟩, ⟨bB_⟩⟩
 case round =>
  clear H'
  obtain ⟨x7_1, rfl, HA, HK1, HB⟩ := hrel
  cases gk with
  | zero => exact absurd HA.out (by simp [impl_TreeOk.l0])
  | succ k1 =>
   have H := HA.out
   clear HA
   simp only [impl_TreeOk.l0] at H
   by_cases c2 : x7_1 < (l0.length : Int)
   rotate_left
   · rw [if_neg c2] at H
     have c2b0 : decide (x7_1 < (l0.length : Int)) = false := decide_eq_false c2
     clear c2
     obtain rfl := si_ H
     go_wp2
     go_ret
     exact ⟨rr_, bB_⟩
   rw [if_pos c2] at H
   have c2b0 : decide (x7_1 < (l0.length : Int)) = true := decide_eq_true c2
   clear c2
   by_cases c3 : 0 ≤ x7_1
   rotate_left
   · exact absurd H (by rw [if_neg c3]; simp)
   rw [if_pos c3] at H
   have c3b0 : decide (0 ≤ x7_1) = true := decide_eq_true c3
   clear c3
   by_cases c4 : x7_1 < (l0.length : Int)
   rotate_left
   · exact absurd H (by rw [if_neg c4]; simp)
   rw [if_pos c4] at H
   have c4b0 : decide (x7_1 < (l0.length : Int)) = true := decide_eq_true c4
   clear c4
   obtain ⟨t614, A5, H⟩ := bo_ H
   (try dsimp only at H)
   by_cases c6 : t614 = true
   · subst c6
     rw [if_pos rfl] at H
     by_cases c7 : x7_1 > 0
     rotate_left
     · rw [if_neg c7] at H
       have c7b0 : decide (0 < x7_1) = false := decide_eq_false c7
       clear c7
       obtain ⟨t621, A37, H⟩ := bo_ H
       (try dsimp only at H)
       obtain ⟨t624, A38, H⟩ := bo_ H
       (try dsimp only at H)
       by_cases c39 : t624 = true
       · subst c39
         rw [if_pos rfl] at H
         have H' := A_ H
         clear H
         have p612 : 0 ≤ (x7_1 : Int) := od_
         have q612 : x7_1 < (l0.length : Int) := od_
         obtain ⟨ad612, A612_0, c612_0, A612_4, c612_4, e612, hx612_0, hx612_1, hx612_2, hx612_3, hx612_4, hl612_0, hi612_0, hl612_4, hi612_4⟩ := at_T59 HR0.out x7_1 p612 q612
         cases e612
         replace hx612_0 := bc_ HB.out hx612_0
         replace hx612_1 := bc_ HB.out hx612_1
         replace hx612_2 := bc_ HB.out hx612_2
         replace hx612_3 := bc_ HB.out hx612_3
         replace hx612_4 := bc_ HB.out hx612_4
         have HR612_0 := A_ hi612_0
         have HC612_0 := A_ hl612_0
         clear hi612_0 hl612_0
         have HR612_4 := A_ hi612_4
         have HC612_4 := A_ hl612_4
         clear hi612_4 hl612_4
         replace p612 := eq_true p612
         replace q612 := eq_true q612
         try go_wp2_with (first | ((with_reducible refine gd_ (N := 4) rfl ?_); refine bx_ (N := 4) (cs := #[.slice none 0 0, .bool false, .string (⟨#[]⟩ : ByteArray), .int .i64 0, .slice none 0 0]) (t := 59) ?_; intro gb613 hg w40 hbox hb; have BK613 := A_ (hbox); have GW613 := A_ (ge_ hg bB_ : w.heap.size ≤ gb613); have GE613 := A_ (ge_ hg bB_ : w.heap.size ≤ gb613); replace HB := A_ (below_step bB_ hb); clear hb hbox hg; obtain ⟨hcz41_0, hcz41_1, hcz41_2, hcz41_3, hcz41_4, hfz41_0, hfz41_1, hfz41_2, hfz41_3, hfz41_4⟩ := cz5_ BK613.out))
         have n0_ : Aside0 ((((((w40.setCell ⟨gb613, 0, none⟩ (.slice A612_0 ((rd_T59 l0 x7_1).f0).length c612_0)).setCell ⟨gb613, 1, none⟩ (.bool ((rd_T59 l0 x7_1).f1))).setCell ⟨gb613, 2, none⟩ (.string ((rd_T59 l0 x7_1).f2))).setCell ⟨gb613, 3, none⟩ (.int .i64 ((rd_T59 l0 x7_1).f3))).setCell ⟨gb613, 4, none⟩ (.slice A612_4 ((rd_T59 l0 x7_1).f4).length c612_4)).heap[gb613]? = some (.cells #[.slice A612_0 ((rd_T59 l0 x7_1).f0).length c612_0, .bool ((rd_T59 l0 x7_1).f1), .string ((rd_T59 l0 x7_1).f2), .int .i64 ((rd_T59 l0 x7_1).f3), .slice A612_4 ((rd_T59 l0 x7_1).f4).length c612_4] 59 (0, 0))) := ⟨by (with_reducible repeat (first | refine blk_drewN ?_ _ | refine blk_drew ?_ | refine blk_alloc ?_ _)); refine blk_put (cs := #[.slice A612_0 ((rd_T59 l0 x7_1).f0).length c612_0, .bool ((rd_T59 l0 x7_1).f1), .string ((rd_T59 l0 x7_1).f2), .int .i64 ((rd_T59 l0 x7_1).f3), .slice none 0 0]) ?_ 4 _ rfl; (with_reducible repeat (first | refine blk_drewN ?_ _ | refine blk_drew ?_ | refine blk_alloc ?_ _)); refine blk_put (cs := #[.slice A612_0 ((rd_T59 l0 x7_1).f0).length c612_0, .bool ((rd_T59 l0 x7_1).f1), .string ((rd_T59 l0 x7_1).f2), .int .i64 0, .slice none 0 0]) ?_ 3 _ rfl; (with_reducible repeat (first | refine blk_drewN ?_ _ | refine blk_drew ?_ | refine blk_alloc ?_ _)); refine blk_put (cs := #[.slice A612_0 ((rd_T59 l0 x7_1).f0).length c612_0, .bool ((rd_T59 l0 x7_1).f1), .string (⟨#[]⟩ : ByteArray), .int .i64 0, .slice none 0 0]) ?_ 2 _ rfl; (with_reducible repeat (first | refine blk_drewN ?_ _ | refine blk_drew ?_ | refine blk_alloc ?_ _)); refine blk_put (cs := #[.slice A612_0 ((rd_T59 l0 x7_1).f0).length c612_0, .bool false, .string (⟨#[]⟩ : ByteArray), .int .i64 0, .slice none 0 0]) ?_ 1 _ rfl; (with_reducible repeat (first | refine blk_drewN ?_ _ | refine blk_drew ?_ | refine blk_alloc ?_ _)); refine blk_put (cs := #[.slice none 0 0, .bool false, .string (⟨#[]⟩ : ByteArray), .int .i64 0, .slice none 0 0]) ?_ 0 _ rfl; (with_reducible repeat (first | refine blk_drewN ?_ _ | refine blk_drew ?_ | refine blk_alloc ?_ _)); exact BK613.out⟩
         have n1_ : Aside0 (Below w.heap.size w (((((w40.setCell ⟨gb613, 0, none⟩ (.slice A612_0 ((rd_T59 l0 x7_1).f0).length c612_0)).setCell ⟨gb613, 1, none⟩ (.bool ((rd_T59 l0 x7_1).f1))).setCell ⟨gb613, 2, none⟩ (.string ((rd_T59 l0 x7_1).f2))).setCell ⟨gb613, 3, none⟩ (.int .i64 ((rd_T59 l0 x7_1).f3))).setCell ⟨gb613, 4, none⟩ (.slice A612_4 ((rd_T59 l0 x7_1).f4).length c612_4))) := ⟨bG_ GE613.out⟩
         (try clear BK613)
         (try clear HB)
         generalize (((((w40.setCell ⟨gb613, 0, none⟩ (.slice A612_0 ((rd_T59 l0 x7_1).f0).length c612_0)).setCell ⟨gb613, 1, none⟩ (.bool ((rd_T59 l0 x7_1).f1))).setCell ⟨gb613, 2, none⟩ (.string ((rd_T59 l0 x7_1).f2))).setCell ⟨gb613, 3, none⟩ (.int .i64 ((rd_T59 l0 x7_1).f3))).setCell ⟨gb613, 4, none⟩ (.slice A612_4 ((rd_T59 l0 x7_1).f4).length c612_4)) = w42 at n0_ n1_ ⊢
         have BK613 := n0_
         have HB := n1_
         clear n0_ n1_
         replace BK613 := A_ (blk_drew BK613.out)
         replace HB := A_ (below_drew1 HB.out)
         refine start_ (n := 27) (S := fun w' => w'.cell? ⟨gb613, 0, none⟩ = some (.slice A612_0 ((rd_T59 l0 x7_1).f0).length c612_0) ∧ w'.cell? ⟨gb613, 1, none⟩ = some (.bool ((rd_T59 l0 x7_1).f1)) ∧ w'.cell? ⟨gb613, 2, none⟩ = some (.string ((rd_T59 l0 x7_1).f2)) ∧ w'.cell? ⟨gb613, 3, none⟩ = some (.int .i64 ((rd_T59 l0 x7_1).f3)) ∧ w'.cell? ⟨gb613, 4, none⟩ = some (.slice A612_4 ((rd_T59 l0 x7_1).f4).length c612_4)) (ds := []) #[false, false, false, false, false, false, false, false, false, false, false, false, false, false, false, false, false, false, false, false, false, false, false, false, false, false, false] (by kernel_rfl) rfl rfl (hl_ BK613.out) (fun hHeld => ?_); refine with_tabW impl_TreeOk.tab4 impl_TreeOk.bits4 (fun HT_ HW_ => ?_)
         generalize w42.drew = w43 at BK613 HB hHeld ⊢
         refine tk_ (i := 0) (N := some 12) hHeld ?_
         refine on_ (i := 1) (N := some 13) (fun K hK => ?_)
         refine goes_ Try.func84 (by kernel_rfl) rfl #[.agg #[.slice A612_0 ((rd_T59 l0 x7_1).f0).length c612_0, .bool ((rd_T59 l0 x7_1).f1), .string ((rd_T59 l0 x7_1).f2), .int .i64 ((rd_T59 l0 x7_1).f3), .slice A612_4 ((rd_T59 l0 x7_1).f4).length c612_4]] (by rfl) rfl rfl ml_ ?_
         with_reducible refine (impl_resOk.calls k1 _ _ ((rd_T59 l0 x7_1).f0) ((rd_T59 l0 x7_1).f1) ((rd_T59 l0 x7_1).f2) ((rd_T59 l0 x7_1).f3) _ _ ((rd_T59 l0 x7_1).f4) true _ ?s1 ?s2 ?s3 ?s4 A5.out).mono ?_
         (case s1 => exact cC_ (Kd.C_below HR612_0.out HB.out))
         (case s2 => exact HC612_0.out)
         (case s3 => exact cC_ (Kd.C_below HR612_4.out HB.out))
         (case s4 => exact HC612_4.out)
         rintro e w44 ⟨rfl, hb⟩
         refine ⟨_, rfl, ?_⟩
         replace BK613 := A_ (bw_ BK613.out hb)
         replace HB := A_ (below_step (bG_ GE613.out) hb)
         (try clear hb)
         (try clear hb2)
         (try clear hk)
         (try clear hi)
         refine hK.out _ _ (hl_ BK613.out) (fun hHeld => ?_)
         clear hK K
         refine no_ (some 13) ?_
         refine pu_ (i := 2) (N := some 14) ?_
         refine pu_ (i := 3) (N := some 15) ?_
         refine pu_ (i := 4) (N := some 16) ?_
         refine pu_ (i := 5) (N := some 17) ?_
         refine pu_ (i := 6) (N := some 18) ?_
         refine pn_ (i := 7) (N := some 19) ?_
         refine pn_ (i := 8) (N := some 20) ?_
         refine pn_ (i := 9) (N := some 21) ?_
         refine pn_ (i := 10) (N := some 22) ?_
         refine pn_ (i := 11) (N := some 23) ?_
         refine pn_ (i := 12) (N := some 24) ?_
         refine pn_ (i := 13) (N := some 25) ?_
         refine pn_ (i := 14) (N := some 26) ?_
         refine pn_ (i := 15) (N := some 27) ?_
         refine pn_ (i := 16) (N := some 28) ?_
         refine pu_ (i := 17) (N := some 29) ?_
         refine pu_ (i := 18) (N := some 30) ?_
         refine pu_ (i := 19) (N := some 31) ?_
         refine pu_ (i := 20) (N := some 32) ?_
         refine pu_ (i := 21) (N := some 33) ?_
         refine tk_ (i := 22) (N := some 34) hHeld ?_
         refine on_ (i := 23) (N := some 35) (fun K hK => ?_)
         refine goes_ Try.func21 (by kernel_rfl) rfl #[.slice A612_0 ((rd_T59 l0 x7_1).f0).length c612_0] (by rfl) rfl rfl ml_ ?_
         with_reducible refine (impl_Above.calls _ _ ((rd_T59 l0 x7_1).f0) t621 _ ?s1 ?s2 A37.out).mono ?_
         (case s1 => exact cC_ (Kd.C_below HR612_0.out HB.out))
         (case s2 => exact HC612_0.out)
         rintro e w45 ⟨v622, rfl, ho0, hb⟩
         refine ⟨_, rfl, ?_⟩
         have HO623 := A_ (Kd.R_lower ho0 (below_size (bG_ GE613.out)))
         replace BK613 := A_ (bw_ BK613.out hb)
         replace HB := A_ (below_step (bG_ GE613.out) hb)
         (try clear hb)
         (try clear hb2)
         (try clear hk)
         (try clear hi)
         (try clear ho0)
         obtain ⟨Ao46, co46, eo46⟩ := Kd.R_slice HO623.out
         (first | subst eo46 | (injection eo46 with f1_ f2_ f3_; have f4_ := f1_.symm; have f5_ := f3_.symm; clear f1_ f2_ f3_; subst f4_; subst f5_))
         refine hK.out _ _ (hl_ BK613.out) (fun hHeld => ?_)
         clear hK K
         refine no_ (some 35) ?_
         refine on_ (i := 24) (N := some 36) (fun K hK => ?_)
         refine goes_ Try.func39 (by kernel_rfl) rfl #[.slice (some ad612) l0.length c0, .slice Ao46 t621.length co46] (by rfl) rfl rfl ml_ ?_
         with_reducible refine (impl_IsColl.calls k1 _ _ l0 _ _ t621 true _ ?s1 ?s2 ?s3 ?s4 A38.out).mono ?_
         (case s1 => exact cC_ (Kd.C_below HR0.out HB.out))
         (case s2 => exact HC0.out)
         (case s3 => exact cC_ (Kd.R_reads' HO623.out).2.2)
         (case s4 => exact (Kd.R_reads' HO623.out).2.1)
         rintro e w47 ⟨rfl, hb⟩
         refine ⟨_, rfl, ?_⟩
         replace HO623 := A_ (Kd.R_below (vR_ HO623.out) hb)
         replace BK613 := A_ (bw_ BK613.out hb)
         replace HB := A_ (below_step (bG_ GE613.out) hb)
         (try clear hb)
         (try clear hb2)
         (try clear hk)
         (try clear hi)
         refine hK.out _ _ (hl_ BK613.out) (fun hHeld => ?_)
         clear hK K
         refine no_ (some 36) ?_
         refine pu_ (i := 25) (N := some 37) ?_
         refine pu_ (i := 26) (N := some 38) ?_
         refine done_ (done_of HT_.out (by kernel_rfl)) ?_
         (try clear hHeld)
         try go_wp2
         go_roundg k1
         case measure => have := HK1.out; omega
         case rel => exact ⟨(wrap64 (x7_1 + 1)), rs_, H', ⟨by have := HK1.out; omega⟩, ⟨bG_ GE613.out⟩⟩
       · replace c39 := Bool.eq_false_iff.mpr c39
         subst c39
         rw [if_neg nf_] at H
         obtain rfl := si_ H
         have p612 : 0 ≤ (x7_1 : Int) := od_
         have q612 : x7_1 < (l0.length : Int) := od_
         obtain ⟨ad612, A612_0, c612_0, A612_4, c612_4, e612, hx612_0, hx612_1, hx612_2, hx612_3, hx612_4, hl612_0, hi612_0, hl612_4, hi612_4⟩ := at_T59 HR0.out x7_1 p612 q612
         cases e612
         replace hx612_0 := bc_ HB.out hx612_0
         replace hx612_1 := bc_ HB.out hx612_1
         replace hx612_2 := bc_ HB.out hx612_2
         replace hx612_3 := bc_ HB.out hx612_3
         replace hx612_4 := bc_ HB.out hx612_4
         have HR612_0 := A_ hi612_0
         have HC612_0 := A_ hl612_0
         clear hi612_0 hl612_0
         have HR612_4 := A_ hi612_4
         have HC612_4 := A_ hl612_4
         clear hi612_4 hl612_4
         replace p612 := eq_true p612
         replace q612 := eq_true q612
         try go_wp2_with (first | ((with_reducible refine gd_ (N := 4) rfl ?_); refine bx_ (N := 4) (cs := #[.slice none 0 0, .bool false, .string (⟨#[]⟩ : ByteArray), .int .i64 0, .slice none 0 0]) (t := 59) ?_; intro gb613 hg w48 hbox hb; have BK613 := A_ (hbox); have GW613 := A_ (ge_ hg bB_ : w.heap.size ≤ gb613); have GE613 := A_ (ge_ hg bB_ : w.heap.size ≤ gb613); replace HB := A_ (below_step bB_ hb); clear hb hbox hg; obtain ⟨hcz49_0, hcz49_1, hcz49_2, hcz49_3, hcz49_4, hfz49_0, hfz49_1, hfz49_2, hfz49_3, hfz49_4⟩ := cz5_ BK613.out))
         have n0_ : Aside0 ((((((w48.setCell ⟨gb613, 0, none⟩ (.slice A612_0 ((rd_T59 l0 x7_1).f0).length c612_0)).setCell ⟨gb613, 1, none⟩ (.bool ((rd_T59 l0 x7_1).f1))).setCell ⟨gb613, 2, none⟩ (.string ((rd_T59 l0 x7_1).f2))).setCell ⟨gb613, 3, none⟩ (.int .i64 ((rd_T59 l0 x7_1).f3))).setCell ⟨gb613, 4, none⟩ (.slice A612_4 ((rd_T59 l0 x7_1).f4).length c612_4)).heap[gb613]? = some (.cells #[.slice A612_0 ((rd_T59 l0 x7_1).f0).length c612_0, .bool ((rd_T59 l0 x7_1).f1), .string ((rd_T59 l0 x7_1).f2), .int .i64 ((rd_T59 l0 x7_1).f3), .slice A612_4 ((rd_T59 l0 x7_1).f4).length c612_4] 59 (0, 0))) := ⟨by (with_reducible repeat (first | refine blk_drewN ?_ _ | refine blk_drew ?_ | refine blk_alloc ?_ _)); refine blk_put (cs := #[.slice A612_0 ((rd_T59 l0 x7_1).f0).length c612_0, .bool ((rd_T59 l0 x7_1).f1), .string ((rd_T59 l0 x7_1).f2), .int .i64 ((rd_T59 l0 x7_1).f3), .slice none 0 0]) ?_ 4 _ rfl; (with_reducible repeat (first | refine blk_drewN ?_ _ | refine blk_drew ?_ | refine blk_alloc ?_ _)); refine blk_put (cs := #[.slice A612_0 ((rd_T59 l0 x7_1).f0).length c612_0, .bool ((rd_T59 l0 x7_1).f1), .string ((rd_T59 l0 x7_1).f2), .int .i64 0, .slice none 0 0]) ?_ 3 _ rfl; (with_reducible repeat (first | refine blk_drewN ?_ _ | refine blk_drew ?_ | refine blk_alloc ?_ _)); refine blk_put (cs := #[.slice A612_0 ((rd_T59 l0 x7_1).f0).length c612_0, .bool ((rd_T59 l0 x7_1).f1), .string (⟨#[]⟩ : ByteArray), .int .i64 0, .slice none 0 0]) ?_ 2 _ rfl; (with_reducible repeat (first | refine blk_drewN ?_ _ | refine blk_drew ?_ | refine blk_alloc ?_ _)); refine blk_put (cs := #[.slice A612_0 ((rd_T59 l0 x7_1).f0).length c612_0, .bool false, .string (⟨#[]⟩ : ByteArray), .int .i64 0, .slice none 0 0]) ?_ 1 _ rfl; (with_reducible repeat (first | refine blk_drewN ?_ _ | refine blk_drew ?_ | refine blk_alloc ?_ _)); refine blk_put (cs := #[.slice none 0 0, .bool false, .string (⟨#[]⟩ : ByteArray), .int .i64 0, .slice none 0 0]) ?_ 0 _ rfl; (with_reducible repeat (first | refine blk_drewN ?_ _ | refine blk_drew ?_ | refine blk_alloc ?_ _)); exact BK613.out⟩
         have n1_ : Aside0 (Below w.heap.size w (((((w48.setCell ⟨gb613, 0, none⟩ (.slice A612_0 ((rd_T59 l0 x7_1).f0).length c612_0)).setCell ⟨gb613, 1, none⟩ (.bool ((rd_T59 l0 x7_1).f1))).setCell ⟨gb613, 2, none⟩ (.string ((rd_T59 l0 x7_1).f2))).setCell ⟨gb613, 3, none⟩ (.int .i64 ((rd_T59 l0 x7_1).f3))).setCell ⟨gb613, 4, none⟩ (.slice A612_4 ((rd_T59 l0 x7_1).f4).length c612_4))) := ⟨bG_ GE613.out⟩
         (try clear BK613)
         (try clear HB)
         generalize (((((w48.setCell ⟨gb613, 0, none⟩ (.slice A612_0 ((rd_T59 l0 x7_1).f0).length c612_0)).setCell ⟨gb613, 1, none⟩ (.bool ((rd_T59 l0 x7_1).f1))).setCell ⟨gb613, 2, none⟩ (.string ((rd_T59 l0 x7_1).f2))).setCell ⟨gb613, 3, none⟩ (.int .i64 ((rd_T59 l0 x7_1).f3))).setCell ⟨gb613, 4, none⟩ (.slice A612_4 ((rd_T59 l0 x7_1).f4).length c612_4)) = w50 at n0_ n1_ ⊢
         have BK613 := n0_
         have HB := n1_
         clear n0_ n1_
         replace BK613 := A_ (blk_drew BK613.out)
         replace HB := A_ (below_drew1 HB.out)
         refine start_ (n := 27) (S := fun w' => w'.cell? ⟨gb613, 0, none⟩ = some (.slice A612_0 ((rd_T59 l0 x7_1).f0).length c612_0) ∧ w'.cell? ⟨gb613, 1, none⟩ = some (.bool ((rd_T59 l0 x7_1).f1)) ∧ w'.cell? ⟨gb613, 2, none⟩ = some (.string ((rd_T59 l0 x7_1).f2)) ∧ w'.cell? ⟨gb613, 3, none⟩ = some (.int .i64 ((rd_T59 l0 x7_1).f3)) ∧ w'.cell? ⟨gb613, 4, none⟩ = some (.slice A612_4 ((rd_T59 l0 x7_1).f4).length c612_4)) (ds := []) #[false, false, false, false, false, false, false, false, false, false, false, false, false, false, false, false, false, false, false, false, false, false, false, false, false, false, false] (by kernel_rfl) rfl rfl (hl_ BK613.out) (fun hHeld => ?_); refine with_tabW impl_TreeOk.tab4 impl_TreeOk.bits4 (fun HT_ HW_ => ?_)
         generalize w50.drew = w51 at BK613 HB hHeld ⊢
         refine tk_ (i := 0) (N := some 12) hHeld ?_
         refine on_ (i := 1) (N := some 13) (fun K hK => ?_)
         refine goes_ Try.func84 (by kernel_rfl) rfl #[.agg #[.slice A612_0 ((rd_T59 l0 x7_1).f0).length c612_0, .bool ((rd_T59 l0 x7_1).f1), .string ((rd_T59 l0 x7_1).f2), .int .i64 ((rd_T59 l0 x7_1).f3), .slice A612_4 ((rd_T59 l0 x7_1).f4).length c612_4]] (by rfl) rfl rfl ml_ ?_
         with_reducible refine (impl_resOk.calls k1 _ _ ((rd_T59 l0 x7_1).f0) ((rd_T59 l0 x7_1).f1) ((rd_T59 l0 x7_1).f2) ((rd_T59 l0 x7_1).f3) _ _ ((rd_T59 l0 x7_1).f4) true _ ?s1 ?s2 ?s3 ?s4 A5.out).mono ?_
         (case s1 => exact cC_ (Kd.C_below HR612_0.out HB.out))
         (case s2 => exact HC612_0.out)
         (case s3 => exact cC_ (Kd.C_below HR612_4.out HB.out))
         (case s4 => exact HC612_4.out)
         rintro e w52 ⟨rfl, hb⟩
         refine ⟨_, rfl, ?_⟩
         replace BK613 := A_ (bw_ BK613.out hb)
         replace HB := A_ (below_step (bG_ GE613.out) hb)
         (try clear hb)
         (try clear hb2)
         (try clear hk)
         (try clear hi)
         refine hK.out _ _ (hl_ BK613.out) (fun hHeld => ?_)
         clear hK K
         refine no_ (some 13) ?_
         refine pu_ (i := 2) (N := some 14) ?_
         refine pu_ (i := 3) (N := some 15) ?_
         refine pu_ (i := 4) (N := some 16) ?_
         refine pu_ (i := 5) (N := some 17) ?_
         refine pu_ (i := 6) (N := some 18) ?_
         refine pn_ (i := 7) (N := some 19) ?_
         refine pn_ (i := 8) (N := some 20) ?_
         refine pn_ (i := 9) (N := some 21) ?_
         refine pn_ (i := 10) (N := some 22) ?_
         refine pn_ (i := 11) (N := some 23) ?_
         refine pn_ (i := 12) (N := some 24) ?_
         refine pn_ (i := 13) (N := some 25) ?_
         refine pn_ (i := 14) (N := some 26) ?_
         refine pn_ (i := 15) (N := some 27) ?_
         refine pn_ (i := 16) (N := some 28) ?_
         refine pu_ (i := 17) (N := some 29) ?_
         refine pu_ (i := 18) (N := some 30) ?_
         refine pu_ (i := 19) (N := some 31) ?_
         refine pu_ (i := 20) (N := some 32) ?_
         refine pu_ (i := 21) (N := some 33) ?_
         refine tk_ (i := 22) (N := some 34) hHeld ?_
         refine on_ (i := 23) (N := some 35) (fun K hK => ?_)
         refine goes_ Try.func21 (by kernel_rfl) rfl #[.slice A612_0 ((rd_T59 l0 x7_1).f0).length c612_0] (by rfl) rfl rfl ml_ ?_
         with_reducible refine (impl_Above.calls _ _ ((rd_T59 l0 x7_1).f0) t621 _ ?s1 ?s2 A37.out).mono ?_
         (case s1 => exact cC_ (Kd.C_below HR612_0.out HB.out))
         (case s2 => exact HC612_0.out)
         rintro e w53 ⟨v622, rfl, ho0, hb⟩
         refine ⟨_, rfl, ?_⟩
         have HO623 := A_ (Kd.R_lower ho0 (below_size (bG_ GE613.out)))
         replace BK613 := A_ (bw_ BK613.out hb)
         replace HB := A_ (below_step (bG_ GE613.out) hb)
         (try clear hb)
         (try clear hb2)
         (try clear hk)
         (try clear hi)
         (try clear ho0)
         obtain ⟨Ao54, co54, eo54⟩ := Kd.R_slice HO623.out
         (first | subst eo54 | (injection eo54 with f1_ f2_ f3_; have f4_ := f1_.symm; have f5_ := f3_.symm; clear f1_ f2_ f3_; subst f4_; subst f5_))
         refine hK.out _ _ (hl_ BK613.out) (fun hHeld => ?_)
         clear hK K
         refine no_ (some 35) ?_
         refine on_ (i := 24) (N := some 36) (fun K hK => ?_)
         refine goes_ Try.func39 (by kernel_rfl) rfl #[.slice (some ad612) l0.length c0, .slice Ao54 t621.length co54] (by rfl) rfl rfl ml_ ?_
         with_reducible refine (impl_IsColl.calls k1 _ _ l0 _ _ t621 false _ ?s1 ?s2 ?s3 ?s4 A38.out).mono ?_
         (case s1 => exact cC_ (Kd.C_below HR0.out HB.out))
         (case s2 => exact HC0.out)
         (case s3 => exact cC_ (Kd.R_reads' HO623.out).2.2)
         (case s4 => exact (Kd.R_reads' HO623.out).2.1)
         rintro e w55 ⟨rfl, hb⟩
         refine ⟨_, rfl, ?_⟩
         replace HO623 := A_ (Kd.R_below (vR_ HO623.out) hb)
         replace BK613 := A_ (bw_ BK613.out hb)
         replace HB := A_ (below_step (bG_ GE613.out) hb)
         (try clear hb)
         (try clear hb2)
         (try clear hk)
         (try clear hi)
         refine hK.out _ _ (hl_ BK613.out) (fun hHeld => ?_)
         clear hK K
         refine no_ (some 36) ?_
         refine pu_ (i := 25) (N := some 37) ?_
         refine pu_ (i := 26) (N := some 38) ?_
         refine done_ (done_of HT_.out (by kernel_rfl)) ?_
         (try clear hHeld)
         try go_wp2
         go_ret
         exact ⟨rr_, bG_ GE613.out⟩
     rw [if_pos c7] at H
     have c7b0 : decide (0 < x7_1) = true := decide_eq_true c7
     clear c7
     obtain ⟨ji8, hji8⟩ : ∃ j_ : Int, (wrap64 (x7_1 - 1)) = j_ := ⟨_, rfl⟩
     replace H : (if 0 ≤ (ji8) then (if (ji8) < (l0.length : Int) then ((impl_LessPath.f k1 ((rd_T59 l0 (ji8)).f0) ((rd_T59 l0 x7_1).f0)).bind fun t616 => (if t616 = true then ((impl_Above.f ((rd_T59 l0 x7_1).f0)).bind fun t617 => ((impl_IsColl.f k1 l0 t617).bind fun t620 => (if t620 = true then (impl_TreeOk.l0 k1 l0 l0 (l0.length : Int) (wrap64 (x7_1 + 1))) else (some false)))) else (some false))) else (none)) else (none)) = some r := by first | (rw [hji8] at H; exact H) | (simp only [hji8] at H ⊢; exact H)
     (try rw [hji8] at A5)
     have hji8w : (IntKind.i64.wrap (x7_1 - 1)) = ji8 := (i64_w _).trans hji8
     by_cases c9 : 0 ≤ (ji8)
     rotate_left
     · exact absurd H (by rw [if_neg c9]; simp)
     rw [if_pos c9] at H
     have c9b0 : decide (0 ≤ (ji8)) = true := decide_eq_true c9
     clear c9
     by_cases c10 : (ji8) < (l0.length : Int)
     rotate_left
     · exact absurd H (by rw [if_neg c10]; simp)
     rw [if_pos c10] at H
     have c10b0 : decide ((ji8) < (l0.length : Int)) = true := decide_eq_true c10
     clear c10
     obtain ⟨t616, A11, H⟩ := bo_ H
     (try dsimp only at H)
     by_cases c12 : t616 = true
     · subst c12
       rw [if_pos rfl] at H
       obtain ⟨t617, A13, H⟩ := bo_ H
       (try dsimp only at H)
       obtain ⟨t620, A14, H⟩ := bo_ H
       (try dsimp only at H)
       by_cases c15 : t620 = true
       · subst c15
         rw [if_pos rfl] at H
         have H' := A_ H
         clear H
         have p612 : 0 ≤ (x7_1 : Int) := od_
         have q612 : x7_1 < (l0.length : Int) := od_
         obtain ⟨ad612, A612_0, c612_0, A612_4, c612_4, e612, hx612_0, hx612_1, hx612_2, hx612_3, hx612_4, hl612_0, hi612_0, hl612_4, hi612_4⟩ := at_T59 HR0.out x7_1 p612 q612
         cases e612
         replace hx612_0 := bc_ HB.out hx612_0
         replace hx612_1 := bc_ HB.out hx612_1
         replace hx612_2 := bc_ HB.out hx612_2
         replace hx612_3 := bc_ HB.out hx612_3
         replace hx612_4 := bc_ HB.out hx612_4
         have HR612_0 := A_ hi612_0
         have HC612_0 := A_ hl612_0
         clear hi612_0 hl612_0
         have HR612_4 := A_ hi612_4
         have HC612_4 := A_ hl612_4
         clear hi612_4 hl612_4
         replace p612 := eq_true p612
         replace q612 := eq_true q612
         try go_wp2_with (first | ((with_reducible refine gd_ (N := 4) rfl ?_); refine bx_ (N := 4) (cs := #[.slice none 0 0, .bool false, .string (⟨#[]⟩ : ByteArray), .int .i64 0, .slice none 0 0]) (t := 59) ?_; intro gb613 hg w16 hbox hb; have BK613 := A_ (hbox); have GW613 := A_ (ge_ hg bB_ : w.heap.size ≤ gb613); have GE613 := A_ (ge_ hg bB_ : w.heap.size ≤ gb613); replace HB := A_ (below_step bB_ hb); clear hb hbox hg; obtain ⟨hcz17_0, hcz17_1, hcz17_2, hcz17_3, hcz17_4, hfz17_0, hfz17_1, hfz17_2, hfz17_3, hfz17_4⟩ := cz5_ BK613.out))
         have n0_ : Aside0 ((((((w16.setCell ⟨gb613, 0, none⟩ (.slice A612_0 ((rd_T59 l0 x7_1).f0).length c612_0)).setCell ⟨gb613, 1, none⟩ (.bool ((rd_T59 l0 x7_1).f1))).setCell ⟨gb613, 2, none⟩ (.string ((rd_T59 l0 x7_1).f2))).setCell ⟨gb613, 3, none⟩ (.int .i64 ((rd_T59 l0 x7_1).f3))).setCell ⟨gb613, 4, none⟩ (.slice A612_4 ((rd_T59 l0 x7_1).f4).length c612_4)).heap[gb613]? = some (.cells #[.slice A612_0 ((rd_T59 l0 x7_1).f0).length c612_0, .bool ((rd_T59 l0 x7_1).f1), .string ((rd_T59 l0 x7_1).f2), .int .i64 ((rd_T59 l0 x7_1).f3), .slice A612_4 ((rd_T59 l0 x7_1).f4).length c612_4] 59 (0, 0))) := ⟨by (with_reducible repeat (first | refine blk_drewN ?_ _ | refine blk_drew ?_ | refine blk_alloc ?_ _)); refine blk_put (cs := #[.slice A612_0 ((rd_T59 l0 x7_1).f0).length c612_0, .bool ((rd_T59 l0 x7_1).f1), .string ((rd_T59 l0 x7_1).f2), .int .i64 ((rd_T59 l0 x7_1).f3), .slice none 0 0]) ?_ 4 _ rfl; (with_reducible repeat (first | refine blk_drewN ?_ _ | refine blk_drew ?_ | refine blk_alloc ?_ _)); refine blk_put (cs := #[.slice A612_0 ((rd_T59 l0 x7_1).f0).length c612_0, .bool ((rd_T59 l0 x7_1).f1), .string ((rd_T59 l0 x7_1).f2), .int .i64 0, .slice none 0 0]) ?_ 3 _ rfl; (with_reducible repeat (first | refine blk_drewN ?_ _ | refine blk_drew ?_ | refine blk_alloc ?_ _)); refine blk_put (cs := #[.slice A612_0 ((rd_T59 l0 x7_1).f0).length c612_0, .bool ((rd_T59 l0 x7_1).f1), .string (⟨#[]⟩ : ByteArray), .int .i64 0, .slice none 0 0]) ?_ 2 _ rfl; (with_reducible repeat (first | refine blk_drewN ?_ _ | refine blk_drew ?_ | refine blk_alloc ?_ _)); refine blk_put (cs := #[.slice A612_0 ((rd_T59 l0 x7_1).f0).length c612_0, .bool false, .string (⟨#[]⟩ : ByteArray), .int .i64 0, .slice none 0 0]) ?_ 1 _ rfl; (with_reducible repeat (first | refine blk_drewN ?_ _ | refine blk_drew ?_ | refine blk_alloc ?_ _)); refine blk_put (cs := #[.slice none 0 0, .bool false, .string (⟨#[]⟩ : ByteArray), .int .i64 0, .slice none 0 0]) ?_ 0 _ rfl; (with_reducible repeat (first | refine blk_drewN ?_ _ | refine blk_drew ?_ | refine blk_alloc ?_ _)); exact BK613.out⟩
         have n1_ : Aside0 (Below w.heap.size w (((((w16.setCell ⟨gb613, 0, none⟩ (.slice A612_0 ((rd_T59 l0 x7_1).f0).length c612_0)).setCell ⟨gb613, 1, none⟩ (.bool ((rd_T59 l0 x7_1).f1))).setCell ⟨gb613, 2, none⟩ (.string ((rd_T59 l0 x7_1).f2))).setCell ⟨gb613, 3, none⟩ (.int .i64 ((rd_T59 l0 x7_1).f3))).setCell ⟨gb613, 4, none⟩ (.slice A612_4 ((rd_T59 l0 x7_1).f4).length c612_4))) := ⟨bG_ GE613.out⟩
         (try clear BK613)
         (try clear HB)
         generalize (((((w16.setCell ⟨gb613, 0, none⟩ (.slice A612_0 ((rd_T59 l0 x7_1).f0).length c612_0)).setCell ⟨gb613, 1, none⟩ (.bool ((rd_T59 l0 x7_1).f1))).setCell ⟨gb613, 2, none⟩ (.string ((rd_T59 l0 x7_1).f2))).setCell ⟨gb613, 3, none⟩ (.int .i64 ((rd_T59 l0 x7_1).f3))).setCell ⟨gb613, 4, none⟩ (.slice A612_4 ((rd_T59 l0 x7_1).f4).length c612_4)) = w18 at n0_ n1_ ⊢
         have BK613 := n0_
         have HB := n1_
         clear n0_ n1_
         replace BK613 := A_ (blk_drew BK613.out)
         replace HB := A_ (below_drew1 HB.out)
         have p615 : 0 ≤ ((ji8) : Int) := od_
         have q615 : (ji8) < (l0.length : Int) := od_
         obtain ⟨ad615, A615_0, c615_0, A615_4, c615_4, e615, hx615_0, hx615_1, hx615_2, hx615_3, hx615_4, hl615_0, hi615_0, hl615_4, hi615_4⟩ := at_T59 HR0.out (ji8) p615 q615
         have hw615_4 := hx615_4
         have hw615_3 := hx615_3
         have hw615_2 := hx615_2
         have hw615_1 := hx615_1
         have hw615_0 := hx615_0
         obtain rfl : ad612 = ad615 := (by injection e615)
         replace hx615_0 := bc_ HB.out hx615_0
         replace hx615_1 := bc_ HB.out hx615_1
         replace hx615_2 := bc_ HB.out hx615_2
         replace hx615_3 := bc_ HB.out hx615_3
         replace hx615_4 := bc_ HB.out hx615_4
         have HR615_0 := A_ hi615_0
         have HC615_0 := A_ hl615_0
         clear hi615_0 hl615_0
         have HR615_4 := A_ hi615_4
         have HC615_4 := A_ hl615_4
         clear hi615_4 hl615_4
         replace p615 := eq_true p615
         replace q615 := eq_true q615
         refine start_ (n := 27) (S := fun w' => w'.cell? ⟨gb613, 0, none⟩ = some (.slice A612_0 ((rd_T59 l0 x7_1).f0).length c612_0) ∧ w'.cell? ⟨gb613, 1, none⟩ = some (.bool ((rd_T59 l0 x7_1).f1)) ∧ w'.cell? ⟨gb613, 2, none⟩ = some (.string ((rd_T59 l0 x7_1).f2)) ∧ w'.cell? ⟨gb613, 3, none⟩ = some (.int .i64 ((rd_T59 l0 x7_1).f3)) ∧ w'.cell? ⟨gb613, 4, none⟩ = some (.slice A612_4 ((rd_T59 l0 x7_1).f4).length c612_4) ∧ w'.cell? (ad612.add (((ji8)).toNat * 5)) = some (.slice A615_0 ((rd_T59 l0 (ji8)).f0).length c615_0) ∧ w'.cell? ⟨(ad612.add (((ji8)).toNat * 5)).block, (ad612.add (((ji8)).toNat * 5)).off + 1, none⟩ = some (.bool ((rd_T59 l0 (ji8)).f1)) ∧ w'.cell? ⟨(ad612.add (((ji8)).toNat * 5)).block, (ad612.add (((ji8)).toNat * 5)).off + 2, none⟩ = some (.string ((rd_T59 l0 (ji8)).f2)) ∧ w'.cell? ⟨(ad612.add (((ji8)).toNat * 5)).block, (ad612.add (((ji8)).toNat * 5)).off + 3, none⟩ = some (.int .i64 ((rd_T59 l0 (ji8)).f3)) ∧ w'.cell? ⟨(ad612.add (((ji8)).toNat * 5)).block, (ad612.add (((ji8)).toNat * 5)).off + 4, none⟩ = some (.slice A615_4 ((rd_T59 l0 (ji8)).f4).length c615_4)) (ds := []) #[false, false, false, false, false, false, false, false, false, false, false, false, false, false, false, false, false, false, false, false, false, false, false, false, false, false, false] (by kernel_rfl) rfl rfl ⟨bl_ BK613.out 0, bl_ BK613.out 1, bl_ BK613.out 2, bl_ BK613.out 3, bl_ BK613.out 4, (be_ hw615_0), (be_ hw615_1), (be_ hw615_2), (be_ hw615_3), (be_ hw615_4)⟩ (fun hHeld => ?_); refine with_tabW impl_TreeOk.tab4 impl_TreeOk.bits4 (fun HT_ HW_ => ?_)
         generalize w18.drew = w19 at BK613 HB HR615_0 HR615_4 hx615_0 hx615_1 hx615_2 hx615_3 hx615_4 hHeld ⊢
         refine tk_ (i := 0) (N := some 12) hHeld ?_
         refine on_ (i := 1) (N := some 13) (fun K hK => ?_)
         refine goes_ Try.func84 (by kernel_rfl) rfl #[.agg #[.slice A612_0 ((rd_T59 l0 x7_1).f0).length c612_0, .bool ((rd_T59 l0 x7_1).f1), .string ((rd_T59 l0 x7_1).f2), .int .i64 ((rd_T59 l0 x7_1).f3), .slice A612_4 ((rd_T59 l0 x7_1).f4).length c612_4]] (by rfl) rfl rfl ml_ ?_
         with_reducible refine (impl_resOk.calls k1 _ _ ((rd_T59 l0 x7_1).f0) ((rd_T59 l0 x7_1).f1) ((rd_T59 l0 x7_1).f2) ((rd_T59 l0 x7_1).f3) _ _ ((rd_T59 l0 x7_1).f4) true _ ?s1 ?s2 ?s3 ?s4 A5.out).mono ?_
         (case s1 => exact cC_ (Kd.C_below HR612_0.out HB.out))
         (case s2 => exact HC612_0.out)
         (case s3 => exact cC_ (Kd.C_below HR612_4.out HB.out))
         (case s4 => exact HC612_4.out)
         rintro e w20 ⟨rfl, hb⟩
         refine ⟨_, rfl, ?_⟩
         replace BK613 := A_ (bw_ BK613.out hb)
         replace HB := A_ (below_step (bG_ GE613.out) hb)
         (try clear hb)
         (try clear hb2)
         (try clear hk)
         (try clear hi)
         refine hK.out _ _ ⟨bl_ BK613.out 0, bl_ BK613.out 1, bl_ BK613.out 2, bl_ BK613.out 3, bl_ BK613.out 4, (be_ hw615_0), (be_ hw615_1), (be_ hw615_2), (be_ hw615_3), (be_ hw615_4)⟩ (fun hHeld => ?_)
         clear hK K
         refine no_ (some 13) ?_
         refine pu_ (i := 2) (N := some 14) ?_
         refine pu_ (i := 3) (N := some 15) ?_
         refine pu_ (i := 4) (N := some 16) ?_
         refine pu_ (i := 5) (N := some 17) ?_
         refine pu_ (i := 6) (N := some 18) ?_
         refine pu_ (i := 7) (N := some 19) ?_
         refine pu_ (i := 8) (N := some 20) ?_
         refine pu_ (i := 9) (N := some 21) ?_
         refine pu_ (i := 10) (N := some 22) ?_
         refine pu_ (i := 11) (N := some 23) ?_
         refine pu_ (i := 13) (N := some 25) ?_
         refine tk_ (i := 12) (N := some 24) hHeld ?_
         refine tk_ (i := 14) (N := some 26) hHeld ?_
         refine on_ (i := 15) (N := some 27) (fun K hK => ?_)
         refine goes_ Try.func18 (by kernel_rfl) rfl #[.slice A615_0 ((rd_T59 l0 (ji8)).f0).length c615_0, .slice A612_0 ((rd_T59 l0 x7_1).f0).length c612_0] (by rfl) rfl rfl (by (try simp only [List.map_toArray, List.map_cons, List.map_nil]); first | done | (simp only [hji8]; rfl) | rfl | (simp only [List.length_drop, List.length_take]; rfl)) ?_
         with_reducible refine (impl_LessPath.calls k1 _ _ ((rd_T59 l0 (ji8)).f0) _ _ ((rd_T59 l0 x7_1).f0) true _ ?s1 ?s2 ?s3 ?s4 A11.out).mono ?_
         (case s1 => exact cC_ (Kd.C_below HR615_0.out HB.out))
         (case s2 => exact HC615_0.out)
         (case s3 => exact cC_ (Kd.C_below HR612_0.out HB.out))
         (case s4 => exact HC612_0.out)
         rintro e w' ⟨rfl, ⟨nd, rfl⟩⟩
         refine ⟨_, rfl, ?_⟩
         refine hK.out _ _ ⟨bl_ BK613.out 0, bl_ BK613.out 1, bl_ BK613.out 2, bl_ BK613.out 3, bl_ BK613.out 4, (be_ hw615_0), (be_ hw615_1), (be_ hw615_2), (be_ hw615_3), (be_ hw615_4)⟩ (fun hHeld => ?_)
         clear hK K
         refine no_ (some 27) ?_
         refine pu_ (i := 16) (N := some 28) ?_
         refine pu_ (i := 17) (N := some 29) ?_
         refine pu_ (i := 18) (N := some 30) ?_
         refine pu_ (i := 19) (N := some 31) ?_
         refine pu_ (i := 20) (N := some 32) ?_
         refine pu_ (i := 21) (N := some 33) ?_
         refine tk_ (i := 22) (N := some 34) hHeld ?_
         refine on_ (i := 23) (N := some 35) (fun K hK => ?_)
         refine goes_ Try.func21 (by kernel_rfl) rfl #[.slice A612_0 ((rd_T59 l0 x7_1).f0).length c612_0] (by rfl) rfl rfl ml_ ?_
         with_reducible refine (impl_Above.calls _ _ ((rd_T59 l0 x7_1).f0) t617 _ ?s1 ?s2 A13.out).mono ?_
         (case s1 => exact cC_ (Kd.C_below HR612_0.out (bG_ GE613.out)))
         (case s2 => exact HC612_0.out)
         rintro e w21 ⟨v618, rfl, ho0, hb⟩
         refine ⟨_, rfl, ?_⟩
         have HO619 := A_ (Kd.R_lower ho0 (below_size (bG_ GE613.out)))
         replace BK613 := A_ (bw_ BK613.out hb)
         replace HB := A_ (below_step (bG_ GE613.out) hb)
         (try clear hb)
         (try clear hb2)
         (try clear hk)
         (try clear hi)
         (try clear ho0)
         obtain ⟨Ao22, co22, eo22⟩ := Kd.R_slice HO619.out
         (first | subst eo22 | (injection eo22 with f1_ f2_ f3_; have f4_ := f1_.symm; have f5_ := f3_.symm; clear f1_ f2_ f3_; subst f4_; subst f5_))
         refine hK.out _ _ ⟨bl_ BK613.out 0, bl_ BK613.out 1, bl_ BK613.out 2, bl_ BK613.out 3, bl_ BK613.out 4, (be_ hw615_0), (be_ hw615_1), (be_ hw615_2), (be_ hw615_3), (be_ hw615_4)⟩ (fun hHeld => ?_)
         clear hK K
         refine no_ (some 35) ?_
         refine on_ (i := 24) (N := some 36) (fun K hK => ?_)
         refine goes_ Try.func39 (by kernel_rfl) rfl #[.slice (some ad612) l0.length c0, .slice Ao22 t617.length co22] (by rfl) rfl rfl ml_ ?_
         with_reducible refine (impl_IsColl.calls k1 _ _ l0 _ _ t617 true _ ?s1 ?s2 ?s3 ?s4 A14.out).mono ?_
         (case s1 => exact cC_ (Kd.C_below HR0.out HB.out))
         (case s2 => exact HC0.out)
         (case s3 => exact cC_ (Kd.R_reads' HO619.out).2.2)
         (case s4 => exact (Kd.R_reads' HO619.out).2.1)
         rintro e w23 ⟨rfl, hb⟩
         refine ⟨_, rfl, ?_⟩
         replace HO619 := A_ (Kd.R_below (vR_ HO619.out) hb)
         replace BK613 := A_ (bw_ BK613.out hb)
         replace HB := A_ (below_step (bG_ GE613.out) hb)
         (try clear hb)
         (try clear hb2)
         (try clear hk)
         (try clear hi)
         refine hK.out _ _ ⟨bl_ BK613.out 0, bl_ BK613.out 1, bl_ BK613.out 2, bl_ BK613.out 3, bl_ BK613.out 4, (be_ hw615_0), (be_ hw615_1), (be_ hw615_2), (be_ hw615_3), (be_ hw615_4)⟩ (fun hHeld => ?_)
         clear hK K
         refine no_ (some 36) ?_
         refine pu_ (i := 25) (N := some 37) ?_
         refine pu_ (i := 26) (N := some 38) ?_
         refine done_ (done_of HT_.out (by kernel_rfl)) ?_
         (try clear hHeld)
         try go_wp2
         go_roundg k1
         case measure => have := HK1.out; omega
         case rel => exact ⟨(wrap64 (x7_1 + 1)), rs_, H', ⟨by have := HK1.out; omega⟩, ⟨bG_ GE613.out⟩⟩
       · replace c15 := Bool.eq_false_iff.mpr c15
         subst c15
         rw [if_neg nf_] at H
         obtain rfl := si_ H
         have p612 : 0 ≤ (x7_1 : Int) := od_
         have q612 : x7_1 < (l0.length : Int) := od_
         obtain ⟨ad612, A612_0, c612_0, A612_4, c612_4, e612, hx612_0, hx612_1, hx612_2, hx612_3, hx612_4, hl612_0, hi612_0, hl612_4, hi612_4⟩ := at_T59 HR0.out x7_1 p612 q612
         cases e612
         replace hx612_0 := bc_ HB.out hx612_0
         replace hx612_1 := bc_ HB.out hx612_1
         replace hx612_2 := bc_ HB.out hx612_2
         replace hx612_3 := bc_ HB.out hx612_3
         replace hx612_4 := bc_ HB.out hx612_4
         have HR612_0 := A_ hi612_0
         have HC612_0 := A_ hl612_0
         clear hi612_0 hl612_0
         have HR612_4 := A_ hi612_4
         have HC612_4 := A_ hl612_4
         clear hi612_4 hl612_4
         replace p612 := eq_true p612
         replace q612 := eq_true q612
         try go_wp2_with (first | ((with_reducible refine gd_ (N := 4) rfl ?_); refine bx_ (N := 4) (cs := #[.slice none 0 0, .bool false, .string (⟨#[]⟩ : ByteArray), .int .i64 0, .slice none 0 0]) (t := 59) ?_; intro gb613 hg w24 hbox hb; have BK613 := A_ (hbox); have GW613 := A_ (ge_ hg bB_ : w.heap.size ≤ gb613); have GE613 := A_ (ge_ hg bB_ : w.heap.size ≤ gb613); replace HB := A_ (below_step bB_ hb); clear hb hbox hg; obtain ⟨hcz25_0, hcz25_1, hcz25_2, hcz25_3, hcz25_4, hfz25_0, hfz25_1, hfz25_2, hfz25_3, hfz25_4⟩ := cz5_ BK613.out))
         have n0_ : Aside0 ((((((w24.setCell ⟨gb613, 0, none⟩ (.slice A612_0 ((rd_T59 l0 x7_1).f0).length c612_0)).setCell ⟨gb613, 1, none⟩ (.bool ((rd_T59 l0 x7_1).f1))).setCell ⟨gb613, 2, none⟩ (.string ((rd_T59 l0 x7_1).f2))).setCell ⟨gb613, 3, none⟩ (.int .i64 ((rd_T59 l0 x7_1).f3))).setCell ⟨gb613, 4, none⟩ (.slice A612_4 ((rd_T59 l0 x7_1).f4).length c612_4)).heap[gb613]? = some (.cells #[.slice A612_0 ((rd_T59 l0 x7_1).f0).length c612_0, .bool ((rd_T59 l0 x7_1).f1), .string ((rd_T59 l0 x7_1).f2), .int .i64 ((rd_T59 l0 x7_1).f3), .slice A612_4 ((rd_T59 l0 x7_1).f4).length c612_4] 59 (0, 0))) := ⟨by (with_reducible repeat (first | refine blk_drewN ?_ _ | refine blk_drew ?_ | refine blk_alloc ?_ _)); refine blk_put (cs := #[.slice A612_0 ((rd_T59 l0 x7_1).f0).length c612_0, .bool ((rd_T59 l0 x7_1).f1), .string ((rd_T59 l0 x7_1).f2), .int .i64 ((rd_T59 l0 x7_1).f3), .slice none 0 0]) ?_ 4 _ rfl; (with_reducible repeat (first | refine blk_drewN ?_ _ | refine blk_drew ?_ | refine blk_alloc ?_ _)); refine blk_put (cs := #[.slice A612_0 ((rd_T59 l0 x7_1).f0).length c612_0, .bool ((rd_T59 l0 x7_1).f1), .string ((rd_T59 l0 x7_1).f2), .int .i64 0, .slice none 0 0]) ?_ 3 _ rfl; (with_reducible repeat (first | refine blk_drewN ?_ _ | refine blk_drew ?_ | refine blk_alloc ?_ _)); refine blk_put (cs := #[.slice A612_0 ((rd_T59 l0 x7_1).f0).length c612_0, .bool ((rd_T59 l0 x7_1).f1), .string (⟨#[]⟩ : ByteArray), .int .i64 0, .slice none 0 0]) ?_ 2 _ rfl; (with_reducible repeat (first | refine blk_drewN ?_ _ | refine blk_drew ?_ | refine blk_alloc ?_ _)); refine blk_put (cs := #[.slice A612_0 ((rd_T59 l0 x7_1).f0).length c612_0, .bool false, .string (⟨#[]⟩ : ByteArray), .int .i64 0, .slice none 0 0]) ?_ 1 _ rfl; (with_reducible repeat (first | refine blk_drewN ?_ _ | refine blk_drew ?_ | refine blk_alloc ?_ _)); refine blk_put (cs := #[.slice none 0 0, .bool false, .string (⟨#[]⟩ : ByteArray), .int .i64 0, .slice none 0 0]) ?_ 0 _ rfl; (with_reducible repeat (first | refine blk_drewN ?_ _ | refine blk_drew ?_ | refine blk_alloc ?_ _)); exact BK613.out⟩
         have n1_ : Aside0 (Below w.heap.size w (((((w24.setCell ⟨gb613, 0, none⟩ (.slice A612_0 ((rd_T59 l0 x7_1).f0).length c612_0)).setCell ⟨gb613, 1, none⟩ (.bool ((rd_T59 l0 x7_1).f1))).setCell ⟨gb613, 2, none⟩ (.string ((rd_T59 l0 x7_1).f2))).setCell ⟨gb613, 3, none⟩ (.int .i64 ((rd_T59 l0 x7_1).f3))).setCell ⟨gb613, 4, none⟩ (.slice A612_4 ((rd_T59 l0 x7_1).f4).length c612_4))) := ⟨bG_ GE613.out⟩
         (try clear BK613)
         (try clear HB)
         generalize (((((w24.setCell ⟨gb613, 0, none⟩ (.slice A612_0 ((rd_T59 l0 x7_1).f0).length c612_0)).setCell ⟨gb613, 1, none⟩ (.bool ((rd_T59 l0 x7_1).f1))).setCell ⟨gb613, 2, none⟩ (.string ((rd_T59 l0 x7_1).f2))).setCell ⟨gb613, 3, none⟩ (.int .i64 ((rd_T59 l0 x7_1).f3))).setCell ⟨gb613, 4, none⟩ (.slice A612_4 ((rd_T59 l0 x7_1).f4).length c612_4)) = w26 at n0_ n1_ ⊢
         have BK613 := n0_
         have HB := n1_
         clear n0_ n1_
         replace BK613 := A_ (blk_drew BK613.out)
         replace HB := A_ (below_drew1 HB.out)
         have p615 : 0 ≤ ((ji8) : Int) := od_
         have q615 : (ji8) < (l0.length : Int) := od_
         obtain ⟨ad615, A615_0, c615_0, A615_4, c615_4, e615, hx615_0, hx615_1, hx615_2, hx615_3, hx615_4, hl615_0, hi615_0, hl615_4, hi615_4⟩ := at_T59 HR0.out (ji8) p615 q615
         have hw615_4 := hx615_4
         have hw615_3 := hx615_3
         have hw615_2 := hx615_2
         have hw615_1 := hx615_1
         have hw615_0 := hx615_0
         obtain rfl : ad612 = ad615 := (by injection e615)
         replace hx615_0 := bc_ HB.out hx615_0
         replace hx615_1 := bc_ HB.out hx615_1
         replace hx615_2 := bc_ HB.out hx615_2
         replace hx615_3 := bc_ HB.out hx615_3
         replace hx615_4 := bc_ HB.out hx615_4
         have HR615_0 := A_ hi615_0
         have HC615_0 := A_ hl615_0
         clear hi615_0 hl615_0
         have HR615_4 := A_ hi615_4
         have HC615_4 := A_ hl615_4
         clear hi615_4 hl615_4
         replace p615 := eq_true p615
         replace q615 := eq_true q615
         refine start_ (n := 27) (S := fun w' => w'.cell? ⟨gb613, 0, none⟩ = some (.slice A612_0 ((rd_T59 l0 x7_1).f0).length c612_0) ∧ w'.cell? ⟨gb613, 1, none⟩ = some (.bool ((rd_T59 l0 x7_1).f1)) ∧ w'.cell? ⟨gb613, 2, none⟩ = some (.string ((rd_T59 l0 x7_1).f2)) ∧ w'.cell? ⟨gb613, 3, none⟩ = some (.int .i64 ((rd_T59 l0 x7_1).f3)) ∧ w'.cell? ⟨gb613, 4, none⟩ = some (.slice A612_4 ((rd_T59 l0 x7_1).f4).length c612_4) ∧ w'.cell? (ad612.add (((ji8)).toNat * 5)) = some (.slice A615_0 ((rd_T59 l0 (ji8)).f0).length c615_0) ∧ w'.cell? ⟨(ad612.add (((ji8)).toNat * 5)).block, (ad612.add (((ji8)).toNat * 5)).off + 1, none⟩ = some (.bool ((rd_T59 l0 (ji8)).f1)) ∧ w'.cell? ⟨(ad612.add (((ji8)).toNat * 5)).block, (ad612.add (((ji8)).toNat * 5)).off + 2, none⟩ = some (.string ((rd_T59 l0 (ji8)).f2)) ∧ w'.cell? ⟨(ad612.add (((ji8)).toNat * 5)).block, (ad612.add (((ji8)).toNat * 5)).off + 3, none⟩ = some (.int .i64 ((rd_T59 l0 (ji8)).f3)) ∧ w'.cell? ⟨(ad612.add (((ji8)).toNat * 5)).block, (ad612.add (((ji8)).toNat * 5)).off + 4, none⟩ = some (.slice A615_4 ((rd_T59 l0 (ji8)).f4).length c615_4)) (ds := []) #[false, false, false, false, false, false, false, false, false, false, false, false, false, false, false, false, false, false, false, false, false, false, false, false, false, false, false] (by kernel_rfl) rfl rfl ⟨bl_ BK613.out 0, bl_ BK613.out 1, bl_ BK613.out 2, bl_ BK613.out 3, bl_ BK613.out 4, (be_ hw615_0), (be_ hw615_1), (be_ hw615_2), (be_ hw615_3), (be_ hw615_4)⟩ (fun hHeld => ?_); refine with_tabW impl_TreeOk.tab4 impl_TreeOk.bits4 (fun HT_ HW_ => ?_)
         generalize w26.drew = w27 at BK613 HB HR615_0 HR615_4 hx615_0 hx615_1 hx615_2 hx615_3 hx615_4 hHeld ⊢
         refine tk_ (i := 0) (N := some 12) hHeld ?_
         refine on_ (i := 1) (N := some 13) (fun K hK => ?_)
         refine goes_ Try.func84 (by kernel_rfl) rfl #[.agg #[.slice A612_0 ((rd_T59 l0 x7_1).f0).length c612_0, .bool ((rd_T59 l0 x7_1).f1), .string ((rd_T59 l0 x7_1).f2), .int .i64 ((rd_T59 l0 x7_1).f3), .slice A612_4 ((rd_T59 l0 x7_1).f4).length c612_4]] (by rfl) rfl rfl ml_ ?_
         with_reducible refine (impl_resOk.calls k1 _ _ ((rd_T59 l0 x7_1).f0) ((rd_T59 l0 x7_1).f1) ((rd_T59 l0 x7_1).f2) ((rd_T59 l0 x7_1).f3) _ _ ((rd_T59 l0 x7_1).f4) true _ ?s1 ?s2 ?s3 ?s4 A5.out).mono ?_
         (case s1 => exact cC_ (Kd.C_below HR612_0.out HB.out))
         (case s2 => exact HC612_0.out)
         (case s3 => exact cC_ (Kd.C_below HR612_4.out HB.out))
         (case s4 => exact HC612_4.out)
         rintro e w28 ⟨rfl, hb⟩
         refine ⟨_, rfl, ?_⟩
         replace BK613 := A_ (bw_ BK613.out hb)
         replace HB := A_ (below_step (bG_ GE613.out) hb)
         (try clear hb)
         (try clear hb2)
         (try clear hk)
         (try clear hi)
         refine hK.out _ _ ⟨bl_ BK613.out 0, bl_ BK613.out 1, bl_ BK613.out 2, bl_ BK613.out 3, bl_ BK613.out 4, (be_ hw615_0), (be_ hw615_1), (be_ hw615_2), (be_ hw615_3), (be_ hw615_4)⟩ (fun hHeld => ?_)
         clear hK K
         refine no_ (some 13) ?_
         refine pu_ (i := 2) (N := some 14) ?_
         refine pu_ (i := 3) (N := some 15) ?_
         refine pu_ (i := 4) (N := some 16) ?_
         refine pu_ (i := 5) (N := some 17) ?_
         refine pu_ (i := 6) (N := some 18) ?_
         refine pu_ (i := 7) (N := some 19) ?_
         refine pu_ (i := 8) (N := some 20) ?_
         refine pu_ (i := 9) (N := some 21) ?_
         refine pu_ (i := 10) (N := some 22) ?_
         refine pu_ (i := 11) (N := some 23) ?_
         refine pu_ (i := 13) (N := some 25) ?_
         refine tk_ (i := 12) (N := some 24) hHeld ?_
         refine tk_ (i := 14) (N := some 26) hHeld ?_
         refine on_ (i := 15) (N := some 27) (fun K hK => ?_)
         refine goes_ Try.func18 (by kernel_rfl) rfl #[.slice A615_0 ((rd_T59 l0 (ji8)).f0).length c615_0, .slice A612_0 ((rd_T59 l0 x7_1).f0).length c612_0] (by rfl) rfl rfl (by (try simp only [List.map_toArray, List.map_cons, List.map_nil]); first | done | (simp only [hji8]; rfl) | rfl | (simp only [List.length_drop, List.length_take]; rfl)) ?_
         with_reducible refine (impl_LessPath.calls k1 _ _ ((rd_T59 l0 (ji8)).f0) _ _ ((rd_T59 l0 x7_1).f0) true _ ?s1 ?s2 ?s3 ?s4 A11.out).mono ?_
         (case s1 => exact cC_ (Kd.C_below HR615_0.out HB.out))
         (case s2 => exact HC615_0.out)
         (case s3 => exact cC_ (Kd.C_below HR612_0.out HB.out))
         (case s4 => exact HC612_0.out)
         rintro e w' ⟨rfl, ⟨nd, rfl⟩⟩
         refine ⟨_, rfl, ?_⟩
         refine hK.out _ _ ⟨bl_ BK613.out 0, bl_ BK613.out 1, bl_ BK613.out 2, bl_ BK613.out 3, bl_ BK613.out 4, (be_ hw615_0), (be_ hw615_1), (be_ hw615_2), (be_ hw615_3), (be_ hw615_4)⟩ (fun hHeld => ?_)
         clear hK K
         refine no_ (some 27) ?_
         refine pu_ (i := 16) (N := some 28) ?_
         refine pu_ (i := 17) (N := some 29) ?_
         refine pu_ (i := 18) (N := some 30) ?_
         refine pu_ (i := 19) (N := some 31) ?_
         refine pu_ (i := 20) (N := some 32) ?_
         refine pu_ (i := 21) (N := some 33) ?_
         refine tk_ (i := 22) (N := some 34) hHeld ?_
         refine on_ (i := 23) (N := some 35) (fun K hK => ?_)
         refine goes_ Try.func21 (by kernel_rfl) rfl #[.slice A612_0 ((rd_T59 l0 x7_1).f0).length c612_0] (by rfl) rfl rfl ml_ ?_
         with_reducible refine (impl_Above.calls _ _ ((rd_T59 l0 x7_1).f0) t617 _ ?s1 ?s2 A13.out).mono ?_
         (case s1 => exact cC_ (Kd.C_below HR612_0.out (bG_ GE613.out)))
         (case s2 => exact HC612_0.out)
         rintro e w29 ⟨v618, rfl, ho0, hb⟩
         refine ⟨_, rfl, ?_⟩
         have HO619 := A_ (Kd.R_lower ho0 (below_size (bG_ GE613.out)))
         replace BK613 := A_ (bw_ BK613.out hb)
         replace HB := A_ (below_step (bG_ GE613.out) hb)
         (try clear hb)
         (try clear hb2)
         (try clear hk)
         (try clear hi)
         (try clear ho0)
         obtain ⟨Ao30, co30, eo30⟩ := Kd.R_slice HO619.out
         (first | subst eo30 | (injection eo30 with f1_ f2_ f3_; have f4_ := f1_.symm; have f5_ := f3_.symm; clear f1_ f2_ f3_; subst f4_; subst f5_))
         refine hK.out _ _ ⟨bl_ BK613.out 0, bl_ BK613.out 1, bl_ BK613.out 2, bl_ BK613.out 3, bl_ BK613.out 4, (be_ hw615_0), (be_ hw615_1), (be_ hw615_2), (be_ hw615_3), (be_ hw615_4)⟩ (fun hHeld => ?_)
         clear hK K
         refine no_ (some 35) ?_
         refine on_ (i := 24) (N := some 36) (fun K hK => ?_)
         refine goes_ Try.func39 (by kernel_rfl) rfl #[.slice (some ad612) l0.length c0, .slice Ao30 t617.length co30] (by rfl) rfl rfl ml_ ?_
         with_reducible refine (impl_IsColl.calls k1 _ _ l0 _ _ t617 false _ ?s1 ?s2 ?s3 ?s4 A14.out).mono ?_
         (case s1 => exact cC_ (Kd.C_below HR0.out HB.out))
         (case s2 => exact HC0.out)
         (case s3 => exact cC_ (Kd.R_reads' HO619.out).2.2)
         (case s4 => exact (Kd.R_reads' HO619.out).2.1)
         rintro e w31 ⟨rfl, hb⟩
         refine ⟨_, rfl, ?_⟩
         replace HO619 := A_ (Kd.R_below (vR_ HO619.out) hb)
         replace BK613 := A_ (bw_ BK613.out hb)
         replace HB := A_ (below_step (bG_ GE613.out) hb)
         (try clear hb)
         (try clear hb2)
         (try clear hk)
         (try clear hi)
         refine hK.out _ _ ⟨bl_ BK613.out 0, bl_ BK613.out 1, bl_ BK613.out 2, bl_ BK613.out 3, bl_ BK613.out 4, (be_ hw615_0), (be_ hw615_1), (be_ hw615_2), (be_ hw615_3), (be_ hw615_4)⟩ (fun hHeld => ?_)
         clear hK K
         refine no_ (some 36) ?_
         refine pu_ (i := 25) (N := some 37) ?_
         refine pu_ (i := 26) (N := some 38) ?_
         refine done_ (done_of HT_.out (by kernel_rfl)) ?_
         (try clear hHeld)
         try go_wp2
         go_ret
         exact ⟨by first | rfl | (simp [errW_none, errW_some] <;> rfl) | (simp only [← hji8]; first | rfl | (simp [errW_none, errW_some] <;> rfl)) | (simp [*, errW_none, errW_some] <;> rfl), bG_ GE613.out⟩
     · replace c12 := Bool.eq_false_iff.mpr c12
       subst c12
       rw [if_neg nf_] at H
       obtain rfl := si_ H
       have p612 : 0 ≤ (x7_1 : Int) := od_
       have q612 : x7_1 < (l0.length : Int) := od_
       obtain ⟨ad612, A612_0, c612_0, A612_4, c612_4, e612, hx612_0, hx612_1, hx612_2, hx612_3, hx612_4, hl612_0, hi612_0, hl612_4, hi612_4⟩ := at_T59 HR0.out x7_1 p612 q612
       cases e612
       replace hx612_0 := bc_ HB.out hx612_0
       replace hx612_1 := bc_ HB.out hx612_1
       replace hx612_2 := bc_ HB.out hx612_2
       replace hx612_3 := bc_ HB.out hx612_3
       replace hx612_4 := bc_ HB.out hx612_4
       have HR612_0 := A_ hi612_0
       have HC612_0 := A_ hl612_0
       clear hi612_0 hl612_0
       have HR612_4 := A_ hi612_4
       have HC612_4 := A_ hl612_4
       clear hi612_4 hl612_4
       replace p612 := eq_true p612
       replace q612 := eq_true q612
       try go_wp2_with (first | ((with_reducible refine gd_ (N := 4) rfl ?_); refine bx_ (N := 4) (cs := #[.slice none 0 0, .bool false, .string (⟨#[]⟩ : ByteArray), .int .i64 0, .slice none 0 0]) (t := 59) ?_; intro gb613 hg w32 hbox hb; have BK613 := A_ (hbox); have GW613 := A_ (ge_ hg bB_ : w.heap.size ≤ gb613); have GE613 := A_ (ge_ hg bB_ : w.heap.size ≤ gb613); replace HB := A_ (below_step bB_ hb); clear hb hbox hg; obtain ⟨hcz33_0, hcz33_1, hcz33_2, hcz33_3, hcz33_4, hfz33_0, hfz33_1, hfz33_2, hfz33_3, hfz33_4⟩ := cz5_ BK613.out))
       have n0_ : Aside0 ((((((w32.setCell ⟨gb613, 0, none⟩ (.slice A612_0 ((rd_T59 l0 x7_1).f0).length c612_0)).setCell ⟨gb613, 1, none⟩ (.bool ((rd_T59 l0 x7_1).f1))).setCell ⟨gb613, 2, none⟩ (.string ((rd_T59 l0 x7_1).f2))).setCell ⟨gb613, 3, none⟩ (.int .i64 ((rd_T59 l0 x7_1).f3))).setCell ⟨gb613, 4, none⟩ (.slice A612_4 ((rd_T59 l0 x7_1).f4).length c612_4)).heap[gb613]? = some (.cells #[.slice A612_0 ((rd_T59 l0 x7_1).f0).length c612_0, .bool ((rd_T59 l0 x7_1).f1), .string ((rd_T59 l0 x7_1).f2), .int .i64 ((rd_T59 l0 x7_1).f3), .slice A612_4 ((rd_T59 l0 x7_1).f4).length c612_4] 59 (0, 0))) := ⟨by (with_reducible repeat (first | refine blk_drewN ?_ _ | refine blk_drew ?_ | refine blk_alloc ?_ _)); refine blk_put (cs := #[.slice A612_0 ((rd_T59 l0 x7_1).f0).length c612_0, .bool ((rd_T59 l0 x7_1).f1), .string ((rd_T59 l0 x7_1).f2), .int .i64 ((rd_T59 l0 x7_1).f3), .slice none 0 0]) ?_ 4 _ rfl; (with_reducible repeat (first | refine blk_drewN ?_ _ | refine blk_drew ?_ | refine blk_alloc ?_ _)); refine blk_put (cs := #[.slice A612_0 ((rd_T59 l0 x7_1).f0).length c612_0, .bool ((rd_T59 l0 x7_1).f1), .string ((rd_T59 l0 x7_1).f2), .int .i64 0, .slice none 0 0]) ?_ 3 _ rfl; (with_reducible repeat (first | refine blk_drewN ?_ _ | refine blk_drew ?_ | refine blk_alloc ?_ _)); refine blk_put (cs := #[.slice A612_0 ((rd_T59 l0 x7_1).f0).length c612_0, .bool ((rd_T59 l0 x7_1).f1), .string (⟨#[]⟩ : ByteArray), .int .i64 0, .slice none 0 0]) ?_ 2 _ rfl; (with_reducible repeat (first | refine blk_drewN ?_ _ | refine blk_drew ?_ | refine blk_alloc ?_ _)); refine blk_put (cs := #[.slice A612_0 ((rd_T59 l0 x7_1).f0).length c612_0, .bool false, .string (⟨#[]⟩ : ByteArray), .int .i64 0, .slice none 0 0]) ?_ 1 _ rfl; (with_reducible repeat (first | refine blk_drewN ?_ _ | refine blk_drew ?_ | refine blk_alloc ?_ _)); refine blk_put (cs := #[.slice none 0 0, .bool false, .string (⟨#[]⟩ : ByteArray), .int .i64 0, .slice none 0 0]) ?_ 0 _ rfl; (with_reducible repeat (first | refine blk_drewN ?_ _ | refine blk_drew ?_ | refine blk_alloc ?_ _)); exact BK613.out⟩
       have n1_ : Aside0 (Below w.heap.size w (((((w32.setCell ⟨gb613, 0, none⟩ (.slice A612_0 ((rd_T59 l0 x7_1).f0).length c612_0)).setCell ⟨gb613, 1, none⟩ (.bool ((rd_T59 l0 x7_1).f1))).setCell ⟨gb613, 2, none⟩ (.string ((rd_T59 l0 x7_1).f2))).setCell ⟨gb613, 3, none⟩ (.int .i64 ((rd_T59 l0 x7_1).f3))).setCell ⟨gb613, 4, none⟩ (.slice A612_4 ((rd_T59 l0 x7_1).f4).length c612_4))) := ⟨bG_ GE613.out⟩
       (try clear BK613)
       (try clear HB)
       generalize (((((w32.setCell ⟨gb613, 0, none⟩ (.slice A612_0 ((rd_T59 l0 x7_1).f0).length c612_0)).setCell ⟨gb613, 1, none⟩ (.bool ((rd_T59 l0 x7_1).f1))).setCell ⟨gb613, 2, none⟩ (.string ((rd_T59 l0 x7_1).f2))).setCell ⟨gb613, 3, none⟩ (.int .i64 ((rd_T59 l0 x7_1).f3))).setCell ⟨gb613, 4, none⟩ (.slice A612_4 ((rd_T59 l0 x7_1).f4).length c612_4)) = w34 at n0_ n1_ ⊢
       have BK613 := n0_
       have HB := n1_
       clear n0_ n1_
       replace BK613 := A_ (blk_drew BK613.out)
       replace HB := A_ (below_drew1 HB.out)
       have p615 : 0 ≤ ((ji8) : Int) := od_
       have q615 : (ji8) < (l0.length : Int) := od_
       obtain ⟨ad615, A615_0, c615_0, A615_4, c615_4, e615, hx615_0, hx615_1, hx615_2, hx615_3, hx615_4, hl615_0, hi615_0, hl615_4, hi615_4⟩ := at_T59 HR0.out (ji8) p615 q615
       have hw615_4 := hx615_4
       have hw615_3 := hx615_3
       have hw615_2 := hx615_2
       have hw615_1 := hx615_1
       have hw615_0 := hx615_0
       obtain rfl : ad612 = ad615 := (by injection e615)
       replace hx615_0 := bc_ HB.out hx615_0
       replace hx615_1 := bc_ HB.out hx615_1
       replace hx615_2 := bc_ HB.out hx615_2
       replace hx615_3 := bc_ HB.out hx615_3
       replace hx615_4 := bc_ HB.out hx615_4
       have HR615_0 := A_ hi615_0
       have HC615_0 := A_ hl615_0
       clear hi615_0 hl615_0
       have HR615_4 := A_ hi615_4
       have HC615_4 := A_ hl615_4
       clear hi615_4 hl615_4
       replace p615 := eq_true p615
       replace q615 := eq_true q615
       refine start_ (n := 27) (S := fun w' => w'.cell? ⟨gb613, 0, none⟩ = some (.slice A612_0 ((rd_T59 l0 x7_1).f0).length c612_0) ∧ w'.cell? ⟨gb613, 1, none⟩ = some (.bool ((rd_T59 l0 x7_1).f1)) ∧ w'.cell? ⟨gb613, 2, none⟩ = some (.string ((rd_T59 l0 x7_1).f2)) ∧ w'.cell? ⟨gb613, 3, none⟩ = some (.int .i64 ((rd_T59 l0 x7_1).f3)) ∧ w'.cell? ⟨gb613, 4, none⟩ = some (.slice A612_4 ((rd_T59 l0 x7_1).f4).length c612_4) ∧ w'.cell? (ad612.add (((ji8)).toNat * 5)) = some (.slice A615_0 ((rd_T59 l0 (ji8)).f0).length c615_0) ∧ w'.cell? ⟨(ad612.add (((ji8)).toNat * 5)).block, (ad612.add (((ji8)).toNat * 5)).off + 1, none⟩ = some (.bool ((rd_T59 l0 (ji8)).f1)) ∧ w'.cell? ⟨(ad612.add (((ji8)).toNat * 5)).block, (ad612.add (((ji8)).toNat * 5)).off + 2, none⟩ = some (.string ((rd_T59 l0 (ji8)).f2)) ∧ w'.cell? ⟨(ad612.add (((ji8)).toNat * 5)).block, (ad612.add (((ji8)).toNat * 5)).off + 3, none⟩ = some (.int .i64 ((rd_T59 l0 (ji8)).f3)) ∧ w'.cell? ⟨(ad612.add (((ji8)).toNat * 5)).block, (ad612.add (((ji8)).toNat * 5)).off + 4, none⟩ = some (.slice A615_4 ((rd_T59 l0 (ji8)).f4).length c615_4)) (ds := []) #[false, false, false, false, false, false, false, false, false, false, false, false, false, false, false, false, false, false, false, false, false, false, false, false, false, false, false] (by kernel_rfl) rfl rfl ⟨bl_ BK613.out 0, bl_ BK613.out 1, bl_ BK613.out 2, bl_ BK613.out 3, bl_ BK613.out 4, (be_ hw615_0), (be_ hw615_1), (be_ hw615_2), (be_ hw615_3), (be_ hw615_4)⟩ (fun hHeld => ?_); refine with_tabW impl_TreeOk.tab4 impl_TreeOk.bits4 (fun HT_ HW_ => ?_)
       generalize w34.drew = w35 at BK613 HB HR615_0 HR615_4 hx615_0 hx615_1 hx615_2 hx615_3 hx615_4 hHeld ⊢
       refine tk_ (i := 0) (N := some 12) hHeld ?_
       refine on_ (i := 1) (N := some 13) (fun K hK => ?_)
       refine goes_ Try.func84 (by kernel_rfl) rfl #[.agg #[.slice A612_0 ((rd_T59 l0 x7_1).f0).length c612_0, .bool ((rd_T59 l0 x7_1).f1), .string ((rd_T59 l0 x7_1).f2), .int .i64 ((rd_T59 l0 x7_1).f3), .slice A612_4 ((rd_T59 l0 x7_1).f4).length c612_4]] (by rfl) rfl rfl ml_ ?_
       with_reducible refine (impl_resOk.calls k1 _ _ ((rd_T59 l0 x7_1).f0) ((rd_T59 l0 x7_1).f1) ((rd_T59 l0 x7_1).f2) ((rd_T59 l0 x7_1).f3) _ _ ((rd_T59 l0 x7_1).f4) true _ ?s1 ?s2 ?s3 ?s4 A5.out).mono ?_
       (case s1 => exact cC_ (Kd.C_below HR612_0.out HB.out))
       (case s2 => exact HC612_0.out)
       (case s3 => exact cC_ (Kd.C_below HR612_4.out HB.out))
       (case s4 => exact HC612_4.out)
       rintro e w36 ⟨rfl, hb⟩
       refine ⟨_, rfl, ?_⟩
       replace BK613 := A_ (bw_ BK613.out hb)
       replace HB := A_ (below_step (bG_ GE613.out) hb)
       (try clear hb)
       (try clear hb2)
       (try clear hk)
       (try clear hi)
       refine hK.out _ _ ⟨bl_ BK613.out 0, bl_ BK613.out 1, bl_ BK613.out 2, bl_ BK613.out 3, bl_ BK613.out 4, (be_ hw615_0), (be_ hw615_1), (be_ hw615_2), (be_ hw615_3), (be_ hw615_4)⟩ (fun hHeld => ?_)
       clear hK K
       refine no_ (some 13) ?_
       refine pu_ (i := 2) (N := some 14) ?_
       refine pu_ (i := 3) (N := some 15) ?_
       refine pu_ (i := 4) (N := some 16) ?_
       refine pu_ (i := 5) (N := some 17) ?_
       refine pu_ (i := 6) (N := some 18) ?_
       refine pu_ (i := 7) (N := some 19) ?_
       refine pu_ (i := 8) (N := some 20) ?_
       refine pu_ (i := 9) (N := some 21) ?_
       refine pu_ (i := 10) (N := some 22) ?_
       refine pu_ (i := 11) (N := some 23) ?_
       refine pu_ (i := 13) (N := some 25) ?_
       refine tk_ (i := 12) (N := some 24) hHeld ?_
       refine tk_ (i := 14) (N := some 26) hHeld ?_
       refine on_ (i := 15) (N := some 27) (fun K hK => ?_)
       refine goes_ Try.func18 (by kernel_rfl) rfl #[.slice A615_0 ((rd_T59 l0 (ji8)).f0).length c615_0, .slice A612_0 ((rd_T59 l0 x7_1).f0).length c612_0] (by rfl) rfl rfl (by (try simp only [List.map_toArray, List.map_cons, List.map_nil]); first | done | (simp only [hji8]; rfl) | rfl | (simp only [List.length_drop, List.length_take]; rfl)) ?_
       with_reducible refine (impl_LessPath.calls k1 _ _ ((rd_T59 l0 (ji8)).f0) _ _ ((rd_T59 l0 x7_1).f0) false _ ?s1 ?s2 ?s3 ?s4 A11.out).mono ?_
       (case s1 => exact cC_ (Kd.C_below HR615_0.out HB.out))
       (case s2 => exact HC615_0.out)
       (case s3 => exact cC_ (Kd.C_below HR612_0.out HB.out))
       (case s4 => exact HC612_0.out)
       rintro e w' ⟨rfl, ⟨nd, rfl⟩⟩
       refine ⟨_, rfl, ?_⟩
       refine hK.out _ _ ⟨bl_ BK613.out 0, bl_ BK613.out 1, bl_ BK613.out 2, bl_ BK613.out 3, bl_ BK613.out 4, (be_ hw615_0), (be_ hw615_1), (be_ hw615_2), (be_ hw615_3), (be_ hw615_4)⟩ (fun hHeld => ?_)
       clear hK K
       refine no_ (some 27) ?_
       refine pu_ (i := 16) (N := some 28) ?_
       refine pu_ (i := 17) (N := some 29) ?_
       refine pu_ (i := 18) (N := some 30) ?_
       refine pu_ (i := 19) (N := some 31) ?_
       refine pn_ (i := 20) (N := some 32) ?_
       refine pn_ (i := 21) (N := some 33) ?_
       refine pn_ (i := 22) (N := some 34) ?_
       refine pn_ (i := 23) (N := some 35) ?_
       refine pn_ (i := 24) (N := some 36) ?_
       refine pn_ (i := 25) (N := some 37) ?_
       refine pu_ (i := 26) (N := some 38) ?_
       refine done_ (done_of HT_.out (by kernel_rfl)) ?_
       (try clear hHeld)
       try go_wp2
       go_ret
       exact ⟨by first | rfl | (simp [errW_none, errW_some] <;> rfl) | (simp only [← hji8]; first | rfl | (simp [errW_none, errW_some] <;> rfl)) | (simp [*, errW_none, errW_some] <;> rfl), bG_ GE613.out⟩
   · replace c6 := Bool.eq_false_iff.mpr c6
     subst c6
     rw [if_neg nf_] at H
     obtain rfl := si_ H
     have p612 : 0 ≤ (x7_1 : Int) := od_
     have q612 : x7_1 < (l0.length : Int) := od_
     obtain ⟨ad612, A612_0, c612_0, A612_4, c612_4, e612, hx612_0, hx612_1, hx612_2, hx612_3, hx612_4, hl612_0, hi612_0, hl612_4, hi612_4⟩ := at_T59 HR0.out x7_1 p612 q612
     cases e612
     replace hx612_0 := bc_ HB.out hx612_0
     replace hx612_1 := bc_ HB.out hx612_1
     replace hx612_2 := bc_ HB.out hx612_2
     replace hx612_3 := bc_ HB.out hx612_3
     replace hx612_4 := bc_ HB.out hx612_4
     have HR612_0 := A_ hi612_0
     have HC612_0 := A_ hl612_0
     clear hi612_0 hl612_0
     have HR612_4 := A_ hi612_4
     have HC612_4 := A_ hl612_4
     clear hi612_4 hl612_4
     replace p612 := eq_true p612
     replace q612 := eq_true q612
     try go_wp2_with (first | ((with_reducible refine gd_ (N := 4) rfl ?_); refine bx_ (N := 4) (cs := #[.slice none 0 0, .bool false, .string (⟨#[]⟩ : ByteArray), .int .i64 0, .slice none 0 0]) (t := 59) ?_; intro gb613 hg w56 hbox hb; have BK613 := A_ (hbox); have GW613 := A_ (ge_ hg bB_ : w.heap.size ≤ gb613); have GE613 := A_ (ge_ hg bB_ : w.heap.size ≤ gb613); replace HB := A_ (below_step bB_ hb); clear hb hbox hg; obtain ⟨hcz57_0, hcz57_1, hcz57_2, hcz57_3, hcz57_4, hfz57_0, hfz57_1, hfz57_2, hfz57_3, hfz57_4⟩ := cz5_ BK613.out))
     have n0_ : Aside0 ((((((w56.setCell ⟨gb613, 0, none⟩ (.slice A612_0 ((rd_T59 l0 x7_1).f0).length c612_0)).setCell ⟨gb613, 1, none⟩ (.bool ((rd_T59 l0 x7_1).f1))).setCell ⟨gb613, 2, none⟩ (.string ((rd_T59 l0 x7_1).f2))).setCell ⟨gb613, 3, none⟩ (.int .i64 ((rd_T59 l0 x7_1).f3))).setCell ⟨gb613, 4, none⟩ (.slice A612_4 ((rd_T59 l0 x7_1).f4).length c612_4)).heap[gb613]? = some (.cells #[.slice A612_0 ((rd_T59 l0 x7_1).f0).length c612_0, .bool ((rd_T59 l0 x7_1).f1), .string ((rd_T59 l0 x7_1).f2), .int .i64 ((rd_T59 l0 x7_1).f3), .slice A612_4 ((rd_T59 l0 x7_1).f4).length c612_4] 59 (0, 0))) := ⟨by (with_reducible repeat (first | refine blk_drewN ?_ _ | refine blk_drew ?_ | refine blk_alloc ?_ _)); refine blk_put (cs := #[.slice A612_0 ((rd_T59 l0 x7_1).f0).length c612_0, .bool ((rd_T59 l0 x7_1).f1), .string ((rd_T59 l0 x7_1).f2), .int .i64 ((rd_T59 l0 x7_1).f3), .slice none 0 0]) ?_ 4 _ rfl; (with_reducible repeat (first | refine blk_drewN ?_ _ | refine blk_drew ?_ | refine blk_alloc ?_ _)); refine blk_put (cs := #[.slice A612_0 ((rd_T59 l0 x7_1).f0).length c612_0, .bool ((rd_T59 l0 x7_1).f1), .string ((rd_T59 l0 x7_1).f2), .int .i64 0, .slice none 0 0]) ?_ 3 _ rfl; (with_reducible repeat (first | refine blk_drewN ?_ _ | refine blk_drew ?_ | refine blk_alloc ?_ _)); refine blk_put (cs := #[.slice A612_0 ((rd_T59 l0 x7_1).f0).length c612_0, .bool ((rd_T59 l0 x7_1).f1), .string (⟨#[]⟩ : ByteArray), .int .i64 0, .slice none 0 0]) ?_ 2 _ rfl; (with_reducible repeat (first | refine blk_drewN ?_ _ | refine blk_drew ?_ | refine blk_alloc ?_ _)); refine blk_put (cs := #[.slice A612_0 ((rd_T59 l0 x7_1).f0).length c612_0, .bool false, .string (⟨#[]⟩ : ByteArray), .int .i64 0, .slice none 0 0]) ?_ 1 _ rfl; (with_reducible repeat (first | refine blk_drewN ?_ _ | refine blk_drew ?_ | refine blk_alloc ?_ _)); refine blk_put (cs := #[.slice none 0 0, .bool false, .string (⟨#[]⟩ : ByteArray), .int .i64 0, .slice none 0 0]) ?_ 0 _ rfl; (with_reducible repeat (first | refine blk_drewN ?_ _ | refine blk_drew ?_ | refine blk_alloc ?_ _)); exact BK613.out⟩
     have n1_ : Aside0 (Below w.heap.size w (((((w56.setCell ⟨gb613, 0, none⟩ (.slice A612_0 ((rd_T59 l0 x7_1).f0).length c612_0)).setCell ⟨gb613, 1, none⟩ (.bool ((rd_T59 l0 x7_1).f1))).setCell ⟨gb613, 2, none⟩ (.string ((rd_T59 l0 x7_1).f2))).setCell ⟨gb613, 3, none⟩ (.int .i64 ((rd_T59 l0 x7_1).f3))).setCell ⟨gb613, 4, none⟩ (.slice A612_4 ((rd_T59 l0 x7_1).f4).length c612_4))) := ⟨bG_ GE613.out⟩
     (try clear BK613)
     (try clear HB)
     generalize (((((w56.setCell ⟨gb613, 0, none⟩ (.slice A612_0 ((rd_T59 l0 x7_1).f0).length c612_0)).setCell ⟨gb613, 1, none⟩ (.bool ((rd_T59 l0 x7_1).f1))).setCell ⟨gb613, 2, none⟩ (.string ((rd_T59 l0 x7_1).f2))).setCell ⟨gb613, 3, none⟩ (.int .i64 ((rd_T59 l0 x7_1).f3))).setCell ⟨gb613, 4, none⟩ (.slice A612_4 ((rd_T59 l0 x7_1).f4).length c612_4)) = w58 at n0_ n1_ ⊢
     have BK613 := n0_
     have HB := n1_
     clear n0_ n1_
     replace BK613 := A_ (blk_drew BK613.out)
     replace HB := A_ (below_drew1 HB.out)
     refine start_ (n := 27) (S := fun w' => w'.cell? ⟨gb613, 0, none⟩ = some (.slice A612_0 ((rd_T59 l0 x7_1).f0).length c612_0) ∧ w'.cell? ⟨gb613, 1, none⟩ = some (.bool ((rd_T59 l0 x7_1).f1)) ∧ w'.cell? ⟨gb613, 2, none⟩ = some (.string ((rd_T59 l0 x7_1).f2)) ∧ w'.cell? ⟨gb613, 3, none⟩ = some (.int .i64 ((rd_T59 l0 x7_1).f3)) ∧ w'.cell? ⟨gb613, 4, none⟩ = some (.slice A612_4 ((rd_T59 l0 x7_1).f4).length c612_4)) (ds := []) #[false, false, false, false, false, false, false, false, false, false, false, false, false, false, false, false, false, false, false, false, false, false, false, false, false, false, false] (by kernel_rfl) rfl rfl (hl_ BK613.out) (fun hHeld => ?_); refine with_tabW impl_TreeOk.tab4 impl_TreeOk.bits4 (fun HT_ HW_ => ?_)
     generalize w58.drew = w59 at BK613 HB hHeld ⊢
     refine tk_ (i := 0) (N := some 12) hHeld ?_
     refine on_ (i := 1) (N := some 13) (fun K hK => ?_)
     refine goes_ Try.func84 (by kernel_rfl) rfl #[.agg #[.slice A612_0 ((rd_T59 l0 x7_1).f0).length c612_0, .bool ((rd_T59 l0 x7_1).f1), .string ((rd_T59 l0 x7_1).f2), .int .i64 ((rd_T59 l0 x7_1).f3), .slice A612_4 ((rd_T59 l0 x7_1).f4).length c612_4]] (by rfl) rfl rfl ml_ ?_
     with_reducible refine (impl_resOk.calls k1 _ _ ((rd_T59 l0 x7_1).f0) ((rd_T59 l0 x7_1).f1) ((rd_T59 l0 x7_1).f2) ((rd_T59 l0 x7_1).f3) _ _ ((rd_T59 l0 x7_1).f4) false _ ?s1 ?s2 ?s3 ?s4 A5.out).mono ?_
     (case s1 => exact cC_ (Kd.C_below HR612_0.out HB.out))
     (case s2 => exact HC612_0.out)
     (case s3 => exact cC_ (Kd.C_below HR612_4.out HB.out))
     (case s4 => exact HC612_4.out)
     rintro e w60 ⟨rfl, hb⟩
     refine ⟨_, rfl, ?_⟩
     replace BK613 := A_ (bw_ BK613.out hb)
     replace HB := A_ (below_step (bG_ GE613.out) hb)
     (try clear hb)
     (try clear hb2)
     (try clear hk)
     (try clear hi)
     refine hK.out _ _ (hl_ BK613.out) (fun hHeld => ?_)
     clear hK K
     refine no_ (some 13) ?_
     refine pu_ (i := 2) (N := some 14) ?_
     refine pu_ (i := 3) (N := some 15) ?_
     refine pn_ (i := 4) (N := some 16) ?_
     refine pn_ (i := 5) (N := some 17) ?_
     refine pn_ (i := 6) (N := some 18) ?_
     refine pn_ (i := 7) (N := some 19) ?_
     refine pn_ (i := 8) (N := some 20) ?_
     refine pn_ (i := 9) (N := some 21) ?_
     refine pn_ (i := 10) (N := some 22) ?_
     refine pn_ (i := 11) (N := some 23) ?_
     refine pn_ (i := 12) (N := some 24) ?_
     refine pn_ (i := 13) (N := some 25) ?_
     refine pn_ (i := 14) (N := some 26) ?_
     refine pn_ (i := 15) (N := some 27) ?_
     refine pn_ (i := 16) (N := some 28) ?_
     refine pn_ (i := 17) (N := some 29) ?_
     refine pu_ (i := 18) (N := some 30) ?_
     refine pu_ (i := 19) (N := some 31) ?_
     refine pn_ (i := 20) (N := some 32) ?_
     refine pn_ (i := 21) (N := some 33) ?_
     refine pn_ (i := 22) (N := some 34) ?_
     refine pn_ (i := 23) (N := some 35) ?_
     refine pn_ (i := 24) (N := some 36) ?_
     refine pn_ (i := 25) (N := some 37) ?_
     refine pu_ (i := 26) (N := some 38) ?_
     refine done_ (done_of HT_.out (by kernel_rfl)) ?_
     (try clear hHeld)
     try go_wp2
     go_ret
     exact ⟨rr_, bG_ GE613.out⟩
end Go.Proofs.Yteabkidfgdmmpaa.Q
