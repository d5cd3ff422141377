-- PRINTED by print.py (a twelfth state) out of the translation. Not trusted: Lean checks it.
import Derived.Test.YteabkidfgdmmpaaVFnTreesBentG25
namespace Go.Proofs.Yteabkidfgdmmpaa.Q
open Go.RowKit Go.Proofs.YteabkidfgdmmpaaW.PrintWords Go.Proofs.YteabkidfgdmmpaaW.PrintLast Go.Proofs.YteabkidfgdmmpaaW.PrintMore
attribute [local go_sem] max2_int min2_int max_two min_two max_three min_three max_four min_four   -- for this text's walks alone
set_option linter.unusedVariables false
set_option linter.unusedSimpArgs false
mutual
def spec_TreeOk.l0 : Nat → List (S59) → Int → Option (Bool)
 | 0, _, _ => none
 | k + 1, x0, x3 => if x3 < (x0.length : Int) then (if 0 ≤ x3 then (if (((rd_T59 x0 x3).f0).length : Int) = 0 then (spec_TreeOk.j1 k x0 x3 true ((rd_T59 x0 x3).f0) ((rd_T59 x0 x3).f1) ((rd_T59 x0 x3).f2) ((rd_T59 x0 x3).f3) ((rd_T59 x0 x3).f4)) else ((spec_PathOk.f k ((rd_T59 x0 x3).f0)).bind fun t586 => (if t586 = true then (if (((rd_T59 x0 x3).f2).size : Int) > 200 then (spec_TreeOk.j1 k x0 x3 true ((rd_T59 x0 x3).f0) ((rd_T59 x0 x3).f1) ((rd_T59 x0 x3).f2) ((rd_T59 x0 x3).f3) ((rd_T59 x0 x3).f4)) else (if (rd_T59 x0 x3).f1 = true then (if ((rd_T59 x0 x3).f2).toList = ([] : List UInt8) then ((spec_l1In.f ((rd_T59 x0 x3).f3) 0 99999).bind fun t587 => (if t587 = true then ((spec_PropsOk.f k ((rd_T59 x0 x3).f4)).bind fun t588 => (spec_TreeOk.j1 k x0 x3 (!t588) ((rd_T59 x0 x3).f0) ((rd_T59 x0 x3).f1) ((rd_T59 x0 x3).f2) ((rd_T59 x0 x3).f3) ((rd_T59 x0 x3).f4))) else (spec_TreeOk.j1 k x0 x3 true ((rd_T59 x0 x3).f0) ((rd_T59 x0 x3).f1) ((rd_T59 x0 x3).f2) ((rd_T59 x0 x3).f3) ((rd_T59 x0 x3).f4)))) else (spec_TreeOk.j1 k x0 x3 true ((rd_T59 x0 x3).f0) ((rd_T59 x0 x3).f1) ((rd_T59 x0 x3).f2) ((rd_T59 x0 x3).f3) ((rd_T59 x0 x3).f4))) else ((spec_l1In.f ((rd_T59 x0 x3).f3) 0 99999).bind fun t589 => (if t589 = true then ((spec_PropsOk.f k ((rd_T59 x0 x3).f4)).bind fun t590 => (spec_TreeOk.j1 k x0 x3 (!t590) ((rd_T59 x0 x3).f0) ((rd_T59 x0 x3).f1) ((rd_T59 x0 x3).f2) ((rd_T59 x0 x3).f3) ((rd_T59 x0 x3).f4))) else (spec_TreeOk.j1 k x0 x3 true ((rd_T59 x0 x3).f0) ((rd_T59 x0 x3).f1) ((rd_T59 x0 x3).f2) ((rd_T59 x0 x3).f3) ((rd_T59 x0 x3).f4)))))) else (spec_TreeOk.j1 k x0 x3 true ((rd_T59 x0 x3).f0) ((rd_T59 x0 x3).f1) ((rd_T59 x0 x3).f2) ((rd_T59 x0 x3).f3) ((rd_T59 x0 x3).f4))))) else (none)) else (some (decide ((x0.length : Int) ≤ 12)))
def spec_TreeOk.j1 : Nat → List (S59) → Int → Bool → List ByteArray → Bool → ByteArray → Int → List (S71) → Option (Bool)
 | 0, _, _, _, _, _, _, _, _ => none
 | k + 1, x0, x3, x51, x586000, x586001, x586002, x586003, x586004 => if x51 = true then (some false) else (if x3 > 0 then (if 0 ≤ (wrap64 (x3 - 1)) then (if (wrap64 (x3 - 1)) < (x0.length : Int) then ((spec_LessPath.f k ((rd_T59 x0 (wrap64 (x3 - 1))).f0) x586000).bind fun t592 => (if t592 = true then ((spec_Above.f x586000).bind fun t593 => ((spec_IsColl.f k x0 t593).bind fun t596 => (if t596 = true then (spec_TreeOk.l0 k x0 (wrap64 (x3 + 1))) else (some false)))) else (some false))) else (none)) else (none)) else ((spec_Above.f x586000).bind fun t597 => ((spec_IsColl.f k x0 t597).bind fun t600 => (if t600 = true then (spec_TreeOk.l0 k x0 (wrap64 (x3 + 1))) else (some false)))))
end
def spec_TreeOk.f (k : Nat) (l0 : List (S59)) : Option (Bool) := spec_TreeOk.l0 k l0 0
def spec_TreeOk.T7 : Bool × List (List Nat × List Nat) := (true, [([], []), ([0], [0]), ([1], [1]), ([2], [2]), ([2], [2]), ([4, 2], [2, 4]), ([3, 5, 2], [2, 3, 5]), ([6, 2], [2, 6]), ([7, 2], [2, 7]), ([2], [2]), ([9, 2], [2, 9]), ([8, 10, 2, 2], [2, 8, 10]), ([11, 2], [2, 11]), ([2, 12], [2, 12]), ([13, 11], [13]), ([14], [14]), ([14], [14]), ([16, 14], [14, 16]), ([17, 14, 14], [14, 17]), ([15, 18, 18, 14], [14, 15, 18]), ([19, 14], [14, 19]), ([14, 20], [14, 20])])
def spec_TreeOk.B7 : List Nat := [0, 1, 3, 7, 7, 23, 63, 127, 255, 7, 519, 2047, 4095, 8191, 16383, 32767, 32767, 98303, 229375, 524287, 1048575, 2097151]
theorem spec_TreeOk.tab7 : rtab .any (opsOf Try.f49 7) = spec_TreeOk.T7 := by kernel_rfl
theorem spec_TreeOk.bits7 : waitsOk spec_TreeOk.T7.2 spec_TreeOk.B7 = true := by kernel_rfl
set_option maxHeartbeats 8000000 in
set_option maxRecDepth 100000 in
theorem spec_TreeOk.calls (k : Nat) (A0 : Option Addr) (c0 : Nat) (l0 : List (S59)) (r : Bool) (w : World) (hr0 : Kd.C k59 w A0 l0.length l0) (hc0 : l0.length ≤ c0) (h : spec_TreeOk.f k l0 = some r) :
 Calls Try.prog 49 #[.slice A0 l0.length c0] w fun e w' => e = .returned (.bool r) ∧ Below w.heap.size w w' := by
 have hu59 := Try.underlying59
 have HR0 := A_ hr0
 have HC0 := A_ hc0
 clear hr0 hc0
 have HB := A_ (Below.refl w.heap.size w)
 have H : (spec_TreeOk.l0 k l0 0) = some r := h
 clear h
 have H' := A_ H
 clear H
 go_enter Try.func49, Try.ntmps49
 go_wp2
 go_loopg [3] k (fun kq v3 w' => ∃ (x3_1 : Int), v3 = .int .i64 x3_1 ∧ Aside0 (spec_TreeOk.l0 kq l0 x3_1 = some r) ∧ Aside0 (kq ≤ k) ∧ Aside0 (Below w.heap.size w w'))
 case atStart => exact ⟨(0), rs_, H', ⟨Nat.le_refl _⟩, ⟨bB_⟩⟩
 case round =>
  clear H'
  obtain ⟨x3_1, rfl, HA, HK1, HB⟩ := hrel
  cases gk with
  | zero => exact absurd HA.out (by simp [spec_TreeOk.l0])
  | succ k1 =>
   have H := HA.out
   clear HA
   simp only [spec_TreeOk.l0] at H
   by_cases c2 : x3_1 < (l0.length : Int)
   rotate_left
   · rw [if_neg c2] at H
     have c2b0 : decide (x3_1 < (l0.length : Int)) = false := decide_eq_false c2
     clear c2
     obtain rfl := si_ H
     go_wp2
     go_ret
     exact ⟨rr_, bB_⟩
   rw [if_pos c2] at H
   have c2b0 : decide (x3_1 < (l0.length : Int)) = true := decide_eq_true c2
   clear c2
   by_cases c3 : 0 ≤ x3_1
   rotate_left
   · exact absurd H (by rw [if_neg c3]; simp)
   rw [if_pos c3] at H
   have c3b0 : decide (0 ≤ x3_1) = true := decide_eq_true c3
   clear c3
   have HC4 := A_ H
   clear H
   have p584 : 0 ≤ (x3_1 : Int) := od_
   have q584 : x3_1 < (l0.length : Int) := od_
   obtain ⟨ad584, A584_0, c584_0, A584_4, c584_4, e584, hx584_0, hx584_1, hx584_2, hx584_3, hx584_4, hl584_0, hi584_0, hl584_4, hi584_4⟩ := at_T59 HR0.out x3_1 p584 q584
   cases e584
   replace hx584_0 := bc_ HB.out hx584_0
   replace hx584_1 := bc_ HB.out hx584_1
   replace hx584_2 := bc_ HB.out hx584_2
   replace hx584_3 := bc_ HB.out hx584_3
   replace hx584_4 := bc_ HB.out hx584_4
   have HR584_0 := A_ hi584_0
   have HC584_0 := A_ hl584_0
   clear hi584_0 hl584_0
   have HR584_4 := A_ hi584_4
   have HC584_4 := A_ hl584_4
   clear hi584_4 hl584_4
   replace p584 := eq_true p584
   replace q584 := eq_true q584
   go_upto_region 5 with (first | ((with_reducible refine gd_ (N := 4) rfl ?_); (try (refine gate_guard (by rfl) ?_; dsimp only)); refine bx_ (N := 4) (cs := #[.slice none 0 0, .bool false, .string (⟨#[]⟩ : ByteArray), .int .i64 0, .slice none 0 0]) (t := 59) ?_; intro gb585 hg w5 hbox hb; have BK585 := A_ (hbox); have GW585 := A_ (ge_ hg bB_ : w.heap.size ≤ gb585); have GE585 := A_ (ge_ hg bB_ : w.heap.size ≤ gb585); replace HB := A_ (below_step bB_ hb); clear hb hbox hg; obtain ⟨hcz6_0, hcz6_1, hcz6_2, hcz6_3, hcz6_4, hfz6_0, hfz6_1, hfz6_2, hfz6_3, hfz6_4⟩ := cz5_ BK585.out))
   (try simp only [Act.put, List.setIfInBounds_toArray, List.set_cons_zero, List.set_cons_succ])
   go_cut [51] (fun v51 wc => ∃ (kq : Nat) (x51_3 : Bool), v51 = .bool x51_3 ∧ Aside0 (spec_TreeOk.j1 kq l0 x3_1 x51_3 ((rd_T59 l0 x3_1).f0) ((rd_T59 l0 x3_1).f1) ((rd_T59 l0 x3_1).f2) ((rd_T59 l0 x3_1).f3) ((rd_T59 l0 x3_1).f4) = some r) ∧ Aside0 (kq ≤ k1) ∧ Aside0 (wc.heap[gb585]? = some (.cells #[(.slice A584_0 ((rd_T59 l0 x3_1).f0).length c584_0), .bool ((rd_T59 l0 x3_1).f1), .string ((rd_T59 l0 x3_1).f2), .int .i64 ((rd_T59 l0 x3_1).f3), (.slice A584_4 ((rd_T59 l0 x3_1).f4).length c584_4)] 59 (0, 0))) ∧ Aside0 (Below w.heap.size w wc))
   case first =>
    have H := HC4.out
    clear HC4
    by_cases c7 : (((rd_T59 l0 x3_1).f0).length : Int) = 0
    · rw [if_pos c7] at H
      have c7b0 : ((((rd_T59 l0 x3_1).f0).length : Int) == 0) = true := beq_iff_eq.mpr c7
      have c7b1 : ((((rd_T59 l0 x3_1).f0).length : Int) != 0) = false := bne_eq_false_iff_eq.mpr c7
      clear c7
      (first | rw [c7b0] | (simp only [i64_w, i32_w]; rw [c7b0]) | skip)
      have H' := A_ H
      clear H
      obtain ⟨hcz8_0, hcz8_1, hcz8_2, hcz8_3, hcz8_4, hfz8_0, hfz8_1, hfz8_2, hfz8_3, hfz8_4⟩ := cz5_ BK585.out
      go_wp2
      go_meet
      case rel => exact ⟨_, (true), rs_, H', ⟨by have := HK1.out; first | omega | exact Nat.le_refl _⟩, ⟨by (with_reducible repeat (first | refine blk_drewN ?_ _ | refine blk_drew ?_ | refine blk_alloc ?_ _)); refine blk_put (cs := #[.slice A584_0 ((rd_T59 l0 x3_1).f0).length c584_0, .bool ((rd_T59 l0 x3_1).f1), .string ((rd_T59 l0 x3_1).f2), .int .i64 ((rd_T59 l0 x3_1).f3), .slice none 0 0]) ?_ 4 _ rfl; (with_reducible repeat (first | refine blk_drewN ?_ _ | refine blk_drew ?_ | refine blk_alloc ?_ _)); refine blk_put (cs := #[.slice A584_0 ((rd_T59 l0 x3_1).f0).length c584_0, .bool ((rd_T59 l0 x3_1).f1), .string ((rd_T59 l0 x3_1).f2), .int .i64 0, .slice none 0 0]) ?_ 3 _ rfl; (with_reducible repeat (first | refine blk_drewN ?_ _ | refine blk_drew ?_ | refine blk_alloc ?_ _)); refine blk_put (cs := #[.slice A584_0 ((rd_T59 l0 x3_1).f0).length c584_0, .bool ((rd_T59 l0 x3_1).f1), .string (⟨#[]⟩ : ByteArray), .int .i64 0, .slice none 0 0]) ?_ 2 _ rfl; (with_reducible repeat (first | refine blk_drewN ?_ _ | refine blk_drew ?_ | refine blk_alloc ?_ _)); refine blk_put (cs := #[.slice A584_0 ((rd_T59 l0 x3_1).f0).length c584_0, .bool false, .string (⟨#[]⟩ : ByteArray), .int .i64 0, .slice none 0 0]) ?_ 1 _ rfl; (with_reducible repeat (first | refine blk_drewN ?_ _ | refine blk_drew ?_ | refine blk_alloc ?_ _)); refine blk_put (cs := #[.slice none 0 0, .bool false, .string (⟨#[]⟩ : ByteArray), .int .i64 0, .slice none 0 0]) ?_ 0 _ rfl; (with_reducible repeat (first | refine blk_drewN ?_ _ | refine blk_drew ?_ | refine blk_alloc ?_ _)); exact BK585.out⟩, ⟨bG_ GE585.out⟩⟩
    rw [if_neg c7] at H
    have c7b0 : ((((rd_T59 l0 x3_1).f0).length : Int) == 0) = false := beq_eq_false_iff_ne.mpr c7
    have c7b1 : ((((rd_T59 l0 x3_1).f0).length : Int) != 0) = true := bne_iff_ne.mpr c7
    have c7b2 : ¬ (((rd_T59 l0 x3_1).f0) = []) := fun h_ => c7 (by rw [h_]; rfl)
    (first | rw [c7b0] | (simp only [i64_w, i32_w]; rw [c7b0]) | skip)
    obtain ⟨t586, A9, H⟩ := bo_ H
    (try dsimp only at H)
    by_cases c10 : t586 = true
    · subst c10
      rw [if_pos rfl] at H
      by_cases c11 : (((rd_T59 l0 x3_1).f2).size : Int) > 200
      · rw [if_pos c11] at H
        have c11b0 : decide (200 < (((rd_T59 l0 x3_1).f2).size : Int)) = true := decide_eq_true c11
        have c11b1 : decide (200 < ((rd_T59 l0 x3_1).f2).size) = true := decide_eq_true (by omega)
        clear c11
        have H' := A_ H
        clear H
        obtain ⟨hcz12_0, hcz12_1, hcz12_2, hcz12_3, hcz12_4, hfz12_0, hfz12_1, hfz12_2, hfz12_3, hfz12_4⟩ := cz5_ BK585.out
        go_wp2_with (first | (go_at_call 82; (with_reducible refine (spec_PathOk.calls k1 _ _ ((rd_T59 l0 x3_1).f0) true _ ?s1 ?s2 A9.out).mono ?_); (case s1 => exact Kd.C_below HR584_0.out (bG_ GE585.out)); (case s2 => exact HC584_0.out); rintro e w' ⟨rfl, ⟨nd, rfl⟩⟩))
        go_meet
        case rel => exact ⟨_, (true), rs_, H', ⟨by have := HK1.out; first | omega | exact Nat.le_refl _⟩, ⟨by (with_reducible repeat (first | refine blk_drewN ?_ _ | refine blk_drew ?_ | refine blk_alloc ?_ _)); refine blk_put (cs := #[.slice A584_0 ((rd_T59 l0 x3_1).f0).length c584_0, .bool ((rd_T59 l0 x3_1).f1), .string ((rd_T59 l0 x3_1).f2), .int .i64 ((rd_T59 l0 x3_1).f3), .slice none 0 0]) ?_ 4 _ rfl; (with_reducible repeat (first | refine blk_drewN ?_ _ | refine blk_drew ?_ | refine blk_alloc ?_ _)); refine blk_put (cs := #[.slice A584_0 ((rd_T59 l0 x3_1).f0).length c584_0, .bool ((rd_T59 l0 x3_1).f1), .string ((rd_T59 l0 x3_1).f2), .int .i64 0, .slice none 0 0]) ?_ 3 _ rfl; (with_reducible repeat (first | refine blk_drewN ?_ _ | refine blk_drew ?_ | refine blk_alloc ?_ _)); refine blk_put (cs := #[.slice A584_0 ((rd_T59 l0 x3_1).f0).length c584_0, .bool ((rd_T59 l0 x3_1).f1), .string (⟨#[]⟩ : ByteArray), .int .i64 0, .slice none 0 0]) ?_ 2 _ rfl; (with_reducible repeat (first | refine blk_drewN ?_ _ | refine blk_drew ?_ | refine blk_alloc ?_ _)); refine blk_put (cs := #[.slice A584_0 ((rd_T59 l0 x3_1).f0).length c584_0, .bool false, .string (⟨#[]⟩ : ByteArray), .int .i64 0, .slice none 0 0]) ?_ 1 _ rfl; (with_reducible repeat (first | refine blk_drewN ?_ _ | refine blk_drew ?_ | refine blk_alloc ?_ _)); refine blk_put (cs := #[.slice none 0 0, .bool false, .string (⟨#[]⟩ : ByteArray), .int .i64 0, .slice none 0 0]) ?_ 0 _ rfl; (with_reducible repeat (first | refine blk_drewN ?_ _ | refine blk_drew ?_ | refine blk_alloc ?_ _)); exact BK585.out⟩, ⟨bG_ GE585.out⟩⟩
      rw [if_neg c11] at H
      have c11b0 : decide (200 < (((rd_T59 l0 x3_1).f2).size : Int)) = false := decide_eq_false c11
      have c11b1 : decide (200 < ((rd_T59 l0 x3_1).f2).size) = false := decide_eq_false (by omega)
      clear c11
      obtain ⟨bq13, hbq13⟩ : ∃ b_ : Bool, b_ = ((rd_T59 l0 x3_1).f1) := ⟨_, rfl⟩
      replace H : (if bq13 = true then (if ((rd_T59 l0 x3_1).f2).toList = ([] : List UInt8) then ((spec_l1In.f ((rd_T59 l0 x3_1).f3) 0 99999).bind fun t587 => (if t587 = true then ((spec_PropsOk.f k1 ((rd_T59 l0 x3_1).f4)).bind fun t588 => (spec_TreeOk.j1 k1 l0 x3_1 (!t588) ((rd_T59 l0 x3_1).f0) bq13 ((rd_T59 l0 x3_1).f2) ((rd_T59 l0 x3_1).f3) ((rd_T59 l0 x3_1).f4))) else (spec_TreeOk.j1 k1 l0 x3_1 true ((rd_T59 l0 x3_1).f0) bq13 ((rd_T59 l0 x3_1).f2) ((rd_T59 l0 x3_1).f3) ((rd_T59 l0 x3_1).f4)))) else (spec_TreeOk.j1 k1 l0 x3_1 true ((rd_T59 l0 x3_1).f0) bq13 ((rd_T59 l0 x3_1).f2) ((rd_T59 l0 x3_1).f3) ((rd_T59 l0 x3_1).f4))) else ((spec_l1In.f ((rd_T59 l0 x3_1).f3) 0 99999).bind fun t589 => (if t589 = true then ((spec_PropsOk.f k1 ((rd_T59 l0 x3_1).f4)).bind fun t590 => (spec_TreeOk.j1 k1 l0 x3_1 (!t590) ((rd_T59 l0 x3_1).f0) bq13 ((rd_T59 l0 x3_1).f2) ((rd_T59 l0 x3_1).f3) ((rd_T59 l0 x3_1).f4))) else (spec_TreeOk.j1 k1 l0 x3_1 true ((rd_T59 l0 x3_1).f0) bq13 ((rd_T59 l0 x3_1).f2) ((rd_T59 l0 x3_1).f3) ((rd_T59 l0 x3_1).f4))))) = some r := by rw [← hbq13] at H; exact H
      have Nbq13 := A_ hbq13
      clear hbq13
      (try rw [← Nbq13.out])
      by_cases c14 : bq13 = true
      · subst c14
        rw [if_pos rfl] at H
        by_cases c15 : ((rd_T59 l0 x3_1).f2).toList = ([] : List UInt8)
        rotate_left
        · rw [if_neg c15] at H
          have c15b0 : (((rd_T59 l0 x3_1).f2).toList == ([] : List UInt8)) = false := beq_eq_false_iff_ne.mpr c15
          have c15b1 : (((rd_T59 l0 x3_1).f2).toList != ([] : List UInt8)) = true := bne_iff_ne.mpr c15
          have H' := A_ H
          clear H
          obtain ⟨hcz22_0, hcz22_1, hcz22_2, hcz22_3, hcz22_4, hfz22_0, hfz22_1, hfz22_2, hfz22_3, hfz22_4⟩ := cz5_ BK585.out
          go_wp2_with (first | (go_at_call 82; (with_reducible refine (spec_PathOk.calls k1 _ _ ((rd_T59 l0 x3_1).f0) true _ ?s1 ?s2 A9.out).mono ?_); (case s1 => exact Kd.C_below HR584_0.out (bG_ GE585.out)); (case s2 => exact HC584_0.out); rintro e w' ⟨rfl, ⟨nd, rfl⟩⟩))
          go_meet
          case rel => (try rw [← Nbq13.out]); exact ⟨_, (true), rs_, H', ⟨by have := HK1.out; first | omega | exact Nat.le_refl _⟩, ⟨by (with_reducible repeat (first | refine blk_drewN ?_ _ | refine blk_drew ?_ | refine blk_alloc ?_ _)); refine blk_put (cs := #[.slice A584_0 ((rd_T59 l0 x3_1).f0).length c584_0, .bool (true), .string ((rd_T59 l0 x3_1).f2), .int .i64 ((rd_T59 l0 x3_1).f3), .slice none 0 0]) ?_ 4 _ rfl; (with_reducible repeat (first | refine blk_drewN ?_ _ | refine blk_drew ?_ | refine blk_alloc ?_ _)); refine blk_put (cs := #[.slice A584_0 ((rd_T59 l0 x3_1).f0).length c584_0, .bool (true), .string ((rd_T59 l0 x3_1).f2), .int .i64 0, .slice none 0 0]) ?_ 3 _ rfl; (with_reducible repeat (first | refine blk_drewN ?_ _ | refine blk_drew ?_ | refine blk_alloc ?_ _)); refine blk_put (cs := #[.slice A584_0 ((rd_T59 l0 x3_1).f0).length c584_0, .bool (true), .string (⟨#[]⟩ : ByteArray), .int .i64 0, .slice none 0 0]) ?_ 2 _ rfl; (with_reducible repeat (first | refine blk_drewN ?_ _ | refine blk_drew ?_ | refine blk_alloc ?_ _)); refine blk_put (cs := #[.slice A584_0 ((rd_T59 l0 x3_1).f0).length c584_0, .bool false, .string (⟨#[]⟩ : ByteArray), .int .i64 0, .slice none 0 0]) ?_ 1 _ rfl; (with_reducible repeat (first | refine blk_drewN ?_ _ | refine blk_drew ?_ | refine blk_alloc ?_ _)); refine blk_put (cs := #[.slice none 0 0, .bool false, .string (⟨#[]⟩ : ByteArray), .int .i64 0, .slice none 0 0]) ?_ 0 _ rfl; (with_reducible repeat (first | refine blk_drewN ?_ _ | refine blk_drew ?_ | refine blk_alloc ?_ _)); exact BK585.out⟩, ⟨bG_ GE585.out⟩⟩
        rw [if_pos c15] at H
        have c15b0 : (((rd_T59 l0 x3_1).f2).toList == ([] : List UInt8)) = true := beq_iff_eq.mpr c15
        have c15b1 : (((rd_T59 l0 x3_1).f2).toList != ([] : List UInt8)) = false := bne_eq_false_iff_eq.mpr c15
        clear c15
        obtain ⟨t587, A16, H⟩ := bo_ H
        (try dsimp only at H)
        by_cases c17 : t587 = true
        · subst c17
          rw [if_pos rfl] at H
          obtain ⟨t588, A18, H⟩ := bo_ H
          (try dsimp only at H)
          have H' := A_ H
          clear H
          obtain ⟨hcz19_0, hcz19_1, hcz19_2, hcz19_3, hcz19_4, hfz19_0, hfz19_1, hfz19_2, hfz19_3, hfz19_4⟩ := cz5_ BK585.out
          go_wp2_with (first | (go_at_call 82; (with_reducible refine (spec_PathOk.calls k1 _ _ ((rd_T59 l0 x3_1).f0) true _ ?s1 ?s2 A9.out).mono ?_); (case s1 => exact Kd.C_below HR584_0.out (bG_ GE585.out)); (case s2 => exact HC584_0.out); rintro e w' ⟨rfl, ⟨nd, rfl⟩⟩) | (go_at_call 83; (with_reducible refine (spec_l1In.calls ((rd_T59 l0 x3_1).f3) 0 99999 true _ A16.out).mono ?_); rintro e w' ⟨rfl, ⟨nd, rfl⟩⟩) | (go_at_call 29; (with_reducible refine (spec_PropsOk.calls k1 _ _ ((rd_T59 l0 x3_1).f4) t588 _ ?s1 ?s2 A18.out).mono ?_); (case s1 => exact Kd.C_below HR584_4.out (bG_ GE585.out)); (case s2 => exact HC584_4.out); rintro e w20 ⟨rfl, hb⟩; replace BK585 := A_ (blk_below (g := gb585) (o := .cells #[.slice A584_0 ((rd_T59 l0 x3_1).f0).length c584_0, .bool true, .string ((rd_T59 l0 x3_1).f2), .int .i64 ((rd_T59 l0 x3_1).f3), .slice A584_4 ((rd_T59 l0 x3_1).f4).length c584_4] 59 (0, 0)) (by (with_reducible repeat (first | refine blk_drewN ?_ _ | refine blk_drew ?_ | refine blk_alloc ?_ _)); refine blk_put (cs := #[.slice A584_0 ((rd_T59 l0 x3_1).f0).length c584_0, .bool (true), .string ((rd_T59 l0 x3_1).f2), .int .i64 ((rd_T59 l0 x3_1).f3), .slice none 0 0]) ?_ 4 _ rfl; (with_reducible repeat (first | refine blk_drewN ?_ _ | refine blk_drew ?_ | refine blk_alloc ?_ _)); refine blk_put (cs := #[.slice A584_0 ((rd_T59 l0 x3_1).f0).length c584_0, .bool (true), .string ((rd_T59 l0 x3_1).f2), .int .i64 0, .slice none 0 0]) ?_ 3 _ rfl; (with_reducible repeat (first | refine blk_drewN ?_ _ | refine blk_drew ?_ | refine blk_alloc ?_ _)); refine blk_put (cs := #[.slice A584_0 ((rd_T59 l0 x3_1).f0).length c584_0, .bool (true), .string (⟨#[]⟩ : ByteArray), .int .i64 0, .slice none 0 0]) ?_ 2 _ rfl; (with_reducible repeat (first | refine blk_drewN ?_ _ | refine blk_drew ?_ | refine blk_alloc ?_ _)); refine blk_put (cs := #[.slice A584_0 ((rd_T59 l0 x3_1).f0).length c584_0, .bool false, .string (⟨#[]⟩ : ByteArray), .int .i64 0, .slice none 0 0]) ?_ 1 _ rfl; (with_reducible repeat (first | refine blk_drewN ?_ _ | refine blk_drew ?_ | refine blk_alloc ?_ _)); refine blk_put (cs := #[.slice none 0 0, .bool false, .string (⟨#[]⟩ : ByteArray), .int .i64 0, .slice none 0 0]) ?_ 0 _ rfl; (with_reducible repeat (first | refine blk_drewN ?_ _ | refine blk_drew ?_ | refine blk_alloc ?_ _)); exact BK585.out) hb); replace HB := A_ (below_step (bG_ GE585.out) hb); (try clear hb)))
          go_meet
          case rel => (try rw [← Nbq13.out]); exact ⟨_, (!t588), rs_, H', ⟨by have := HK1.out; first | omega | exact Nat.le_refl _⟩, ⟨vb_ BK585.out⟩, ⟨bG_ GE585.out⟩⟩
        · replace c17 := Bool.eq_false_iff.mpr c17
          subst c17
          rw [if_neg nf_] at H
          have H' := A_ H
          clear H
          obtain ⟨hcz21_0, hcz21_1, hcz21_2, hcz21_3, hcz21_4, hfz21_0, hfz21_1, hfz21_2, hfz21_3, hfz21_4⟩ := cz5_ BK585.out
          go_wp2_with (first | (go_at_call 82; (with_reducible refine (spec_PathOk.calls k1 _ _ ((rd_T59 l0 x3_1).f0) true _ ?s1 ?s2 A9.out).mono ?_); (case s1 => exact Kd.C_below HR584_0.out (bG_ GE585.out)); (case s2 => exact HC584_0.out); rintro e w' ⟨rfl, ⟨nd, rfl⟩⟩) | (go_at_call 83; (with_reducible refine (spec_l1In.calls ((rd_T59 l0 x3_1).f3) 0 99999 false _ A16.out).mono ?_); rintro e w' ⟨rfl, ⟨nd, rfl⟩⟩))
          go_meet
          case rel => (try rw [← Nbq13.out]); exact ⟨_, (true), rs_, H', ⟨by have := HK1.out; first | omega | exact Nat.le_refl _⟩, ⟨by (with_reducible repeat (first | refine blk_drewN ?_ _ | refine blk_drew ?_ | refine blk_alloc ?_ _)); refine blk_put (cs := #[.slice A584_0 ((rd_T59 l0 x3_1).f0).length c584_0, .bool (true), .string ((rd_T59 l0 x3_1).f2), .int .i64 ((rd_T59 l0 x3_1).f3), .slice none 0 0]) ?_ 4 _ rfl; (with_reducible repeat (first | refine blk_drewN ?_ _ | refine blk_drew ?_ | refine blk_alloc ?_ _)); refine blk_put (cs := #[.slice A584_0 ((rd_T59 l0 x3_1).f0).length c584_0, .bool (true), .string ((rd_T59 l0 x3_1).f2), .int .i64 0, .slice none 0 0]) ?_ 3 _ rfl; (with_reducible repeat (first | refine blk_drewN ?_ _ | refine blk_drew ?_ | refine blk_alloc ?_ _)); refine blk_put (cs := #[.slice A584_0 ((rd_T59 l0 x3_1).f0).length c584_0, .bool (true), .string (⟨#[]⟩ : ByteArray), .int .i64 0, .slice none 0 0]) ?_ 2 _ rfl; (with_reducible repeat (first | refine blk_drewN ?_ _ | refine blk_drew ?_ | refine blk_alloc ?_ _)); refine blk_put (cs := #[.slice A584_0 ((rd_T59 l0 x3_1).f0).length c584_0, .bool false, .string (⟨#[]⟩ : ByteArray), .int .i64 0, .slice none 0 0]) ?_ 1 _ rfl; (with_reducible repeat (first | refine blk_drewN ?_ _ | refine blk_drew ?_ | refine blk_alloc ?_ _)); refine blk_put (cs := #[.slice none 0 0, .bool false, .string (⟨#[]⟩ : ByteArray), .int .i64 0, .slice none 0 0]) ?_ 0 _ rfl; (with_reducible repeat (first | refine blk_drewN ?_ _ | refine blk_drew ?_ | refine blk_alloc ?_ _)); exact BK585.out⟩, ⟨bG_ GE585.out⟩⟩
      · replace c14 := Bool.eq_false_iff.mpr c14
        subst c14
        rw [if_neg nf_] at H
        obtain ⟨t589, A23, H⟩ := bo_ H
        (try dsimp only at H)
        by_cases c24 : t589 = true
        · subst c24
          rw [if_pos rfl] at H
          obtain ⟨t590, A25, H⟩ := bo_ H
          (try dsimp only at H)
          have H' := A_ H
          clear H
          obtain ⟨hcz26_0, hcz26_1, hcz26_2, hcz26_3, hcz26_4, hfz26_0, hfz26_1, hfz26_2, hfz26_3, hfz26_4⟩ := cz5_ BK585.out
          go_wp2_with (first | (go_at_call 82; (with_reducible refine (spec_PathOk.calls k1 _ _ ((rd_T59 l0 x3_1).f0) true _ ?s1 ?s2 A9.out).mono ?_); (case s1 => exact Kd.C_below HR584_0.out (bG_ GE585.out)); (case s2 => exact HC584_0.out); rintro e w' ⟨rfl, ⟨nd, rfl⟩⟩) | (go_at_call 83; (with_reducible refine (spec_l1In.calls ((rd_T59 l0 x3_1).f3) 0 99999 true _ A23.out).mono ?_); rintro e w' ⟨rfl, ⟨nd, rfl⟩⟩) | (go_at_call 29; (with_reducible refine (spec_PropsOk.calls k1 _ _ ((rd_T59 l0 x3_1).f4) t590 _ ?s1 ?s2 A25.out).mono ?_); (case s1 => exact Kd.C_below HR584_4.out (bG_ GE585.out)); (case s2 => exact HC584_4.out); rintro e w27 ⟨rfl, hb⟩; replace BK585 := A_ (blk_below (g := gb585) (o := .cells #[.slice A584_0 ((rd_T59 l0 x3_1).f0).length c584_0, .bool false, .string ((rd_T59 l0 x3_1).f2), .int .i64 ((rd_T59 l0 x3_1).f3), .slice A584_4 ((rd_T59 l0 x3_1).f4).length c584_4] 59 (0, 0)) (by (with_reducible repeat (first | refine blk_drewN ?_ _ | refine blk_drew ?_ | refine blk_alloc ?_ _)); refine blk_put (cs := #[.slice A584_0 ((rd_T59 l0 x3_1).f0).length c584_0, .bool (false), .string ((rd_T59 l0 x3_1).f2), .int .i64 ((rd_T59 l0 x3_1).f3), .slice none 0 0]) ?_ 4 _ rfl; (with_reducible repeat (first | refine blk_drewN ?_ _ | refine blk_drew ?_ | refine blk_alloc ?_ _)); refine blk_put (cs := #[.slice A584_0 ((rd_T59 l0 x3_1).f0).length c584_0, .bool (false), .string ((rd_T59 l0 x3_1).f2), .int .i64 0, .slice none 0 0]) ?_ 3 _ rfl; (with_reducible repeat (first | refine blk_drewN ?_ _ | refine blk_drew ?_ | refine blk_alloc ?_ _)); refine blk_put (cs := #[.slice A584_0 ((rd_T59 l0 x3_1).f0).length c584_0, .bool (false), .string (⟨#[]⟩ : ByteArray), .int .i64 0, .slice none 0 0]) ?_ 2 _ rfl; (with_reducible repeat (first | refine blk_drewN ?_ _ | refine blk_drew ?_ | refine blk_alloc ?_ _)); refine blk_put (cs := #[.slice A584_0 ((rd_T59 l0 x3_1).f0).length c584_0, .bool false, .string (⟨#[]⟩ : ByteArray), .int .i64 0, .slice none 0 0]) ?_ 1 _ rfl; (with_reducible repeat (first | refine blk_drewN ?_ _ | refine blk_drew ?_ | refine blk_alloc ?_ _)); refine blk_put (cs := #[.slice none 0 0, .bool false, .string (⟨#[]⟩ : ByteArray), .int .i64 0, .slice none 0 0]) ?_ 0 _ rfl; (with_reducible repeat (first | refine blk_drewN ?_ _ | refine blk_drew ?_ | refine blk_alloc ?_ _)); exact BK585.out) hb); replace HB := A_ (below_step (bG_ GE585.out) hb); (try clear hb)))
          go_meet
          case rel => (try rw [← Nbq13.out]); exact ⟨_, (!t590), rs_, H', ⟨by have := HK1.out; first | omega | exact Nat.le_refl _⟩, ⟨vb_ BK585.out⟩, ⟨bG_ GE585.out⟩⟩
        · replace c24 := Bool.eq_false_iff.mpr c24
          subst c24
          rw [if_neg nf_] at H
          have H' := A_ H
          clear H
          obtain ⟨hcz28_0, hcz28_1, hcz28_2, hcz28_3, hcz28_4, hfz28_0, hfz28_1, hfz28_2, hfz28_3, hfz28_4⟩ := cz5_ BK585.out
          go_wp2_with (first | (go_at_call 82; (with_reducible refine (spec_PathOk.calls k1 _ _ ((rd_T59 l0 x3_1).f0) true _ ?s1 ?s2 A9.out).mono ?_); (case s1 => exact Kd.C_below HR584_0.out (bG_ GE585.out)); (case s2 => exact HC584_0.out); rintro e w' ⟨rfl, ⟨nd, rfl⟩⟩) | (go_at_call 83; (with_reducible refine (spec_l1In.calls ((rd_T59 l0 x3_1).f3) 0 99999 false _ A23.out).mono ?_); rintro e w' ⟨rfl, ⟨nd, rfl⟩⟩))
          go_meet
          case rel => (try rw [← Nbq13.out]); exact ⟨_, (true), rs_, H', ⟨by have := HK1.out; first | omega | exact Nat.le_refl _⟩, ⟨by (with_reducible repeat (first | refine blk_drewN ?_ _ | refine blk_drew ?_ | refine blk_alloc ?_ _)); refine blk_put (cs := #[.slice A584_0 ((rd_T59 l0 x3_1).f0).length c584_0, .bool (false), .string ((rd_T59 l0 x3_1).f2), .int .i64 ((rd_T59 l0 x3_1).f3), .slice none 0 0]) ?_ 4 _ rfl; (with_reducible repeat (first | refine blk_drewN ?_ _ | refine blk_drew ?_ | refine blk_alloc ?_ _)); refine blk_put (cs := #[.slice A584_0 ((rd_T59 l0 x3_1).f0).length c584_0, .bool (false), .string ((rd_T59 l0 x3_1).f2), .int .i64 0, .slice none 0 0]) ?_ 3 _ rfl; (with_reducible repeat (first | refine blk_drewN ?_ _ | refine blk_drew ?_ | refine blk_alloc ?_ _)); refine blk_put (cs := #[.slice A584_0 ((rd_T59 l0 x3_1).f0).length c584_0, .bool (false), .string (⟨#[]⟩ : ByteArray), .int .i64 0, .slice none 0 0]) ?_ 2 _ rfl; (with_reducible repeat (first | refine blk_drewN ?_ _ | refine blk_drew ?_ | refine blk_alloc ?_ _)); refine blk_put (cs := #[.slice A584_0 ((rd_T59 l0 x3_1).f0).length c584_0, .bool false, .string (⟨#[]⟩ : ByteArray), .int .i64 0, .slice none 0 0]) ?_ 1 _ rfl; (with_reducible repeat (first | refine blk_drewN ?_ _ | refine blk_drew ?_ | refine blk_alloc ?_ _)); refine blk_put (cs := #[.slice none 0 0, .bool false, .string (⟨#[]⟩ : ByteArray), .int .i64 0, .slice none 0 0]) ?_ 0 _ rfl; (with_reducible repeat (first | refine blk_drewN ?_ _ | refine blk_drew ?_ | refine blk_alloc ?_ _)); exact BK585.out⟩, ⟨bG_ GE585.out⟩⟩
    · replace c10 := Bool.eq_false_iff.mpr c10
      subst c10
      rw [if_neg nf_] at H
      have H' := A_ H
      clear H
      obtain ⟨hcz29_0, hcz29_1, hcz29_2, hcz29_3, hcz29_4, hfz29_0, hfz29_1, hfz29_2, hfz29_3, hfz29_4⟩ := cz5_ BK585.out
      go_wp2_with (first | (go_at_call 82; (with_reducible refine (spec_PathOk.calls k1 _ _ ((rd_T59 l0 x3_1).f0) false _ ?s1 ?s2 A9.out).mono ?_); (case s1 => exact Kd.C_below HR584_0.out (bG_ GE585.out)); (case s2 => exact HC584_0.out); rintro e w' ⟨rfl, ⟨nd, rfl⟩⟩))
      go_meet
      case rel => exact ⟨_, (true), rs_, H', ⟨by have := HK1.out; first | omega | exact Nat.le_refl _⟩, ⟨by (with_reducible repeat (first | refine blk_drewN ?_ _ | refine blk_drew ?_ | refine blk_alloc ?_ _)); refine blk_put (cs := #[.slice A584_0 ((rd_T59 l0 x3_1).f0).length c584_0, .bool ((rd_T59 l0 x3_1).f1), .string ((rd_T59 l0 x3_1).f2), .int .i64 ((rd_T59 l0 x3_1).f3), .slice none 0 0]) ?_ 4 _ rfl; (with_reducible repeat (first | refine blk_drewN ?_ _ | refine blk_drew ?_ | refine blk_alloc ?_ _)); refine blk_put (cs := #[.slice A584_0 ((rd_T59 l0 x3_1).f0).length c584_0, .bool ((rd_T59 l0 x3_1).f1), .string ((rd_T59 l0 x3_1).f2), .int .i64 0, .slice none 0 0]) ?_ 3 _ rfl; (with_reducible repeat (first | refine blk_drewN ?_ _ | refine blk_drew ?_ | refine blk_alloc ?_ _)); refine blk_put (cs := #[.slice A584_0 ((rd_T59 l0 x3_1).f0).length c584_0, .bool ((rd_T59 l0 x3_1).f1), .string (⟨#[]⟩ : ByteArray), .int .i64 0, .slice none 0 0]) ?_ 2 _ rfl; (with_reducible repeat (first | refine blk_drewN ?_ _ | refine blk_drew ?_ | refine blk_alloc ?_ _)); refine blk_put (cs := #[.slice A584_0 ((rd_T59 l0 x3_1).f0).length c584_0, .bool false, .string (⟨#[]⟩ : ByteArray), .int .i64 0, .slice none 0 0]) ?_ 1 _ rfl; (with_reducible repeat (first | refine blk_drewN ?_ _ | refine blk_drew ?_ | refine blk_alloc ?_ _)); refine blk_put (cs := #[.slice none 0 0, .bool false, .string (⟨#[]⟩ : ByteArray), .int .i64 0, .slice none 0 0]) ?_ 0 _ rfl; (with_reducible repeat (first | refine blk_drewN ?_ _ | refine blk_drew ?_ | refine blk_alloc ?_ _)); exact BK585.out⟩, ⟨bG_ GE585.out⟩⟩
   case rest =>
    clear HC4
    try clear c1
    try clear q1
    try clear c2
    try clear c2b0
    try clear p2
    try clear c3
    try clear c3b0
    try clear c4
    try clear c5
    try clear p5
    try clear q5
    try clear hx5
    try clear c7
    try clear c7b0
    try clear c7b1
    try clear c7b2
    try clear c10
    try clear c11
    try clear c11b0
    try clear c11b1
    try clear q13
    try clear c14
    try clear c15
    try clear c15b0
    try clear c15b1
    try clear c17
    try clear c24
    try clear hcz12_0
    try clear hcz12_1
    try clear hcz12_2
    try clear hcz12_3
    try clear hcz12_4
    try clear hcz19_0
    try clear hcz19_1
    try clear hcz19_2
    try clear hcz19_3
    try clear hcz19_4
    try clear hcz21_0
    try clear hcz21_1
    try clear hcz21_2
    try clear hcz21_3
    try clear hcz21_4
    try clear hcz22_0
    try clear hcz22_1
    try clear hcz22_2
    try clear hcz22_3
    try clear hcz22_4
    try clear hcz26_0
    try clear hcz26_1
    try clear hcz26_2
    try clear hcz26_3
    try clear hcz26_4
    try clear hcz28_0
    try clear hcz28_1
    try clear hcz28_2
    try clear hcz28_3
    try clear hcz28_4
    try clear hcz29_0
    try clear hcz29_1
    try clear hcz29_2
    try clear hcz29_3
    try clear hcz29_4
    try clear hcz6_0
    try clear hcz6_1
    try clear hcz6_2
    try clear hcz6_3
    try clear hcz6_4
    try clear hcz8_0
    try clear hcz8_1
    try clear hcz8_2
    try clear hcz8_3
    try clear hcz8_4
    try clear hfz12_0
    try clear hfz12_1
    try clear hfz12_2
    try clear hfz12_3
    try clear hfz12_4
    try clear hfz19_0
    try clear hfz19_1
    try clear hfz19_2
    try clear hfz19_3
    try clear hfz19_4
    try clear hfz21_0
    try clear hfz21_1
    try clear hfz21_2
    try clear hfz21_3
    try clear hfz21_4
    try clear hfz22_0
    try clear hfz22_1
    try clear hfz22_2
    try clear hfz22_3
    try clear hfz22_4
    try clear hfz26_0
    try clear hfz26_1
    try clear hfz26_2
    try clear hfz26_3
    try clear hfz26_4
    try clear hfz28_0
    try clear hfz28_1
    try clear hfz28_2
    try clear hfz28_3
    try clear hfz28_4
    try clear hfz29_0
    try clear hfz29_1
    try clear hfz29_2
    try clear hfz29_3
    try clear hfz29_4
    try clear hfz6_0
    try clear hfz6_1
    try clear hfz6_2
    try clear hfz6_3
    try clear hfz6_4
    try clear hfz8_0
    try clear hfz8_1
    try clear hfz8_2
    try clear hfz8_3
    try clear hfz8_4
    try clear hx584_0
    try clear hx584_1
    try clear hx584_2
    try clear hx584_3
    try clear hx584_4
    try clear p584
    try clear q584
    obtain ⟨kq, x51_3, rfl, HA, HJ3, BK585, HB⟩ := hcut
    cases kq with
    | zero => exact absurd HA.out (by simp [spec_TreeOk.j1])
    | succ kj3 =>
     have H := HA.out
     clear HA
     simp only [spec_TreeOk.j1] at H
     by_cases c30 : x51_3 = true
     · subst c30
       rw [if_pos rfl] at H
       obtain rfl := si_ H
       go_wp2
       go_ret
       exact ⟨rr_, bG_ GE585.out⟩
     · replace c30 := Bool.eq_false_iff.mpr c30
       subst c30
       rw [if_neg nf_] at H
       by_cases c31 : x3_1 > 0
       rotate_left
       · rw [if_neg c31] at H
         have c31b0 : decide (0 < x3_1) = false := decide_eq_false c31
         clear c31
         obtain ⟨t597, A47, H⟩ := bo_ H
         (try dsimp only at H)
         obtain ⟨t600, A48, H⟩ := bo_ H
         (try dsimp only at H)
         by_cases c49 : t600 = true
         · subst c49
           rw [if_pos rfl] at H
           have H' := A_ H
           clear H
           try go_wp2
           replace BK585 := A_ (blk_drew BK585.out)
           replace HB := A_ (below_drew1 HB.out)
           refine start_ (n := 22) (S := fun w' => w'.cell? ⟨gb585, 0, none⟩ = some (.slice A584_0 ((rd_T59 l0 x3_1).f0).length c584_0) ∧ w'.cell? ⟨gb585, 1, none⟩ = some (.bool ((rd_T59 l0 x3_1).f1)) ∧ w'.cell? ⟨gb585, 2, none⟩ = some (.string ((rd_T59 l0 x3_1).f2)) ∧ w'.cell? ⟨gb585, 3, none⟩ = some (.int .i64 ((rd_T59 l0 x3_1).f3)) ∧ w'.cell? ⟨gb585, 4, none⟩ = some (.slice A584_4 ((rd_T59 l0 x3_1).f4).length c584_4)) (ds := []) #[false, false, false, false, false, false, false, false, false, false, false, false, false, false, false, false, false, false, false, false, false, false] (by kernel_rfl) rfl rfl (hl_ BK585.out) (fun hHeld => ?_); refine with_tabW spec_TreeOk.tab7 spec_TreeOk.bits7 (fun HT_ HW_ => ?_)
           generalize wc.drew = w50 at BK585 HB hHeld ⊢
           refine pu_ (i := 0) (N := some 52) ?_
           refine pu_ (i := 1) (N := some 53) ?_
           refine pu_ (i := 2) (N := some 54) ?_
           refine pn_ (i := 3) (N := some 55) ?_
           refine pn_ (i := 4) (N := some 56) ?_
           refine pn_ (i := 5) (N := some 57) ?_
           refine pn_ (i := 6) (N := some 58) ?_
           refine pn_ (i := 7) (N := some 59) ?_
           refine pn_ (i := 8) (N := some 60) ?_
           refine pn_ (i := 9) (N := some 61) ?_
           refine pn_ (i := 10) (N := some 62) ?_
           refine pn_ (i := 11) (N := some 63) ?_
           refine pn_ (i := 12) (N := some 64) ?_
           refine pu_ (i := 13) (N := some 65) ?_
           refine pu_ (i := 14) (N := some 66) ?_
           refine pu_ (i := 15) (N := some 67) ?_
           refine pu_ (i := 16) (N := some 68) ?_
           refine tk_ (i := 17) (N := some 69) hHeld ?_
           refine on_ (i := 18) (N := some 70) (fun K hK => ?_)
           refine goes_ Try.func20 (by kernel_rfl) rfl #[.slice A584_0 ((rd_T59 l0 x3_1).f0).length c584_0] (by rfl) rfl rfl ml_ ?_
           with_reducible refine (spec_Above.calls _ _ ((rd_T59 l0 x3_1).f0) t597 _ ?s1 ?s2 A47.out).mono ?_
           (case s1 => exact cC_ (Kd.C_below HR584_0.out HB.out))
           (case s2 => exact HC584_0.out)
           rintro e w51 ⟨v598, rfl, ho0, hb⟩
           refine ⟨_, rfl, ?_⟩
           have HO599 := A_ (Kd.R_lower ho0 (below_size (bG_ GE585.out)))
           replace BK585 := A_ (bw_ BK585.out hb)
           replace HB := A_ (below_step (bG_ GE585.out) hb)
           (try clear hb)
           (try clear hb2)
           (try clear hk)
           (try clear hi)
           (try clear ho0)
           obtain ⟨Ao52, co52, eo52⟩ := Kd.R_slice HO599.out
           (first | subst eo52 | (injection eo52 with f1_ f2_ f3_; have f4_ := f1_.symm; have f5_ := f3_.symm; clear f1_ f2_ f3_; subst f4_; subst f5_))
           refine hK.out _ _ (hl_ BK585.out) (fun hHeld => ?_)
           clear hK K
           refine no_ (some 70) ?_
           refine on_ (i := 19) (N := some 71) (fun K hK => ?_)
           refine goes_ Try.func38 (by kernel_rfl) rfl #[.slice (some ad584) l0.length c0, .slice Ao52 t597.length co52] (by rfl) rfl rfl ml_ ?_
           with_reducible refine (spec_IsColl.calls kj3 _ _ l0 _ _ t597 true _ ?s1 ?s2 ?s3 ?s4 A48.out).mono ?_
           (case s1 => exact cC_ (Kd.C_below HR0.out HB.out))
           (case s2 => exact HC0.out)
           (case s3 => exact cC_ (Kd.R_reads' HO599.out).2.2)
           (case s4 => exact (Kd.R_reads' HO599.out).2.1)
           rintro e w' ⟨rfl, ⟨nd, rfl⟩⟩
           refine ⟨_, rfl, ?_⟩
           refine hK.out _ _ (hl_ BK585.out) (fun hHeld => ?_)
           clear hK K
           refine no_ (some 71) ?_
           refine pu_ (i := 20) (N := some 72) ?_
           refine pu_ (i := 21) (N := some 73) ?_
           refine done_ (done_of HT_.out (by kernel_rfl)) ?_
           (try clear hHeld)
           try go_wp2
           go_roundg kj3
           case measure => have := HK1.out; have := HJ3.out; omega
           case rel => exact ⟨(wrap64 (x3_1 + 1)), rs_, H', ⟨by have := HK1.out; have := HJ3.out; omega⟩, ⟨bG_ GE585.out⟩⟩
         · replace c49 := Bool.eq_false_iff.mpr c49
           subst c49
           rw [if_neg nf_] at H
           obtain rfl := si_ H
           try go_wp2
           replace BK585 := A_ (blk_drew BK585.out)
           replace HB := A_ (below_drew1 HB.out)
           refine start_ (n := 22) (S := fun w' => w'.cell? ⟨gb585, 0, none⟩ = some (.slice A584_0 ((rd_T59 l0 x3_1).f0).length c584_0) ∧ w'.cell? ⟨gb585, 1, none⟩ = some (.bool ((rd_T59 l0 x3_1).f1)) ∧ w'.cell? ⟨gb585, 2, none⟩ = some (.string ((rd_T59 l0 x3_1).f2)) ∧ w'.cell? ⟨gb585, 3, none⟩ = some (.int .i64 ((rd_T59 l0 x3_1).f3)) ∧ w'.cell? ⟨gb585, 4, none⟩ = some (.slice A584_4 ((rd_T59 l0 x3_1).f4).length c584_4)) (ds := []) #[false, false, false, false, false, false, false, false, false, false, false, false, false, false, false, false, false, false, false, false, false, false] (by kernel_rfl) rfl rfl (hl_ BK585.out) (fun hHeld => ?_); refine with_tabW spec_TreeOk.tab7 spec_TreeOk.bits7 (fun HT_ HW_ => ?_)
           generalize wc.drew = w53 at BK585 HB hHeld ⊢
           refine pu_ (i := 0) (N := some 52) ?_
           refine pu_ (i := 1) (N := some 53) ?_
           refine pu_ (i := 2) (N := some 54) ?_
           refine pn_ (i := 3) (N := some 55) ?_
           refine pn_ (i := 4) (N := some 56) ?_
           refine pn_ (i := 5) (N := some 57) ?_
           refine pn_ (i := 6) (N := some 58) ?_
           refine pn_ (i := 7) (N := some 59) ?_
           refine pn_ (i := 8) (N := some 60) ?_
           refine pn_ (i := 9) (N := some 61) ?_
           refine pn_ (i := 10) (N := some 62) ?_
           refine pn_ (i := 11) (N := some 63) ?_
           refine pn_ (i := 12) (N := some 64) ?_
           refine pu_ (i := 13) (N := some 65) ?_
           refine pu_ (i := 14) (N := some 66) ?_
           refine pu_ (i := 15) (N := some 67) ?_
           refine pu_ (i := 16) (N := some 68) ?_
           refine tk_ (i := 17) (N := some 69) hHeld ?_
           refine on_ (i := 18) (N := some 70) (fun K hK => ?_)
           refine goes_ Try.func20 (by kernel_rfl) rfl #[.slice A584_0 ((rd_T59 l0 x3_1).f0).length c584_0] (by rfl) rfl rfl ml_ ?_
           with_reducible refine (spec_Above.calls _ _ ((rd_T59 l0 x3_1).f0) t597 _ ?s1 ?s2 A47.out).mono ?_
           (case s1 => exact cC_ (Kd.C_below HR584_0.out HB.out))
           (case s2 => exact HC584_0.out)
           rintro e w54 ⟨v598, rfl, ho0, hb⟩
           refine ⟨_, rfl, ?_⟩
           have HO599 := A_ (Kd.R_lower ho0 (below_size (bG_ GE585.out)))
           replace BK585 := A_ (bw_ BK585.out hb)
           replace HB := A_ (below_step (bG_ GE585.out) hb)
           (try clear hb)
           (try clear hb2)
           (try clear hk)
           (try clear hi)
           (try clear ho0)
           obtain ⟨Ao55, co55, eo55⟩ := Kd.R_slice HO599.out
           (first | subst eo55 | (injection eo55 with f1_ f2_ f3_; have f4_ := f1_.symm; have f5_ := f3_.symm; clear f1_ f2_ f3_; subst f4_; subst f5_))
           refine hK.out _ _ (hl_ BK585.out) (fun hHeld => ?_)
           clear hK K
           refine no_ (some 70) ?_
           refine on_ (i := 19) (N := some 71) (fun K hK => ?_)
           refine goes_ Try.func38 (by kernel_rfl) rfl #[.slice (some ad584) l0.length c0, .slice Ao55 t597.length co55] (by rfl) rfl rfl ml_ ?_
           with_reducible refine (spec_IsColl.calls kj3 _ _ l0 _ _ t597 false _ ?s1 ?s2 ?s3 ?s4 A48.out).mono ?_
           (case s1 => exact cC_ (Kd.C_below HR0.out HB.out))
           (case s2 => exact HC0.out)
           (case s3 => exact cC_ (Kd.R_reads' HO599.out).2.2)
           (case s4 => exact (Kd.R_reads' HO599.out).2.1)
           rintro e w' ⟨rfl, ⟨nd, rfl⟩⟩
           refine ⟨_, rfl, ?_⟩
           refine hK.out _ _ (hl_ BK585.out) (fun hHeld => ?_)
           clear hK K
           refine no_ (some 71) ?_
           refine pu_ (i := 20) (N := some 72) ?_
           refine pu_ (i := 21) (N := some 73) ?_
           refine done_ (done_of HT_.out (by kernel_rfl)) ?_
           (try clear hHeld)
           try go_wp2
           go_ret
           exact ⟨rr_, bG_ GE585.out⟩
       rw [if_pos c31] at H
       have c31b0 : decide (0 < x3_1) = true := decide_eq_true c31
       clear c31
       obtain ⟨ji32, hji32⟩ : ∃ j_ : Int, (wrap64 (x3_1 - 1)) = j_ := ⟨_, rfl⟩
       replace H : (if 0 ≤ (ji32) then (if (ji32) < (l0.length : Int) then ((spec_LessPath.f kj3 ((rd_T59 l0 (ji32)).f0) ((rd_T59 l0 x3_1).f0)).bind fun t592 => (if t592 = true then ((spec_Above.f ((rd_T59 l0 x3_1).f0)).bind fun t593 => ((spec_IsColl.f kj3 l0 t593).bind fun t596 => (if t596 = true then (spec_TreeOk.l0 kj3 l0 (wrap64 (x3_1 + 1))) else (some false)))) else (some false))) else (none)) else (none)) = some r := by first | (rw [hji32] at H; exact H) | (simp only [hji32] at H ⊢; exact H)
       have hji32w : (IntKind.i64.wrap (x3_1 - 1)) = ji32 := (i64_w _).trans hji32
       by_cases c33 : 0 ≤ (ji32)
       rotate_left
       · exact absurd H (by rw [if_neg c33]; simp)
       rw [if_pos c33] at H
       have c33b0 : decide (0 ≤ (ji32)) = true := decide_eq_true c33
       clear c33
       by_cases c34 : (ji32) < (l0.length : Int)
       rotate_left
       · exact absurd H (by rw [if_neg c34]; simp)
       rw [if_pos c34] at H
       have c34b0 : decide ((ji32) < (l0.length : Int)) = true := decide_eq_true c34
       clear c34
       obtain ⟨t592, A35, H⟩ := bo_ H
       (try dsimp only at H)
       by_cases c36 : t592 = true
       · subst c36
         rw [if_pos rfl] at H
         obtain ⟨t593, A37, H⟩ := bo_ H
         (try dsimp only at H)
         obtain ⟨t596, A38, H⟩ := bo_ H
         (try dsimp only at H)
         by_cases c39 : t596 = true
         · subst c39
           rw [if_pos rfl] at H
           have H' := A_ H
           clear H
           try go_wp2
           replace BK585 := A_ (blk_drew BK585.out)
           replace HB := A_ (below_drew1 HB.out)
           have p591 : 0 ≤ ((ji32) : Int) := od_
           have q591 : (ji32) < (l0.length : Int) := od_
           obtain ⟨ad591, A591_0, c591_0, A591_4, c591_4, e591, hx591_0, hx591_1, hx591_2, hx591_3, hx591_4, hl591_0, hi591_0, hl591_4, hi591_4⟩ := at_T59 HR0.out (ji32) p591 q591
           have hw591_4 := hx591_4
           have hw591_3 := hx591_3
           have hw591_2 := hx591_2
           have hw591_1 := hx591_1
           have hw591_0 := hx591_0
           obtain rfl : ad584 = ad591 := (by injection e591)
           replace hx591_0 := bc_ HB.out hx591_0
           replace hx591_1 := bc_ HB.out hx591_1
           replace hx591_2 := bc_ HB.out hx591_2
           replace hx591_3 := bc_ HB.out hx591_3
           replace hx591_4 := bc_ HB.out hx591_4
           have HR591_0 := A_ hi591_0
           have HC591_0 := A_ hl591_0
           clear hi591_0 hl591_0
           have HR591_4 := A_ hi591_4
           have HC591_4 := A_ hl591_4
           clear hi591_4 hl591_4
           replace p591 := eq_true p591
           replace q591 := eq_true q591
           refine start_ (n := 22) (S := fun w' => w'.cell? ⟨gb585, 0, none⟩ = some (.slice A584_0 ((rd_T59 l0 x3_1).f0).length c584_0) ∧ w'.cell? ⟨gb585, 1, none⟩ = some (.bool ((rd_T59 l0 x3_1).f1)) ∧ w'.cell? ⟨gb585, 2, none⟩ = some (.string ((rd_T59 l0 x3_1).f2)) ∧ w'.cell? ⟨gb585, 3, none⟩ = some (.int .i64 ((rd_T59 l0 x3_1).f3)) ∧ w'.cell? ⟨gb585, 4, none⟩ = some (.slice A584_4 ((rd_T59 l0 x3_1).f4).length c584_4) ∧ w'.cell? (ad584.add (((ji32)).toNat * 5)) = some (.slice A591_0 ((rd_T59 l0 (ji32)).f0).length c591_0) ∧ w'.cell? ⟨(ad584.add (((ji32)).toNat * 5)).block, (ad584.add (((ji32)).toNat * 5)).off + 1, none⟩ = some (.bool ((rd_T59 l0 (ji32)).f1)) ∧ w'.cell? ⟨(ad584.add (((ji32)).toNat * 5)).block, (ad584.add (((ji32)).toNat * 5)).off + 2, none⟩ = some (.string ((rd_T59 l0 (ji32)).f2)) ∧ w'.cell? ⟨(ad584.add (((ji32)).toNat * 5)).block, (ad584.add (((ji32)).toNat * 5)).off + 3, none⟩ = some (.int .i64 ((rd_T59 l0 (ji32)).f3)) ∧ w'.cell? ⟨(ad584.add (((ji32)).toNat * 5)).block, (ad584.add (((ji32)).toNat * 5)).off + 4, none⟩ = some (.slice A591_4 ((rd_T59 l0 (ji32)).f4).length c591_4)) (ds := []) #[false, false, false, false, false, false, false, false, false, false, false, false, false, false, false, false, false, false, false, false, false, false] (by kernel_rfl) rfl rfl ⟨bl_ BK585.out 0, bl_ BK585.out 1, bl_ BK585.out 2, bl_ BK585.out 3, bl_ BK585.out 4, (be_ hw591_0), (be_ hw591_1), (be_ hw591_2), (be_ hw591_3), (be_ hw591_4)⟩ (fun hHeld => ?_); refine with_tabW spec_TreeOk.tab7 spec_TreeOk.bits7 (fun HT_ HW_ => ?_)
           generalize wc.drew = w40 at BK585 HB HR591_0 HR591_4 hx591_0 hx591_1 hx591_2 hx591_3 hx591_4 hHeld ⊢
           refine pu_ (i := 0) (N := some 52) ?_
           refine pu_ (i := 1) (N := some 53) ?_
           refine pu_ (i := 2) (N := some 54) ?_
           refine pu_ (i := 3) (N := some 55) ?_
           refine pu_ (i := 4) (N := some 56) ?_
           refine pu_ (i := 5) (N := some 57) ?_
           refine pu_ (i := 6) (N := some 58) ?_
           refine pu_ (i := 7) (N := some 59) ?_
           refine pu_ (i := 9) (N := some 61) ?_
           refine tk_ (i := 8) (N := some 60) hHeld ?_
           refine tk_ (i := 10) (N := some 62) hHeld ?_
           refine on_ (i := 11) (N := some 63) (fun K hK => ?_)
           refine goes_ Try.func16 (by kernel_rfl) rfl #[.slice A591_0 ((rd_T59 l0 (ji32)).f0).length c591_0, .slice A584_0 ((rd_T59 l0 x3_1).f0).length c584_0] (by rfl) rfl rfl (by (try simp only [List.map_toArray, List.map_cons, List.map_nil]); first | done | (simp only [hji32]; rfl) | rfl | (simp only [List.length_drop, List.length_take]; rfl)) ?_
           with_reducible refine (spec_LessPath.calls kj3 _ _ ((rd_T59 l0 (ji32)).f0) _ _ ((rd_T59 l0 x3_1).f0) true _ ?s1 ?s2 ?s3 ?s4 A35.out).mono ?_
           (case s1 => exact cC_ (Kd.C_below HR591_0.out HB.out))
           (case s2 => exact HC591_0.out)
           (case s3 => exact cC_ (Kd.C_below HR584_0.out HB.out))
           (case s4 => exact HC584_0.out)
           rintro e w' ⟨rfl, ⟨nd, rfl⟩⟩
           refine ⟨_, rfl, ?_⟩
           refine hK.out _ _ ⟨bl_ BK585.out 0, bl_ BK585.out 1, bl_ BK585.out 2, bl_ BK585.out 3, bl_ BK585.out 4, (be_ hw591_0), (be_ hw591_1), (be_ hw591_2), (be_ hw591_3), (be_ hw591_4)⟩ (fun hHeld => ?_)
           clear hK K
           refine no_ (some 63) ?_
           refine pu_ (i := 12) (N := some 64) ?_
           refine pu_ (i := 13) (N := some 65) ?_
           refine pu_ (i := 14) (N := some 66) ?_
           refine pu_ (i := 15) (N := some 67) ?_
           refine pu_ (i := 16) (N := some 68) ?_
           refine tk_ (i := 17) (N := some 69) hHeld ?_
           refine on_ (i := 18) (N := some 70) (fun K hK => ?_)
           refine goes_ Try.func20 (by kernel_rfl) rfl #[.slice A584_0 ((rd_T59 l0 x3_1).f0).length c584_0] (by rfl) rfl rfl ml_ ?_
           with_reducible refine (spec_Above.calls _ _ ((rd_T59 l0 x3_1).f0) t593 _ ?s1 ?s2 A37.out).mono ?_
           (case s1 => exact cC_ (Kd.C_below HR584_0.out (bG_ GE585.out)))
           (case s2 => exact HC584_0.out)
           rintro e w41 ⟨v594, rfl, ho0, hb⟩
           refine ⟨_, rfl, ?_⟩
           have HO595 := A_ (Kd.R_lower ho0 (below_size (bG_ GE585.out)))
           replace BK585 := A_ (bw_ BK585.out hb)
           replace HB := A_ (below_step (bG_ GE585.out) hb)
           (try clear hb)
           (try clear hb2)
           (try clear hk)
           (try clear hi)
           (try clear ho0)
           obtain ⟨Ao42, co42, eo42⟩ := Kd.R_slice HO595.out
           (first | subst eo42 | (injection eo42 with f1_ f2_ f3_; have f4_ := f1_.symm; have f5_ := f3_.symm; clear f1_ f2_ f3_; subst f4_; subst f5_))
           refine hK.out _ _ ⟨bl_ BK585.out 0, bl_ BK585.out 1, bl_ BK585.out 2, bl_ BK585.out 3, bl_ BK585.out 4, (be_ hw591_0), (be_ hw591_1), (be_ hw591_2), (be_ hw591_3), (be_ hw591_4)⟩ (fun hHeld => ?_)
           clear hK K
           refine no_ (some 70) ?_
           refine on_ (i := 19) (N := some 71) (fun K hK => ?_)
           refine goes_ Try.func38 (by kernel_rfl) rfl #[.slice (some ad584) l0.length c0, .slice Ao42 t593.length co42] (by rfl) rfl rfl ml_ ?_
           with_reducible refine (spec_IsColl.calls kj3 _ _ l0 _ _ t593 true _ ?s1 ?s2 ?s3 ?s4 A38.out).mono ?_
           (case s1 => exact cC_ (Kd.C_below HR0.out HB.out))
           (case s2 => exact HC0.out)
           (case s3 => exact cC_ (Kd.R_reads' HO595.out).2.2)
           (case s4 => exact (Kd.R_reads' HO595.out).2.1)
           rintro e w' ⟨rfl, ⟨nd, rfl⟩⟩
           refine ⟨_, rfl, ?_⟩
           refine hK.out _ _ ⟨bl_ BK585.out 0, bl_ BK585.out 1, bl_ BK585.out 2, bl_ BK585.out 3, bl_ BK585.out 4, (be_ hw591_0), (be_ hw591_1), (be_ hw591_2), (be_ hw591_3), (be_ hw591_4)⟩ (fun hHeld => ?_)
           clear hK K
           refine no_ (some 71) ?_
           refine pu_ (i := 20) (N := some 72) ?_
           refine pu_ (i := 21) (N := some 73) ?_
           refine done_ (done_of HT_.out (by kernel_rfl)) ?_
           (try clear hHeld)
           try go_wp2
           go_roundg kj3
           case measure => have := HK1.out; have := HJ3.out; omega
           case rel => exact ⟨(wrap64 (x3_1 + 1)), rs_, H', ⟨by have := HK1.out; have := HJ3.out; omega⟩, ⟨bG_ GE585.out⟩⟩
         · replace c39 := Bool.eq_false_iff.mpr c39
           subst c39
           rw [if_neg nf_] at H
           obtain rfl := si_ H
           try go_wp2
           replace BK585 := A_ (blk_drew BK585.out)
           replace HB := A_ (below_drew1 HB.out)
           have p591 : 0 ≤ ((ji32) : Int) := od_
           have q591 : (ji32) < (l0.length : Int) := od_
           obtain ⟨ad591, A591_0, c591_0, A591_4, c591_4, e591, hx591_0, hx591_1, hx591_2, hx591_3, hx591_4, hl591_0, hi591_0, hl591_4, hi591_4⟩ := at_T59 HR0.out (ji32) p591 q591
           have hw591_4 := hx591_4
           have hw591_3 := hx591_3
           have hw591_2 := hx591_2
           have hw591_1 := hx591_1
           have hw591_0 := hx591_0
           obtain rfl : ad584 = ad591 := (by injection e591)
           replace hx591_0 := bc_ HB.out hx591_0
           replace hx591_1 := bc_ HB.out hx591_1
           replace hx591_2 := bc_ HB.out hx591_2
           replace hx591_3 := bc_ HB.out hx591_3
           replace hx591_4 := bc_ HB.out hx591_4
           have HR591_0 := A_ hi591_0
           have HC591_0 := A_ hl591_0
           clear hi591_0 hl591_0
           have HR591_4 := A_ hi591_4
           have HC591_4 := A_ hl591_4
           clear hi591_4 hl591_4
           replace p591 := eq_true p591
           replace q591 := eq_true q591
           refine start_ (n := 22) (S := fun w' => w'.cell? ⟨gb585, 0, none⟩ = some (.slice A584_0 ((rd_T59 l0 x3_1).f0).length c584_0) ∧ w'.cell? ⟨gb585, 1, none⟩ = some (.bool ((rd_T59 l0 x3_1).f1)) ∧ w'.cell? ⟨gb585, 2, none⟩ = some (.string ((rd_T59 l0 x3_1).f2)) ∧ w'.cell? ⟨gb585, 3, none⟩ = some (.int .i64 ((rd_T59 l0 x3_1).f3)) ∧ w'.cell? ⟨gb585, 4, none⟩ = some (.slice A584_4 ((rd_T59 l0 x3_1).f4).length c584_4) ∧ w'.cell? (ad584.add (((ji32)).toNat * 5)) = some (.slice A591_0 ((rd_T59 l0 (ji32)).f0).length c591_0) ∧ w'.cell? ⟨(ad584.add (((ji32)).toNat * 5)).block, (ad584.add (((ji32)).toNat * 5)).off + 1, none⟩ = some (.bool ((rd_T59 l0 (ji32)).f1)) ∧ w'.cell? ⟨(ad584.add (((ji32)).toNat * 5)).block, (ad584.add (((ji32)).toNat * 5)).off + 2, none⟩ = some (.string ((rd_T59 l0 (ji32)).f2)) ∧ w'.cell? ⟨(ad584.add (((ji32)).toNat * 5)).block, (ad584.add (((ji32)).toNat * 5)).off + 3, none⟩ = some (.int .i64 ((rd_T59 l0 (ji32)).f3)) ∧ w'.cell? ⟨(ad584.add (((ji32)).toNat * 5)).block, (ad584.add (((ji32)).toNat * 5)).off + 4, none⟩ = some (.slice A591_4 ((rd_T59 l0 (ji32)).f4).length c591_4)) (ds := []) #[false, false, false, false, false, false, false, false, false, false, false, false, false, false, false, false, false, false, false, false, false, false] (by kernel_rfl) rfl rfl ⟨bl_ BK585.out 0, bl_ BK585.out 1, bl_ BK585.out 2, bl_ BK585.out 3, bl_ BK585.out 4, (be_ hw591_0), (be_ hw591_1), (be_ hw591_2), (be_ hw591_3), (be_ hw591_4)⟩ (fun hHeld => ?_); refine with_tabW spec_TreeOk.tab7 spec_TreeOk.bits7 (fun HT_ HW_ => ?_)
           generalize wc.drew = w43 at BK585 HB HR591_0 HR591_4 hx591_0 hx591_1 hx591_2 hx591_3 hx591_4 hHeld ⊢
           refine pu_ (i := 0) (N := some 52) ?_
           refine pu_ (i := 1) (N := some 53) ?_
           refine pu_ (i := 2) (N := some 54) ?_
           refine pu_ (i := 3) (N := some 55) ?_
           refine pu_ (i := 4) (N := some 56) ?_
           refine pu_ (i := 5) (N := some 57) ?_
           refine pu_ (i := 6) (N := some 58) ?_
           refine pu_ (i := 7) (N := some 59) ?_
           refine pu_ (i := 9) (N := some 61) ?_
           refine tk_ (i := 8) (N := some 60) hHeld ?_
           refine tk_ (i := 10) (N := some 62) hHeld ?_
           refine on_ (i := 11) (N := some 63) (fun K hK => ?_)
           refine goes_ Try.func16 (by kernel_rfl) rfl #[.slice A591_0 ((rd_T59 l0 (ji32)).f0).length c591_0, .slice A584_0 ((rd_T59 l0 x3_1).f0).length c584_0] (by rfl) rfl rfl (by (try simp only [List.map_toArray, List.map_cons, List.map_nil]); first | done | (simp only [hji32]; rfl) | rfl | (simp only [List.length_drop, List.length_take]; rfl)) ?_
           with_reducible refine (spec_LessPath.calls kj3 _ _ ((rd_T59 l0 (ji32)).f0) _ _ ((rd_T59 l0 x3_1).f0) true _ ?s1 ?s2 ?s3 ?s4 A35.out).mono ?_
           (case s1 => exact cC_ (Kd.C_below HR591_0.out HB.out))
           (case s2 => exact HC591_0.out)
           (case s3 => exact cC_ (Kd.C_below HR584_0.out HB.out))
           (case s4 => exact HC584_0.out)
           rintro e w' ⟨rfl, ⟨nd, rfl⟩⟩
           refine ⟨_, rfl, ?_⟩
           refine hK.out _ _ ⟨bl_ BK585.out 0, bl_ BK585.out 1, bl_ BK585.out 2, bl_ BK585.out 3, bl_ BK585.out 4, (be_ hw591_0), (be_ hw591_1), (be_ hw591_2), (be_ hw591_3), (be_ hw591_4)⟩ (fun hHeld => ?_)
           clear hK K
           refine no_ (some 63) ?_
           refine pu_ (i := 12) (N := some 64) ?_
           refine pu_ (i := 13) (N := some 65) ?_
           refine pu_ (i := 14) (N := some 66) ?_
           refine pu_ (i := 15) (N := some 67) ?_
           refine pu_ (i := 16) (N := some 68) ?_
           refine tk_ (i := 17) (N := some 69) hHeld ?_
           refine on_ (i := 18) (N := some 70) (fun K hK => ?_)
           refine goes_ Try.func20 (by kernel_rfl) rfl #[.slice A584_0 ((rd_T59 l0 x3_1).f0).length c584_0] (by rfl) rfl rfl ml_ ?_
           with_reducible refine (spec_Above.calls _ _ ((rd_T59 l0 x3_1).f0) t593 _ ?s1 ?s2 A37.out).mono ?_
           (case s1 => exact cC_ (Kd.C_below HR584_0.out (bG_ GE585.out)))
           (case s2 => exact HC584_0.out)
           rintro e w44 ⟨v594, rfl, ho0, hb⟩
           refine ⟨_, rfl, ?_⟩
           have HO595 := A_ (Kd.R_lower ho0 (below_size (bG_ GE585.out)))
           replace BK585 := A_ (bw_ BK585.out hb)
           replace HB := A_ (below_step (bG_ GE585.out) hb)
           (try clear hb)
           (try clear hb2)
           (try clear hk)
           (try clear hi)
           (try clear ho0)
           obtain ⟨Ao45, co45, eo45⟩ := Kd.R_slice HO595.out
           (first | subst eo45 | (injection eo45 with f1_ f2_ f3_; have f4_ := f1_.symm; have f5_ := f3_.symm; clear f1_ f2_ f3_; subst f4_; subst f5_))
           refine hK.out _ _ ⟨bl_ BK585.out 0, bl_ BK585.out 1, bl_ BK585.out 2, bl_ BK585.out 3, bl_ BK585.out 4, (be_ hw591_0), (be_ hw591_1), (be_ hw591_2), (be_ hw591_3), (be_ hw591_4)⟩ (fun hHeld => ?_)
           clear hK K
           refine no_ (some 70) ?_
           refine on_ (i := 19) (N := some 71) (fun K hK => ?_)
           refine goes_ Try.func38 (by kernel_rfl) rfl #[.slice (some ad584) l0.length c0, .slice Ao45 t593.length co45] (by rfl) rfl rfl ml_ ?_
           with_reducible refine (spec_IsColl.calls kj3 _ _ l0 _ _ t593 false _ ?s1 ?s2 ?s3 ?s4 A38.out).mono ?_
           (case s1 => exact cC_ (Kd.C_below HR0.out HB.out))
           (case s2 => exact HC0.out)
           (case s3 => exact cC_ (Kd.R_reads' HO595.out).2.2)
           (case s4 => exact (Kd.R_reads' HO595.out).2.1)
           rintro e w' ⟨rfl, ⟨nd, rfl⟩⟩
           refine ⟨_, rfl, ?_⟩
           refine hK.out _ _ ⟨bl_ BK585.out 0, bl_ BK585.out 1, bl_ BK585.out 2, bl_ BK585.out 3, bl_ BK585.out 4, (be_ hw591_0), (be_ hw591_1), (be_ hw591_2), (be_ hw591_3), (be_ hw591_4)⟩ (fun hHeld => ?_)
           clear hK K
           refine no_ (some 71) ?_
           refine pu_ (i := 20) (N := some 72) ?_
           refine pu_ (i := 21) (N := some 73) ?_
           refine done_ (done_of HT_.out (by kernel_rfl)) ?_
           (try clear hHeld)
           try go_wp2
           go_ret
           exact ⟨by first | rfl | (simp [errW_none, errW_some] <;> rfl) | (simp only [← hji32]; first | rfl | (simp [errW_none, errW_some] <;> rfl)) | (simp [*, errW_none, errW_some] <;> rfl), bG_ GE585.out⟩
       · replace c36 := Bool.eq_false_iff.mpr c36
         subst c36
         rw [if_neg nf_] at H
         obtain rfl := si_ H
         try go_wp2
         replace BK585 := A_ (blk_drew BK585.out)
         replace HB := A_ (below_drew1 HB.out)
         have p591 : 0 ≤ ((ji32) : Int) := od_
         have q591 : (ji32) < (l0.length : Int) := od_
         obtain ⟨ad591, A591_0, c591_0, A591_4, c591_4, e591, hx591_0, hx591_1, hx591_2, hx591_3, hx591_4, hl591_0, hi591_0, hl591_4, hi591_4⟩ := at_T59 HR0.out (ji32) p591 q591
         have hw591_4 := hx591_4
         have hw591_3 := hx591_3
         have hw591_2 := hx591_2
         have hw591_1 := hx591_1
         have hw591_0 := hx591_0
         obtain rfl : ad584 = ad591 := (by injection e591)
         replace hx591_0 := bc_ HB.out hx591_0
         replace hx591_1 := bc_ HB.out hx591_1
         replace hx591_2 := bc_ HB.out hx591_2
         replace hx591_3 := bc_ HB.out hx591_3
         replace hx591_4 := bc_ HB.out hx591_4
         have HR591_0 := A_ hi591_0
         have HC591_0 := A_ hl591_0
         clear hi591_0 hl591_0
         have HR591_4 := A_ hi591_4
         have HC591_4 := A_ hl591_4
         clear hi591_4 hl591_4
         replace p591 := eq_true p591
         replace q591 := eq_true q591
         refine start_ (n := 22) (S := fun w' => w'.cell? ⟨gb585, 0, none⟩ = some (.slice A584_0 ((rd_T59 l0 x3_1).f0).length c584_0) ∧ w'.cell? ⟨gb585, 1, none⟩ = some (.bool ((rd_T59 l0 x3_1).f1)) ∧ w'.cell? ⟨gb585, 2, none⟩ = some (.string ((rd_T59 l0 x3_1).f2)) ∧ w'.cell? ⟨gb585, 3, none⟩ = some (.int .i64 ((rd_T59 l0 x3_1).f3)) ∧ w'.cell? ⟨gb585, 4, none⟩ = some (.slice A584_4 ((rd_T59 l0 x3_1).f4).length c584_4) ∧ w'.cell? (ad584.add (((ji32)).toNat * 5)) = some (.slice A591_0 ((rd_T59 l0 (ji32)).f0).length c591_0) ∧ w'.cell? ⟨(ad584.add (((ji32)).toNat * 5)).block, (ad584.add (((ji32)).toNat * 5)).off + 1, none⟩ = some (.bool ((rd_T59 l0 (ji32)).f1)) ∧ w'.cell? ⟨(ad584.add (((ji32)).toNat * 5)).block, (ad584.add (((ji32)).toNat * 5)).off + 2, none⟩ = some (.string ((rd_T59 l0 (ji32)).f2)) ∧ w'.cell? ⟨(ad584.add (((ji32)).toNat * 5)).block, (ad584.add (((ji32)).toNat * 5)).off + 3, none⟩ = some (.int .i64 ((rd_T59 l0 (ji32)).f3)) ∧ w'.cell? ⟨(ad584.add (((ji32)).toNat * 5)).block, (ad584.add (((ji32)).toNat * 5)).off + 4, none⟩ = some (.slice A591_4 ((rd_T59 l0 (ji32)).f4).length c591_4)) (ds := []) #[false, false, false, false, false, false, false, false, false, false, false, false, false, false, false, false, false, false, false, false, false, false] (by kernel_rfl) rfl rfl ⟨bl_ BK585.out 0, bl_ BK585.out 1, bl_ BK585.out 2, bl_ BK585.out 3, bl_ BK585.out 4, (be_ hw591_0), (be_ hw591_1), (be_ hw591_2), (be_ hw591_3), (be_ hw591_4)⟩ (fun hHeld => ?_); refine with_tabW spec_TreeOk.tab7 spec_TreeOk.bits7 (fun HT_ HW_ => ?_)
         generalize wc.drew = w46 at BK585 HB HR591_0 HR591_4 hx591_0 hx591_1 hx591_2 hx591_3 hx591_4 hHeld ⊢
         refine pu_ (i := 0) (N := some 52) ?_
         refine pu_ (i := 1) (N := some 53) ?_
         refine pu_ (i := 2) (N := some 54) ?_
         refine pu_ (i := 3) (N := some 55) ?_
         refine pu_ (i := 4) (N := some 56) ?_
         refine pu_ (i := 5) (N := some 57) ?_
         refine pu_ (i := 6) (N := some 58) ?_
         refine pu_ (i := 7) (N := some 59) ?_
         refine pu_ (i := 9) (N := some 61) ?_
         refine tk_ (i := 8) (N := some 60) hHeld ?_
         refine tk_ (i := 10) (N := some 62) hHeld ?_
         refine on_ (i := 11) (N := some 63) (fun K hK => ?_)
         refine goes_ Try.func16 (by kernel_rfl) rfl #[.slice A591_0 ((rd_T59 l0 (ji32)).f0).length c591_0, .slice A584_0 ((rd_T59 l0 x3_1).f0).length c584_0] (by rfl) rfl rfl (by (try simp only [List.map_toArray, List.map_cons, List.map_nil]); first | done | (simp only [hji32]; rfl) | rfl | (simp only [List.length_drop, List.length_take]; rfl)) ?_
         with_reducible refine (spec_LessPath.calls kj3 _ _ ((rd_T59 l0 (ji32)).f0) _ _ ((rd_T59 l0 x3_1).f0) false _ ?s1 ?s2 ?s3 ?s4 A35.out).mono ?_
         (case s1 => exact cC_ (Kd.C_below HR591_0.out HB.out))
         (case s2 => exact HC591_0.out)
         (case s3 => exact cC_ (Kd.C_below HR584_0.out HB.out))
         (case s4 => exact HC584_0.out)
         rintro e w' ⟨rfl, ⟨nd, rfl⟩⟩
         refine ⟨_, rfl, ?_⟩
         refine hK.out _ _ ⟨bl_ BK585.out 0, bl_ BK585.out 1, bl_ BK585.out 2, bl_ BK585.out 3, bl_ BK585.out 4, (be_ hw591_0), (be_ hw591_1), (be_ hw591_2), (be_ hw591_3), (be_ hw591_4)⟩ (fun hHeld => ?_)
         clear hK K
         refine no_ (some 63) ?_
         refine pu_ (i := 12) (N := some 64) ?_
         refine pu_ (i := 13) (N := some 65) ?_
         refine pu_ (i := 14) (N := some 66) ?_
         refine pn_ (i := 15) (N := some 67) ?_
         refine pn_ (i := 16) (N := some 68) ?_
         refine pn_ (i := 17) (N := some 69) ?_
         refine pn_ (i := 18) (N := some 70) ?_
         refine pn_ (i := 19) (N := some 71) ?_
         refine pn_ (i := 20) (N := some 72) ?_
         refine pu_ (i := 21) (N := some 73) ?_
         refine done_ (done_of HT_.out (by kernel_rfl)) ?_
         (try clear hHeld)
         try go_wp2
         go_ret
         exact ⟨by first | rfl | (simp [errW_none, errW_some] <;> rfl) | (simp only [← hji32]; first | rfl | (simp [errW_none, errW_some] <;> rfl)) | (simp [*, errW_none, errW_some] <;> rfl), bG_ GE585.out⟩
set_option maxHeartbeats 8000000
set_option maxRecDepth 100000
def impl_NameOk.f (k : Nat) (a0 : ByteArray) : Option (Bool) := (impl_in.f (a0.size : Int) 1 8).bind fun t601 => (if t601 = true then ((impl_Plain.f k a0).bind fun t602 => (if t602 = true then ((strings_Contains.f a0 (⟨#[47]⟩ : ByteArray)).bind fun t603 => (if t603 = true then (some false) else (if a0.toList = ([46] : List UInt8) then (some false) else (some (a0.toList != ([46, 46] : List UInt8)))))) else (some false))) else (some false))
theorem impl_NameOk.calls (k : Nat) (a0 : ByteArray) (r : Bool) (w : World) (h : impl_NameOk.f k a0 = some r) :
 Calls Try.prog 117 #[.string a0] w fun e w' => e = .returned (.bool r) ∧ Drawn0 w w' := by
 have H : ((impl_in.f (a0.size : Int) 1 8).bind fun t601 => (if t601 = true then ((impl_Plain.f k a0).bind fun t602 => (if t602 = true then ((strings_Contains.f a0 (⟨#[47]⟩ : ByteArray)).bind fun t603 => (if t603 = true then (some false) else (if a0.toList = ([46] : List UInt8) then (some false) else (some (a0.toList != ([46, 46] : List UInt8)))))) else (some false))) else (some false))) = some r := h
 clear h
 obtain ⟨t601, A2, H⟩ := bo_ H
 (try dsimp only at H)
 by_cases c3 : t601 = true
 · subst c3
   rw [if_pos rfl] at H
   obtain ⟨t602, A4, H⟩ := bo_ H
   (try dsimp only at H)
   by_cases c5 : t602 = true
   · subst c5
     rw [if_pos rfl] at H
     obtain ⟨t603, A6, H⟩ := bo_ H
     (try dsimp only at H)
     by_cases c7 : t603 = true
     · subst c7
       rw [if_pos rfl] at H
       obtain rfl := si_ H
       go_enter Try.func117, Try.ntmps117
       go_wp2_with (first | ((with_reducible refine gc_ (f := 101) rfl ?_); refine gL_ (some 5) Try.func101 #[.int .i64 (a0.size : Int), .int .i64 1, .int .i64 8] ?_; (with_reducible refine (impl_in.calls (a0.size : Int) 1 8 true _ A2.out).mono ?_); rintro e w' ⟨rfl, ⟨nd, rfl⟩⟩; refine ⟨_, rfl, ?_⟩) | (go_at_call 97; (with_reducible refine (impl_Plain.calls k a0 true _ A4.out).mono ?_); rintro e w' ⟨rfl, ⟨nd, rfl⟩⟩) | (go_at_call 123; (with_reducible refine (strings_Contains.calls a0 (⟨#[47]⟩ : ByteArray) true _ A6.out).mono ?_); rintro e w' ⟨rfl, ⟨nd, rfl⟩⟩))
       go_ret
       exact ⟨rs_, dr_⟩
     · replace c7 := Bool.eq_false_iff.mpr c7
       subst c7
       rw [if_neg nf_] at H
       by_cases c8 : a0.toList = ([46] : List UInt8)
       rotate_left
       · rw [if_neg c8] at H
         have c8b0 : (a0.toList == ([46] : List UInt8)) = false := beq_eq_false_iff_ne.mpr c8
         have c8b1 : (a0.toList != ([46] : List UInt8)) = true := bne_iff_ne.mpr c8
         obtain rfl := si_ H
         go_enter Try.func117, Try.ntmps117
         go_wp2_with (first | ((with_reducible refine gc_ (f := 101) rfl ?_); refine gL_ (some 5) Try.func101 #[.int .i64 (a0.size : Int), .int .i64 1, .int .i64 8] ?_; (with_reducible refine (impl_in.calls (a0.size : Int) 1 8 true _ A2.out).mono ?_); rintro e w' ⟨rfl, ⟨nd, rfl⟩⟩; refine ⟨_, rfl, ?_⟩) | (go_at_call 97; (with_reducible refine (impl_Plain.calls k a0 true _ A4.out).mono ?_); rintro e w' ⟨rfl, ⟨nd, rfl⟩⟩) | (go_at_call 123; (with_reducible refine (strings_Contains.calls a0 (⟨#[47]⟩ : ByteArray) false _ A6.out).mono ?_); rintro e w' ⟨rfl, ⟨nd, rfl⟩⟩))
         go_ret
         exact ⟨rs_, dr_⟩
       rw [if_pos c8] at H
       have c8b0 : (a0.toList == ([46] : List UInt8)) = true := beq_iff_eq.mpr c8
       have c8b1 : (a0.toList != ([46] : List UInt8)) = false := bne_eq_false_iff_eq.mpr c8
       clear c8
       obtain rfl := si_ H
       go_enter Try.func117, Try.ntmps117
       go_wp2_with (first | ((with_reducible refine gc_ (f := 101) rfl ?_); refine gL_ (some 5) Try.func101 #[.int .i64 (a0.size : Int), .int .i64 1, .int .i64 8] ?_; (with_reducible refine (impl_in.calls (a0.size : Int) 1 8 true _ A2.out).mono ?_); rintro e w' ⟨rfl, ⟨nd, rfl⟩⟩; refine ⟨_, rfl, ?_⟩) | (go_at_call 97; (with_reducible refine (impl_Plain.calls k a0 true _ A4.out).mono ?_); rintro e w' ⟨rfl, ⟨nd, rfl⟩⟩) | (go_at_call 123; (with_reducible refine (strings_Contains.calls a0 (⟨#[47]⟩ : ByteArray) false _ A6.out).mono ?_); rintro e w' ⟨rfl, ⟨nd, rfl⟩⟩))
       go_ret
       exact ⟨rs_, dr_⟩
   · replace c5 := Bool.eq_false_iff.mpr c5
     subst c5
     rw [if_neg nf_] at H
     obtain rfl := si_ H
     go_enter Try.func117, Try.ntmps117
     go_wp2_with (first | ((with_reducible refine gc_ (f := 101) rfl ?_); refine gL_ (some 5) Try.func101 #[.int .i64 (a0.size : Int), .int .i64 1, .int .i64 8] ?_; (with_reducible refine (impl_in.calls (a0.size : Int) 1 8 true _ A2.out).mono ?_); rintro e w' ⟨rfl, ⟨nd, rfl⟩⟩; refine ⟨_, rfl, ?_⟩) | (go_at_call 97; (with_reducible refine (impl_Plain.calls k a0 false _ A4.out).mono ?_); rintro e w' ⟨rfl, ⟨nd, rfl⟩⟩))
     go_ret
     exact ⟨rs_, dr_⟩
 · replace c3 := Bool.eq_false_iff.mpr c3
   subst c3
   rw [if_neg nf_] at H
   obtain rfl := si_ H
   go_enter Try.func117, Try.ntmps117
   go_wp2_with (first | ((with_reducible refine gc_ (f := 101) rfl ?_); refine gL_ (some 5) Try.func101 #[.int .i64 (a0.size : Int), .int .i64 1, .int .i64 8] ?_; (with_reducible refine (impl_in.calls (a0.size : Int) 1 8 false _ A2.out).mono ?_); rintro e w' ⟨rfl, ⟨nd, rfl⟩⟩; refine ⟨_, rfl, ?_⟩))
   go_ret
   exact ⟨rs_, dr_⟩
def impl_PathOk.l0 : Nat → List ByteArray → List ByteArray → Int → Int → Option (Bool)
 | 0, _, _, _, _ => none
 | k + 1, x0, x5, x6, x7 => if x7 < x6 then (if 0 ≤ x7 then (if x7 < (x5.length : Int) then ((impl_NameOk.f k (rdOf ByteArray.empty x5 x7)).bind fun t605 => (if t605 = true then (impl_PathOk.l0 k x0 x5 x6 (wrap64 (x7 + 1))) else (some false))) else (none)) else (none)) else (some (decide ((x0.length : Int) ≤ 4)))
def impl_PathOk.f (k : Nat) (l0 : List ByteArray) : Option (Bool) := impl_PathOk.l0 k l0 l0 (l0.length : Int) 0
theorem impl_PathOk.calls (k : Nat) (A0 : Option Addr) (c0 : Nat) (l0 : List ByteArray) (r : Bool) (w : World) (hr0 : Kd.C Kd.string w A0 l0.length l0) (hc0 : l0.length ≤ c0) (h : impl_PathOk.f k l0 = some r) :
 Calls Try.prog 100 #[.slice A0 l0.length c0] w fun e w' => e = .returned (.bool r) ∧ Drawn0 w w' := by
 have HR0 := A_ hr0
 have HC0 := A_ hc0
 clear hr0 hc0
 have H : (impl_PathOk.l0 k l0 l0 (l0.length : Int) 0) = some r := h
 clear h
 have H' := A_ H
 clear H
 go_enter Try.func100, Try.ntmps100
 go_wp2
 go_loopg [7] k (fun kq v7 w' => ∃ (x7_1 : Int), v7 = .int .i64 x7_1 ∧ Aside0 (impl_PathOk.l0 kq l0 l0 (l0.length : Int) x7_1 = some r) ∧ Aside0 (kq ≤ k) ∧ Drawn0 w w')
 case atStart => exact ⟨(0), rs_, H', ⟨Nat.le_refl _⟩, dr_⟩
 case round =>
  clear H'
  try clear c1
  obtain ⟨x7_1, rfl, HA, HK1, ⟨m1, rfl⟩⟩ := hrel
  cases gk with
  | zero => exact absurd HA.out (by simp [impl_PathOk.l0])
  | succ k1 =>
   have H := HA.out
   clear HA
   simp only [impl_PathOk.l0] at H
   by_cases c2 : x7_1 < (l0.length : Int)
   rotate_left
   · rw [if_neg c2] at H
     have c2b0 : decide (x7_1 < (l0.length : Int)) = false := decide_eq_false c2
     clear c2
     obtain rfl := si_ H
     go_wp2
     go_ret
     exact ⟨rs_, dr_⟩
   rw [if_pos c2] at H
   have c2b0 : decide (x7_1 < (l0.length : Int)) = true := decide_eq_true c2
   clear c2
   by_cases c3 : 0 ≤ x7_1
   rotate_left
   · exact absurd H (by rw [if_neg c3]; simp)
   rw [if_pos c3] at H
   have c3b0 : decide (0 ≤ x7_1) = true := decide_eq_true c3
   clear c3
   by_cases c4 : x7_1 < (l0.length : Int)
   rotate_left
   · exact absurd H (by rw [if_neg c4]; simp)
   rw [if_pos c4] at H
   have c4b0 : decide (x7_1 < (l0.length : Int)) = true := decide_eq_true c4
   clear c4
   obtain ⟨t605, A5, H⟩ := bo_ H
   (try dsimp only at H)
   by_cases c6 : t605 = true
   · subst c6
     rw [if_pos rfl] at H
     have H' := A_ H
     clear H
     have p604 : 0 ≤ (x7_1 : Int) := od_
     have q604 : x7_1 < (l0.length : Int) := od_
     obtain ⟨ad604, e604, hx604_0⟩ := Kd.at_string HR0.out x7_1 p604 q604
     cases e604
     replace p604 := eq_true p604
     replace q604 := eq_true q604
     go_wp2_with (first | ((with_reducible refine gc_ (f := 117) rfl ?_); refine gL_ (some 12) Try.func117 #[.string (rdOf ByteArray.empty l0 x7_1)] ?_; (with_reducible refine (impl_NameOk.calls k1 (rdOf ByteArray.empty l0 x7_1) true _ A5.out).mono ?_); rintro e w' ⟨rfl, ⟨nd, rfl⟩⟩; refine ⟨_, rfl, ?_⟩))
     go_roundg k1
     case measure => have := HK1.out; omega
     case rel => exact ⟨(wrap64 (x7_1 + 1)), rs_, H', ⟨by have := HK1.out; omega⟩, dr_⟩
   · replace c6 := Bool.eq_false_iff.mpr c6
     subst c6
     rw [if_neg nf_] at H
     obtain rfl := si_ H
     have p604 : 0 ≤ (x7_1 : Int) := od_
     have q604 : x7_1 < (l0.length : Int) := od_
     obtain ⟨ad604, e604, hx604_0⟩ := Kd.at_string HR0.out x7_1 p604 q604
     cases e604
     replace p604 := eq_true p604
     replace q604 := eq_true q604
     go_wp2_with (first | ((with_reducible refine gc_ (f := 117) rfl ?_); refine gL_ (some 12) Try.func117 #[.string (rdOf ByteArray.empty l0 x7_1)] ?_; (with_reducible refine (impl_NameOk.calls k1 (rdOf ByteArray.empty l0 x7_1) false _ A5.out).mono ?_); rintro e w' ⟨rfl, ⟨nd, rfl⟩⟩; refine ⟨_, rfl, ?_⟩))
     go_ret
     exact ⟨rs_, dr_⟩
def impl_resOk.f (k : Nat) (l0_0 : List ByteArray) (a0_1 : Bool) (a0_2 : ByteArray) (a0_3 : Int) (l0_4 : List (S71)) : Option (Bool) := if (l0_0.length : Int) > 0 then ((impl_PathOk.f k l0_0).bind fun t607 => (if t607 = true then (if a0_1 = true then (if a0_2.toList = ([] : List UInt8) then (if (a0_2.size : Int) ≤ 200 then ((impl_in.f a0_3 0 99999).bind fun t608 => (if t608 = true then ((impl_PropsOk.f k l0_4).bind fun t609 => (some t609)) else (some false))) else (some false)) else (some false)) else (if (a0_2.size : Int) ≤ 200 then ((impl_in.f a0_3 0 99999).bind fun t610 => (if t610 = true then ((impl_PropsOk.f k l0_4).bind fun t611 => (some t611)) else (some false))) else (some false))) else (some false))) else (some false)
theorem impl_resOk.calls (k : Nat) (A0_0 : Option Addr) (c0_0 : Nat) (l0_0 : List ByteArray) (a0_1 : Bool) (a0_2 : ByteArray) (a0_3 : Int) (A0_4 : Option Addr) (c0_4 : Nat) (l0_4 : List (S71)) (r : Bool) (w : World) (hr0_0 : Kd.C Kd.string w A0_0 l0_0.length l0_0) (hc0_0 : l0_0.length ≤ c0_0) (hr0_4 : Kd.C k71 w A0_4 l0_4.length l0_4) (hc0_4 : l0_4.length ≤ c0_4) (h : impl_resOk.f k l0_0 a0_1 a0_2 a0_3 l0_4 = some r) :
 Calls Try.prog 84 #[.agg #[.slice A0_0 l0_0.length c0_0, .bool a0_1, .string a0_2, .int .i64 a0_3, .slice A0_4 l0_4.length c0_4]] w fun e w' => e = .returned (.bool r) ∧ Below w.heap.size w w' := by
 have hu59 := Try.underlying59
 have HR0_0 := A_ hr0_0
 have HC0_0 := A_ hc0_0
 clear hr0_0 hc0_0
 have HR0_4 := A_ hr0_4
 have HC0_4 := A_ hc0_4
 clear hr0_4 hc0_4
 have HB := A_ (Below.refl w.heap.size w)
 have H : (if (l0_0.length : Int) > 0 then ((impl_PathOk.f k l0_0).bind fun t607 => (if t607 = true then (if a0_1 = true then (if a0_2.toList = ([] : List UInt8) then (if (a0_2.size : Int) ≤ 200 then ((impl_in.f a0_3 0 99999).bind fun t608 => (if t608 = true then ((impl_PropsOk.f k l0_4).bind fun t609 => (some t609)) else (some false))) else (some false)) else (some false)) else (if (a0_2.size : Int) ≤ 200 then ((impl_in.f a0_3 0 99999).bind fun t610 => (if t610 = true then ((impl_PropsOk.f k l0_4).bind fun t611 => (some t611)) else (some false))) else (some false))) else (some false))) else (some false)) = some r := h
 clear h
 by_cases c2 : (l0_0.length : Int) > 0
 rotate_left
 · rw [if_neg c2] at H
   have c2b0 : decide (0 < (l0_0.length : Int)) = false := decide_eq_false c2
   have c2b1 : decide (0 < l0_0.length) = false := decide_eq_false (by omega)
   clear c2
   obtain rfl := si_ H
   go_enter Try.func84, Try.ntmps84
   go_wp2_with (first | ((with_reducible refine gd_ (N := 1) rfl ?_); (try (refine gate_guard (by rfl) ?_; dsimp only)); refine bx_ (N := 1) (cs := #[.slice A0_0 l0_0.length c0_0, .bool a0_1, .string a0_2, .int .i64 a0_3, .slice A0_4 l0_4.length c0_4]) (t := 59) ?_; intro gb606 hg w33 hbox hb; have BK606 := A_ (hbox); have GW606 := A_ (ge_ hg bB_ : w.heap.size ≤ gb606); have GE606 := A_ (ge_ hg bB_ : w.heap.size ≤ gb606); replace HB := A_ (below_step bB_ hb); clear hb hbox hg; obtain ⟨hcz34_0, hcz34_1, hcz34_2, hcz34_3, hcz34_4, hfz34_0, hfz34_1, hfz34_2, hfz34_3, hfz34_4⟩ := cz5_ BK606.out))
   go_ret
   exact ⟨rr_, bG_ GE606.out⟩
 rw [if_pos c2] at H
 have c2b0 : decide (0 < (l0_0.length : Int)) = true := decide_eq_true c2
 have c2b1 : decide (0 < l0_0.length) = true := decide_eq_true (by omega)
 clear c2
 obtain ⟨t607, A3, H⟩ := bo_ H
 (try dsimp only at H)
 by_cases c4 : t607 = true
 · subst c4
   rw [if_pos rfl] at H
   by_cases c5 : a0_1 = true
   · subst c5
     rw [if_pos rfl] at H
     by_cases c6 : a0_2.toList = ([] : List UInt8)
     rotate_left
     · rw [if_neg c6] at H
       have c6b0 : (a0_2.toList == ([] : List UInt8)) = false := beq_eq_false_iff_ne.mpr c6
       have c6b1 : (a0_2.toList != ([] : List UInt8)) = true := bne_iff_ne.mpr c6
       obtain rfl := si_ H
       go_enter Try.func84, Try.ntmps84
       go_wp2_with (first | ((with_reducible refine gd_ (N := 1) rfl ?_); (try (refine gate_guard (by rfl) ?_; dsimp only)); refine bx_ (N := 1) (cs := #[.slice A0_0 l0_0.length c0_0, .bool true, .string a0_2, .int .i64 a0_3, .slice A0_4 l0_4.length c0_4]) (t := 59) ?_; intro gb606 hg w18 hbox hb; have BK606 := A_ (hbox); have GW606 := A_ (ge_ hg bB_ : w.heap.size ≤ gb606); have GE606 := A_ (ge_ hg bB_ : w.heap.size ≤ gb606); replace HB := A_ (below_step bB_ hb); clear hb hbox hg; obtain ⟨hcz19_0, hcz19_1, hcz19_2, hcz19_3, hcz19_4, hfz19_0, hfz19_1, hfz19_2, hfz19_3, hfz19_4⟩ := cz5_ BK606.out) | (go_at_call 100; (with_reducible refine (impl_PathOk.calls k _ _ l0_0 true _ ?s1 ?s2 A3.out).mono ?_); (case s1 => exact cC_ (Kd.C_below HR0_0.out HB.out)); (case s2 => exact HC0_0.out); rintro e w' ⟨rfl, ⟨nd, rfl⟩⟩))
       go_ret
       exact ⟨rr_, bG_ GE606.out⟩
     rw [if_pos c6] at H
     have c6b0 : (a0_2.toList == ([] : List UInt8)) = true := beq_iff_eq.mpr c6
     have c6b1 : (a0_2.toList != ([] : List UInt8)) = false := bne_eq_false_iff_eq.mpr c6
     clear c6
     by_cases c7 : (a0_2.size : Int) ≤ 200
     rotate_left
     · rw [if_neg c7] at H
       have c7b0 : decide ((a0_2.size : Int) ≤ 200) = false := decide_eq_false c7
       have c7b1 : decide (a0_2.size ≤ 200) = false := decide_eq_false (by omega)
       clear c7
       obtain rfl := si_ H
       go_enter Try.func84, Try.ntmps84
       go_wp2_with (first | ((with_reducible refine gd_ (N := 1) rfl ?_); (try (refine gate_guard (by rfl) ?_; dsimp only)); refine bx_ (N := 1) (cs := #[.slice A0_0 l0_0.length c0_0, .bool true, .string a0_2, .int .i64 a0_3, .slice A0_4 l0_4.length c0_4]) (t := 59) ?_; intro gb606 hg w16 hbox hb; have BK606 := A_ (hbox); have GW606 := A_ (ge_ hg bB_ : w.heap.size ≤ gb606); have GE606 := A_ (ge_ hg bB_ : w.heap.size ≤ gb606); replace HB := A_ (below_step bB_ hb); clear hb hbox hg; obtain ⟨hcz17_0, hcz17_1, hcz17_2, hcz17_3, hcz17_4, hfz17_0, hfz17_1, hfz17_2, hfz17_3, hfz17_4⟩ := cz5_ BK606.out) | (go_at_call 100; (with_reducible refine (impl_PathOk.calls k _ _ l0_0 true _ ?s1 ?s2 A3.out).mono ?_); (case s1 => exact cC_ (Kd.C_below HR0_0.out HB.out)); (case s2 => exact HC0_0.out); rintro e w' ⟨rfl, ⟨nd, rfl⟩⟩))
       go_ret
       exact ⟨rr_, bG_ GE606.out⟩
     rw [if_pos c7] at H
     have c7b0 : decide ((a0_2.size : Int) ≤ 200) = true := decide_eq_true c7
     have c7b1 : decide (a0_2.size ≤ 200) = true := decide_eq_true (by omega)
     clear c7
     obtain ⟨t608, A8, H⟩ := bo_ H
     (try dsimp only at H)
     by_cases c9 : t608 = true
     · subst c9
       rw [if_pos rfl] at H
       obtain ⟨t609, A10, H⟩ := bo_ H
       (try dsimp only at H)
       obtain rfl := si_ H
       go_enter Try.func84, Try.ntmps84
       go_wp2_with (first | ((with_reducible refine gd_ (N := 1) rfl ?_); (try (refine gate_guard (by rfl) ?_; dsimp only)); refine bx_ (N := 1) (cs := #[.slice A0_0 l0_0.length c0_0, .bool true, .string a0_2, .int .i64 a0_3, .slice A0_4 l0_4.length c0_4]) (t := 59) ?_; intro gb606 hg w11 hbox hb; have BK606 := A_ (hbox); have GW606 := A_ (ge_ hg bB_ : w.heap.size ≤ gb606); have GE606 := A_ (ge_ hg bB_ : w.heap.size ≤ gb606); replace HB := A_ (below_step bB_ hb); clear hb hbox hg; obtain ⟨hcz12_0, hcz12_1, hcz12_2, hcz12_3, hcz12_4, hfz12_0, hfz12_1, hfz12_2, hfz12_3, hfz12_4⟩ := cz5_ BK606.out) | (go_at_call 100; (with_reducible refine (impl_PathOk.calls k _ _ l0_0 true _ ?s1 ?s2 A3.out).mono ?_); (case s1 => exact cC_ (Kd.C_below HR0_0.out HB.out)); (case s2 => exact HC0_0.out); rintro e w' ⟨rfl, ⟨nd, rfl⟩⟩) | (go_at_call 101; (with_reducible refine (impl_in.calls a0_3 0 99999 true _ A8.out).mono ?_); rintro e w' ⟨rfl, ⟨nd, rfl⟩⟩) | (go_at_call 30; (with_reducible refine (impl_PropsOk.calls k _ _ l0_4 t609 _ ?s1 ?s2 A10.out).mono ?_); (case s1 => exact cC_ (Kd.C_below HR0_4.out (bG_ GE606.out))); (case s2 => exact HC0_4.out); rintro e w13 ⟨rfl, hb⟩; replace BK606 := A_ (bw_ BK606.out hb); replace HB := A_ (below_step (bG_ GE606.out) hb); (try clear hb)))
       go_ret
       exact ⟨rr_, bG_ GE606.out⟩
     · replace c9 := Bool.eq_false_iff.mpr c9
       subst c9
       rw [if_neg nf_] at H
       obtain rfl := si_ H
       go_enter Try.func84, Try.ntmps84
       go_wp2_with (first | ((with_reducible refine gd_ (N := 1) rfl ?_); (try (refine gate_guard (by rfl) ?_; dsimp only)); refine bx_ (N := 1) (cs := #[.slice A0_0 l0_0.length c0_0, .bool true, .string a0_2, .int .i64 a0_3, .slice A0_4 l0_4.length c0_4]) (t := 59) ?_; intro gb606 hg w14 hbox hb; have BK606 := A_ (hbox); have GW606 := A_ (ge_ hg bB_ : w.heap.size ≤ gb606); have GE606 := A_ (ge_ hg bB_ : w.heap.size ≤ gb606); replace HB := A_ (below_step bB_ hb); clear hb hbox hg; obtain ⟨hcz15_0, hcz15_1, hcz15_2, hcz15_3, hcz15_4, hfz15_0, hfz15_1, hfz15_2, hfz15_3, hfz15_4⟩ := cz5_ BK606.out) | (go_at_call 100; (with_reducible refine (impl_PathOk.calls k _ _ l0_0 true _ ?s1 ?s2 A3.out).mono ?_); (case s1 => exact cC_ (Kd.C_below HR0_0.out HB.out)); (case s2 => exact HC0_0.out); rintro e w' ⟨rfl, ⟨nd, rfl⟩⟩) | (go_at_call 101; (with_reducible refine (impl_in.calls a0_3 0 99999 false _ A8.out).mono ?_); rintro e w' ⟨rfl, ⟨nd, rfl⟩⟩))
       go_ret
       exact ⟨rr_, bG_ GE606.out⟩
   · replace c5 := Bool.eq_false_iff.mpr c5
     subst c5
     rw [if_neg nf_] at H
     by_cases c20 : (a0_2.size : Int) ≤ 200
     rotate_left
     · rw [if_neg c20] at H
       have c20b0 : decide ((a0_2.size : Int) ≤ 200) = false := decide_eq_false c20
       have c20b1 : decide (a0_2.size ≤ 200) = false := decide_eq_false (by omega)
       clear c20
       obtain rfl := si_ H
       go_enter Try.func84, Try.ntmps84
       go_wp2_with (first | ((with_reducible refine gd_ (N := 1) rfl ?_); (try (refine gate_guard (by rfl) ?_; dsimp only)); refine bx_ (N := 1) (cs := #[.slice A0_0 l0_0.length c0_0, .bool false, .string a0_2, .int .i64 a0_3, .slice A0_4 l0_4.length c0_4]) (t := 59) ?_; intro gb606 hg w29 hbox hb; have BK606 := A_ (hbox); have GW606 := A_ (ge_ hg bB_ : w.heap.size ≤ gb606); have GE606 := A_ (ge_ hg bB_ : w.heap.size ≤ gb606); replace HB := A_ (below_step bB_ hb); clear hb hbox hg; obtain ⟨hcz30_0, hcz30_1, hcz30_2, hcz30_3, hcz30_4, hfz30_0, hfz30_1, hfz30_2, hfz30_3, hfz30_4⟩ := cz5_ BK606.out) | (go_at_call 100; (with_reducible refine (impl_PathOk.calls k _ _ l0_0 true _ ?s1 ?s2 A3.out).mono ?_); (case s1 => exact cC_ (Kd.C_below HR0_0.out HB.out)); (case s2 => exact HC0_0.out); rintro e w' ⟨rfl, ⟨nd, rfl⟩⟩))
       go_ret
       exact ⟨rr_, bG_ GE606.out⟩
     rw [if_pos c20] at H
     have c20b0 : decide ((a0_2.size : Int) ≤ 200) = true := decide_eq_true c20
     have c20b1 : decide (a0_2.size ≤ 200) = true := decide_eq_true (by omega)
     clear c20
     obtain ⟨t610, A21, H⟩ := bo_ H
     (try dsimp only at H)
     by_cases c22 : t610 = true
     · subst c22
       rw [if_pos rfl] at H
       obtain ⟨t611, A23, H⟩ := bo_ H
       (try dsimp only at H)
       obtain rfl := si_ H
       go_enter Try.func84, Try.ntmps84
       go_wp2_with (first | ((with_reducible refine gd_ (N := 1) rfl ?_); (try (refine gate_guard (by rfl) ?_; dsimp only)); refine bx_ (N := 1) (cs := #[.slice A0_0 l0_0.length c0_0, .bool false, .string a0_2, .int .i64 a0_3, .slice A0_4 l0_4.length c0_4]) (t := 59) ?_; intro gb606 hg w24 hbox hb; have BK606 := A_ (hbox); have GW606 := A_ (ge_ hg bB_ : w.heap.size ≤ gb606); have GE606 := A_ (ge_ hg bB_ : w.heap.size ≤ gb606); replace HB := A_ (below_step bB_ hb); clear hb hbox hg; obtain ⟨hcz25_0, hcz25_1, hcz25_2, hcz25_3, hcz25_4, hfz25_0, hfz25_1, hfz25_2, hfz25_3, hfz25_4⟩ := cz5_ BK606.out) | (go_at_call 100; (with_reducible refine (impl_PathOk.calls k _ _ l0_0 true _ ?s1 ?s2 A3.out).mono ?_); (case s1 => exact cC_ (Kd.C_below HR0_0.out HB.out)); (case s2 => exact HC0_0.out); rintro e w' ⟨rfl, ⟨nd, rfl⟩⟩) | (go_at_call 101; (with_reducible refine (impl_in.calls a0_3 0 99999 true _ A21.out).mono ?_); rintro e w' ⟨rfl, ⟨nd, rfl⟩⟩) | (go_at_call 30; (with_reducible refine (impl_PropsOk.calls k _ _ l0_4 t611 _ ?s1 ?s2 A23.out).mono ?_); (case s1 => exact cC_ (Kd.C_below HR0_4.out (bG_ GE606.out))); (case s2 => exact HC0_4.out); rintro e w26 ⟨rfl, hb⟩; replace BK606 := A_ (bw_ BK606.out hb); replace HB := A_ (below_step (bG_ GE606.out) hb); (try clear hb)))
       go_ret
       exact ⟨rr_, bG_ GE606.out⟩
     · replace c22 := Bool.eq_false_iff.mpr c22
       subst c22
       rw [if_neg nf_] at H
       obtain rfl := si_ H
       go_enter Try.func84, Try.ntmps84
       go_wp2_with (first | ((with_reducible refine gd_ (N := 1) rfl ?_); (try (refine gate_guard (by rfl) ?_; dsimp only)); refine bx_ (N := 1) (cs := #[.slice A0_0 l0_0.length c0_0, .bool false, .string a0_2, .int .i64 a0_3, .slice A0_4 l0_4.length c0_4]) (t := 59) ?_; intro gb606 hg w27 hbox hb; have BK606 := A_ (hbox); have GW606 := A_ (ge_ hg bB_ : w.heap.size ≤ gb606); have GE606 := A_ (ge_ hg bB_ : w.heap.size ≤ gb606); replace HB := A_ (below_step bB_ hb); clear hb hbox hg; obtain ⟨hcz28_0, hcz28_1, hcz28_2, hcz28_3, hcz28_4, hfz28_0, hfz28_1, hfz28_2, hfz28_3, hfz28_4⟩ := cz5_ BK606.out) | (go_at_call 100; (with_reducible refine (impl_PathOk.calls k _ _ l0_0 true _ ?s1 ?s2 A3.out).mono ?_); (case s1 => exact cC_ (Kd.C_below HR0_0.out HB.out)); (case s2 => exact HC0_0.out); rintro e w' ⟨rfl, ⟨nd, rfl⟩⟩) | (go_at_call 101; (with_reducible refine (impl_in.calls a0_3 0 99999 false _ A21.out).mono ?_); rintro e w' ⟨rfl, ⟨nd, rfl⟩⟩))
       go_ret
       exact ⟨rr_, bG_ GE606.out⟩
 · replace c4 := Bool.eq_false_iff.mpr c4
   subst c4
   rw [if_neg nf_] at H
   obtain rfl := si_ H
   go_enter Try.func84, Try.ntmps84
   go_wp2_with (first | ((with_reducible refine gd_ (N := 1) rfl ?_); (try (refine gate_guard (by rfl) ?_; dsimp only)); refine bx_ (N := 1) (cs := #[.slice A0_0 l0_0.length c0_0, .bool a0_1, .string a0_2, .int .i64 a0_3, .slice A0_4 l0_4.length c0_4]) (t := 59) ?_; intro gb606 hg w31 hbox hb; have BK606 := A_ (hbox); have GW606 := A_ (ge_ hg bB_ : w.heap.size ≤ gb606); have GE606 := A_ (ge_ hg bB_ : w.heap.size ≤ gb606); replace HB := A_ (below_step bB_ hb); clear hb hbox hg; obtain ⟨hcz32_0, hcz32_1, hcz32_2, hcz32_3, hcz32_4, hfz32_0, hfz32_1, hfz32_2, hfz32_3, hfz32_4⟩ := cz5_ BK606.out) | (go_at_call 100; (with_reducible refine (impl_PathOk.calls k _ _ l0_0 false _ ?s1 ?s2 A3.out).mono ?_); (case s1 => exact cC_ (Kd.C_below HR0_0.out HB.out)); (case s2 => exact HC0_0.out); rintro e w' ⟨rfl, ⟨nd, rfl⟩⟩))
   go_ret
   exact ⟨rr_, bG_ GE606.out⟩
end Go.Proofs.Yteabkidfgdmmpaa.Q
