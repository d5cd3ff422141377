import Derived.Test.YtbgggcgjijljkaaVFnCopiedG22
namespace Go.Proofs.Ytbgggcgjijljkaa.Q
open Go.RowKit Go.Proofs.YtbgggcgjijljkaaW.PrintWords Go.Proofs.YtbgggcgjijljkaaW.PrintLast Go.Proofs.YtbgggcgjijljkaaW.PrintMore
attribute [local go_sem] max2_int min2_int max_two min_two max_three min_three max_four min_four
set_option linter.unusedVariables false
set_option linter.unusedSimpArgs false
mutual
def spec_TreeOk.l0 : Nat -> List (S57) -> Int -> Option (Bool)
 | 0, _, _ => none
 | k + 1, x0, x3 => if x3 < (x0.length : Int) then (if 0 <= x3 then (if (((rd_T57 x0 x3).f0).length : Int) = 0 then (spec_TreeOk.j1 k x0 x3 true ((rd_T57 x0 x3).f0) ((rd_T57 x0 x3).f1) ((rd_T57 x0 x3).f2) ((rd_T57 x0 x3).f3) ((rd_T57 x0 x3).f4)) else ((spec_PathOk.f k ((rd_T57 x0 x3).f0)).bind fun t153 => (if t153 = true then (if (((rd_T57 x0 x3).f2).size : Int) > 200 then (spec_TreeOk.j1 k x0 x3 true ((rd_T57 x0 x3).f0) ((rd_T57 x0 x3).f1) ((rd_T57 x0 x3).f2) ((rd_T57 x0 x3).f3) ((rd_T57 x0 x3).f4)) else (if (rd_T57 x0 x3).f1 = true then (if ((rd_T57 x0 x3).f2).toList = ([] : List UInt8) then ((spec_l1In.f ((rd_T57 x0 x3).f3) 0 99999).bind fun t154 => (if t154 = true then ((spec_PropsOk.f k ((rd_T57 x0 x3).f4)).bind fun t155 => (spec_TreeOk.j1 k x0 x3 (!t155) ((rd_T57 x0 x3).f0) ((rd_T57 x0 x3).f1) ((rd_T57 x0 x3).f2) ((rd_T57 x0 x3).f3) ((rd_T57 x0 x3).f4))) else (spec_TreeOk.j1 k x0 x3 true ((rd_T57 x0 x3).f0) ((rd_T57 x0 x3).f1) ((rd_T57 x0 x3).f2) ((rd_T57 x0 x3).f3) ((rd_T57 x0 x3).f4)))) else (spec_TreeOk.j1 k x0 x3 true ((rd_T57 x0 x3).f0) ((rd_T57 x0 x3).f1) ((rd_T57 x0 x3).f2) ((rd_T57 x0 x3).f3) ((rd_T57 x0 x3).f4))) else ((spec_l1In.f ((rd_T57 x0 x3).f3) 0 99999).bind fun t156 => (if t156 = true then ((spec_PropsOk.f k ((rd_T57 x0 x3).f4)).bind fun t157 => (spec_TreeOk.j1 k x0 x3 (!t157) ((rd_T57 x0 x3).f0) ((rd_T57 x0 x3).f1) ((rd_T57 x0 x3).f2) ((rd_T57 x0 x3).f3) ((rd_T57 x0 x3).f4))) else (spec_TreeOk.j1 k x0 x3 true ((rd_T57 x0 x3).f0) ((rd_T57 x0 x3).f1) ((rd_T57 x0 x3).f2) ((rd_T57 x0 x3).f3) ((rd_T57 x0 x3).f4)))))) else (spec_TreeOk.j1 k x0 x3 true ((rd_T57 x0 x3).f0) ((rd_T57 x0 x3).f1) ((rd_T57 x0 x3).f2) ((rd_T57 x0 x3).f3) ((rd_T57 x0 x3).f4))))) else (none)) else (some (decide ((x0.length : Int) <= 12)))
def spec_TreeOk.j1 : Nat -> List (S57) -> Int -> Bool -> List ByteArray -> Bool -> ByteArray -> Int -> List (S72) -> Option (Bool)
 | 0, _, _, _, _, _, _, _, _ => none
 | k + 1, x0, x3, x51, x153000, x153001, x153002, x153003, x153004 => if x51 = true then (some false) else (if x3 > 0 then (if 0 <= (wrap64 (x3 - 1)) then (if (wrap64 (x3 - 1)) < (x0.length : Int) then ((spec_LessPath.f k ((rd_T57 x0 (wrap64 (x3 - 1))).f0) x153000).bind fun t159 => (if t159 = true then ((spec_Above.f x153000).bind fun t160 => ((spec_IsColl.f k x0 t160).bind fun t163 => (if t163 = true then (spec_TreeOk.l0 k x0 (wrap64 (x3 + 1))) else (some false)))) else (some false))) else (none)) else (none)) else ((spec_Above.f x153000).bind fun t164 => ((spec_IsColl.f k x0 t164).bind fun t167 => (if t167 = true then (spec_TreeOk.l0 k x0 (wrap64 (x3 + 1))) else (some false)))))
end
def spec_TreeOk.f (k : Nat) (l0 : List (S57)) : Option (Bool) := spec_TreeOk.l0 k l0 0
def spec_TreeOk.T7 : Bool × List (List Nat × List Nat) := (true, [([], []), ([0], [0]), ([1], [1]), ([2], [2]), ([2], [2]), ([4, 2], [2, 4]), ([3, 5, 2], [2, 3, 5]), ([6, 2], [2, 6]), ([7, 2], [2, 7]), ([2], [2]), ([9, 2], [2, 9]), ([8, 10, 2, 2], [2, 8, 10]), ([11, 2], [2, 11]), ([2, 12], [2, 12]), ([13, 11], [13]), ([14], [14]), ([14], [14]), ([16, 14], [14, 16]), ([17, 14, 14], [14, 17]), ([15, 18, 18, 14], [14, 15, 18]), ([19, 14], [14, 19]), ([14, 20], [14, 20])])
def spec_TreeOk.B7 : List Nat := [0, 1, 3, 7, 7, 23, 63, 127, 255, 7, 519, 2047, 4095, 8191, 16383, 32767, 32767, 98303, 229375, 524287, 1048575, 2097151]
theorem spec_TreeOk.tab7 : rtab .any (opsOf Try.f79 7) = spec_TreeOk.T7 := by kernel_rfl
theorem spec_TreeOk.bits7 : waitsOk spec_TreeOk.T7.2 spec_TreeOk.B7 = true := by kernel_rfl
set_option maxHeartbeats 8000000 in
set_option maxRecDepth 100000 in
theorem spec_TreeOk.calls (k : Nat) (A0 : Option Addr) (c0 : Nat) (l0 : List (S57)) (r : Bool) (w : World) (hr0 : Kd.C k57 w A0 l0.length l0) (hc0 : l0.length <= c0) (h : spec_TreeOk.f k l0 = some r) :
 Calls Try.prog 79 #[.slice A0 l0.length c0] w fun e w' => e = .returned (.bool r) /\ Below w.heap.size w w' := by
 have hu57 := Try.underlying57
 have HR0 := A_ hr0
 have HC0 := A_ hc0
 clear hr0 hc0
 have HB := A_ (Below.refl w.heap.size w)
 have H : (spec_TreeOk.l0 k l0 0) = some r := h
 clear h
 have H' := A_ H
 clear H
 go_enter Try.func79, Try.ntmps79
 go_wp2
 go_loopg [3] k (fun kq v3 w' => ∃ (x3_1 : Int), v3 = .int .i64 x3_1 /\ Aside0 (spec_TreeOk.l0 kq l0 x3_1 = some r) /\ Aside0 (kq <= k) /\ Aside0 (Below w.heap.size w w'))
 case atStart => exact ⟨(0), rs_, H', ⟨Nat.le_refl _⟩, ⟨bB_⟩⟩
 case round =>
  clear H'
  obtain ⟨x3_1, rfl, HA, HK1, HB⟩ := hrel
  cases gk with
  | zero => exact absurd HA.out (by simp [spec_TreeOk.l0])
  | succ k1 =>
   have H := HA.out
   clear HA
   simp only [spec_TreeOk.l0] at H
   by_cases c2 : x3_1 < (l0.length : Int)
   rotate_left
   . rw [if_neg c2] at H
     have c2b0 := decide_eq_false c2
     clear c2
     obtain rfl := si_ H
     go_wp2
     go_ret
     exact ⟨rr_, bB_⟩
   rw [if_pos c2] at H
   have c2b0 := decide_eq_true c2
   clear c2
   by_cases c3 : 0 <= x3_1
   rotate_left
   . exact absurd H (by rw [if_neg c3]; simp)
   rw [if_pos c3] at H
   have c3b0 := decide_eq_true c3
   clear c3
   have HC4 := A_ H
   clear H
   have p59 : 0 <= (x3_1 : Int) := od_
   have q59 : x3_1 < (l0.length : Int) := od_
   obtain ⟨ad59, A59_0, c59_0, A59_4, c59_4, e59, hx59_0, hx59_1, hx59_2, hx59_3, hx59_4, hl59_0, hi59_0, hl59_4, hi59_4⟩ := at_T57 HR0.out x3_1 p59 q59
   cases e59
   replace hx59_0 := bc_ HB.out hx59_0
   replace hx59_1 := bc_ HB.out hx59_1
   replace hx59_2 := bc_ HB.out hx59_2
   replace hx59_3 := bc_ HB.out hx59_3
   replace hx59_4 := bc_ HB.out hx59_4
   have HR59_0 := A_ hi59_0
   have HC59_0 := A_ hl59_0
   clear hi59_0 hl59_0
   have HR59_4 := A_ hi59_4
   have HC59_4 := A_ hl59_4
   clear hi59_4 hl59_4
   replace p59 := eq_true p59
   replace q59 := eq_true q59
   go_upto_region 5 with (first | ((with_reducible refine gd_ (N := 4) rfl ?_); (try (refine gate_guard (by rfl) ?_; dsimp only)); refine bx_ (N := 4) (cs := #[.slice none 0 0, .bool false, .string (⟨#[]⟩ : ByteArray), .int .i64 0, .slice none 0 0]) (t := 57) ?_; intro gb58 hg w5 hbox hb; have BK58 := A_ (hbox); have GW58 := A_ (ge_ hg bB_ : w.heap.size <= gb58); have GE58 := A_ (ge_ hg bB_ : w.heap.size <= gb58); replace HB := A_ (below_step bB_ hb); clear hb hbox hg; obtain ⟨hcz6_0, hcz6_1, hcz6_2, hcz6_3, hcz6_4, hfz6_0, hfz6_1, hfz6_2, hfz6_3, hfz6_4⟩ := cz5_ BK58.out))
   (try simp only [Act.put, List.setIfInBounds_toArray, List.set_cons_zero, List.set_cons_succ])
   go_cut [51] (fun v51 wc => ∃ (kq : Nat) (x51_3 : Bool), v51 = .bool x51_3 /\ Aside0 (spec_TreeOk.j1 kq l0 x3_1 x51_3 ((rd_T57 l0 x3_1).f0) ((rd_T57 l0 x3_1).f1) ((rd_T57 l0 x3_1).f2) ((rd_T57 l0 x3_1).f3) ((rd_T57 l0 x3_1).f4) = some r) /\ Aside0 (kq <= k1) /\ Aside0 (wc.heap[gb58]? = some (.cells #[(.slice A59_0 ((rd_T57 l0 x3_1).f0).length c59_0), .bool ((rd_T57 l0 x3_1).f1), .string ((rd_T57 l0 x3_1).f2), .int .i64 ((rd_T57 l0 x3_1).f3), (.slice A59_4 ((rd_T57 l0 x3_1).f4).length c59_4)] 57 (0, 0))) /\ Aside0 (Below w.heap.size w wc))
   case first =>
    have H := HC4.out
    clear HC4
    by_cases c7 : (((rd_T57 l0 x3_1).f0).length : Int) = 0
    . rw [if_pos c7] at H
      obtain ⟨c7b0, c7b1⟩ := eT_ c7
      clear c7
      (first | rw [c7b0] | (simp only [i64_w, i32_w]; rw [c7b0]) | skip)
      have H' := A_ H
      clear H
      obtain ⟨hcz8_0, hcz8_1, hcz8_2, hcz8_3, hcz8_4, hfz8_0, hfz8_1, hfz8_2, hfz8_3, hfz8_4⟩ := cz5_ BK58.out
      go_wp2
      go_meet
      case rel => exact ⟨_, (true), rs_, H', ⟨by have := HK1.out; first | omega | exact Nat.le_refl _⟩, ⟨by (with_reducible repeat (first | refine blk_drewN ?_ _ | refine blk_drew ?_ | refine blk_alloc ?_ _)); with_reducible exact p5_01234_ (vb_ BK58.out)⟩, ⟨bG_ GE58.out⟩⟩
    rw [if_neg c7] at H
    obtain ⟨c7b0, c7b1⟩ := eF_ c7
    have c7b2 : ¬ (((rd_T57 l0 x3_1).f0) = []) := fun h_ => c7 (by rw [h_]; rfl)
    (first | rw [c7b0] | (simp only [i64_w, i32_w]; rw [c7b0]) | skip)
    obtain ⟨t71, A9, H⟩ := bo_ H
    (try dsimp only at H)
    by_cases c10 : t71 = true
    . subst c10
      rw [if_pos rfl] at H
      by_cases c11 : (((rd_T57 l0 x3_1).f2).size : Int) > 200
      . rw [if_pos c11] at H
        have c11b0 : decide (200 < (((rd_T57 l0 x3_1).f2).size : Int)) = true := decide_eq_true c11
        have c11b1 : decide (200 < ((rd_T57 l0 x3_1).f2).size) = true := decide_eq_true (by omega)
        clear c11
        have H' := A_ H
        clear H
        obtain ⟨hcz12_0, hcz12_1, hcz12_2, hcz12_3, hcz12_4, hfz12_0, hfz12_1, hfz12_2, hfz12_3, hfz12_4⟩ := cz5_ BK58.out
        go_wp2_with (first | (go_at_call 102; (with_reducible refine (spec_PathOk.calls k1 _ _ ((rd_T57 l0 x3_1).f0) true _ ?s1 ?s2 A9.out).mono ?_); (case s1 => exact Kd.C_below HR59_0.out (bG_ GE58.out)); (case s2 => exact HC59_0.out); rintro e w' ⟨rfl, ⟨nd, rfl⟩⟩))
        go_meet
        case rel => exact ⟨_, (true), rs_, H', ⟨by have := HK1.out; first | omega | exact Nat.le_refl _⟩, ⟨by (with_reducible repeat (first | refine blk_drewN ?_ _ | refine blk_drew ?_ | refine blk_alloc ?_ _)); with_reducible exact p5_01234_ (vb_ BK58.out)⟩, ⟨bG_ GE58.out⟩⟩
      rw [if_neg c11] at H
      have c11b0 : decide (200 < (((rd_T57 l0 x3_1).f2).size : Int)) = false := decide_eq_false c11
      have c11b1 : decide (200 < ((rd_T57 l0 x3_1).f2).size) = false := decide_eq_false (by omega)
      clear c11
      obtain ⟨bq13, hbq13⟩ : ∃ b_ : Bool, b_ = ((rd_T57 l0 x3_1).f1) := ⟨_, rfl⟩
      replace H : (if bq13 = true then (if ((rd_T57 l0 x3_1).f2).toList = ([] : List UInt8) then ((spec_l1In.f ((rd_T57 l0 x3_1).f3) 0 99999).bind fun t67 => (if t67 = true then ((spec_PropsOk.f k1 ((rd_T57 l0 x3_1).f4)).bind fun t65 => (spec_TreeOk.j1 k1 l0 x3_1 (!t65) ((rd_T57 l0 x3_1).f0) bq13 ((rd_T57 l0 x3_1).f2) ((rd_T57 l0 x3_1).f3) ((rd_T57 l0 x3_1).f4))) else (spec_TreeOk.j1 k1 l0 x3_1 true ((rd_T57 l0 x3_1).f0) bq13 ((rd_T57 l0 x3_1).f2) ((rd_T57 l0 x3_1).f3) ((rd_T57 l0 x3_1).f4)))) else (spec_TreeOk.j1 k1 l0 x3_1 true ((rd_T57 l0 x3_1).f0) bq13 ((rd_T57 l0 x3_1).f2) ((rd_T57 l0 x3_1).f3) ((rd_T57 l0 x3_1).f4))) else ((spec_l1In.f ((rd_T57 l0 x3_1).f3) 0 99999).bind fun t68 => (if t68 = true then ((spec_PropsOk.f k1 ((rd_T57 l0 x3_1).f4)).bind fun t66 => (spec_TreeOk.j1 k1 l0 x3_1 (!t66) ((rd_T57 l0 x3_1).f0) bq13 ((rd_T57 l0 x3_1).f2) ((rd_T57 l0 x3_1).f3) ((rd_T57 l0 x3_1).f4))) else (spec_TreeOk.j1 k1 l0 x3_1 true ((rd_T57 l0 x3_1).f0) bq13 ((rd_T57 l0 x3_1).f2) ((rd_T57 l0 x3_1).f3) ((rd_T57 l0 x3_1).f4))))) = some r := by rw [← hbq13] at H; exact H
      have Nbq13 := A_ hbq13
      clear hbq13
      (try rw [← Nbq13.out])
      by_cases c14 : bq13 = true
      . subst c14
        rw [if_pos rfl] at H
        by_cases c15 : ((rd_T57 l0 x3_1).f2).toList = ([] : List UInt8)
        rotate_left
        . rw [if_neg c15] at H
          obtain ⟨c15b0, c15b1⟩ := eF_ c15
          have H' := A_ H
          clear H
          obtain ⟨hcz22_0, hcz22_1, hcz22_2, hcz22_3, hcz22_4, hfz22_0, hfz22_1, hfz22_2, hfz22_3, hfz22_4⟩ := cz5_ BK58.out
          go_wp2_with (first | (go_at_call 102; (with_reducible refine (spec_PathOk.calls k1 _ _ ((rd_T57 l0 x3_1).f0) true _ ?s1 ?s2 A9.out).mono ?_); (case s1 => exact Kd.C_below HR59_0.out (bG_ GE58.out)); (case s2 => exact HC59_0.out); rintro e w' ⟨rfl, ⟨nd, rfl⟩⟩))
          go_meet
          case rel => (try rw [← Nbq13.out]); exact ⟨_, (true), rs_, H', ⟨by have := HK1.out; first | omega | exact Nat.le_refl _⟩, ⟨by (with_reducible repeat (first | refine blk_drewN ?_ _ | refine blk_drew ?_ | refine blk_alloc ?_ _)); with_reducible exact p5_01234_ (vb_ BK58.out)⟩, ⟨bG_ GE58.out⟩⟩
        rw [if_pos c15] at H
        obtain ⟨c15b0, c15b1⟩ := eT_ c15
        clear c15
        obtain ⟨t67, A16, H⟩ := bo_ H
        (try dsimp only at H)
        by_cases c17 : t67 = true
        . subst c17
          rw [if_pos rfl] at H
          obtain ⟨t65, A18, H⟩ := bo_ H
          (try dsimp only at H)
          have H' := A_ H
          clear H
          obtain ⟨hcz19_0, hcz19_1, hcz19_2, hcz19_3, hcz19_4, hfz19_0, hfz19_1, hfz19_2, hfz19_3, hfz19_4⟩ := cz5_ BK58.out
          go_wp2_with (first | (go_at_call 102; (with_reducible refine (spec_PathOk.calls k1 _ _ ((rd_T57 l0 x3_1).f0) true _ ?s1 ?s2 A9.out).mono ?_); (case s1 => exact Kd.C_below HR59_0.out (bG_ GE58.out)); (case s2 => exact HC59_0.out); rintro e w' ⟨rfl, ⟨nd, rfl⟩⟩) | (go_at_call 103; (with_reducible refine (spec_l1In.calls ((rd_T57 l0 x3_1).f3) 0 99999 true _ A16.out).mono ?_); rintro e w' ⟨rfl, ⟨nd, rfl⟩⟩) | (go_at_call 97; (with_reducible refine (spec_PropsOk.calls k1 _ _ ((rd_T57 l0 x3_1).f4) t65 _ ?s1 ?s2 A18.out).mono ?_); (case s1 => exact Kd.C_below HR59_4.out (bG_ GE58.out)); (case s2 => exact HC59_4.out); rintro e w20 ⟨rfl, hb⟩; replace BK58 := A_ (blk_below (g := gb58) (o := .cells #[.slice A59_0 ((rd_T57 l0 x3_1).f0).length c59_0, .bool true, .string ((rd_T57 l0 x3_1).f2), .int .i64 ((rd_T57 l0 x3_1).f3), .slice A59_4 ((rd_T57 l0 x3_1).f4).length c59_4] 57 (0, 0)) (by (with_reducible repeat (first | refine blk_drewN ?_ _ | refine blk_drew ?_ | refine blk_alloc ?_ _)); with_reducible exact p5_01234_ (vb_ BK58.out)) hb); replace HB := A_ (below_step (bG_ GE58.out) hb); clear hb))
          go_meet
          case rel => (try rw [← Nbq13.out]); exact ⟨_, (!t65), rs_, H', ⟨by have := HK1.out; first | omega | exact Nat.le_refl _⟩, ⟨vb_ BK58.out⟩, ⟨bG_ GE58.out⟩⟩
        . replace c17 := Bool.eq_false_iff.mpr c17
          subst c17
          rw [if_neg nf_] at H
          have H' := A_ H
          clear H
          obtain ⟨hcz21_0, hcz21_1, hcz21_2, hcz21_3, hcz21_4, hfz21_0, hfz21_1, hfz21_2, hfz21_3, hfz21_4⟩ := cz5_ BK58.out
          go_wp2_with (first | (go_at_call 102; (with_reducible refine (spec_PathOk.calls k1 _ _ ((rd_T57 l0 x3_1).f0) true _ ?s1 ?s2 A9.out).mono ?_); (case s1 => exact Kd.C_below HR59_0.out (bG_ GE58.out)); (case s2 => exact HC59_0.out); rintro e w' ⟨rfl, ⟨nd, rfl⟩⟩) | (go_at_call 103; (with_reducible refine (spec_l1In.calls ((rd_T57 l0 x3_1).f3) 0 99999 false _ A16.out).mono ?_); rintro e w' ⟨rfl, ⟨nd, rfl⟩⟩))
          go_meet
          case rel => (try rw [← Nbq13.out]); exact ⟨_, (true), rs_, H', ⟨by have := HK1.out; first | omega | exact Nat.le_refl _⟩, ⟨by (with_reducible repeat (first | refine blk_drewN ?_ _ | refine blk_drew ?_ | refine blk_alloc ?_ _)); with_reducible exact p5_01234_ (vb_ BK58.out)⟩, ⟨bG_ GE58.out⟩⟩
      . replace c14 := Bool.eq_false_iff.mpr c14
        subst c14
        rw [if_neg nf_] at H
        obtain ⟨t68, A23, H⟩ := bo_ H
        (try dsimp only at H)
        by_cases c24 : t68 = true
        . subst c24
          rw [if_pos rfl] at H
          obtain ⟨t66, A25, H⟩ := bo_ H
          (try dsimp only at H)
          have H' := A_ H
          clear H
          obtain ⟨hcz26_0, hcz26_1, hcz26_2, hcz26_3, hcz26_4, hfz26_0, hfz26_1, hfz26_2, hfz26_3, hfz26_4⟩ := cz5_ BK58.out
          go_wp2_with (first | (go_at_call 102; (with_reducible refine (spec_PathOk.calls k1 _ _ ((rd_T57 l0 x3_1).f0) true _ ?s1 ?s2 A9.out).mono ?_); (case s1 => exact Kd.C_below HR59_0.out (bG_ GE58.out)); (case s2 => exact HC59_0.out); rintro e w' ⟨rfl, ⟨nd, rfl⟩⟩) | (go_at_call 103; (with_reducible refine (spec_l1In.calls ((rd_T57 l0 x3_1).f3) 0 99999 true _ A23.out).mono ?_); rintro e w' ⟨rfl, ⟨nd, rfl⟩⟩) | (go_at_call 97; (with_reducible refine (spec_PropsOk.calls k1 _ _ ((rd_T57 l0 x3_1).f4) t66 _ ?s1 ?s2 A25.out).mono ?_); (case s1 => exact Kd.C_below HR59_4.out (bG_ GE58.out)); (case s2 => exact HC59_4.out); rintro e w27 ⟨rfl, hb⟩; replace BK58 := A_ (blk_below (g := gb58) (o := .cells #[.slice A59_0 ((rd_T57 l0 x3_1).f0).length c59_0, .bool false, .string ((rd_T57 l0 x3_1).f2), .int .i64 ((rd_T57 l0 x3_1).f3), .slice A59_4 ((rd_T57 l0 x3_1).f4).length c59_4] 57 (0, 0)) (by (with_reducible repeat (first | refine blk_drewN ?_ _ | refine blk_drew ?_ | refine blk_alloc ?_ _)); with_reducible exact p5_01234_ (vb_ BK58.out)) hb); replace HB := A_ (below_step (bG_ GE58.out) hb); clear hb))
          go_meet
          case rel => (try rw [← Nbq13.out]); exact ⟨_, (!t66), rs_, H', ⟨by have := HK1.out; first | omega | exact Nat.le_refl _⟩, ⟨vb_ BK58.out⟩, ⟨bG_ GE58.out⟩⟩
        . replace c24 := Bool.eq_false_iff.mpr c24
          subst c24
          rw [if_neg nf_] at H
          have H' := A_ H
          clear H
          obtain ⟨hcz28_0, hcz28_1, hcz28_2, hcz28_3, hcz28_4, hfz28_0, hfz28_1, hfz28_2, hfz28_3, hfz28_4⟩ := cz5_ BK58.out
          go_wp2_with (first | (go_at_call 102; (with_reducible refine (spec_PathOk.calls k1 _ _ ((rd_T57 l0 x3_1).f0) true _ ?s1 ?s2 A9.out).mono ?_); (case s1 => exact Kd.C_below HR59_0.out (bG_ GE58.out)); (case s2 => exact HC59_0.out); rintro e w' ⟨rfl, ⟨nd, rfl⟩⟩) | (go_at_call 103; (with_reducible refine (spec_l1In.calls ((rd_T57 l0 x3_1).f3) 0 99999 false _ A23.out).mono ?_); rintro e w' ⟨rfl, ⟨nd, rfl⟩⟩))
          go_meet
          case rel => (try rw [← Nbq13.out]); exact ⟨_, (true), rs_, H', ⟨by have := HK1.out; first | omega | exact Nat.le_refl _⟩, ⟨by (with_reducible repeat (first | refine blk_drewN ?_ _ | refine blk_drew ?_ | refine blk_alloc ?_ _)); with_reducible exact p5_01234_ (vb_ BK58.out)⟩, ⟨bG_ GE58.out⟩⟩
    . replace c10 := Bool.eq_false_iff.mpr c10
      subst c10
      rw [if_neg nf_] at H
      have H' := A_ H
      clear H
      obtain ⟨hcz29_0, hcz29_1, hcz29_2, hcz29_3, hcz29_4, hfz29_0, hfz29_1, hfz29_2, hfz29_3, hfz29_4⟩ := cz5_ BK58.out
      go_wp2_with (first | (go_at_call 102; (with_reducible refine (spec_PathOk.calls k1 _ _ ((rd_T57 l0 x3_1).f0) false _ ?s1 ?s2 A9.out).mono ?_); (case s1 => exact Kd.C_below HR59_0.out (bG_ GE58.out)); (case s2 => exact HC59_0.out); rintro e w' ⟨rfl, ⟨nd, rfl⟩⟩))
      go_meet
      case rel => exact ⟨_, (true), rs_, H', ⟨by have := HK1.out; first | omega | exact Nat.le_refl _⟩, ⟨by (with_reducible repeat (first | refine blk_drewN ?_ _ | refine blk_drew ?_ | refine blk_alloc ?_ _)); with_reducible exact p5_01234_ (vb_ BK58.out)⟩, ⟨bG_ GE58.out⟩⟩
   case rest =>
    clear HC4
    try clear c2
    try clear c2b0
    try clear c3
    try clear c3b0
    try clear hcz6_0
    try clear hcz6_1
    try clear hcz6_2
    try clear hcz6_3
    try clear hcz6_4
    try clear hfz6_0
    try clear hfz6_1
    try clear hfz6_2
    try clear hfz6_3
    try clear hfz6_4
    try clear hx59_0
    try clear hx59_1
    try clear hx59_2
    try clear hx59_3
    try clear hx59_4
    try clear p59
    try clear q59
    obtain ⟨kq, x51_3, rfl, HA, HJ3, BK58, HB⟩ := hcut
    cases kq with
    | zero => exact absurd HA.out (by simp [spec_TreeOk.j1])
    | succ kj3 =>
     have H := HA.out
     clear HA
     simp only [spec_TreeOk.j1] at H
     by_cases c30 : x51_3 = true
     . subst c30
       rw [if_pos rfl] at H
       obtain rfl := si_ H
       go_wp2
       go_ret
       exact ⟨rr_, bG_ GE58.out⟩
     . replace c30 := Bool.eq_false_iff.mpr c30
       subst c30
       rw [if_neg nf_] at H
       by_cases c31 : x3_1 > 0
       rotate_left
       . rw [if_neg c31] at H
         have c31b0 : decide (0 < x3_1) = false := decide_eq_false c31
         clear c31
         obtain ⟨t63, A47, H⟩ := bo_ H
         (try dsimp only at H)
         obtain ⟨t72, A48, H⟩ := bo_ H
         (try dsimp only at H)
         by_cases c49 : t72 = true
         . subst c49
           rw [if_pos rfl] at H
           have H' := A_ H
           clear H
           try go_wp2
           replace BK58 := A_ (blk_drew BK58.out)
           replace HB := A_ (below_drew1 HB.out)
           refine st5_ (n := 22) (ds := []) (bl_ BK58.out 0) (bl_ BK58.out 1) (bl_ BK58.out 2) (bl_ BK58.out 3) (bl_ BK58.out 4) (fun hHeld => ?_); refine with_tabW spec_TreeOk.tab7 spec_TreeOk.bits7 (fun HT_ HW_ => ?_)
           generalize wc.drew = w50 at BK58 HB hHeld ⊢
           refine pu_ (i := 0) (N := some 52) ?_
           refine pu_ (i := 1) (N := some 53) ?_
           refine pu_ (i := 2) (N := some 54) ?_
           refine pn_ (i := 3) (N := some 55) ?_
           refine pn_ (i := 4) (N := some 56) ?_
           refine pn_ (i := 5) (N := some 57) ?_
           refine pn_ (i := 6) (N := some 58) ?_
           refine pn_ (i := 7) (N := some 59) ?_
           refine pn_ (i := 8) (N := some 60) ?_
           refine pn_ (i := 9) (N := some 61) ?_
           refine pn_ (i := 10) (N := some 62) ?_
           refine pn_ (i := 11) (N := some 63) ?_
           refine pn_ (i := 12) (N := some 64) ?_
           refine pu_ (i := 13) (N := some 65) ?_
           refine pu_ (i := 14) (N := some 66) ?_
           refine pu_ (i := 15) (N := some 67) ?_
           refine pu_ (i := 16) (N := some 68) ?_
           refine tk_ (i := 17) (N := some 69) hHeld ?_
           refine on_ (i := 18) (N := some 70) (fun K hK => ?_)
           refine goes_ Try.func74 (by kernel_rfl) rfl #[.slice A59_0 ((rd_T57 l0 x3_1).f0).length c59_0] (by rfl) rfl rfl ml_ ?_
           with_reducible refine (spec_Above.calls _ _ ((rd_T57 l0 x3_1).f0) t63 _ ?s1 ?s2 A47.out).mono ?_
           (case s1 => exact cC_ (Kd.C_below HR59_0.out HB.out))
           (case s2 => exact HC59_0.out)
           rintro e w51 ⟨v73, rfl, ho0, hb⟩
           refine ⟨_, rfl, ?_⟩
           have HO61 := A_ (Kd.R_lower ho0 (below_size (bG_ GE58.out)))
           replace BK58 := A_ (bw_ BK58.out hb)
           replace HB := A_ (below_step (bG_ GE58.out) hb)
           clear hb ho0
           obtain ⟨Ao52, co52, eo52⟩ := Kd.R_slice HO61.out
           (first | subst eo52 | (injection eo52 with f1_ f2_ f3_; have f4_ := f1_.symm; have f5_ := f3_.symm; clear f1_ f2_ f3_; subst f4_; subst f5_))
           refine hK.out _ _ (hl_ BK58.out) (fun hHeld => ?_)
           clear hK K
           refine no_ (some 70) ?_
           refine on_ (i := 19) (N := some 71) (fun K hK => ?_)
           refine goes_ Try.func73 (by kernel_rfl) rfl #[.slice (some ad59) l0.length c0, .slice Ao52 t63.length co52] (by rfl) rfl rfl ml_ ?_
           with_reducible refine (spec_IsColl.calls kj3 _ _ l0 _ _ t63 true _ ?s1 ?s2 ?s3 ?s4 A48.out).mono ?_
           (case s1 => exact cC_ (Kd.C_below HR0.out HB.out))
           (case s2 => exact HC0.out)
           (case s3 => exact cC_ (Kd.R_reads' HO61.out).2.2)
           (case s4 => exact (Kd.R_reads' HO61.out).2.1)
           rintro e w' ⟨rfl, ⟨nd, rfl⟩⟩
           refine ⟨_, rfl, ?_⟩
           refine hK.out _ _ (hl_ BK58.out) (fun hHeld => ?_)
           clear hK K
           refine no_ (some 71) ?_
           refine pu_ (i := 20) (N := some 72) ?_
           refine pu_ (i := 21) (N := some 73) ?_
           refine done_ (done_of HT_.out (by kernel_rfl)) ?_
           (try clear hHeld)
           try go_wp2
           go_roundg kj3
           case measure => have := HK1.out; have := HJ3.out; omega
           case rel => exact ⟨(wrap64 (x3_1 + 1)), rs_, H', ⟨by have := HK1.out; have := HJ3.out; omega⟩, ⟨bG_ GE58.out⟩⟩
         . replace c49 := Bool.eq_false_iff.mpr c49
           subst c49
           rw [if_neg nf_] at H
           obtain rfl := si_ H
           try go_wp2
           replace BK58 := A_ (blk_drew BK58.out)
           replace HB := A_ (below_drew1 HB.out)
           refine st5_ (n := 22) (ds := []) (bl_ BK58.out 0) (bl_ BK58.out 1) (bl_ BK58.out 2) (bl_ BK58.out 3) (bl_ BK58.out 4) (fun hHeld => ?_); refine with_tabW spec_TreeOk.tab7 spec_TreeOk.bits7 (fun HT_ HW_ => ?_)
           generalize wc.drew = w53 at BK58 HB hHeld ⊢
           refine pu_ (i := 0) (N := some 52) ?_
           refine pu_ (i := 1) (N := some 53) ?_
           refine pu_ (i := 2) (N := some 54) ?_
           refine pn_ (i := 3) (N := some 55) ?_
           refine pn_ (i := 4) (N := some 56) ?_
           refine pn_ (i := 5) (N := some 57) ?_
           refine pn_ (i := 6) (N := some 58) ?_
           refine pn_ (i := 7) (N := some 59) ?_
           refine pn_ (i := 8) (N := some 60) ?_
           refine pn_ (i := 9) (N := some 61) ?_
           refine pn_ (i := 10) (N := some 62) ?_
           refine pn_ (i := 11) (N := some 63) ?_
           refine pn_ (i := 12) (N := some 64) ?_
           refine pu_ (i := 13) (N := some 65) ?_
           refine pu_ (i := 14) (N := some 66) ?_
           refine pu_ (i := 15) (N := some 67) ?_
           refine pu_ (i := 16) (N := some 68) ?_
           refine tk_ (i := 17) (N := some 69) hHeld ?_
           refine on_ (i := 18) (N := some 70) (fun K hK => ?_)
           refine goes_ Try.func74 (by kernel_rfl) rfl #[.slice A59_0 ((rd_T57 l0 x3_1).f0).length c59_0] (by rfl) rfl rfl ml_ ?_
           with_reducible refine (spec_Above.calls _ _ ((rd_T57 l0 x3_1).f0) t63 _ ?s1 ?s2 A47.out).mono ?_
           (case s1 => exact cC_ (Kd.C_below HR59_0.out HB.out))
           (case s2 => exact HC59_0.out)
           rintro e w54 ⟨v73, rfl, ho0, hb⟩
           refine ⟨_, rfl, ?_⟩
           have HO61 := A_ (Kd.R_lower ho0 (below_size (bG_ GE58.out)))
           replace BK58 := A_ (bw_ BK58.out hb)
           replace HB := A_ (below_step (bG_ GE58.out) hb)
           clear hb ho0
           obtain ⟨Ao55, co55, eo55⟩ := Kd.R_slice HO61.out
           (first | subst eo55 | (injection eo55 with f1_ f2_ f3_; have f4_ := f1_.symm; have f5_ := f3_.symm; clear f1_ f2_ f3_; subst f4_; subst f5_))
           refine hK.out _ _ (hl_ BK58.out) (fun hHeld => ?_)
           clear hK K
           refine no_ (some 70) ?_
           refine on_ (i := 19) (N := some 71) (fun K hK => ?_)
           refine goes_ Try.func73 (by kernel_rfl) rfl #[.slice (some ad59) l0.length c0, .slice Ao55 t63.length co55] (by rfl) rfl rfl ml_ ?_
           with_reducible refine (spec_IsColl.calls kj3 _ _ l0 _ _ t63 false _ ?s1 ?s2 ?s3 ?s4 A48.out).mono ?_
           (case s1 => exact cC_ (Kd.C_below HR0.out HB.out))
           (case s2 => exact HC0.out)
           (case s3 => exact cC_ (Kd.R_reads' HO61.out).2.2)
           (case s4 => exact (Kd.R_reads' HO61.out).2.1)
           rintro e w' ⟨rfl, ⟨nd, rfl⟩⟩
           refine ⟨_, rfl, ?_⟩
           refine hK.out _ _ (hl_ BK58.out) (fun hHeld => ?_)
           clear hK K
           refine no_ (some 71) ?_
           refine pu_ (i := 20) (N := some 72) ?_
           refine pu_ (i := 21) (N := some 73) ?_
           refine done_ (done_of HT_.out (by kernel_rfl)) ?_
           (try clear hHeld)
           try go_wp2
           go_ret
           exact ⟨rr_, bG_ GE58.out⟩
       rw [if_pos c31] at H
       have c31b0 : decide (0 < x3_1) = true := decide_eq_true c31
       clear c31
       obtain ⟨ji32, hji32⟩ : ∃ j_ : Int, (wrap64 (x3_1 - 1)) = j_ := ⟨_, rfl⟩
       replace H : (if 0 <= (ji32) then (if (ji32) < (l0.length : Int) then ((spec_LessPath.f kj3 ((rd_T57 l0 (ji32)).f0) ((rd_T57 l0 x3_1).f0)).bind fun t69 => (if t69 = true then ((spec_Above.f ((rd_T57 l0 x3_1).f0)).bind fun t60 => ((spec_IsColl.f kj3 l0 t60).bind fun t70 => (if t70 = true then (spec_TreeOk.l0 kj3 l0 (wrap64 (x3_1 + 1))) else (some false)))) else (some false))) else (none)) else (none)) = some r := by first | (rw [hji32] at H; exact H) | (simp only [hji32] at H ⊢; exact H)
       have hji32w : (IntKind.i64.wrap (x3_1 - 1)) = ji32 := (i64_w _).trans hji32
       by_cases c33 : 0 <= (ji32)
       rotate_left
       . exact absurd H (by rw [if_neg c33]; simp)
       rw [if_pos c33] at H
       have c33b0 := decide_eq_true c33
       clear c33
       by_cases c34 : (ji32) < (l0.length : Int)
       rotate_left
       . exact absurd H (by rw [if_neg c34]; simp)
       rw [if_pos c34] at H
       have c34b0 := decide_eq_true c34
       clear c34
       obtain ⟨t69, A35, H⟩ := bo_ H
       (try dsimp only at H)
       by_cases c36 : t69 = true
       . subst c36
         rw [if_pos rfl] at H
         obtain ⟨t60, A37, H⟩ := bo_ H
         (try dsimp only at H)
         obtain ⟨t70, A38, H⟩ := bo_ H
         (try dsimp only at H)
         by_cases c39 : t70 = true
         . subst c39
           rw [if_pos rfl] at H
           have H' := A_ H
           clear H
           try go_wp2
           replace BK58 := A_ (blk_drew BK58.out)
           replace HB := A_ (below_drew1 HB.out)
           have p56 : 0 <= ((ji32) : Int) := od_
           have q56 : (ji32) < (l0.length : Int) := od_
           obtain ⟨ad56, A56_0, c56_0, A56_4, c56_4, e56, hx56_0, hx56_1, hx56_2, hx56_3, hx56_4, hl56_0, hi56_0, hl56_4, hi56_4⟩ := at_T57 HR0.out (ji32) p56 q56
           have hw56_4 := hx56_4
           have hw56_3 := hx56_3
           have hw56_2 := hx56_2
           have hw56_1 := hx56_1
           have hw56_0 := hx56_0
           obtain rfl : ad59 = ad56 := (by injection e56)
           replace hx56_0 := bc_ HB.out hx56_0
           replace hx56_1 := bc_ HB.out hx56_1
           replace hx56_2 := bc_ HB.out hx56_2
           replace hx56_3 := bc_ HB.out hx56_3
           replace hx56_4 := bc_ HB.out hx56_4
           have HR56_0 := A_ hi56_0
           have HC56_0 := A_ hl56_0
           clear hi56_0 hl56_0
           clear hi56_4 hl56_4
           replace p56 := eq_true p56
           replace q56 := eq_true q56
           refine st10_ (n := 22) (ds := []) (bl_ BK58.out 0) (bl_ BK58.out 1) (bl_ BK58.out 2) (bl_ BK58.out 3) (bl_ BK58.out 4) (be_ hw56_0) (be_ hw56_1) (be_ hw56_2) (be_ hw56_3) (be_ hw56_4) (fun hHeld => ?_); refine with_tabW spec_TreeOk.tab7 spec_TreeOk.bits7 (fun HT_ HW_ => ?_)
           generalize wc.drew = w40 at BK58 HB HR56_0 hx56_0 hx56_1 hx56_2 hx56_3 hx56_4 hHeld ⊢
           refine pu_ (i := 0) (N := some 52) ?_
           refine pu_ (i := 1) (N := some 53) ?_
           refine pu_ (i := 2) (N := some 54) ?_
           refine pu_ (i := 3) (N := some 55) ?_
           refine pu_ (i := 4) (N := some 56) ?_
           refine pu_ (i := 5) (N := some 57) ?_
           refine pu_ (i := 6) (N := some 58) ?_
           refine pu_ (i := 7) (N := some 59) ?_
           refine pu_ (i := 9) (N := some 61) ?_
           refine tk_ (i := 8) (N := some 60) hHeld ?_
           refine tk_ (i := 10) (N := some 62) hHeld ?_
           refine on_ (i := 11) (N := some 63) (fun K hK => ?_)
           refine goes_ Try.func111 (by kernel_rfl) rfl #[.slice A56_0 ((rd_T57 l0 (ji32)).f0).length c56_0, .slice A59_0 ((rd_T57 l0 x3_1).f0).length c59_0] (by rfl) rfl rfl (by (try simp only [List.map_toArray, List.map_cons, List.map_nil]); first | done | (simp only [hji32]; rfl) | rfl | (simp only [List.length_drop, List.length_take]; rfl)) ?_
           with_reducible refine (spec_LessPath.calls kj3 _ _ ((rd_T57 l0 (ji32)).f0) _ _ ((rd_T57 l0 x3_1).f0) true _ ?s1 ?s2 ?s3 ?s4 A35.out).mono ?_
           (case s1 => exact cC_ (Kd.C_below HR56_0.out HB.out))
           (case s2 => exact HC56_0.out)
           (case s3 => exact cC_ (Kd.C_below HR59_0.out HB.out))
           (case s4 => exact HC59_0.out)
           rintro e w' ⟨rfl, ⟨nd, rfl⟩⟩
           refine ⟨_, rfl, ?_⟩
           refine hK.out _ _ ⟨bl_ BK58.out 0, bl_ BK58.out 1, bl_ BK58.out 2, bl_ BK58.out 3, bl_ BK58.out 4, (be_ hw56_0), (be_ hw56_1), (be_ hw56_2), (be_ hw56_3), (be_ hw56_4)⟩ (fun hHeld => ?_)
           clear hK K
           refine no_ (some 63) ?_
           refine pu_ (i := 12) (N := some 64) ?_
           refine pu_ (i := 13) (N := some 65) ?_
           refine pu_ (i := 14) (N := some 66) ?_
           refine pu_ (i := 15) (N := some 67) ?_
           refine pu_ (i := 16) (N := some 68) ?_
           refine tk_ (i := 17) (N := some 69) hHeld ?_
           refine on_ (i := 18) (N := some 70) (fun K hK => ?_)
           refine goes_ Try.func74 (by kernel_rfl) rfl #[.slice A59_0 ((rd_T57 l0 x3_1).f0).length c59_0] (by rfl) rfl rfl ml_ ?_
           with_reducible refine (spec_Above.calls _ _ ((rd_T57 l0 x3_1).f0) t60 _ ?s1 ?s2 A37.out).mono ?_
           (case s1 => exact cC_ (Kd.C_below HR59_0.out (bG_ GE58.out)))
           (case s2 => exact HC59_0.out)
           rintro e w41 ⟨v74, rfl, ho0, hb⟩
           refine ⟨_, rfl, ?_⟩
           have HO62 := A_ (Kd.R_lower ho0 (below_size (bG_ GE58.out)))
           replace BK58 := A_ (bw_ BK58.out hb)
           replace HB := A_ (below_step (bG_ GE58.out) hb)
           clear hb ho0
           obtain ⟨Ao42, co42, eo42⟩ := Kd.R_slice HO62.out
           (first | subst eo42 | (injection eo42 with f1_ f2_ f3_; have f4_ := f1_.symm; have f5_ := f3_.symm; clear f1_ f2_ f3_; subst f4_; subst f5_))
           refine hK.out _ _ ⟨bl_ BK58.out 0, bl_ BK58.out 1, bl_ BK58.out 2, bl_ BK58.out 3, bl_ BK58.out 4, (be_ hw56_0), (be_ hw56_1), (be_ hw56_2), (be_ hw56_3), (be_ hw56_4)⟩ (fun hHeld => ?_)
           clear hK K
           refine no_ (some 70) ?_
           refine on_ (i := 19) (N := some 71) (fun K hK => ?_)
           refine goes_ Try.func73 (by kernel_rfl) rfl #[.slice (some ad59) l0.length c0, .slice Ao42 t60.length co42] (by rfl) rfl rfl ml_ ?_
           with_reducible refine (spec_IsColl.calls kj3 _ _ l0 _ _ t60 true _ ?s1 ?s2 ?s3 ?s4 A38.out).mono ?_
           (case s1 => exact cC_ (Kd.C_below HR0.out HB.out))
           (case s2 => exact HC0.out)
           (case s3 => exact cC_ (Kd.R_reads' HO62.out).2.2)
           (case s4 => exact (Kd.R_reads' HO62.out).2.1)
           rintro e w' ⟨rfl, ⟨nd, rfl⟩⟩
           refine ⟨_, rfl, ?_⟩
           refine hK.out _ _ ⟨bl_ BK58.out 0, bl_ BK58.out 1, bl_ BK58.out 2, bl_ BK58.out 3, bl_ BK58.out 4, (be_ hw56_0), (be_ hw56_1), (be_ hw56_2), (be_ hw56_3), (be_ hw56_4)⟩ (fun hHeld => ?_)
           clear hK K
           refine no_ (some 71) ?_
           refine pu_ (i := 20) (N := some 72) ?_
           refine pu_ (i := 21) (N := some 73) ?_
           refine done_ (done_of HT_.out (by kernel_rfl)) ?_
           (try clear hHeld)
           try go_wp2
           go_roundg kj3
           case measure => have := HK1.out; have := HJ3.out; omega
           case rel => exact ⟨(wrap64 (x3_1 + 1)), rs_, H', ⟨by have := HK1.out; have := HJ3.out; omega⟩, ⟨bG_ GE58.out⟩⟩
         . replace c39 := Bool.eq_false_iff.mpr c39
           subst c39
           rw [if_neg nf_] at H
           obtain rfl := si_ H
           try go_wp2
           replace BK58 := A_ (blk_drew BK58.out)
           replace HB := A_ (below_drew1 HB.out)
           have p56 : 0 <= ((ji32) : Int) := od_
           have q56 : (ji32) < (l0.length : Int) := od_
           obtain ⟨ad56, A56_0, c56_0, A56_4, c56_4, e56, hx56_0, hx56_1, hx56_2, hx56_3, hx56_4, hl56_0, hi56_0, hl56_4, hi56_4⟩ := at_T57 HR0.out (ji32) p56 q56
           have hw56_4 := hx56_4
           have hw56_3 := hx56_3
           have hw56_2 := hx56_2
           have hw56_1 := hx56_1
           have hw56_0 := hx56_0
           obtain rfl : ad59 = ad56 := (by injection e56)
           replace hx56_0 := bc_ HB.out hx56_0
           replace hx56_1 := bc_ HB.out hx56_1
           replace hx56_2 := bc_ HB.out hx56_2
           replace hx56_3 := bc_ HB.out hx56_3
           replace hx56_4 := bc_ HB.out hx56_4
           have HR56_0 := A_ hi56_0
           have HC56_0 := A_ hl56_0
           clear hi56_0 hl56_0
           clear hi56_4 hl56_4
           replace p56 := eq_true p56
           replace q56 := eq_true q56
           refine st10_ (n := 22) (ds := []) (bl_ BK58.out 0) (bl_ BK58.out 1) (bl_ BK58.out 2) (bl_ BK58.out 3) (bl_ BK58.out 4) (be_ hw56_0) (be_ hw56_1) (be_ hw56_2) (be_ hw56_3) (be_ hw56_4) (fun hHeld => ?_); refine with_tabW spec_TreeOk.tab7 spec_TreeOk.bits7 (fun HT_ HW_ => ?_)
           generalize wc.drew = w43 at BK58 HB HR56_0 hx56_0 hx56_1 hx56_2 hx56_3 hx56_4 hHeld ⊢
           refine pu_ (i := 0) (N := some 52) ?_
           refine pu_ (i := 1) (N := some 53) ?_
           refine pu_ (i := 2) (N := some 54) ?_
           refine pu_ (i := 3) (N := some 55) ?_
           refine pu_ (i := 4) (N := some 56) ?_
           refine pu_ (i := 5) (N := some 57) ?_
           refine pu_ (i := 6) (N := some 58) ?_
           refine pu_ (i := 7) (N := some 59) ?_
           refine pu_ (i := 9) (N := some 61) ?_
           refine tk_ (i := 8) (N := some 60) hHeld ?_
           refine tk_ (i := 10) (N := some 62) hHeld ?_
           refine on_ (i := 11) (N := some 63) (fun K hK => ?_)
           refine goes_ Try.func111 (by kernel_rfl) rfl #[.slice A56_0 ((rd_T57 l0 (ji32)).f0).length c56_0, .slice A59_0 ((rd_T57 l0 x3_1).f0).length c59_0] (by rfl) rfl rfl (by (try simp only [List.map_toArray, List.map_cons, List.map_nil]); first | done | (simp only [hji32]; rfl) | rfl | (simp only [List.length_drop, List.length_take]; rfl)) ?_
           with_reducible refine (spec_LessPath.calls kj3 _ _ ((rd_T57 l0 (ji32)).f0) _ _ ((rd_T57 l0 x3_1).f0) true _ ?s1 ?s2 ?s3 ?s4 A35.out).mono ?_
           (case s1 => exact cC_ (Kd.C_below HR56_0.out HB.out))
           (case s2 => exact HC56_0.out)
           (case s3 => exact cC_ (Kd.C_below HR59_0.out HB.out))
           (case s4 => exact HC59_0.out)
           rintro e w' ⟨rfl, ⟨nd, rfl⟩⟩
           refine ⟨_, rfl, ?_⟩
           refine hK.out _ _ ⟨bl_ BK58.out 0, bl_ BK58.out 1, bl_ BK58.out 2, bl_ BK58.out 3, bl_ BK58.out 4, (be_ hw56_0), (be_ hw56_1), (be_ hw56_2), (be_ hw56_3), (be_ hw56_4)⟩ (fun hHeld => ?_)
           clear hK K
           refine no_ (some 63) ?_
           refine pu_ (i := 12) (N := some 64) ?_
           refine pu_ (i := 13) (N := some 65) ?_
           refine pu_ (i := 14) (N := some 66) ?_
           refine pu_ (i := 15) (N := some 67) ?_
           refine pu_ (i := 16) (N := some 68) ?_
           refine tk_ (i := 17) (N := some 69) hHeld ?_
           refine on_ (i := 18) (N := some 70) (fun K hK => ?_)
           refine goes_ Try.func74 (by kernel_rfl) rfl #[.slice A59_0 ((rd_T57 l0 x3_1).f0).length c59_0] (by rfl) rfl rfl ml_ ?_
           with_reducible refine (spec_Above.calls _ _ ((rd_T57 l0 x3_1).f0) t60 _ ?s1 ?s2 A37.out).mono ?_
           (case s1 => exact cC_ (Kd.C_below HR59_0.out (bG_ GE58.out)))
           (case s2 => exact HC59_0.out)
           rintro e w44 ⟨v74, rfl, ho0, hb⟩
           refine ⟨_, rfl, ?_⟩
           have HO62 := A_ (Kd.R_lower ho0 (below_size (bG_ GE58.out)))
           replace BK58 := A_ (bw_ BK58.out hb)
           replace HB := A_ (below_step (bG_ GE58.out) hb)
           clear hb ho0
           obtain ⟨Ao45, co45, eo45⟩ := Kd.R_slice HO62.out
           (first | subst eo45 | (injection eo45 with f1_ f2_ f3_; have f4_ := f1_.symm; have f5_ := f3_.symm; clear f1_ f2_ f3_; subst f4_; subst f5_))
           refine hK.out _ _ ⟨bl_ BK58.out 0, bl_ BK58.out 1, bl_ BK58.out 2, bl_ BK58.out 3, bl_ BK58.out 4, (be_ hw56_0), (be_ hw56_1), (be_ hw56_2), (be_ hw56_3), (be_ hw56_4)⟩ (fun hHeld => ?_)
           clear hK K
           refine no_ (some 70) ?_
           refine on_ (i := 19) (N := some 71) (fun K hK => ?_)
           refine goes_ Try.func73 (by kernel_rfl) rfl #[.slice (some ad59) l0.length c0, .slice Ao45 t60.length co45] (by rfl) rfl rfl ml_ ?_
           with_reducible refine (spec_IsColl.calls kj3 _ _ l0 _ _ t60 false _ ?s1 ?s2 ?s3 ?s4 A38.out).mono ?_
           (case s1 => exact cC_ (Kd.C_below HR0.out HB.out))
           (case s2 => exact HC0.out)
           (case s3 => exact cC_ (Kd.R_reads' HO62.out).2.2)
           (case s4 => exact (Kd.R_reads' HO62.out).2.1)
           rintro e w' ⟨rfl, ⟨nd, rfl⟩⟩
           refine ⟨_, rfl, ?_⟩
           refine hK.out _ _ ⟨bl_ BK58.out 0, bl_ BK58.out 1, bl_ BK58.out 2, bl_ BK58.out 3, bl_ BK58.out 4, (be_ hw56_0), (be_ hw56_1), (be_ hw56_2), (be_ hw56_3), (be_ hw56_4)⟩ (fun hHeld => ?_)
           clear hK K
           refine no_ (some 71) ?_
           refine pu_ (i := 20) (N := some 72) ?_
           refine pu_ (i := 21) (N := some 73) ?_
           refine done_ (done_of HT_.out (by kernel_rfl)) ?_
           (try clear hHeld)
           try go_wp2
           go_ret
           exact ⟨by first | rfl | (simp [errW_none, errW_some] <;> rfl) | (simp only [← hji32]; first | rfl | (simp [errW_none, errW_some] <;> rfl)) | (simp [*, errW_none, errW_some] <;> rfl), bG_ GE58.out⟩
       . replace c36 := Bool.eq_false_iff.mpr c36
         subst c36
         rw [if_neg nf_] at H
         obtain rfl := si_ H
         try go_wp2
         replace BK58 := A_ (blk_drew BK58.out)
         replace HB := A_ (below_drew1 HB.out)
         have p56 : 0 <= ((ji32) : Int) := od_
         have q56 : (ji32) < (l0.length : Int) := od_
         obtain ⟨ad56, A56_0, c56_0, A56_4, c56_4, e56, hx56_0, hx56_1, hx56_2, hx56_3, hx56_4, hl56_0, hi56_0, hl56_4, hi56_4⟩ := at_T57 HR0.out (ji32) p56 q56
         have hw56_4 := hx56_4
         have hw56_3 := hx56_3
         have hw56_2 := hx56_2
         have hw56_1 := hx56_1
         have hw56_0 := hx56_0
         obtain rfl : ad59 = ad56 := (by injection e56)
         replace hx56_0 := bc_ HB.out hx56_0
         replace hx56_1 := bc_ HB.out hx56_1
         replace hx56_2 := bc_ HB.out hx56_2
         replace hx56_3 := bc_ HB.out hx56_3
         replace hx56_4 := bc_ HB.out hx56_4
         have HR56_0 := A_ hi56_0
         have HC56_0 := A_ hl56_0
         clear hi56_0 hl56_0
         clear hi56_4 hl56_4
         replace p56 := eq_true p56
         replace q56 := eq_true q56
         refine st10_ (n := 22) (ds := []) (bl_ BK58.out 0) (bl_ BK58.out 1) (bl_ BK58.out 2) (bl_ BK58.out 3) (bl_ BK58.out 4) (be_ hw56_0) (be_ hw56_1) (be_ hw56_2) (be_ hw56_3) (be_ hw56_4) (fun hHeld => ?_); refine with_tabW spec_TreeOk.tab7 spec_TreeOk.bits7 (fun HT_ HW_ => ?_)
         generalize wc.drew = w46 at BK58 HB HR56_0 hx56_0 hx56_1 hx56_2 hx56_3 hx56_4 hHeld ⊢
         refine pu_ (i := 0) (N := some 52) ?_
         refine pu_ (i := 1) (N := some 53) ?_
         refine pu_ (i := 2) (N := some 54) ?_
         refine pu_ (i := 3) (N := some 55) ?_
         refine pu_ (i := 4) (N := some 56) ?_
         refine pu_ (i := 5) (N := some 57) ?_
         refine pu_ (i := 6) (N := some 58) ?_
         refine pu_ (i := 7) (N := some 59) ?_
         refine pu_ (i := 9) (N := some 61) ?_
         refine tk_ (i := 8) (N := some 60) hHeld ?_
         refine tk_ (i := 10) (N := some 62) hHeld ?_
         refine on_ (i := 11) (N := some 63) (fun K hK => ?_)
         refine goes_ Try.func111 (by kernel_rfl) rfl #[.slice A56_0 ((rd_T57 l0 (ji32)).f0).length c56_0, .slice A59_0 ((rd_T57 l0 x3_1).f0).length c59_0] (by rfl) rfl rfl (by (try simp only [List.map_toArray, List.map_cons, List.map_nil]); first | done | (simp only [hji32]; rfl) | rfl | (simp only [List.length_drop, List.length_take]; rfl)) ?_
         with_reducible refine (spec_LessPath.calls kj3 _ _ ((rd_T57 l0 (ji32)).f0) _ _ ((rd_T57 l0 x3_1).f0) false _ ?s1 ?s2 ?s3 ?s4 A35.out).mono ?_
         (case s1 => exact cC_ (Kd.C_below HR56_0.out HB.out))
         (case s2 => exact HC56_0.out)
         (case s3 => exact cC_ (Kd.C_below HR59_0.out HB.out))
         (case s4 => exact HC59_0.out)
         rintro e w' ⟨rfl, ⟨nd, rfl⟩⟩
         refine ⟨_, rfl, ?_⟩
         refine hK.out _ _ ⟨bl_ BK58.out 0, bl_ BK58.out 1, bl_ BK58.out 2, bl_ BK58.out 3, bl_ BK58.out 4, (be_ hw56_0), (be_ hw56_1), (be_ hw56_2), (be_ hw56_3), (be_ hw56_4)⟩ (fun hHeld => ?_)
         clear hK K
         refine no_ (some 63) ?_
         refine pu_ (i := 12) (N := some 64) ?_
         refine pu_ (i := 13) (N := some 65) ?_
         refine pu_ (i := 14) (N := some 66) ?_
         refine pn_ (i := 15) (N := some 67) ?_
         refine pn_ (i := 16) (N := some 68) ?_
         refine pn_ (i := 17) (N := some 69) ?_
         refine pn_ (i := 18) (N := some 70) ?_
         refine pn_ (i := 19) (N := some 71) ?_
         refine pn_ (i := 20) (N := some 72) ?_
         refine pu_ (i := 21) (N := some 73) ?_
         refine done_ (done_of HT_.out (by kernel_rfl)) ?_
         (try clear hHeld)
         try go_wp2
         go_ret
         exact ⟨by first | rfl | (simp [errW_none, errW_some] <;> rfl) | (simp only [← hji32]; first | rfl | (simp [errW_none, errW_some] <;> rfl)) | (simp [*, errW_none, errW_some] <;> rfl), bG_ GE58.out⟩
set_option maxHeartbeats 8000000
set_option maxRecDepth 100000
def spec_l11May.f (k : Nat) (l0 : List (S57)) (l1 : List ByteArray) (a2 : Int) : Option (Int) := (spec_TreeOk.f k l0).bind fun t168 => (if t168 = true then ((spec_PathOk.f k l1).bind fun t169 => (if t169 = true then ((spec_l1In.f a2 0 99999).bind fun t170 => (if t170 = true then (some 0) else (some 507))) else (some 400))) else (some 500))
theorem spec_l11May.calls (k : Nat) (A0 : Option Addr) (c0 : Nat) (l0 : List (S57)) (A1 : Option Addr) (c1 : Nat) (l1 : List ByteArray) (a2 : Int) (r : Int) (w : World) (hr0 : Kd.C k57 w A0 l0.length l0) (hc0 : l0.length <= c0) (hr1 : Kd.C Kd.string w A1 l1.length l1) (hc1 : l1.length <= c1) (h : spec_l11May.f k l0 l1 a2 = some r) :
 Calls Try.prog 60 #[.slice A0 l0.length c0, .slice A1 l1.length c1, .int .i64 a2] w fun e w' => e = .returned (.int .i64 r) /\ Below w.heap.size w w' := by
 have HR0 := A_ hr0
 have HC0 := A_ hc0
 clear hr0 hc0
 have HR1 := A_ hr1
 have HC1 := A_ hc1
 clear hr1 hc1
 have HB := A_ (Below.refl w.heap.size w)
 have H : ((spec_TreeOk.f k l0).bind fun t3 => (if t3 = true then ((spec_PathOk.f k l1).bind fun t14 => (if t14 = true then ((spec_l1In.f a2 0 99999).bind fun t15 => (if t15 = true then (some 0) else (some 507))) else (some 400))) else (some 500))) = some r := h
 clear h
 obtain ⟨t3, A4, H⟩ := bo_ H
 (try dsimp only at H)
 by_cases c5 : t3 = true
 . subst c5
   rw [if_pos rfl] at H
   obtain ⟨t14, A6, H⟩ := bo_ H
   (try dsimp only at H)
   by_cases c7 : t14 = true
   . subst c7
     rw [if_pos rfl] at H
     obtain ⟨t15, A8, H⟩ := bo_ H
     (try dsimp only at H)
     by_cases c9 : t15 = true
     . subst c9
       rw [if_pos rfl] at H
       obtain rfl := si_ H
       go_enter Try.func60, Try.ntmps60
       go_wp2_with (first | ((with_reducible refine gc_ (f := 79) rfl ?_); refine gL_ (some 9) Try.func79 #[.slice A0 l0.length c0] ?_; (with_reducible refine (spec_TreeOk.calls k _ _ l0 true _ ?s1 ?s2 A4.out).mono ?_); (case s1 => exact cC_ HR0.out); (case s2 => exact HC0.out); rintro e w10 ⟨rfl, hb⟩; refine ⟨_, rfl, ?_⟩; replace HB := A_ (below_step bB_ hb); clear hb) | ((with_reducible refine gc_ (f := 102) rfl ?_); refine gL_ (some 13) Try.func102 #[.slice A1 l1.length c1] ?_; (with_reducible refine (spec_PathOk.calls k _ _ l1 true _ ?s1 ?s2 A6.out).mono ?_); (case s1 => exact cC_ (Kd.C_below HR1.out HB.out)); (case s2 => exact HC1.out); rintro e w' ⟨rfl, ⟨nd, rfl⟩⟩; refine ⟨_, rfl, ?_⟩) | ((with_reducible refine gc_ (f := 103) rfl ?_); refine gL_ (some 17) Try.func103 #[.int .i64 a2, .int .i64 0, .int .i64 99999] ?_; (with_reducible refine (spec_l1In.calls a2 0 99999 true _ A8.out).mono ?_); rintro e w' ⟨rfl, ⟨nd, rfl⟩⟩; refine ⟨_, rfl, ?_⟩))
       go_ret
       exact ⟨rr_, bB_⟩
     . replace c9 := Bool.eq_false_iff.mpr c9
       subst c9
       rw [if_neg nf_] at H
       obtain rfl := si_ H
       go_enter Try.func60, Try.ntmps60
       go_wp2_with (first | ((with_reducible refine gc_ (f := 79) rfl ?_); refine gL_ (some 9) Try.func79 #[.slice A0 l0.length c0] ?_; (with_reducible refine (spec_TreeOk.calls k _ _ l0 true _ ?s1 ?s2 A4.out).mono ?_); (case s1 => exact cC_ HR0.out); (case s2 => exact HC0.out); rintro e w11 ⟨rfl, hb⟩; refine ⟨_, rfl, ?_⟩; replace HB := A_ (below_step bB_ hb); clear hb) | ((with_reducible refine gc_ (f := 102) rfl ?_); refine gL_ (some 13) Try.func102 #[.slice A1 l1.length c1] ?_; (with_reducible refine (spec_PathOk.calls k _ _ l1 true _ ?s1 ?s2 A6.out).mono ?_); (case s1 => exact cC_ (Kd.C_below HR1.out HB.out)); (case s2 => exact HC1.out); rintro e w' ⟨rfl, ⟨nd, rfl⟩⟩; refine ⟨_, rfl, ?_⟩) | ((with_reducible refine gc_ (f := 103) rfl ?_); refine gL_ (some 17) Try.func103 #[.int .i64 a2, .int .i64 0, .int .i64 99999] ?_; (with_reducible refine (spec_l1In.calls a2 0 99999 false _ A8.out).mono ?_); rintro e w' ⟨rfl, ⟨nd, rfl⟩⟩; refine ⟨_, rfl, ?_⟩))
       go_ret
       exact ⟨rr_, bB_⟩
   . replace c7 := Bool.eq_false_iff.mpr c7
     subst c7
     rw [if_neg nf_] at H
     obtain rfl := si_ H
     go_enter Try.func60, Try.ntmps60
     go_wp2_with (first | ((with_reducible refine gc_ (f := 79) rfl ?_); refine gL_ (some 9) Try.func79 #[.slice A0 l0.length c0] ?_; (with_reducible refine (spec_TreeOk.calls k _ _ l0 true _ ?s1 ?s2 A4.out).mono ?_); (case s1 => exact cC_ HR0.out); (case s2 => exact HC0.out); rintro e w12 ⟨rfl, hb⟩; refine ⟨_, rfl, ?_⟩; replace HB := A_ (below_step bB_ hb); clear hb) | ((with_reducible refine gc_ (f := 102) rfl ?_); refine gL_ (some 13) Try.func102 #[.slice A1 l1.length c1] ?_; (with_reducible refine (spec_PathOk.calls k _ _ l1 false _ ?s1 ?s2 A6.out).mono ?_); (case s1 => exact cC_ (Kd.C_below HR1.out HB.out)); (case s2 => exact HC1.out); rintro e w' ⟨rfl, ⟨nd, rfl⟩⟩; refine ⟨_, rfl, ?_⟩))
     go_ret
     exact ⟨rr_, bB_⟩
 . replace c5 := Bool.eq_false_iff.mpr c5
   subst c5
   rw [if_neg nf_] at H
   obtain rfl := si_ H
   go_enter Try.func60, Try.ntmps60
   go_wp2_with (first | ((with_reducible refine gc_ (f := 79) rfl ?_); refine gL_ (some 9) Try.func79 #[.slice A0 l0.length c0] ?_; (with_reducible refine (spec_TreeOk.calls k _ _ l0 false _ ?s1 ?s2 A4.out).mono ?_); (case s1 => exact cC_ HR0.out); (case s2 => exact HC0.out); rintro e w13 ⟨rfl, hb⟩; refine ⟨_, rfl, ?_⟩; replace HB := A_ (below_step bB_ hb); clear hb))
   go_ret
   exact ⟨rr_, bB_⟩
def spec_l10Copy.f (l0_0 : List ByteArray) (a0_1 : Bool) (a0_2 : ByteArray) (a0_3 : Int) (l0_4 : List (S72)) : Option (List ByteArray × Bool × ByteArray × Int × (List (S72))) := (some (([] : List ByteArray) : List ByteArray)).bind fun y174 => (if y174.length + l0_0.length < 8796093022208 then ((some (([] : List (S72)) : List (S72))).bind fun y180 => (if y180.length + l0_4.length < 2932031007402 then (some ((y174 ++ l0_0), a0_1, a0_2, a0_3, (y180 ++ l0_4))) else (none))) else (none))
theorem spec_l10Copy.calls (A0_0 : Option Addr) (c0_0 : Nat) (l0_0 : List ByteArray) (a0_1 : Bool) (a0_2 : ByteArray) (a0_3 : Int) (A0_4 : Option Addr) (c0_4 : Nat) (l0_4 : List (S72)) (r1 : List ByteArray) (r2 : Bool) (r3 : ByteArray) (r4 : Int) (r5 : List (S72)) (w : World) (hr0_0 : Kd.C Kd.string w A0_0 l0_0.length l0_0) (hc0_0 : l0_0.length <= c0_0) (hr0_4 : Kd.C k72 w A0_4 l0_4.length l0_4) (hc0_4 : l0_4.length <= c0_4) (h : spec_l10Copy.f l0_0 a0_1 a0_2 a0_3 l0_4 = some (r1, r2, r3, r4, r5)) :
 Calls Try.prog 105 #[.agg #[.slice A0_0 l0_0.length c0_0, .bool a0_1, .string a0_2, .int .i64 a0_3, .slice A0_4 l0_4.length c0_4]] w fun e w' => ∃ v0_ v4_ : Value, e = .returned (.agg #[v0_, .bool r2, .string r3, .int .i64 r4, v4_]) /\ Kd.R Kd.string 9 w' w.heap.size (fun _ => True) v0_ r1 /\ Kd.R k72 72 w' w.heap.size (fun _ => True) v4_ r5 /\ Below w.heap.size w w' := by
 have hu57 := Try.underlying57
 have HR0_0 := A_ hr0_0
 clear hr0_0 hc0_0
 have HR0_4 := A_ hr0_4
 clear hr0_4 hc0_4
 have HB := A_ (Below.refl w.heap.size w)
 have H : ((some (([] : List ByteArray) : List ByteArray)).bind fun y30 => (if y30.length + l0_0.length < 8796093022208 then ((some (([] : List (S72)) : List (S72))).bind fun y28 => (if y28.length + l0_4.length < 2932031007402 then (some ((y30 ++ l0_0), a0_1, a0_2, a0_3, (y28 ++ l0_4))) else (none))) else (none))) = some (r1, r2, r3, r4, r5) := h
 clear h
 obtain ⟨y30, hy30⟩ : ∃ y_ : List ByteArray, y_ = (([] : List ByteArray)) := ⟨_, rfl⟩
 replace H : (if y30.length + l0_0.length < 8796093022208 then ((some (([] : List (S72)) : List (S72))).bind fun y28 => (if y28.length + l0_4.length < 2932031007402 then (some ((y30 ++ l0_0), a0_1, a0_2, a0_3, (y28 ++ l0_4))) else (none))) else (none)) = some (r1, r2, r3, r4, r5) := hy_ hy30 H
 have Ny30 := A_ hy30
 clear hy30
 by_cases c2 : y30.length + l0_0.length < 8796093022208
 rotate_left
 . exact absurd H (by rw [if_neg c2]; simp)
 rw [if_pos c2] at H
 have LMc2 := A_ c2
 clear c2
 obtain ⟨y29, hy29⟩ : ∃ y_ : List ByteArray, y_ = (y30 ++ l0_0) := ⟨_, rfl⟩
 replace H : ((some (([] : List (S72)) : List (S72))).bind fun y28 => (if y28.length + l0_4.length < 2932031007402 then (some (y29, a0_1, a0_2, a0_3, (y28 ++ l0_4))) else (none))) = some (r1, r2, r3, r4, r5) := hy_ hy29 H
 have Ny29 := A_ hy29
 clear hy29
 obtain ⟨y28, hy28⟩ : ∃ y_ : List (S72), y_ = (([] : List (S72))) := ⟨_, rfl⟩
 replace H : (if y28.length + l0_4.length < 2932031007402 then (some (y29, a0_1, a0_2, a0_3, (y28 ++ l0_4))) else (none)) = some (r1, r2, r3, r4, r5) := hy_ hy28 H
 have Ny28 := A_ hy28
 clear hy28
 by_cases c3 : y28.length + l0_4.length < 2932031007402
 rotate_left
 . exact absurd H (by rw [if_neg c3]; simp)
 rw [if_pos c3] at H
 have LMc3 := A_ c3
 clear c3
 obtain ⟨y31, hy31⟩ : ∃ y_ : List (S72), y_ = (y28 ++ l0_4) := ⟨_, rfl⟩
 replace H : (some (y29, a0_1, a0_2, a0_3, y31)) = some (r1, r2, r3, r4, r5) := hy_ hy31 H
 have Ny31 := A_ hy31
 clear hy31
 simp only [Option.some.injEq, Prod.mk.injEq] at H
 obtain ⟨rfl, rfl, rfl, rfl, rfl⟩ := H
 go_enter Try.func105, Try.ntmps105
 go_wp2_with (first | ((with_reducible refine gd_ (N := 1) rfl ?_); refine bx_ (N := 1) (cs := #[.slice A0_0 l0_0.length c0_0, .bool a0_1, .string a0_2, .int .i64 a0_3, .slice A0_4 l0_4.length c0_4]) (t := 57) ?_; intro gb26 hg w4 hbox hb; have BK26 := A_ (hbox); have GW26 := A_ (ge_ hg bB_ : w.heap.size <= gb26); have GE26 := A_ (ge_ hg bB_ : w.heap.size <= gb26); replace HB := A_ (below_step bB_ hb); clear hb hbox hg) | ((with_reducible refine gd_ (N := 2) rfl ?_); refine bx_ (N := 2) (cs := #[.slice none 0 0, .bool false, .string (⟨#[]⟩ : ByteArray), .int .i64 0, .slice none 0 0]) (t := 57) ?_; intro gb25 hg w5 hbox hb; have BK25 := A_ (hbox); have GW25 := A_ (ge_ hg (bG_ GE26.out) : w.heap.size <= gb25); have GE25 := A_ (ge_ hg (bG_ GE26.out) : w.heap.size <= gb25); replace HB := A_ (below_step (bG_ GE26.out) hb); have NB171_172 := A_ (gm_ hg BK26.out); have NB172_171 := A_ (gn_ hg BK26.out); replace BK26 := A_ (bw_ BK26.out hb); clear hb hbox hg; have hnb6 := NB171_172.out; have hnc6 := NB172_171.out; obtain ⟨hcz7_0, hcz7_1, hcz7_2, hcz7_3, hcz7_4, hfz7_0, hfz7_1, hfz7_2, hfz7_3, hfz7_4⟩ := cz5_ BK26.out) | ((with_reducible refine gd_ (N := 3) rfl ?_); refine bx_ (N := 3) (cs := #[.slice none 0 0, .bool false, .string (⟨#[]⟩ : ByteArray), .int .i64 0, .slice none 0 0]) (t := 57) ?_; intro gb27 hg w8 hbox hb; have BK27 := A_ (hbox); have GW27 := A_ ((by rw [hg]; exact (below_size (by repeat (first | (with_reducible first | exact HB.out | apply below_alloc | apply pw_below_drewN | apply below_drew1 | refine below_set ?_ GE26.out | refine below_set ?_ GE25.out) | exact HB.out))) : w.heap.size <= gb27)); have GE27 := A_ ((by rw [hg]; exact (below_size (by repeat (first | (with_reducible first | exact HB.out | apply below_alloc | apply pw_below_drewN | apply below_drew1 | refine below_set ?_ GE26.out | refine below_set ?_ GE25.out) | exact HB.out))) : w.heap.size <= gb27)); replace HB := A_ (below_step (by repeat (first | (with_reducible first | exact HB.out | apply below_alloc | apply pw_below_drewN | apply below_drew1 | refine below_set ?_ GE26.out | refine below_set ?_ GE25.out) | exact HB.out)) hb); have NB171_173 := A_ (gm_ hg BK26.out); have NB173_171 := A_ (gn_ hg BK26.out); replace BK26 := A_ (bw_ BK26.out hb); have NB172_173 := A_ (gm_ hg BK25.out); have NB173_172 := A_ (gn_ hg BK25.out); replace BK25 := A_ (bw_ BK25.out hb); clear hb hbox hg; have hnb9 := NB173_171.out; have hnc9 := NB171_173.out; have hnb10 := NB173_172.out; have hnc10 := NB172_173.out; obtain ⟨hcz11_0, hcz11_1, hcz11_2, hcz11_3, hcz11_4, hfz11_0, hfz11_1, hfz11_2, hfz11_3, hfz11_4⟩ := cz5_ BK27.out) | ((with_reducible refine gd_ (N := 5) rfl ?_); refine Kd.R_lit Kd.string _ 9 ?hg (N := 5) ?hd (xs := ([] : List ByteArray)) (inner := []) (ok := fun _ => True) (okp := fun _ => True) ?hr ?hp (fun _ hk => hk) trivial (Below.refl _ _) (Nat.le_refl _) (by simp) ?_; (case hd => rfl); (case hg => rfl); (case hr => first | (go_simp; done) | (go_simp; rfl)); (case hp => exact (Reps.none _ _)); intro v36 w12 ho13 hb hg_ hnew_; clear hg_ hnew_; (first | rw [← Ny30.out] at ho13 | (simp only [Int.reduceToNat] at ho13; rw [← Ny30.out] at ho13)); have HO33 := A_ (Kd.R_lower ho13 (below_size (by repeat (first | (with_reducible first | exact HB.out | apply below_alloc | apply pw_below_drewN | apply below_drew1 | refine below_set ?_ GE26.out | refine below_set ?_ GE25.out | refine below_set ?_ GE27.out) | exact HB.out)))); replace BK26 := A_ (blk_below (g := gb26) (o := .cells #[.slice A0_0 l0_0.length c0_0, .bool a0_1, .string a0_2, .int .i64 a0_3, .slice A0_4 l0_4.length c0_4] 57 (0, 0)) (by (with_reducible repeat (first | refine blk_drewN ?_ _ | refine blk_drew ?_ | refine blk_alloc ?_ _)); refine blk_far ?_ NB171_173.out _; (with_reducible repeat (first | refine blk_drewN ?_ _ | refine blk_drew ?_ | refine blk_alloc ?_ _)); refine blk_far ?_ NB171_173.out _; (with_reducible repeat (first | refine blk_drewN ?_ _ | refine blk_drew ?_ | refine blk_alloc ?_ _)); refine blk_far ?_ NB171_173.out _; (with_reducible repeat (first | refine blk_drewN ?_ _ | refine blk_drew ?_ | refine blk_alloc ?_ _)); refine blk_far ?_ NB171_173.out _; (with_reducible repeat (first | refine blk_drewN ?_ _ | refine blk_drew ?_ | refine blk_alloc ?_ _)); refine blk_far ?_ NB171_173.out _; (with_reducible repeat (first | refine blk_drewN ?_ _ | refine blk_drew ?_ | refine blk_alloc ?_ _)); exact BK26.out) hb); replace BK25 := A_ (blk_below (g := gb25) (o := .cells #[.slice none 0 0, .bool false, .string (⟨#[]⟩ : ByteArray), .int .i64 0, .slice none 0 0] 57 (0, 0)) (by (with_reducible repeat (first | refine blk_drewN ?_ _ | refine blk_drew ?_ | refine blk_alloc ?_ _)); refine blk_far ?_ NB172_173.out _; (with_reducible repeat (first | refine blk_drewN ?_ _ | refine blk_drew ?_ | refine blk_alloc ?_ _)); refine blk_far ?_ NB172_173.out _; (with_reducible repeat (first | refine blk_drewN ?_ _ | refine blk_drew ?_ | refine blk_alloc ?_ _)); refine blk_far ?_ NB172_173.out _; (with_reducible repeat (first | refine blk_drewN ?_ _ | refine blk_drew ?_ | refine blk_alloc ?_ _)); refine blk_far ?_ NB172_173.out _; (with_reducible repeat (first | refine blk_drewN ?_ _ | refine blk_drew ?_ | refine blk_alloc ?_ _)); refine blk_far ?_ NB172_173.out _; (with_reducible repeat (first | refine blk_drewN ?_ _ | refine blk_drew ?_ | refine blk_alloc ?_ _)); exact BK25.out) hb); replace BK27 := A_ (blk_below (g := gb27) (o := .cells #[.slice A0_0 l0_0.length c0_0, .bool a0_1, .string a0_2, .int .i64 a0_3, .slice A0_4 l0_4.length c0_4] 57 (0, 0)) (by (with_reducible repeat (first | refine blk_drewN ?_ _ | refine blk_drew ?_ | refine blk_alloc ?_ _)); with_reducible exact p5_01234_ (vb_ BK27.out)) hb); replace HB := A_ (below_step (by repeat (first | (with_reducible first | exact HB.out | apply below_alloc | apply pw_below_drewN | apply below_drew1 | refine below_set ?_ GE26.out | refine below_set ?_ GE25.out | refine below_set ?_ GE27.out) | exact HB.out)) hb); clear hb ho13; obtain ⟨hcz14_0, hcz14_1, hcz14_2, hcz14_3, hcz14_4, hfz14_0, hfz14_1, hfz14_2, hfz14_3, hfz14_4⟩ := cz5_ BK26.out) | ((with_reducible refine gate_builtin (b := .append) (xs := #[.tmp 5, .tmp 7]) rfl ?_); at_builtin; refine Kd.R_append_rows Kd.string (w0 := w) w.heap.size rfl (.tmp 5) (.tmp 7) 23 9 (.string ⟨#[]⟩) 16 rfl Try.underlying23 info9 rfl (by decide) (by omega) v36 y30 l0_0 _ _ _ (fun _ => True) (fun _ => False) rfl rfl ?aO ?aR (fun _ _ h => h) (fun _ h => h.elim) ?aF ?aB ?aS ?aL ?_; (case aR => exact cC_ (Kd.C_below HR0_0.out HB.out)); (case aB => exact (by repeat (first | (with_reducible first | exact HB.out | apply below_alloc | apply pw_below_drewN | apply below_drew1 | refine below_set ?_ GE26.out | refine below_set ?_ GE25.out | refine below_set ?_ GE27.out) | exact HB.out))); (case aF => exact (fun _ _ => trivial)); (case aO => exact (vR_ HO33.out)); (case aS => exact (below_size (by repeat (first | (with_reducible first | exact HB.out | apply below_alloc | apply pw_below_drewN | apply below_drew1 | refine below_set ?_ GE26.out | refine below_set ?_ GE25.out | refine below_set ?_ GE27.out) | exact HB.out)))); (case aL => have := LMc2.out; omega); intro v38 w15 ho hb hg hat; rw [← Ny29.out] at ho; replace BK26 := A_ (blk_grown (g := gb26) (o := .cells #[.slice A0_0 l0_0.length c0_0, .bool a0_1, .string a0_2, .int .i64 a0_3, .slice A0_4 l0_4.length c0_4] 57 (0, 0)) (vb_ BK26.out) hg (Kd.R_ne HO33.out BK26.out (by decide))); replace BK25 := A_ (blk_grown (g := gb25) (o := .cells #[.slice none 0 0, .bool false, .string (⟨#[]⟩ : ByteArray), .int .i64 0, .slice none 0 0] 57 (0, 0)) (vb_ BK25.out) hg (Kd.R_ne HO33.out BK25.out (by decide))); replace BK27 := A_ (blk_grown (g := gb27) (o := .cells #[.slice A0_0 l0_0.length c0_0, .bool a0_1, .string a0_2, .int .i64 a0_3, .slice A0_4 l0_4.length c0_4] 57 (0, 0)) (vb_ BK27.out) hg (Kd.R_ne HO33.out BK27.out (by decide))); replace HB := A_ (hb); have HO32 := A_ (ho); clear HO33; clear ho hb hg hat; obtain ⟨Ao16, co16, eo16⟩ := Kd.R_slice HO32.out; subst eo16; obtain ⟨hcz17_0, hcz17_1, hcz17_2, hcz17_3, hcz17_4, hfz17_0, hfz17_1, hfz17_2, hfz17_3, hfz17_4⟩ := cz5_ BK27.out) | ((with_reducible refine gd_ (N := 10) rfl ?_); refine Kd.R_lit k72 _ 72 ?hg (N := 10) ?hd (xs := ([] : List (S72))) (inner := []) (ok := fun _ => True) (okp := fun _ => True) ?hr ?hp (fun _ hk => hk) trivial (Below.refl _ _) (Nat.le_refl _) (by simp) ?_; (case hd => rfl); (case hg => rfl); (case hr => first | (go_simp; done) | (go_simp; rfl)); (case hp => exact (Reps.none _ _)); intro v37 w18 ho19 hb hg_ hnew_; clear hg_ hnew_; (first | rw [← Ny28.out] at ho19 | (simp only [Int.reduceToNat] at ho19; rw [← Ny28.out] at ho19)); replace HO32 := A_ (Kd.R_below (by (with_reducible repeat (first | apply Kd.R_alloc | apply Kd.R_drewN | apply Kd.R_drew)); exact (Kd.R_mono (Kd.R_far (p := ⟨gb27, 0, none⟩) (Kd.R_types HO32.out BK27.out (by decide)) (fun _ hk => hk.2) (.slice Ao16 y29.length co16)) (fun _ h_ => h_.1))) hb); have HO34 := A_ (Kd.R_lower ho19 (below_size (by repeat (first | (with_reducible first | exact HB.out | apply below_alloc | apply pw_below_drewN | apply below_drew1 | refine below_set ?_ GE26.out | refine below_set ?_ GE25.out | refine below_set ?_ GE27.out) | exact HB.out)))); replace BK26 := A_ (blk_below (g := gb26) (o := .cells #[.slice A0_0 l0_0.length c0_0, .bool a0_1, .string a0_2, .int .i64 a0_3, .slice A0_4 l0_4.length c0_4] 57 (0, 0)) (by (with_reducible repeat (first | refine blk_drewN ?_ _ | refine blk_drew ?_ | refine blk_alloc ?_ _)); refine blk_far ?_ NB171_173.out _; (with_reducible repeat (first | refine blk_drewN ?_ _ | refine blk_drew ?_ | refine blk_alloc ?_ _)); exact BK26.out) hb); replace BK25 := A_ (blk_below (g := gb25) (o := .cells #[.slice none 0 0, .bool false, .string (⟨#[]⟩ : ByteArray), .int .i64 0, .slice none 0 0] 57 (0, 0)) (by (with_reducible repeat (first | refine blk_drewN ?_ _ | refine blk_drew ?_ | refine blk_alloc ?_ _)); refine blk_far ?_ NB172_173.out _; (with_reducible repeat (first | refine blk_drewN ?_ _ | refine blk_drew ?_ | refine blk_alloc ?_ _)); exact BK25.out) hb); replace BK27 := A_ (blk_below (g := gb27) (o := .cells #[.slice Ao16 y29.length co16, .bool a0_1, .string a0_2, .int .i64 a0_3, .slice A0_4 l0_4.length c0_4] 57 (0, 0)) (by (with_reducible repeat (first | refine blk_drewN ?_ _ | refine blk_drew ?_ | refine blk_alloc ?_ _)); with_reducible exact p5_0_ (vb_ BK27.out)) hb); replace HB := A_ (below_step (by repeat (first | (with_reducible first | exact HB.out | apply below_alloc | apply pw_below_drewN | apply below_drew1 | refine below_set ?_ GE26.out | refine below_set ?_ GE25.out | refine below_set ?_ GE27.out) | exact HB.out)) hb); clear hb ho19; obtain ⟨hcz20_0, hcz20_1, hcz20_2, hcz20_3, hcz20_4, hfz20_0, hfz20_1, hfz20_2, hfz20_3, hfz20_4⟩ := cz5_ BK26.out) | ((with_reducible refine gate_builtin (b := .append) (xs := #[.tmp 10, .tmp 12]) rfl ?_); at_builtin; refine Kd.R_append_rows k72 (w0 := w) w.heap.size rfl (.tmp 10) (.tmp 12) 55 72 (.agg #[(.string ⟨#[]⟩), (.string ⟨#[]⟩), (.string ⟨#[]⟩)]) 48 rfl Try.underlying55 info72 rfl (by decide) (by omega) v37 y28 l0_4 _ _ _ (fun _ => True) (fun _ => False) rfl rfl ?aO ?aR (fun _ _ h => h) (fun _ h => h.elim) ?aF ?aB ?aS ?aL ?_; (case aR => exact cC_ (Kd.C_below HR0_4.out HB.out)); (case aB => exact (by repeat (first | (with_reducible first | exact HB.out | apply below_alloc | apply pw_below_drewN | apply below_drew1 | refine below_set ?_ GE26.out | refine below_set ?_ GE25.out | refine below_set ?_ GE27.out) | exact HB.out))); (case aF => exact (fun _ _ => trivial)); (case aO => exact (vR_ HO34.out)); (case aS => exact (below_size (by repeat (first | (with_reducible first | exact HB.out | apply below_alloc | apply pw_below_drewN | apply below_drew1 | refine below_set ?_ GE26.out | refine below_set ?_ GE25.out | refine below_set ?_ GE27.out) | exact HB.out)))); (case aL => have := LMc3.out; omega); intro v39 w21 ho hb hg hat; rw [← Ny31.out] at ho; replace BK25 := A_ (blk_grown (g := gb25) (o := .cells #[.slice none 0 0, .bool false, .string (⟨#[]⟩ : ByteArray), .int .i64 0, .slice none 0 0] 57 (0, 0)) (vb_ BK25.out) hg (Kd.R_ne HO34.out BK25.out (by decide))); replace BK27 := A_ (blk_grown (g := gb27) (o := .cells #[.slice Ao16 y29.length co16, .bool a0_1, .string a0_2, .int .i64 a0_3, .slice A0_4 l0_4.length c0_4] 57 (0, 0)) (vb_ BK27.out) hg (Kd.R_ne HO34.out BK27.out (by decide))); replace HO32 := A_ (Kd.R_over' (vR_ HO32.out) (Kd.R_typed (vR_ HO34.out)) (by decide) hg); replace HB := A_ (hb); have HO35 := A_ (ho); clear HO34; clear ho hb hg hat; obtain ⟨Ao22, co22, eo22⟩ := Kd.R_slice HO35.out; subst eo22; obtain ⟨hcz23_0, hcz23_1, hcz23_2, hcz23_3, hcz23_4, hfz23_0, hfz23_1, hfz23_2, hfz23_3, hfz23_4⟩ := cz5_ BK27.out; obtain ⟨hcz24_0, hcz24_1, hcz24_2, hcz24_3, hcz24_4, hfz24_0, hfz24_1, hfz24_2, hfz24_3, hfz24_4⟩ := cz5_ BK25.out))
 refine bodyPost_ret (results_cell_row rfl _ _ gb25 57 #[.slice Ao16 y29.length co16, .bool a0_1, .string a0_2, .int .i64 a0_3, .slice Ao22 y31.length co22] (0, 0) _ rfl (by (with_reducible repeat (first | refine blk_drewN ?_ _ | refine blk_drew ?_ | refine blk_alloc ?_ _)); refine blk_put (cs := #[.slice Ao16 y29.length co16, .bool a0_1, .string a0_2, .int .i64 a0_3, .slice none 0 0]) ?_ 4 _ rfl; (with_reducible repeat (first | refine blk_drewN ?_ _ | refine blk_drew ?_ | refine blk_alloc ?_ _)); refine blk_put (cs := #[.slice Ao16 y29.length co16, .bool a0_1, .string a0_2, .int .i64 0, .slice none 0 0]) ?_ 3 _ rfl; (with_reducible repeat (first | refine blk_drewN ?_ _ | refine blk_drew ?_ | refine blk_alloc ?_ _)); refine blk_put (cs := #[.slice Ao16 y29.length co16, .bool a0_1, .string (⟨#[]⟩ : ByteArray), .int .i64 0, .slice none 0 0]) ?_ 2 _ rfl; (with_reducible repeat (first | refine blk_drewN ?_ _ | refine blk_drew ?_ | refine blk_alloc ?_ _)); refine blk_put (cs := #[.slice Ao16 y29.length co16, .bool false, .string (⟨#[]⟩ : ByteArray), .int .i64 0, .slice none 0 0]) ?_ 1 _ rfl; (with_reducible repeat (first | refine blk_drewN ?_ _ | refine blk_drew ?_ | refine blk_alloc ?_ _)); refine blk_put (cs := #[.slice none 0 0, .bool false, .string (⟨#[]⟩ : ByteArray), .int .i64 0, .slice none 0 0]) ?_ 0 _ rfl; (with_reducible repeat (first | refine blk_drewN ?_ _ | refine blk_drew ?_ | refine blk_alloc ?_ _)); refine blk_far ?_ NB172_173.out _; (with_reducible repeat (first | refine blk_drewN ?_ _ | refine blk_drew ?_ | refine blk_alloc ?_ _)); exact BK25.out) Try.underlying57 rfl (by kernel_rfl)) rfl ?_
 exact ⟨_, _, rr_, by (with_reducible repeat (first | apply Kd.R_alloc | apply Kd.R_drewN | apply Kd.R_drew)); exact Kd.R_mono (Kd.R_far (p := ⟨gb25, 4, none⟩) (Kd.R_far (p := ⟨gb25, 3, none⟩) (Kd.R_far (p := ⟨gb25, 2, none⟩) (Kd.R_far (p := ⟨gb25, 1, none⟩) (Kd.R_far (p := ⟨gb25, 0, none⟩) (Kd.R_far (p := ⟨gb27, 4, none⟩) (Kd.R_types (Kd.R_types HO32.out BK27.out (by decide)) BK25.out (by decide)) (fun _ hk => hk.1.2) (.slice Ao22 y31.length co22)) (fun _ hk => hk.2) (.slice Ao16 y29.length co16)) (fun _ hk => hk.2) (.bool a0_1)) (fun _ hk => hk.2) (.string a0_2)) (fun _ hk => hk.2) (.int .i64 a0_3)) (fun _ hk => hk.2) (.slice Ao22 y31.length co22)) (fun _ hk => trivial), by (with_reducible repeat (first | apply Kd.R_alloc | apply Kd.R_drewN | apply Kd.R_drew)); exact Kd.R_mono (Kd.R_far (p := ⟨gb25, 4, none⟩) (Kd.R_far (p := ⟨gb25, 3, none⟩) (Kd.R_far (p := ⟨gb25, 2, none⟩) (Kd.R_far (p := ⟨gb25, 1, none⟩) (Kd.R_far (p := ⟨gb25, 0, none⟩) (Kd.R_far (p := ⟨gb27, 4, none⟩) (Kd.R_types (Kd.R_types HO35.out BK27.out (by decide)) BK25.out (by decide)) (fun _ hk => hk.1.2) (.slice Ao22 y31.length co22)) (fun _ hk => hk.2) (.slice Ao16 y29.length co16)) (fun _ hk => hk.2) (.bool a0_1)) (fun _ hk => hk.2) (.string a0_2)) (fun _ hk => hk.2) (.int .i64 a0_3)) (fun _ hk => hk.2) (.slice Ao22 y31.length co22)) (fun _ hk => trivial), by repeat (first | (with_reducible first | exact HB.out | apply below_alloc | apply pw_below_drewN | apply below_drew1 | refine below_set ?_ GE26.out | refine below_set ?_ GE25.out | refine below_set ?_ GE27.out) | exact HB.out)⟩
def spec_l10CopyAll.l0 : Nat -> List (S57) -> List (S57) -> Int -> Option ((List (S57)))
 | 0, _, _, _ => none
 | k + 1, x0, x3, x4 => if x4 < (x0.length : Int) then (if 0 <= x4 then ((spec_l10Copy.f ((rd_T57 x0 x4).f0) ((rd_T57 x0 x4).f1) ((rd_T57 x0 x4).f2) ((rd_T57 x0 x4).f3) ((rd_T57 x0 x4).f4)).bind fun bt190 => (if x3.length < 1759218604441 then (spec_l10CopyAll.l0 k x0 (x3 ++ [(⟨bt190.1, bt190.2.1, bt190.2.2.1, bt190.2.2.2.1, bt190.2.2.2.2⟩ : S57)]) (wrap64 (x4 + 1))) else (none))) else (none)) else (some x3)
def spec_l10CopyAll.f (k : Nat) (l0 : List (S57)) : Option ((List (S57))) := spec_l10CopyAll.l0 k l0 (([] : List (S57))) 0
theorem spec_l10CopyAll.calls (k : Nat) (A0 : Option Addr) (c0 : Nat) (l0 : List (S57)) (r : List (S57)) (w : World) (hr0 : Kd.C k57 w A0 l0.length l0) (hc0 : l0.length <= c0) (h : spec_l10CopyAll.f k l0 = some r) :
 Calls Try.prog 62 #[.slice A0 l0.length c0] w fun e w' => ∃ v0_ : Value, e = .returned (v0_) /\ Kd.S k57 57 w' w.heap.size (fun _ => True) v0_ r /\ Below w.heap.size w w' := by
 have hu57 := Try.underlying57
 have HR0 := A_ hr0
 clear hr0 hc0
 have HB := A_ (Below.refl w.heap.size w)
 have H : (spec_l10CopyAll.l0 k l0 (([] : List (S57))) 0) = some r := h
 clear h
 obtain ⟨y13, hy13⟩ : ∃ y_ : List (S57), y_ = (([] : List (S57))) := ⟨_, rfl⟩
 replace H : (spec_l10CopyAll.l0 k l0 y13 0) = some r := hy_ hy13 H
 have Ny13 := A_ hy13
 clear hy13
 have H' := A_ H
 clear H
 go_enter Try.func62, Try.ntmps62
 go_wp2_with (first | ((with_reducible refine gd_ (N := 5) rfl ?_); refine Kd.S_lit k57 _ 57 ?hg (N := 5) ?hd (xs := ([] : List (S57))) (inner := []) (ok := fun _ => True) (okp := fun _ => True) ?hr ?hp (fun _ hk => hk) trivial (Below.refl _ _) (Nat.le_refl _) (by simp) ?_; (case hd => rfl); (case hg => rfl); (case hr => first | (go_simp; done) | (go_simp; rfl)); (case hp => exact (Reps.none _ _)); intro v24 w2 ho3 hb hg_ hnew_; clear hg_ hnew_; (first | rw [← Ny13.out] at ho3 | (simp only [Int.reduceToNat] at ho3; rw [← Ny13.out] at ho3)); have HO22 := A_ (Kd.S_lower ho3 (below_size bB_)); replace HB := A_ (below_step bB_ hb); clear hb ho3))
 go_loopg [3, 4] k (fun kq v3 v4 w' => ∃ (x3_1 : List (S57)) (x4_1 : Int), v4 = .int .i64 x4_1 /\ Aside0 (spec_l10CopyAll.l0 kq l0 x3_1 x4_1 = some r) /\ Aside0 (kq <= k) /\ Aside0 (Kd.S k57 57 w' w.heap.size (fun _ => True) v3 x3_1) /\ Aside0 (Below w.heap.size w w'))
 case atStart => exact ⟨(y13), (0), rs_, H', ⟨Nat.le_refl _⟩, ⟨vS_ HO22.out⟩, ⟨bB_⟩⟩
 case round =>
  clear H'
  obtain ⟨x3_1, x4_1, rfl, HA, HK1, HO_3, HB⟩ := hrel
  cases gk with
  | zero => exact absurd HA.out (by simp [spec_l10CopyAll.l0])
  | succ k1 =>
   have H := HA.out
   clear HA
   simp only [spec_l10CopyAll.l0] at H
   by_cases c4 : x4_1 < (l0.length : Int)
   rotate_left
   . rw [if_neg c4] at H
     have c4b0 := decide_eq_false c4
     clear c4
     obtain rfl := si_ H
     go_wp2
     go_ret
     exact ⟨_, rr_, vS_ HO_3.out, bB_⟩
   rw [if_pos c4] at H
   have c4b0 := decide_eq_true c4
   clear c4
   by_cases c5 : 0 <= x4_1
   rotate_left
   . exact absurd H (by rw [if_neg c5]; simp)
   rw [if_pos c5] at H
   have c5b0 := decide_eq_true c5
   clear c5
   obtain ⟨⟨t15, t17, t18, t19, t16⟩, A6, H⟩ := bo_ H
   (try dsimp only at H)
   by_cases c7 : x3_1.length < 1759218604441
   rotate_left
   . exact absurd H (by rw [if_neg c7]; simp)
   rw [if_pos c7] at H
   have LMc7 := A_ c7
   clear c7
   obtain ⟨y14, hy14⟩ : ∃ y_ : List (S57), y_ = (x3_1 ++ [(⟨t15, t17, t18, t19, t16⟩ : S57)]) := ⟨_, rfl⟩
   replace H : (spec_l10CopyAll.l0 k1 l0 y14 (wrap64 (x4_1 + 1))) = some r := hy_ hy14 H
   have Ny14 := A_ hy14
   clear hy14
   have H' := A_ H
   clear H
   have p12 : 0 <= (x4_1 : Int) := od_
   have q12 : x4_1 < (l0.length : Int) := od_
   obtain ⟨ad12, A12_0, c12_0, A12_4, c12_4, e12, hx12_0, hx12_1, hx12_2, hx12_3, hx12_4, hl12_0, hi12_0, hl12_4, hi12_4⟩ := at_T57 HR0.out x4_1 p12 q12
   cases e12
   replace hx12_0 := bc_ HB.out hx12_0
   replace hx12_1 := bc_ HB.out hx12_1
   replace hx12_2 := bc_ HB.out hx12_2
   replace hx12_3 := bc_ HB.out hx12_3
   replace hx12_4 := bc_ HB.out hx12_4
   have HR12_0 := A_ hi12_0
   have HC12_0 := A_ hl12_0
   clear hi12_0 hl12_0
   have HR12_4 := A_ hi12_4
   have HC12_4 := A_ hl12_4
   clear hi12_4 hl12_4
   replace p12 := eq_true p12
   replace q12 := eq_true q12
   go_wp2_with (first | ((with_reducible refine gc_ (f := 105) rfl ?_); refine gL_ (some 17) Try.func105 #[.agg #[.slice A12_0 ((rd_T57 l0 x4_1).f0).length c12_0, .bool ((rd_T57 l0 x4_1).f1), .string ((rd_T57 l0 x4_1).f2), .int .i64 ((rd_T57 l0 x4_1).f3), .slice A12_4 ((rd_T57 l0 x4_1).f4).length c12_4]] ?_; (with_reducible refine (spec_l10Copy.calls _ _ ((rd_T57 l0 x4_1).f0) ((rd_T57 l0 x4_1).f1) ((rd_T57 l0 x4_1).f2) ((rd_T57 l0 x4_1).f3) _ _ ((rd_T57 l0 x4_1).f4) t15 t17 t18 t19 t16 _ ?s1 ?s2 ?s3 ?s4 A6.out).mono ?_); (case s1 => exact cC_ (Kd.C_below HR12_0.out HB.out)); (case s2 => exact HC12_0.out); (case s3 => exact cC_ (Kd.C_below HR12_4.out HB.out)); (case s4 => exact HC12_4.out); rintro e w8 ⟨v25, v26, rfl, ho0, ho1, hb⟩; refine ⟨_, rfl, ?_⟩; replace HO_3 := A_ (Kd.S_mono (Kd.S_told (Kd.S_told (Kd.S_old (vS_ HO_3.out) hb) (kb_ ho0)) (kb_ ho1)) (fun _ h_ => h_.1)); have HO20 := A_ (Kd.R_lower ho0 (below_size bB_)); have HO21 := A_ (Kd.R_lower ho1 (below_size bB_)); replace HB := A_ (below_step bB_ hb); clear hb ho0 ho1; obtain ⟨Ao10, co10, eo10⟩ := Kd.R_slice HO20.out; subst eo10; obtain ⟨Ao11, co11, eo11⟩ := Kd.R_slice HO21.out; subst eo11) | ((with_reducible refine gate_builtin (b := .append) (xs := #[.tmp 12, .tmp 18]) rfl ?_); at_builtin; refine Kd.S_append k57 (w0 := w) w.heap.size rfl (.tmp 12) (.tmp 18) 26 57 (.agg #[(.slice none 0 0), (.bool false), (.string ⟨#[]⟩), (.int .i64 0), (.slice none 0 0)]) 80 rfl Try.underlying26 info57 rfl (by decide) (by omega) u3 x3_1 (⟨t15, t17, t18, t19, t16⟩ : S57) [.slice Ao10 t15.length co10, .bool t17, .string t18, .int .i64 t19, .slice Ao11 t16.length co11] (fun _ => True) (fun k_ => some k_ = (.slice Ao10 t15.length co10 : Value).ownBlock \/ some k_ = (.slice Ao11 t16.length co11 : Value).ownBlock) rfl rfl ?aP (fun k_ hk_ => hk_.elim (fun h_ => ((Kd.R_mono (ok' := fun k_ => ((fun _ => True)) k_ /\ some k_ ≠ (u3 : Value).ownBlock) (Kd.R_apart' (HO20.out) (Kd.S_typed HO_3.out) (by decide)) (fun k_ hk => ⟨trivial, hk.2⟩))).1 k_ h_.symm) (fun h_ => ((Kd.R_mono (ok' := fun k_ => ((fun _ => True)) k_ /\ some k_ ≠ (u3 : Value).ownBlock) (Kd.R_apart' (HO21.out) (Kd.S_typed HO_3.out) (by decide)) (fun k_ hk => ⟨trivial, hk.2⟩))).1 k_ h_.symm)) ?aF ?aO ?aB ?aS ?aL ?_; (case aP => exact k57_mkM _ _ _ (⟨t15, t17, t18, t19, t16⟩ : S57) (Kd.R_mono (Kd.R_tight rfl (Kd.R_mono (ok' := fun k_ => ((fun _ => True)) k_ /\ some k_ ≠ (u3 : Value).ownBlock) (Kd.R_apart' (HO20.out) (Kd.S_typed HO_3.out) (by decide)) (fun k_ hk => ⟨trivial, hk.2⟩))) (fun _ h_ => Or.inl h_)) (Kd.R_mono (Kd.R_tight rfl (Kd.R_mono (ok' := fun k_ => ((fun _ => True)) k_ /\ some k_ ≠ (u3 : Value).ownBlock) (Kd.R_apart' (HO21.out) (Kd.S_typed HO_3.out) (by decide)) (fun k_ hk => ⟨trivial, hk.2⟩))) (fun _ h_ => Or.inr (h_)))); (case aB => exact bB_); (case aF => exact (fun _ _ => trivial)); (case aO => exact (by (with_reducible repeat (first | apply Kd.S_alloc | apply Kd.S_drewN | apply Kd.S_drew)); exact Kd.S_mono HO_3.out (fun k_ hk => ⟨trivial, fun e_ => e_.elim (fun h_ => hk.1.2 h_) (fun h_ => hk.2 h_)⟩))); (case aS => exact (below_size bB_)); (case aL => have := LMc7.out; omega); intro v27 w9 ho hb hg hat; rw [← Ny14.out] at ho; replace HB := A_ (hb); have HO23 := A_ (ho); clear HO_3 HO20 HO21; clear ho hb hg hat))
   go_roundg k1
   case measure => have := HK1.out; omega
   case rel => exact ⟨(y14), (wrap64 (x4_1 + 1)), rs_, H', ⟨by have := HK1.out; omega⟩, ⟨vS_ HO23.out⟩, ⟨bB_⟩⟩
set_option maxHeartbeats 8000000
set_option maxRecDepth 100000
def impl_SamePath.l0 : Nat -> List ByteArray -> List ByteArray -> Int -> Int -> Option (Bool)
 | 0, _, _, _, _ => none
 | k + 1, x0, x1, x12, x13 => if x13 < x12 then (if 0 <= x13 then (if x13 < (x0.length : Int) then (if x13 < (x1.length : Int) then (if (rdOf ByteArray.empty x0 x13).toList = (rdOf ByteArray.empty x1 x13).toList then (impl_SamePath.l0 k x0 x1 x12 (wrap64 (x13 + 1))) else (some false)) else (none)) else (none)) else (none)) else (some true)
def impl_SamePath.f (k : Nat) (l0 : List ByteArray) (l1 : List ByteArray) : Option (Bool) := if (l0.length : Int) = (l1.length : Int) then (impl_SamePath.l0 k l0 l1 (l0.length : Int) 0) else (some false)
theorem impl_SamePath.calls (k : Nat) (A0 : Option Addr) (c0 : Nat) (l0 : List ByteArray) (A1 : Option Addr) (c1 : Nat) (l1 : List ByteArray) (r : Bool) (w : World) (hr0 : Kd.C Kd.string w A0 l0.length l0) (hc0 : l0.length <= c0) (hr1 : Kd.C Kd.string w A1 l1.length l1) (hc1 : l1.length <= c1) (h : impl_SamePath.f k l0 l1 = some r) :
 Calls Try.prog 47 #[.slice A0 l0.length c0, .slice A1 l1.length c1] w fun e w' => e = .returned (.bool r) /\ Drawn0 w w' := by
 have HR0 := A_ hr0
 clear hr0 hc0
 have HR1 := A_ hr1
 clear hr1 hc1
 have H : (if (l0.length : Int) = (l1.length : Int) then (impl_SamePath.l0 k l0 l1 (l0.length : Int) 0) else (some false)) = some r := h
 clear h
 by_cases c3 : (l0.length : Int) = (l1.length : Int)
 rotate_left
 . rw [if_neg c3] at H
   obtain ⟨c3b0, c3b1⟩ := eF_ c3
   have c3b2 : (l0.length == l1.length) = false := by first | simpa using c3 | (simp at c3 ⊢; omega)
   obtain rfl := si_ H
   go_enter Try.func47, Try.ntmps47
   go_wp2
   repeat (go_quiet (fail); try go_wp2)
   go_ret
   exact ⟨rs_, dr_⟩
 rw [if_pos c3] at H
 obtain ⟨c3b0, c3b1⟩ := eT_ c3
 have c3b2 : (l0.length == l1.length) = true := by first | simpa using c3 | (simp at c3 ⊢; omega)
 clear c3
 have H' := A_ H
 clear H
 go_enter Try.func47, Try.ntmps47
 go_wp2
 repeat (go_quiet (fail); try go_wp2)
 go_loopg [13] k (fun kq v13 w' => ∃ (x13_1 : Int), v13 = .int .i64 x13_1 /\ Aside0 (impl_SamePath.l0 kq l0 l1 (l0.length : Int) x13_1 = some r) /\ Aside0 (kq <= k) /\ Drawn0 w w')
 case atStart => exact ⟨(0), rs_, H', ⟨Nat.le_refl _⟩, dr_⟩
 case round =>
  clear H'
  try clear c3
  try clear c3b0
  try clear c3b1
  try clear c3b2
  obtain ⟨x13_1, rfl, HA, HK1, ⟨m1, rfl⟩⟩ := hrel
  cases gk with
  | zero => exact absurd HA.out (by simp [impl_SamePath.l0])
  | succ k1 =>
   have H := HA.out
   clear HA
   simp only [impl_SamePath.l0] at H
   by_cases c4 : x13_1 < (l0.length : Int)
   rotate_left
   . rw [if_neg c4] at H
     have c4b0 := decide_eq_false c4
     clear c4
     obtain rfl := si_ H
     go_wp2
     repeat (go_quiet (fail); try go_wp2)
     go_ret
     exact ⟨rs_, dr_⟩
   rw [if_pos c4] at H
   have c4b0 := decide_eq_true c4
   clear c4
   by_cases c5 : 0 <= x13_1
   rotate_left
   . exact absurd H (by rw [if_neg c5]; simp)
   rw [if_pos c5] at H
   have c5b0 := decide_eq_true c5
   clear c5
   by_cases c6 : x13_1 < (l0.length : Int)
   rotate_left
   . exact absurd H (by rw [if_neg c6]; simp)
   rw [if_pos c6] at H
   have c6b0 := decide_eq_true c6
   clear c6
   by_cases c7 : x13_1 < (l1.length : Int)
   rotate_left
   . exact absurd H (by rw [if_neg c7]; simp)
   rw [if_pos c7] at H
   have c7b0 := decide_eq_true c7
   clear c7
   by_cases c8 : (rdOf ByteArray.empty l0 x13_1).toList = (rdOf ByteArray.empty l1 x13_1).toList
   rotate_left
   . rw [if_neg c8] at H
     obtain ⟨c8b0, c8b1⟩ := eF_ c8
     obtain rfl := si_ H
     have p2 : 0 <= (x13_1 : Int) := od_
     have q2 : x13_1 < (l0.length : Int) := od_
     obtain ⟨ad2, e2, hx2_0⟩ := Kd.at_string HR0.out x13_1 p2 q2
     cases e2
     replace p2 := eq_true p2
     replace q2 := eq_true q2
     have p9 : 0 <= (x13_1 : Int) := od_
     have q9 : x13_1 < (l1.length : Int) := od_
     obtain ⟨ad9, e9, hx9_0⟩ := Kd.at_string HR1.out x13_1 p9 q9
     cases e9
     replace p9 := eq_true p9
     replace q9 := eq_true q9
     go_wp2
     repeat (go_quiet (fail); try go_wp2)
     go_ret
     exact ⟨rs_, dr_⟩
   rw [if_pos c8] at H
   obtain ⟨c8b0, c8b1⟩ := eT_ c8
   clear c8
   have H' := A_ H
   clear H
   have p2 : 0 <= (x13_1 : Int) := od_
   have q2 : x13_1 < (l0.length : Int) := od_
   obtain ⟨ad2, e2, hx2_0⟩ := Kd.at_string HR0.out x13_1 p2 q2
   cases e2
   replace p2 := eq_true p2
   replace q2 := eq_true q2
   have p9 : 0 <= (x13_1 : Int) := od_
   have q9 : x13_1 < (l1.length : Int) := od_
   obtain ⟨ad9, e9, hx9_0⟩ := Kd.at_string HR1.out x13_1 p9 q9
   cases e9
   replace p9 := eq_true p9
   replace q9 := eq_true q9
   go_wp2
   repeat (go_quiet (fail); try go_wp2)
   go_roundg k1
   case measure => have := HK1.out; omega
   case rel => exact ⟨(wrap64 (x13_1 + 1)), rs_, H', ⟨by have := HK1.out; omega⟩, dr_⟩
def impl_FindRes.l0 : Nat -> List ByteArray -> List (S57) -> Int -> Int -> Option (Int)
 | 0, _, _, _, _ => none
 | k + 1, x1, x7, x8, x9 => if x9 < x8 then (if 0 <= x9 then (if x9 < (x7.length : Int) then ((impl_SamePath.f k ((rd_T57 x7 x9).f0) x1).bind fun t275 => (if t275 = true then (some x9) else (impl_FindRes.l0 k x1 x7 x8 (wrap64 (x9 + 1))))) else (none)) else (none)) else (some (-1))
def impl_FindRes.f (k : Nat) (l0 : List (S57)) (l1 : List ByteArray) : Option (Int) := impl_FindRes.l0 k l1 l0 (l0.length : Int) 0
theorem impl_FindRes.calls (k : Nat) (A0 : Option Addr) (c0 : Nat) (l0 : List (S57)) (A1 : Option Addr) (c1 : Nat) (l1 : List ByteArray) (r : Int) (w : World) (hr0 : Kd.C k57 w A0 l0.length l0) (hc0 : l0.length <= c0) (hr1 : Kd.C Kd.string w A1 l1.length l1) (hc1 : l1.length <= c1) (h : impl_FindRes.f k l0 l1 = some r) :
 Calls Try.prog 42 #[.slice A0 l0.length c0, .slice A1 l1.length c1] w fun e w' => e = .returned (.int .i64 r) /\ Below w.heap.size w w' := by
 have hu57 := Try.underlying57
 have HR0 := A_ hr0
 clear hr0 hc0
 have HR1 := A_ hr1
 have HC1 := A_ hc1
 clear hr1 hc1
 have HB := A_ (Below.refl w.heap.size w)
 have H : (impl_FindRes.l0 k l1 l0 (l0.length : Int) 0) = some r := h
 clear h
 have H' := A_ H
 clear H
 go_enter Try.func42, Try.ntmps42
 go_wp2
 go_loopg [9] k (fun kq v9 w' => ∃ (x9_1 : Int), v9 = .int .i64 x9_1 /\ Aside0 (impl_FindRes.l0 kq l1 l0 (l0.length : Int) x9_1 = some r) /\ Aside0 (kq <= k) /\ Aside0 (Below w.heap.size w w'))
 case atStart => exact ⟨(0), rs_, H', ⟨Nat.le_refl _⟩, ⟨bB_⟩⟩
 case round =>
  clear H'
  obtain ⟨x9_1, rfl, HA, HK1, HB⟩ := hrel
  cases gk with
  | zero => exact absurd HA.out (by simp [impl_FindRes.l0])
  | succ k1 =>
   have H := HA.out
   clear HA
   simp only [impl_FindRes.l0] at H
   by_cases c3 : x9_1 < (l0.length : Int)
   rotate_left
   . rw [if_neg c3] at H
     have c3b0 := decide_eq_false c3
     clear c3
     obtain rfl := si_ H
     go_wp2
     go_ret
     exact ⟨rr_, bB_⟩
   rw [if_pos c3] at H
   have c3b0 := decide_eq_true c3
   clear c3
   by_cases c4 : 0 <= x9_1
   rotate_left
   . exact absurd H (by rw [if_neg c4]; simp)
   rw [if_pos c4] at H
   have c4b0 := decide_eq_true c4
   clear c4
   by_cases c5 : x9_1 < (l0.length : Int)
   rotate_left
   . exact absurd H (by rw [if_neg c5]; simp)
   rw [if_pos c5] at H
   have c5b0 := decide_eq_true c5
   clear c5
   obtain ⟨t14, A6, H⟩ := bo_ H
   (try dsimp only at H)
   by_cases c7 : t14 = true
   . subst c7
     rw [if_pos rfl] at H
     obtain rfl := si_ H
     have p12 : 0 <= (x9_1 : Int) := od_
     have q12 : x9_1 < (l0.length : Int) := od_
     obtain ⟨ad12, A12_0, c12_0, A12_4, c12_4, e12, hx12_0, hx12_1, hx12_2, hx12_3, hx12_4, hl12_0, hi12_0, hl12_4, hi12_4⟩ := at_T57 HR0.out x9_1 p12 q12
     cases e12
     replace hx12_0 := bc_ HB.out hx12_0
     replace hx12_1 := bc_ HB.out hx12_1
     replace hx12_2 := bc_ HB.out hx12_2
     replace hx12_3 := bc_ HB.out hx12_3
     replace hx12_4 := bc_ HB.out hx12_4
     have HR12_0 := A_ hi12_0
     have HC12_0 := A_ hl12_0
     clear hi12_0 hl12_0
     clear hi12_4 hl12_4
     replace p12 := eq_true p12
     replace q12 := eq_true q12
     go_wp2_with (first | ((with_reducible refine gd_ (N := 6) rfl ?_); refine bx_ (N := 6) (cs := #[.slice none 0 0, .bool false, .string (⟨#[]⟩ : ByteArray), .int .i64 0, .slice none 0 0]) (t := 57) ?_; intro gb13 hg w8 hbox hb; have BK13 := A_ (hbox); have GW13 := A_ (ge_ hg bB_ : w.heap.size <= gb13); have GE13 := A_ (ge_ hg bB_ : w.heap.size <= gb13); replace HB := A_ (below_step bB_ hb); clear hb hbox hg; obtain ⟨hcz9_0, hcz9_1, hcz9_2, hcz9_3, hcz9_4, hfz9_0, hfz9_1, hfz9_2, hfz9_3, hfz9_4⟩ := cz5_ BK13.out) | ((with_reducible refine gc_ (f := 47) rfl ?_); refine gL_ (some 17) Try.func47 #[.slice A12_0 ((rd_T57 l0 x9_1).f0).length c12_0, .slice A1 l1.length c1] ?_; (with_reducible refine (impl_SamePath.calls k1 _ _ ((rd_T57 l0 x9_1).f0) _ _ l1 true _ ?s1 ?s2 ?s3 ?s4 A6.out).mono ?_); (case s1 => exact Kd.C_below HR12_0.out (bG_ GE13.out)); (case s2 => exact HC12_0.out); (case s3 => exact Kd.C_below HR1.out (bG_ GE13.out)); (case s4 => exact HC1.out); rintro e w' ⟨rfl, ⟨nd, rfl⟩⟩; refine ⟨_, rfl, ?_⟩))
     go_ret
     exact ⟨rr_, bG_ GE13.out⟩
   . replace c7 := Bool.eq_false_iff.mpr c7
     subst c7
     rw [if_neg nf_] at H
     have H' := A_ H
     clear H
     have p12 : 0 <= (x9_1 : Int) := od_
     have q12 : x9_1 < (l0.length : Int) := od_
     obtain ⟨ad12, A12_0, c12_0, A12_4, c12_4, e12, hx12_0, hx12_1, hx12_2, hx12_3, hx12_4, hl12_0, hi12_0, hl12_4, hi12_4⟩ := at_T57 HR0.out x9_1 p12 q12
     cases e12
     replace hx12_0 := bc_ HB.out hx12_0
     replace hx12_1 := bc_ HB.out hx12_1
     replace hx12_2 := bc_ HB.out hx12_2
     replace hx12_3 := bc_ HB.out hx12_3
     replace hx12_4 := bc_ HB.out hx12_4
     have HR12_0 := A_ hi12_0
     have HC12_0 := A_ hl12_0
     clear hi12_0 hl12_0
     clear hi12_4 hl12_4
     replace p12 := eq_true p12
     replace q12 := eq_true q12
     go_wp2_with (first | ((with_reducible refine gd_ (N := 6) rfl ?_); refine bx_ (N := 6) (cs := #[.slice none 0 0, .bool false, .string (⟨#[]⟩ : ByteArray), .int .i64 0, .slice none 0 0]) (t := 57) ?_; intro gb13 hg w10 hbox hb; have BK13 := A_ (hbox); have GW13 := A_ (ge_ hg bB_ : w.heap.size <= gb13); have GE13 := A_ (ge_ hg bB_ : w.heap.size <= gb13); replace HB := A_ (below_step bB_ hb); clear hb hbox hg; obtain ⟨hcz11_0, hcz11_1, hcz11_2, hcz11_3, hcz11_4, hfz11_0, hfz11_1, hfz11_2, hfz11_3, hfz11_4⟩ := cz5_ BK13.out) | ((with_reducible refine gc_ (f := 47) rfl ?_); refine gL_ (some 17) Try.func47 #[.slice A12_0 ((rd_T57 l0 x9_1).f0).length c12_0, .slice A1 l1.length c1] ?_; (with_reducible refine (impl_SamePath.calls k1 _ _ ((rd_T57 l0 x9_1).f0) _ _ l1 false _ ?s1 ?s2 ?s3 ?s4 A6.out).mono ?_); (case s1 => exact Kd.C_below HR12_0.out (bG_ GE13.out)); (case s2 => exact HC12_0.out); (case s3 => exact Kd.C_below HR1.out (bG_ GE13.out)); (case s4 => exact HC1.out); rintro e w' ⟨rfl, ⟨nd, rfl⟩⟩; refine ⟨_, rfl, ?_⟩))
     go_roundg k1
     case measure => have := HK1.out; omega
     case rel => exact ⟨(wrap64 (x9_1 + 1)), rs_, H', ⟨by have := HK1.out; omega⟩, ⟨bG_ GE13.out⟩⟩
def impl_IsColl.f (k : Nat) (l0 : List (S57)) (l1 : List ByteArray) : Option (Bool) := if (l1.length : Int) = 0 then (some true) else ((impl_FindRes.f k l0 l1).bind fun t276 => (if t276 >= 0 then (if 0 <= t276 then (if t276 < (l0.length : Int) then (some ((rd_T57 l0 t276).f1)) else (none)) else (none)) else (some false)))
theorem impl_IsColl.calls (k : Nat) (A0 : Option Addr) (c0 : Nat) (l0 : List (S57)) (A1 : Option Addr) (c1 : Nat) (l1 : List ByteArray) (r : Bool) (w : World) (hr0 : Kd.C k57 w A0 l0.length l0) (hc0 : l0.length <= c0) (hr1 : Kd.C Kd.string w A1 l1.length l1) (hc1 : l1.length <= c1) (h : impl_IsColl.f k l0 l1 = some r) :
 Calls Try.prog 43 #[.slice A0 l0.length c0, .slice A1 l1.length c1] w fun e w' => e = .returned (.bool r) /\ Below w.heap.size w w' := by
 have HR0 := A_ hr0
 have HC0 := A_ hc0
 clear hr0 hc0
 have HR1 := A_ hr1
 have HC1 := A_ hc1
 clear hr1 hc1
 have HB := A_ (Below.refl w.heap.size w)
 have H : (if (l1.length : Int) = 0 then (some true) else ((impl_FindRes.f k l0 l1).bind fun t11 => (if t11 >= 0 then (if 0 <= t11 then (if t11 < (l0.length : Int) then (some ((rd_T57 l0 t11).f1)) else (none)) else (none)) else (some false)))) = some r := h
 clear h
 by_cases c3 : (l1.length : Int) = 0
 . rw [if_pos c3] at H
   obtain ⟨c3b0, c3b1⟩ := eT_ c3
   clear c3
   obtain rfl := si_ H
   go_enter Try.func43, Try.ntmps43
   go_wp2
   go_ret
   exact ⟨rr_, bB_⟩
 rw [if_neg c3] at H
 obtain ⟨c3b0, c3b1⟩ := eF_ c3
 have c3b2 : ¬ (l1 = []) := fun h_ => c3 (by rw [h_]; rfl)
 obtain ⟨t11, A4, H⟩ := bo_ H
 (try dsimp only at H)
 by_cases c5 : t11 >= 0
 rotate_left
 . rw [if_neg c5] at H
   have c5b0 : decide (0 <= t11) = false := decide_eq_false c5
   clear c5
   obtain rfl := si_ H
   go_enter Try.func43, Try.ntmps43
   go_wp2_with (first | ((with_reducible refine gc_ (f := 42) rfl ?_); refine gL_ (some 11) Try.func42 #[.slice A0 l0.length c0, .slice A1 l1.length c1] ?_; (with_reducible refine (impl_FindRes.calls k _ _ l0 _ _ l1 t11 _ ?s1 ?s2 ?s3 ?s4 A4.out).mono ?_); (case s1 => exact cC_ HR0.out); (case s2 => exact HC0.out); (case s3 => exact cC_ HR1.out); (case s4 => exact HC1.out); rintro e w9 ⟨rfl, hb⟩; refine ⟨_, rfl, ?_⟩; replace HB := A_ (below_step bB_ hb); clear hb))
   go_ret
   exact ⟨rr_, bB_⟩
 rw [if_pos c5] at H
 have c5b0 : decide (0 <= t11) = true := decide_eq_true c5
 clear c5
 by_cases c6 : 0 <= t11
 rotate_left
 . exact absurd H (by rw [if_neg c6]; simp)
 rw [if_pos c6] at H
 have c6b0 := decide_eq_true c6
 clear c6
 by_cases c7 : t11 < (l0.length : Int)
 rotate_left
 . exact absurd H (by rw [if_neg c7]; simp)
 rw [if_pos c7] at H
 have c7b0 := decide_eq_true c7
 clear c7
 obtain rfl := si_ H
 go_enter Try.func43, Try.ntmps43
 go_wp2_with (first | ((with_reducible refine gc_ (f := 42) rfl ?_); refine gL_ (some 11) Try.func42 #[.slice A0 l0.length c0, .slice A1 l1.length c1] ?_; (with_reducible refine (impl_FindRes.calls k _ _ l0 _ _ l1 t11 _ ?s1 ?s2 ?s3 ?s4 A4.out).mono ?_); (case s1 => exact cC_ HR0.out); (case s2 => exact HC0.out); (case s3 => exact cC_ HR1.out); (case s4 => exact HC1.out); rintro e w8 ⟨rfl, hb⟩; refine ⟨_, rfl, ?_⟩; replace HB := A_ (below_step bB_ hb); clear hb; have p10 : 0 <= (t11 : Int) := od_; have q10 : t11 < (l0.length : Int) := od_; obtain ⟨ad10, A10_0, c10_0, A10_4, c10_4, e10, hx10_0, hx10_1, hx10_2, hx10_3, hx10_4, hl10_0, hi10_0, hl10_4, hi10_4⟩ := at_T57 HR0.out t11 p10 q10; cases e10; replace hx10_0 := bc_ HB.out hx10_0; replace hx10_1 := bc_ HB.out hx10_1; replace hx10_2 := bc_ HB.out hx10_2; replace hx10_3 := bc_ HB.out hx10_3; replace hx10_4 := bc_ HB.out hx10_4; clear hi10_0 hl10_0; clear hi10_4 hl10_4; replace p10 := eq_true p10; replace q10 := eq_true q10))
 go_ret
 exact ⟨rr_, bB_⟩
def impl_copyPath.f (l0 : List ByteArray) : Option (List ByteArray) := if ([] : List ByteArray).length + l0.length < 8796093022208 then (some (([] : List ByteArray) ++ l0)) else (none)
theorem impl_copyPath.calls (A0 : Option Addr) (c0 : Nat) (l0 : List ByteArray) (r : List ByteArray) (w : World) (hr0 : Kd.C Kd.string w A0 l0.length l0) (hc0 : l0.length <= c0) (h : impl_copyPath.f l0 = some r) :
 Calls Try.prog 77 #[.slice A0 l0.length c0] w fun e w' => ∃ v0_ : Value, e = .returned (v0_) /\ Kd.R Kd.string 9 w' w.heap.size (fun _ => True) v0_ r /\ Below w.heap.size w w' := by
 have HR0 := A_ hr0
 clear hr0 hc0
 have HB := A_ (Below.refl w.heap.size w)
 have H : (if ([] : List ByteArray).length + l0.length < 8796093022208 then (some (([] : List ByteArray) ++ l0)) else (none)) = some r := h
 clear h
 by_cases c2 : ([] : List ByteArray).length + l0.length < 8796093022208
 rotate_left
 . exact absurd H (by rw [if_neg c2]; simp)
 rw [if_pos c2] at H
 have LMc2 := A_ c2
 clear c2
 obtain ⟨y1, hy1⟩ : ∃ y_ : List ByteArray, y_ = (([] : List ByteArray) ++ l0) := ⟨_, rfl⟩
 replace H : (some y1) = some r := hy_ hy1 H
 have Ny1 := A_ hy1
 clear hy1
 obtain rfl := si_ H
 go_enter Try.func77, Try.ntmps77
 go_wp2_with (first | ((with_reducible refine gate_builtin (b := .append) (xs := #[.const (.slice none 0 0), .tmp 3]) rfl ?_); at_builtin; refine Kd.R_append_rows Kd.string (w0 := w) w.heap.size rfl (.const (.slice none 0 0)) (.tmp 3) 23 9 (.string ⟨#[]⟩) 16 rfl Try.underlying23 info9 rfl (by decide) (by omega) (.slice none 0 0) ([] : List ByteArray) l0 _ _ _ (fun _ => True) (fun _ => False) rfl rfl ?aO ?aR (fun _ _ h => h) (fun _ h => h.elim) ?aF ?aB ?aS ?aL ?_; (case aR => exact cC_ HR0.out); (case aB => exact bB_); (case aF => exact (fun _ _ => trivial)); (case aO => exact ((Kd.R_nil _ _ _ _ (fun _ => True)))); (case aS => exact (below_size bB_)); (case aL => have := LMc2.out; omega); intro v5 w3 ho hb hg hat; rw [← Ny1.out] at ho; replace HB := A_ (hb); have HO4 := A_ (ho); clear ho hb hg hat))
 go_ret
 exact ⟨_, rr_, vR_ HO4.out, bB_⟩
def impl_Above.f (l0 : List ByteArray) : Option (List ByteArray) := if (l0.length : Int) = 0 then (some ([] : List ByteArray)) else (if 0 <= (wrap64 ((l0.length : Int) - 1)) then (if (wrap64 ((l0.length : Int) - 1)) <= (l0.length : Int) then ((impl_copyPath.f (l0.take ((wrap64 ((l0.length : Int) - 1)) : Int).toNat)).bind fun t282 => (some t282)) else (none)) else (none))
theorem impl_Above.calls (A0 : Option Addr) (c0 : Nat) (l0 : List ByteArray) (r : List ByteArray) (w : World) (hr0 : Kd.C Kd.string w A0 l0.length l0) (hc0 : l0.length <= c0) (h : impl_Above.f l0 = some r) :
 Calls Try.prog 44 #[.slice A0 l0.length c0] w fun e w' => ∃ v0_ : Value, e = .returned (v0_) /\ Kd.R Kd.string 9 w' w.heap.size (fun _ => True) v0_ r /\ Below w.heap.size w w' := by
 have HR0 := A_ hr0
 have HC0 := A_ hc0
 clear hr0 hc0
 have HB := A_ (Below.refl w.heap.size w)
 have H : (if (l0.length : Int) = 0 then (some ([] : List ByteArray)) else (if 0 <= (wrap64 ((l0.length : Int) - 1)) then (if (wrap64 ((l0.length : Int) - 1)) <= (l0.length : Int) then ((impl_copyPath.f (l0.take ((wrap64 ((l0.length : Int) - 1)) : Int).toNat)).bind fun t10 => (some t10)) else (none)) else (none))) = some r := h
 clear h
 by_cases c2 : (l0.length : Int) = 0
 . rw [if_pos c2] at H
   obtain ⟨c2b0, c2b1⟩ := eT_ c2
   clear c2
   obtain rfl := si_ H
   go_enter Try.func44, Try.ntmps44
   go_wp2
   go_ret
   exact ⟨_, rr_, by first | exact Kd.R_nil _ _ _ _ _ | exact Kd.N_nil _ _ _ _ _ | exact Kd.V_nil _ _ _ _ _ | exact Kd.Q_nil _ _ _ _ _ | exact Kd.S_nil _ _ _ _ _, bB_⟩
 rw [if_neg c2] at H
 obtain ⟨c2b0, c2b1⟩ := eF_ c2
 have c2b2 : ¬ (l0 = []) := fun h_ => c2 (by rw [h_]; rfl)
 obtain ⟨ji3, hji3⟩ : ∃ j_ : Int, (wrap64 ((l0.length : Int) - 1)) = j_ := ⟨_, rfl⟩
 replace H : (if 0 <= (ji3) then (if (ji3) <= (l0.length : Int) then ((impl_copyPath.f (l0.take ((ji3) : Int).toNat)).bind fun t10 => (some t10)) else (none)) else (none)) = some r := by first | (rw [hji3] at H; exact H) | (simp only [hji3] at H ⊢; exact H)
 have hji3w : (IntKind.i64.wrap ((l0.length : Int) - 1)) = ji3 := (i64_w _).trans hji3
 by_cases c4 : 0 <= (ji3)
 rotate_left
 . exact absurd H (by rw [if_neg c4]; simp)
 rw [if_pos c4] at H
 have c4b0 := eq_true c4
 have c4b1 := decide_eq_true c4
 clear c4
 by_cases c5 : (ji3) <= (l0.length : Int)
 rotate_left
 . exact absurd H (by rw [if_neg c5]; simp)
 rw [if_pos c5] at H
 have c5b0 := eq_true c5
 have c5b1 := decide_eq_true c5
 clear c5
 obtain ⟨t10, A6, H⟩ := bo_ H
 (try dsimp only at H)
 obtain rfl := si_ H
 obtain ⟨i07, hi07, _, hsz7, _⟩ := info_parts info9
 obtain ⟨hcut7, hA7, hC7⟩ := print_take_of (P := Try.prog) Value.string (⟨#[]⟩ : ByteArray) 23 9 .i64 Try.underlying23 hi07 hsz7 A0 c0 l0 (ji3) od_ od_ HC0.out
 have HR11 := A_ (Kd.C_of_reads (h1 := fun _ => rfl) (hA7 _ (Kd.reads_of_C HR0.out)))
 have HC11 := A_ hC7
 clear hA7 hC7 hi07 hsz7
 go_enter Try.func44, Try.ntmps44
 go_wp2_with (first | ((with_reducible refine gc_ (f := 77) rfl ?_); refine goesL_ (some 11) rfl rfl Try.func77 (by kernel_rfl) rfl #[.slice A0 (l0.take ((ji3) : Int).toNat).length c0] rfl (by (try simp only [List.map_toArray, List.map_cons, List.map_nil]); first | done | (rw [show (l0.take ((ji3) : Int).toNat).length = (ji3).toNat from (by rw [List.length_take]; have h_ : ((ji3) : Int) <= (l0.length : Int) := od_; omega)] <;> rfl) | (simp only [hji3]; rfl) | rfl | (simp only [List.length_drop, List.length_take]; rfl)) ?_; (with_reducible refine (impl_copyPath.calls _ _ (l0.take ((ji3) : Int).toNat) t10 _ ?s1 ?s2 A6.out).mono ?_); (case s1 => exact cC_ HR11.out); (case s2 => exact HC11.out); rintro e w8 ⟨v13, rfl, ho0, hb⟩; refine ⟨_, rfl, ?_⟩; have HO12 := A_ (Kd.R_lower ho0 (below_size bB_)); replace HB := A_ (below_step bB_ hb); clear hb ho0))
 go_ret
 exact ⟨_, by first | rfl | (simp [errW_none, errW_some] <;> rfl) | (simp only [← hji3]; first | rfl | (simp [errW_none, errW_some] <;> rfl)) | (simp [*, errW_none, errW_some] <;> rfl), vR_ HO12.out, bB_⟩
def impl_isPlain.f (a0 : Int) : Option (Bool) := if a0 >= 32 then (some (decide (a0 <= 126))) else (some false)
theorem impl_isPlain.calls (a0 : Int) (r : Bool) (w : World) (h : impl_isPlain.f a0 = some r) :
 Calls Try.prog 132 #[.int .u8 a0] w fun e w' => e = .returned (.bool r) /\ Drawn0 w w' := by
 have H : (if a0 >= 32 then (some (decide (a0 <= 126))) else (some false)) = some r := h
 clear h
 by_cases c2 : a0 >= 32
 . rw [if_pos c2] at H
   have c2b0 : decide (32 <= a0) = true := decide_eq_true c2
   clear c2
   obtain rfl := si_ H
   go_enter Try.func132, Try.ntmps132
   go_wp2
   go_ret
   exact ⟨rs_, dr_⟩
 rw [if_neg c2] at H
 have c2b0 : decide (32 <= a0) = false := decide_eq_false c2
 clear c2
 obtain rfl := si_ H
 go_enter Try.func132, Try.ntmps132
 go_wp2
 go_ret
 exact ⟨rs_, dr_⟩
end Go.Proofs.Ytbgggcgjijljkaa.Q
