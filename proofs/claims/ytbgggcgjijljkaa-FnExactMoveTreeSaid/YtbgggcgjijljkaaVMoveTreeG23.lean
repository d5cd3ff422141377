import Derived.Test.YtbgggcgjijljkaaVMoveTreeG22
namespace Go.Proofs.Ytbgggcgjijljkaa.Q
open Go.RowKit Go.Proofs.YtbgggcgjijljkaaW.PrintWords Go.Proofs.YtbgggcgjijljkaaW.PrintLast Go.Proofs.YtbgggcgjijljkaaW.PrintMore
attribute [local go_sem] max2_int min2_int max_two min_two max_three min_three max_four min_four
set_option linter.unusedVariables false
set_option linter.unusedSimpArgs false
def spec_PropsOk.l0 : Nat -> List (S72) -> Int -> Option (Bool)
 | 0, _, _ => none
 | k + 1, x0, x3 => if x3 < (x0.length : Int) then (if 0 <= x3 then ((spec_l10Prop.f k ((rd_T72 x0 x3).f0) ((rd_T72 x0 x3).f1) ((rd_T72 x0 x3).f2)).bind fun t139 => (if t139 = true then (if x3 > 0 then (if 0 <= (wrap64 (x3 - 1)) then (if (wrap64 (x3 - 1)) < (x0.length : Int) then ((spec_l10LessProp.f ((rd_T72 x0 (wrap64 (x3 - 1))).f0) ((rd_T72 x0 (wrap64 (x3 - 1))).f1) ((rd_T72 x0 (wrap64 (x3 - 1))).f2) ((rd_T72 x0 x3).f0) ((rd_T72 x0 x3).f1) ((rd_T72 x0 x3).f2)).bind fun t142 => (if t142 = true then (spec_PropsOk.l0 k x0 (wrap64 (x3 + 1))) else (some false))) else (none)) else (none)) else (spec_PropsOk.l0 k x0 (wrap64 (x3 + 1)))) else (some false))) else (none)) else (some (decide ((x0.length : Int) <= 4)))
def spec_PropsOk.f (k : Nat) (l0 : List (S72)) : Option (Bool) := spec_PropsOk.l0 k l0 0
def spec_PropsOk.T4 : Bool × List (List Nat × List Nat) := (true, [([], []), ([], []), ([0, 1], [0, 1]), ([2], [2]), ([3], [3]), ([4], [4]), ([5, 4], [5]), ([6], [6]), ([7, 6], [6, 7]), ([8, 6, 6], [6, 8]), ([9], [9]), ([9], [9]), ([11, 9], [9, 11]), ([10, 12, 9], [9, 10, 12]), ([13, 9], [9, 13]), ([9], [9]), ([9], [9]), ([15, 16, 9], [9, 15, 16]), ([17, 9], [9, 17]), ([14, 18, 9, 9], [9, 14, 18]), ([19, 9], [9, 19]), ([9, 20, 6], [6, 9, 20]), ([6, 21], [6, 21])])
def spec_PropsOk.B4 : List Nat := [0, 0, 3, 7, 15, 31, 63, 127, 255, 511, 1023, 1023, 3071, 8191, 16383, 1023, 1023, 99327, 230399, 524287, 1048575, 2097151, 4194303]
theorem spec_PropsOk.tab4 : rtab .any (opsOf Try.f97 4) = spec_PropsOk.T4 := by kernel_rfl
theorem spec_PropsOk.bits4 : waitsOk spec_PropsOk.T4.2 spec_PropsOk.B4 = true := by kernel_rfl
set_option maxHeartbeats 8000000 in
set_option maxRecDepth 100000 in
theorem spec_PropsOk.calls (k : Nat) (A0 : Option Addr) (c0 : Nat) (l0 : List (S72)) (r : Bool) (w : World) (hr0 : Kd.C k72 w A0 l0.length l0) (hc0 : l0.length <= c0) (h : spec_PropsOk.f k l0 = some r) :
 Calls Try.prog 97 #[.slice A0 l0.length c0] w fun e w' => e = .returned (.bool r) /\ Below w.heap.size w w' := by
 have hu72 := Try.underlying72
 have HR0 := A_ hr0
 clear hr0 hc0
 have HB := A_ (Below.refl w.heap.size w)
 have H : (spec_PropsOk.l0 k l0 0) = some r := h
 clear h
 have H' := A_ H
 clear H
 go_enter Try.func97, Try.ntmps97
 go_wp2
 go_loopg [3] k (fun kq v3 w' => ∃ (x3_1 : Int), v3 = .int .i64 x3_1 /\ Aside0 (spec_PropsOk.l0 kq l0 x3_1 = some r) /\ Aside0 (kq <= k) /\ Aside0 (Below w.heap.size w w'))
 case atStart => exact ⟨(0), rs_, H', ⟨Nat.le_refl _⟩, ⟨bB_⟩⟩
 case round =>
  clear H'
  obtain ⟨x3_1, rfl, HA, HK1, HB⟩ := hrel
  cases gk with
  | zero => exact absurd HA.out (by simp [spec_PropsOk.l0])
  | succ k1 =>
   have H := HA.out
   clear HA
   simp only [spec_PropsOk.l0] at H
   by_cases c2 : x3_1 < (l0.length : Int)
   rotate_left
   . rw [if_neg c2] at H
     have c2b0 := decide_eq_false c2
     clear c2
     obtain rfl := si_ H
     go_wp2
     go_ret
     exact ⟨rr_, bB_⟩
   rw [if_pos c2] at H
   have c2b0 := decide_eq_true c2
   clear c2
   by_cases c3 : 0 <= x3_1
   rotate_left
   . exact absurd H (by rw [if_neg c3]; simp)
   rw [if_pos c3] at H
   have c3b0 := decide_eq_true c3
   clear c3
   obtain ⟨t26, A4, H⟩ := bo_ H
   (try dsimp only at H)
   by_cases c5 : t26 = true
   . subst c5
     rw [if_pos rfl] at H
     by_cases c6 : x3_1 > 0
     rotate_left
     . rw [if_neg c6] at H
       have c6b0 : decide (0 < x3_1) = false := decide_eq_false c6
       clear c6
       have H' := A_ H
       clear H
       try go_wp2
       replace HB := A_ (below_drew1 HB.out)
       have p22 : 0 <= (x3_1 : Int) := od_
       have q22 : x3_1 < (l0.length : Int) := od_
       obtain ⟨ad22, e22, hx22_0, hx22_1, hx22_2⟩ := at_T72 HR0.out x3_1 p22 q22
       have hw22_2 := hx22_2
       have hw22_1 := hx22_1
       have hw22_0 := hx22_0
       cases e22
       replace hx22_0 := bc_ HB.out hx22_0
       replace hx22_1 := bc_ HB.out hx22_1
       replace hx22_2 := bc_ HB.out hx22_2
       replace p22 := eq_true p22
       replace q22 := eq_true q22
       refine st3_ (n := 23) (ds := []) (be_ hw22_0) (be_ hw22_1) (be_ hw22_2) (fun hHeld => ?_); refine with_tabW spec_PropsOk.tab4 spec_PropsOk.bits4 (fun HT_ HW_ => ?_)
       generalize wr.drew = w18 at HB hx22_0 hx22_1 hx22_2 hHeld ⊢
       refine pu_ (i := 0) (N := some 10) ?_
       refine pu_ (i := 1) (N := some 11) ?_
       refine pu_ (i := 2) (N := some 12) ?_
       refine tk_ (i := 3) (N := some 13) hHeld ?_
       refine on_ (i := 4) (N := some 14) (fun K hK => ?_)
       refine goes_ Try.func95 (by kernel_rfl) rfl #[.agg #[.string ((rd_T72 l0 x3_1).f0), .string ((rd_T72 l0 x3_1).f1), .string ((rd_T72 l0 x3_1).f2)]] (by rfl) rfl rfl ml_ ?_
       with_reducible refine (spec_l10Prop.calls k1 ((rd_T72 l0 x3_1).f0) ((rd_T72 l0 x3_1).f1) ((rd_T72 l0 x3_1).f2) true _ A4.out).mono ?_
       rintro e w19 ⟨rfl, hb⟩
       refine ⟨_, rfl, ?_⟩
       replace HB := A_ (below_step bB_ hb)
       clear hb
       refine hK.out _ _ ⟨(be_ hw22_0), (be_ hw22_1), (be_ hw22_2)⟩ (fun hHeld => ?_)
       clear hK K
       refine no_ (some 14) ?_
       refine pu_ (i := 5) (N := some 15) ?_
       refine pu_ (i := 6) (N := some 16) ?_
       refine pu_ (i := 7) (N := some 17) ?_
       refine pu_ (i := 8) (N := some 18) ?_
       refine pu_ (i := 9) (N := some 19) ?_
       refine pn_ (i := 10) (N := some 20) ?_
       refine pn_ (i := 11) (N := some 21) ?_
       refine pn_ (i := 12) (N := some 22) ?_
       refine pn_ (i := 13) (N := some 23) ?_
       refine pn_ (i := 14) (N := some 24) ?_
       refine pn_ (i := 15) (N := some 25) ?_
       refine pn_ (i := 16) (N := some 26) ?_
       refine pn_ (i := 17) (N := some 27) ?_
       refine pn_ (i := 18) (N := some 28) ?_
       refine pn_ (i := 19) (N := some 29) ?_
       refine pn_ (i := 20) (N := some 30) ?_
       refine pu_ (i := 21) (N := some 31) ?_
       refine pu_ (i := 22) (N := some 32) ?_
       refine done_ (done_of HT_.out (by kernel_rfl)) ?_
       (try clear hHeld)
       try go_wp2
       go_roundg k1
       case measure => have := HK1.out; omega
       case rel => exact ⟨(wrap64 (x3_1 + 1)), rs_, H', ⟨by have := HK1.out; omega⟩, ⟨bB_⟩⟩
     rw [if_pos c6] at H
     have c6b0 : decide (0 < x3_1) = true := decide_eq_true c6
     clear c6
     obtain ⟨ji7, hji7⟩ : ∃ j_ : Int, (wrap64 (x3_1 - 1)) = j_ := ⟨_, rfl⟩
     replace H : (if 0 <= (ji7) then (if (ji7) < (l0.length : Int) then ((spec_l10LessProp.f ((rd_T72 l0 (ji7)).f0) ((rd_T72 l0 (ji7)).f1) ((rd_T72 l0 (ji7)).f2) ((rd_T72 l0 x3_1).f0) ((rd_T72 l0 x3_1).f1) ((rd_T72 l0 x3_1).f2)).bind fun t25 => (if t25 = true then (spec_PropsOk.l0 k1 l0 (wrap64 (x3_1 + 1))) else (some false))) else (none)) else (none)) = some r := by first | (rw [hji7] at H; exact H) | (simp only [hji7] at H ⊢; exact H)
     (try rw [hji7] at A4)
     have hji7w : (IntKind.i64.wrap (x3_1 - 1)) = ji7 := (i64_w _).trans hji7
     by_cases c8 : 0 <= (ji7)
     rotate_left
     . exact absurd H (by rw [if_neg c8]; simp)
     rw [if_pos c8] at H
     have c8b0 := decide_eq_true c8
     clear c8
     by_cases c9 : (ji7) < (l0.length : Int)
     rotate_left
     . exact absurd H (by rw [if_neg c9]; simp)
     rw [if_pos c9] at H
     have c9b0 := decide_eq_true c9
     clear c9
     obtain ⟨t25, A10, H⟩ := bo_ H
     (try dsimp only at H)
     by_cases c11 : t25 = true
     . subst c11
       rw [if_pos rfl] at H
       have H' := A_ H
       clear H
       try go_wp2
       replace HB := A_ (below_drew1 HB.out)
       have p22 : 0 <= (x3_1 : Int) := od_
       have q22 : x3_1 < (l0.length : Int) := od_
       obtain ⟨ad22, e22, hx22_0, hx22_1, hx22_2⟩ := at_T72 HR0.out x3_1 p22 q22
       have hw22_2 := hx22_2
       have hw22_1 := hx22_1
       have hw22_0 := hx22_0
       cases e22
       replace hx22_0 := bc_ HB.out hx22_0
       replace hx22_1 := bc_ HB.out hx22_1
       replace hx22_2 := bc_ HB.out hx22_2
       replace p22 := eq_true p22
       replace q22 := eq_true q22
       have p23 : 0 <= ((ji7) : Int) := od_
       have q23 : (ji7) < (l0.length : Int) := od_
       obtain ⟨ad23, e23, hx23_0, hx23_1, hx23_2⟩ := at_T72 HR0.out (ji7) p23 q23
       have hw23_2 := hx23_2
       have hw23_1 := hx23_1
       have hw23_0 := hx23_0
       obtain rfl : ad22 = ad23 := (by injection e23)
       replace hx23_0 := bc_ HB.out hx23_0
       replace hx23_1 := bc_ HB.out hx23_1
       replace hx23_2 := bc_ HB.out hx23_2
       replace p23 := eq_true p23
       replace q23 := eq_true q23
       have p24 : 0 <= (x3_1 : Int) := od_
       have q24 : x3_1 < (l0.length : Int) := od_
       obtain ⟨ad24, e24, hx24_0, hx24_1, hx24_2⟩ := at_T72 HR0.out x3_1 p24 q24
       have hw24_2 := hx24_2
       have hw24_1 := hx24_1
       have hw24_0 := hx24_0
       obtain rfl : ad22 = ad24 := (by injection e24)
       replace hx24_0 := bc_ HB.out hx24_0
       replace hx24_1 := bc_ HB.out hx24_1
       replace hx24_2 := bc_ HB.out hx24_2
       replace p24 := eq_true p24
       replace q24 := eq_true q24
       refine st9_ (n := 23) (ds := []) (be_ hw22_0) (be_ hw22_1) (be_ hw22_2) (be_ hw23_0) (be_ hw23_1) (be_ hw23_2) (be_ hw24_0) (be_ hw24_1) (be_ hw24_2) (fun hHeld => ?_); refine with_tabW spec_PropsOk.tab4 spec_PropsOk.bits4 (fun HT_ HW_ => ?_)
       generalize wr.drew = w12 at HB hx22_0 hx22_1 hx22_2 hx23_0 hx23_1 hx23_2 hx24_0 hx24_1 hx24_2 hHeld ⊢
       refine pu_ (i := 0) (N := some 10) ?_
       refine pu_ (i := 1) (N := some 11) ?_
       refine pu_ (i := 2) (N := some 12) ?_
       refine tk_ (i := 3) (N := some 13) hHeld ?_
       refine on_ (i := 4) (N := some 14) (fun K hK => ?_)
       refine goes_ Try.func95 (by kernel_rfl) rfl #[.agg #[.string ((rd_T72 l0 x3_1).f0), .string ((rd_T72 l0 x3_1).f1), .string ((rd_T72 l0 x3_1).f2)]] (by rfl) rfl rfl ml_ ?_
       with_reducible refine (spec_l10Prop.calls k1 ((rd_T72 l0 x3_1).f0) ((rd_T72 l0 x3_1).f1) ((rd_T72 l0 x3_1).f2) true _ A4.out).mono ?_
       rintro e w13 ⟨rfl, hb⟩
       refine ⟨_, rfl, ?_⟩
       replace HB := A_ (below_step bB_ hb)
       clear hb
       refine hK.out _ _ ⟨(be_ hw22_0), (be_ hw22_1), (be_ hw22_2), (be_ hw23_0), (be_ hw23_1), (be_ hw23_2), (be_ hw24_0), (be_ hw24_1), (be_ hw24_2)⟩ (fun hHeld => ?_)
       clear hK K
       refine no_ (some 14) ?_
       refine pu_ (i := 5) (N := some 15) ?_
       refine pu_ (i := 6) (N := some 16) ?_
       refine pu_ (i := 7) (N := some 17) ?_
       refine pu_ (i := 8) (N := some 18) ?_
       refine pu_ (i := 9) (N := some 19) ?_
       refine pu_ (i := 10) (N := some 20) ?_
       refine pu_ (i := 11) (N := some 21) ?_
       refine pu_ (i := 12) (N := some 22) ?_
       refine pu_ (i := 13) (N := some 23) ?_
       refine pu_ (i := 15) (N := some 25) ?_
       refine pu_ (i := 16) (N := some 26) ?_
       refine pu_ (i := 17) (N := some 27) ?_
       refine tk_ (i := 14) (N := some 24) hHeld ?_
       refine tk_ (i := 18) (N := some 28) hHeld ?_
       refine on_ (i := 19) (N := some 29) (fun K hK => ?_)
       refine goes_ Try.func127 (by kernel_rfl) rfl #[.agg #[.string ((rd_T72 l0 (ji7)).f0), .string ((rd_T72 l0 (ji7)).f1), .string ((rd_T72 l0 (ji7)).f2)], .agg #[.string ((rd_T72 l0 x3_1).f0), .string ((rd_T72 l0 x3_1).f1), .string ((rd_T72 l0 x3_1).f2)]] (by rfl) rfl rfl (by (try simp only [List.map_toArray, List.map_cons, List.map_nil]); first | done | (simp only [hji7]; rfl) | rfl | (simp only [List.length_drop, List.length_take]; rfl)) ?_
       with_reducible refine (spec_l10LessProp.calls ((rd_T72 l0 (ji7)).f0) ((rd_T72 l0 (ji7)).f1) ((rd_T72 l0 (ji7)).f2) ((rd_T72 l0 x3_1).f0) ((rd_T72 l0 x3_1).f1) ((rd_T72 l0 x3_1).f2) true _ A10.out).mono ?_
       rintro e w14 ⟨rfl, hb⟩
       refine ⟨_, rfl, ?_⟩
       replace HB := A_ (below_step bB_ hb)
       clear hb
       refine hK.out _ _ ⟨(be_ hw22_0), (be_ hw22_1), (be_ hw22_2), (be_ hw23_0), (be_ hw23_1), (be_ hw23_2), (be_ hw24_0), (be_ hw24_1), (be_ hw24_2)⟩ (fun hHeld => ?_)
       clear hK K
       refine no_ (some 29) ?_
       refine pu_ (i := 20) (N := some 30) ?_
       refine pu_ (i := 21) (N := some 31) ?_
       refine pu_ (i := 22) (N := some 32) ?_
       refine done_ (done_of HT_.out (by kernel_rfl)) ?_
       (try clear hHeld)
       try go_wp2
       go_roundg k1
       case measure => have := HK1.out; omega
       case rel => exact ⟨(wrap64 (x3_1 + 1)), rs_, H', ⟨by have := HK1.out; omega⟩, ⟨bB_⟩⟩
     . replace c11 := Bool.eq_false_iff.mpr c11
       subst c11
       rw [if_neg nf_] at H
       obtain rfl := si_ H
       try go_wp2
       replace HB := A_ (below_drew1 HB.out)
       have p22 : 0 <= (x3_1 : Int) := od_
       have q22 : x3_1 < (l0.length : Int) := od_
       obtain ⟨ad22, e22, hx22_0, hx22_1, hx22_2⟩ := at_T72 HR0.out x3_1 p22 q22
       have hw22_2 := hx22_2
       have hw22_1 := hx22_1
       have hw22_0 := hx22_0
       cases e22
       replace hx22_0 := bc_ HB.out hx22_0
       replace hx22_1 := bc_ HB.out hx22_1
       replace hx22_2 := bc_ HB.out hx22_2
       replace p22 := eq_true p22
       replace q22 := eq_true q22
       have p23 : 0 <= ((ji7) : Int) := od_
       have q23 : (ji7) < (l0.length : Int) := od_
       obtain ⟨ad23, e23, hx23_0, hx23_1, hx23_2⟩ := at_T72 HR0.out (ji7) p23 q23
       have hw23_2 := hx23_2
       have hw23_1 := hx23_1
       have hw23_0 := hx23_0
       obtain rfl : ad22 = ad23 := (by injection e23)
       replace hx23_0 := bc_ HB.out hx23_0
       replace hx23_1 := bc_ HB.out hx23_1
       replace hx23_2 := bc_ HB.out hx23_2
       replace p23 := eq_true p23
       replace q23 := eq_true q23
       have p24 : 0 <= (x3_1 : Int) := od_
       have q24 : x3_1 < (l0.length : Int) := od_
       obtain ⟨ad24, e24, hx24_0, hx24_1, hx24_2⟩ := at_T72 HR0.out x3_1 p24 q24
       have hw24_2 := hx24_2
       have hw24_1 := hx24_1
       have hw24_0 := hx24_0
       obtain rfl : ad22 = ad24 := (by injection e24)
       replace hx24_0 := bc_ HB.out hx24_0
       replace hx24_1 := bc_ HB.out hx24_1
       replace hx24_2 := bc_ HB.out hx24_2
       replace p24 := eq_true p24
       replace q24 := eq_true q24
       refine st9_ (n := 23) (ds := []) (be_ hw22_0) (be_ hw22_1) (be_ hw22_2) (be_ hw23_0) (be_ hw23_1) (be_ hw23_2) (be_ hw24_0) (be_ hw24_1) (be_ hw24_2) (fun hHeld => ?_); refine with_tabW spec_PropsOk.tab4 spec_PropsOk.bits4 (fun HT_ HW_ => ?_)
       generalize wr.drew = w15 at HB hx22_0 hx22_1 hx22_2 hx23_0 hx23_1 hx23_2 hx24_0 hx24_1 hx24_2 hHeld ⊢
       refine pu_ (i := 0) (N := some 10) ?_
       refine pu_ (i := 1) (N := some 11) ?_
       refine pu_ (i := 2) (N := some 12) ?_
       refine tk_ (i := 3) (N := some 13) hHeld ?_
       refine on_ (i := 4) (N := some 14) (fun K hK => ?_)
       refine goes_ Try.func95 (by kernel_rfl) rfl #[.agg #[.string ((rd_T72 l0 x3_1).f0), .string ((rd_T72 l0 x3_1).f1), .string ((rd_T72 l0 x3_1).f2)]] (by rfl) rfl rfl ml_ ?_
       with_reducible refine (spec_l10Prop.calls k1 ((rd_T72 l0 x3_1).f0) ((rd_T72 l0 x3_1).f1) ((rd_T72 l0 x3_1).f2) true _ A4.out).mono ?_
       rintro e w16 ⟨rfl, hb⟩
       refine ⟨_, rfl, ?_⟩
       replace HB := A_ (below_step bB_ hb)
       clear hb
       refine hK.out _ _ ⟨(be_ hw22_0), (be_ hw22_1), (be_ hw22_2), (be_ hw23_0), (be_ hw23_1), (be_ hw23_2), (be_ hw24_0), (be_ hw24_1), (be_ hw24_2)⟩ (fun hHeld => ?_)
       clear hK K
       refine no_ (some 14) ?_
       refine pu_ (i := 5) (N := some 15) ?_
       refine pu_ (i := 6) (N := some 16) ?_
       refine pu_ (i := 7) (N := some 17) ?_
       refine pu_ (i := 8) (N := some 18) ?_
       refine pu_ (i := 9) (N := some 19) ?_
       refine pu_ (i := 10) (N := some 20) ?_
       refine pu_ (i := 11) (N := some 21) ?_
       refine pu_ (i := 12) (N := some 22) ?_
       refine pu_ (i := 13) (N := some 23) ?_
       refine pu_ (i := 15) (N := some 25) ?_
       refine pu_ (i := 16) (N := some 26) ?_
       refine pu_ (i := 17) (N := some 27) ?_
       refine tk_ (i := 14) (N := some 24) hHeld ?_
       refine tk_ (i := 18) (N := some 28) hHeld ?_
       refine on_ (i := 19) (N := some 29) (fun K hK => ?_)
       refine goes_ Try.func127 (by kernel_rfl) rfl #[.agg #[.string ((rd_T72 l0 (ji7)).f0), .string ((rd_T72 l0 (ji7)).f1), .string ((rd_T72 l0 (ji7)).f2)], .agg #[.string ((rd_T72 l0 x3_1).f0), .string ((rd_T72 l0 x3_1).f1), .string ((rd_T72 l0 x3_1).f2)]] (by rfl) rfl rfl (by (try simp only [List.map_toArray, List.map_cons, List.map_nil]); first | done | (simp only [hji7]; rfl) | rfl | (simp only [List.length_drop, List.length_take]; rfl)) ?_
       with_reducible refine (spec_l10LessProp.calls ((rd_T72 l0 (ji7)).f0) ((rd_T72 l0 (ji7)).f1) ((rd_T72 l0 (ji7)).f2) ((rd_T72 l0 x3_1).f0) ((rd_T72 l0 x3_1).f1) ((rd_T72 l0 x3_1).f2) false _ A10.out).mono ?_
       rintro e w17 ⟨rfl, hb⟩
       refine ⟨_, rfl, ?_⟩
       replace HB := A_ (below_step bB_ hb)
       clear hb
       refine hK.out _ _ ⟨(be_ hw22_0), (be_ hw22_1), (be_ hw22_2), (be_ hw23_0), (be_ hw23_1), (be_ hw23_2), (be_ hw24_0), (be_ hw24_1), (be_ hw24_2)⟩ (fun hHeld => ?_)
       clear hK K
       refine no_ (some 29) ?_
       refine pu_ (i := 20) (N := some 30) ?_
       refine pu_ (i := 21) (N := some 31) ?_
       refine pu_ (i := 22) (N := some 32) ?_
       refine done_ (done_of HT_.out (by kernel_rfl)) ?_
       (try clear hHeld)
       try go_wp2
       go_ret
       exact ⟨by first | rfl | (simp [errW_none, errW_some] <;> rfl) | (simp only [← hji7]; first | rfl | (simp [errW_none, errW_some] <;> rfl)) | (simp [*, errW_none, errW_some] <;> rfl), bB_⟩
   . replace c5 := Bool.eq_false_iff.mpr c5
     subst c5
     rw [if_neg nf_] at H
     obtain rfl := si_ H
     try go_wp2
     replace HB := A_ (below_drew1 HB.out)
     have p22 : 0 <= (x3_1 : Int) := od_
     have q22 : x3_1 < (l0.length : Int) := od_
     obtain ⟨ad22, e22, hx22_0, hx22_1, hx22_2⟩ := at_T72 HR0.out x3_1 p22 q22
     have hw22_2 := hx22_2
     have hw22_1 := hx22_1
     have hw22_0 := hx22_0
     cases e22
     replace hx22_0 := bc_ HB.out hx22_0
     replace hx22_1 := bc_ HB.out hx22_1
     replace hx22_2 := bc_ HB.out hx22_2
     replace p22 := eq_true p22
     replace q22 := eq_true q22
     refine st3_ (n := 23) (ds := []) (be_ hw22_0) (be_ hw22_1) (be_ hw22_2) (fun hHeld => ?_); refine with_tabW spec_PropsOk.tab4 spec_PropsOk.bits4 (fun HT_ HW_ => ?_)
     generalize wr.drew = w20 at HB hx22_0 hx22_1 hx22_2 hHeld ⊢
     refine pu_ (i := 0) (N := some 10) ?_
     refine pu_ (i := 1) (N := some 11) ?_
     refine pu_ (i := 2) (N := some 12) ?_
     refine tk_ (i := 3) (N := some 13) hHeld ?_
     refine on_ (i := 4) (N := some 14) (fun K hK => ?_)
     refine goes_ Try.func95 (by kernel_rfl) rfl #[.agg #[.string ((rd_T72 l0 x3_1).f0), .string ((rd_T72 l0 x3_1).f1), .string ((rd_T72 l0 x3_1).f2)]] (by rfl) rfl rfl ml_ ?_
     with_reducible refine (spec_l10Prop.calls k1 ((rd_T72 l0 x3_1).f0) ((rd_T72 l0 x3_1).f1) ((rd_T72 l0 x3_1).f2) false _ A4.out).mono ?_
     rintro e w21 ⟨rfl, hb⟩
     refine ⟨_, rfl, ?_⟩
     replace HB := A_ (below_step bB_ hb)
     clear hb
     refine hK.out _ _ ⟨(be_ hw22_0), (be_ hw22_1), (be_ hw22_2)⟩ (fun hHeld => ?_)
     clear hK K
     refine no_ (some 14) ?_
     refine pu_ (i := 5) (N := some 15) ?_
     refine pu_ (i := 6) (N := some 16) ?_
     refine pn_ (i := 7) (N := some 17) ?_
     refine pn_ (i := 8) (N := some 18) ?_
     refine pn_ (i := 9) (N := some 19) ?_
     refine pn_ (i := 10) (N := some 20) ?_
     refine pn_ (i := 11) (N := some 21) ?_
     refine pn_ (i := 12) (N := some 22) ?_
     refine pn_ (i := 13) (N := some 23) ?_
     refine pn_ (i := 14) (N := some 24) ?_
     refine pn_ (i := 15) (N := some 25) ?_
     refine pn_ (i := 16) (N := some 26) ?_
     refine pn_ (i := 17) (N := some 27) ?_
     refine pn_ (i := 18) (N := some 28) ?_
     refine pn_ (i := 19) (N := some 29) ?_
     refine pn_ (i := 20) (N := some 30) ?_
     refine pn_ (i := 21) (N := some 31) ?_
     refine pu_ (i := 22) (N := some 32) ?_
     refine done_ (done_of HT_.out (by kernel_rfl)) ?_
     (try clear hHeld)
     try go_wp2
     go_ret
     exact ⟨rr_, bB_⟩
mutual
def spec_TreeOk.l0 : Nat -> List (S57) -> Int -> Option (Bool)
 | 0, _, _ => none
 | k + 1, x0, x3 => if x3 < (x0.length : Int) then (if 0 <= x3 then (if (((rd_T57 x0 x3).f0).length : Int) = 0 then (spec_TreeOk.j1 k x0 x3 true ((rd_T57 x0 x3).f0) ((rd_T57 x0 x3).f1) ((rd_T57 x0 x3).f2) ((rd_T57 x0 x3).f3) ((rd_T57 x0 x3).f4)) else ((spec_PathOk.f k ((rd_T57 x0 x3).f0)).bind fun t153 => (if t153 = true then (if (((rd_T57 x0 x3).f2).size : Int) > 200 then (spec_TreeOk.j1 k x0 x3 true ((rd_T57 x0 x3).f0) ((rd_T57 x0 x3).f1) ((rd_T57 x0 x3).f2) ((rd_T57 x0 x3).f3) ((rd_T57 x0 x3).f4)) else (if (rd_T57 x0 x3).f1 = true then (if ((rd_T57 x0 x3).f2).toList = ([] : List UInt8) then ((spec_l1In.f ((rd_T57 x0 x3).f3) 0 99999).bind fun t154 => (if t154 = true then ((spec_PropsOk.f k ((rd_T57 x0 x3).f4)).bind fun t155 => (spec_TreeOk.j1 k x0 x3 (!t155) ((rd_T57 x0 x3).f0) ((rd_T57 x0 x3).f1) ((rd_T57 x0 x3).f2) ((rd_T57 x0 x3).f3) ((rd_T57 x0 x3).f4))) else (spec_TreeOk.j1 k x0 x3 true ((rd_T57 x0 x3).f0) ((rd_T57 x0 x3).f1) ((rd_T57 x0 x3).f2) ((rd_T57 x0 x3).f3) ((rd_T57 x0 x3).f4)))) else (spec_TreeOk.j1 k x0 x3 true ((rd_T57 x0 x3).f0) ((rd_T57 x0 x3).f1) ((rd_T57 x0 x3).f2) ((rd_T57 x0 x3).f3) ((rd_T57 x0 x3).f4))) else ((spec_l1In.f ((rd_T57 x0 x3).f3) 0 99999).bind fun t156 => (if t156 = true then ((spec_PropsOk.f k ((rd_T57 x0 x3).f4)).bind fun t157 => (spec_TreeOk.j1 k x0 x3 (!t157) ((rd_T57 x0 x3).f0) ((rd_T57 x0 x3).f1) ((rd_T57 x0 x3).f2) ((rd_T57 x0 x3).f3) ((rd_T57 x0 x3).f4))) else (spec_TreeOk.j1 k x0 x3 true ((rd_T57 x0 x3).f0) ((rd_T57 x0 x3).f1) ((rd_T57 x0 x3).f2) ((rd_T57 x0 x3).f3) ((rd_T57 x0 x3).f4)))))) else (spec_TreeOk.j1 k x0 x3 true ((rd_T57 x0 x3).f0) ((rd_T57 x0 x3).f1) ((rd_T57 x0 x3).f2) ((rd_T57 x0 x3).f3) ((rd_T57 x0 x3).f4))))) else (none)) else (some (decide ((x0.length : Int) <= 12)))
def spec_TreeOk.j1 : Nat -> List (S57) -> Int -> Bool -> List ByteArray -> Bool -> ByteArray -> Int -> List (S72) -> Option (Bool)
 | 0, _, _, _, _, _, _, _, _ => none
 | k + 1, x0, x3, x51, x153000, x153001, x153002, x153003, x153004 => if x51 = true then (some false) else (if x3 > 0 then (if 0 <= (wrap64 (x3 - 1)) then (if (wrap64 (x3 - 1)) < (x0.length : Int) then ((spec_LessPath.f k ((rd_T57 x0 (wrap64 (x3 - 1))).f0) x153000).bind fun t159 => (if t159 = true then ((spec_Above.f x153000).bind fun t160 => ((spec_IsColl.f k x0 t160).bind fun t163 => (if t163 = true then (spec_TreeOk.l0 k x0 (wrap64 (x3 + 1))) else (some false)))) else (some false))) else (none)) else (none)) else ((spec_Above.f x153000).bind fun t164 => ((spec_IsColl.f k x0 t164).bind fun t167 => (if t167 = true then (spec_TreeOk.l0 k x0 (wrap64 (x3 + 1))) else (some false)))))
end
def spec_TreeOk.f (k : Nat) (l0 : List (S57)) : Option (Bool) := spec_TreeOk.l0 k l0 0
def spec_TreeOk.T7 : Bool × List (List Nat × List Nat) := (true, [([], []), ([0], [0]), ([1], [1]), ([2], [2]), ([2], [2]), ([4, 2], [2, 4]), ([3, 5, 2], [2, 3, 5]), ([6, 2], [2, 6]), ([7, 2], [2, 7]), ([2], [2]), ([9, 2], [2, 9]), ([8, 10, 2, 2], [2, 8, 10]), ([11, 2], [2, 11]), ([2, 12], [2, 12]), ([13, 11], [13]), ([14], [14]), ([14], [14]), ([16, 14], [14, 16]), ([17, 14, 14], [14, 17]), ([15, 18, 18, 14], [14, 15, 18]), ([19, 14], [14, 19]), ([14, 20], [14, 20])])
def spec_TreeOk.B7 : List Nat := [0, 1, 3, 7, 7, 23, 63, 127, 255, 7, 519, 2047, 4095, 8191, 16383, 32767, 32767, 98303, 229375, 524287, 1048575, 2097151]
theorem spec_TreeOk.tab7 : rtab .any (opsOf Try.f79 7) = spec_TreeOk.T7 := by kernel_rfl
theorem spec_TreeOk.bits7 : waitsOk spec_TreeOk.T7.2 spec_TreeOk.B7 = true := by kernel_rfl
set_option maxHeartbeats 8000000 in
set_option maxRecDepth 100000 in
theorem spec_TreeOk.calls (k : Nat) (A0 : Option Addr) (c0 : Nat) (l0 : List (S57)) (r : Bool) (w : World) (hr0 : Kd.C k57 w A0 l0.length l0) (hc0 : l0.length <= c0) (h : spec_TreeOk.f k l0 = some r) :
 Calls Try.prog 79 #[.slice A0 l0.length c0] w fun e w' => e = .returned (.bool r) /\ Below w.heap.size w w' := by
 have hu57 := Try.underlying57
 have HR0 := A_ hr0
 have HC0 := A_ hc0
 clear hr0 hc0
 have HB := A_ (Below.refl w.heap.size w)
 have H : (spec_TreeOk.l0 k l0 0) = some r := h
 clear h
 have H' := A_ H
 clear H
 go_enter Try.func79, Try.ntmps79
 go_wp2
 go_loopg [3] k (fun kq v3 w' => ∃ (x3_1 : Int), v3 = .int .i64 x3_1 /\ Aside0 (spec_TreeOk.l0 kq l0 x3_1 = some r) /\ Aside0 (kq <= k) /\ Aside0 (Below w.heap.size w w'))
 case atStart => exact ⟨(0), rs_, H', ⟨Nat.le_refl _⟩, ⟨bB_⟩⟩
 case round =>
  clear H'
  obtain ⟨x3_1, rfl, HA, HK1, HB⟩ := hrel
  cases gk with
  | zero => exact absurd HA.out (by simp [spec_TreeOk.l0])
  | succ k1 =>
   have H := HA.out
   clear HA
   simp only [spec_TreeOk.l0] at H
   by_cases c2 : x3_1 < (l0.length : Int)
   rotate_left
   . rw [if_neg c2] at H
     have c2b0 := decide_eq_false c2
     clear c2
     obtain rfl := si_ H
     go_wp2
     go_ret
     exact ⟨rr_, bB_⟩
   rw [if_pos c2] at H
   have c2b0 := decide_eq_true c2
   clear c2
   by_cases c3 : 0 <= x3_1
   rotate_left
   . exact absurd H (by rw [if_neg c3]; simp)
   rw [if_pos c3] at H
   have c3b0 := decide_eq_true c3
   clear c3
   have HC4 := A_ H
   clear H
   have p59 : 0 <= (x3_1 : Int) := od_
   have q59 : x3_1 < (l0.length : Int) := od_
   obtain ⟨ad59, A59_0, c59_0, A59_4, c59_4, e59, hx59_0, hx59_1, hx59_2, hx59_3, hx59_4, hl59_0, hi59_0, hl59_4, hi59_4⟩ := at_T57 HR0.out x3_1 p59 q59
   cases e59
   replace hx59_0 := bc_ HB.out hx59_0
   replace hx59_1 := bc_ HB.out hx59_1
   replace hx59_2 := bc_ HB.out hx59_2
   replace hx59_3 := bc_ HB.out hx59_3
   replace hx59_4 := bc_ HB.out hx59_4
   have HR59_0 := A_ hi59_0
   have HC59_0 := A_ hl59_0
   clear hi59_0 hl59_0
   have HR59_4 := A_ hi59_4
   have HC59_4 := A_ hl59_4
   clear hi59_4 hl59_4
   replace p59 := eq_true p59
   replace q59 := eq_true q59
   go_upto_region 5 with (first | ((with_reducible refine gd_ (N := 4) rfl ?_); (try (refine gate_guard (by rfl) ?_; dsimp only)); refine bx_ (N := 4) (cs := #[.slice none 0 0, .bool false, .string (⟨#[]⟩ : ByteArray), .int .i64 0, .slice none 0 0]) (t := 57) ?_; intro gb58 hg w5 hbox hb; have BK58 := A_ (hbox); have GW58 := A_ (ge_ hg bB_ : w.heap.size <= gb58); have GE58 := A_ (ge_ hg bB_ : w.heap.size <= gb58); replace HB := A_ (below_step bB_ hb); clear hb hbox hg; obtain ⟨hcz6_0, hcz6_1, hcz6_2, hcz6_3, hcz6_4, hfz6_0, hfz6_1, hfz6_2, hfz6_3, hfz6_4⟩ := cz5_ BK58.out))
   (try simp only [Act.put, List.setIfInBounds_toArray, List.set_cons_zero, List.set_cons_succ])
   go_cut [51] (fun v51 wc => ∃ (kq : Nat) (x51_3 : Bool), v51 = .bool x51_3 /\ Aside0 (spec_TreeOk.j1 kq l0 x3_1 x51_3 ((rd_T57 l0 x3_1).f0) ((rd_T57 l0 x3_1).f1) ((rd_T57 l0 x3_1).f2) ((rd_T57 l0 x3_1).f3) ((rd_T57 l0 x3_1).f4) = some r) /\ Aside0 (kq <= k1) /\ Aside0 (wc.heap[gb58]? = some (.cells #[(.slice A59_0 ((rd_T57 l0 x3_1).f0).length c59_0), .bool ((rd_T57 l0 x3_1).f1), .string ((rd_T57 l0 x3_1).f2), .int .i64 ((rd_T57 l0 x3_1).f3), (.slice A59_4 ((rd_T57 l0 x3_1).f4).length c59_4)] 57 (0, 0))) /\ Aside0 (Below w.heap.size w wc))
   case first =>
    have H := HC4.out
    clear HC4
    by_cases c7 : (((rd_T57 l0 x3_1).f0).length : Int) = 0
    . rw [if_pos c7] at H
      obtain ⟨c7b0, c7b1⟩ := eT_ c7
      clear c7
      (first | rw [c7b0] | (simp only [i64_w, i32_w]; rw [c7b0]) | skip)
      have H' := A_ H
      clear H
      obtain ⟨hcz8_0, hcz8_1, hcz8_2, hcz8_3, hcz8_4, hfz8_0, hfz8_1, hfz8_2, hfz8_3, hfz8_4⟩ := cz5_ BK58.out
      go_wp2
      go_meet
      case rel => exact ⟨_, (true), rs_, H', ⟨by have := HK1.out; first | omega | exact Nat.le_refl _⟩, ⟨by (with_reducible repeat (first | refine blk_drewN ?_ _ | refine blk_drew ?_ | refine blk_alloc ?_ _)); with_reducible exact p5_01234_ (vb_ BK58.out)⟩, ⟨bG_ GE58.out⟩⟩
    rw [if_neg c7] at H
    obtain ⟨c7b0, c7b1⟩ := eF_ c7
    have c7b2 : ¬ (((rd_T57 l0 x3_1).f0) = []) := fun h_ => c7 (by rw [h_]; rfl)
    (first | rw [c7b0] | (simp only [i64_w, i32_w]; rw [c7b0]) | skip)
    obtain ⟨t71, A9, H⟩ := bo_ H
    (try dsimp only at H)
    by_cases c10 : t71 = true
    . subst c10
      rw [if_pos rfl] at H
      by_cases c11 : (((rd_T57 l0 x3_1).f2).size : Int) > 200
      . rw [if_pos c11] at H
        have c11b0 : decide (200 < (((rd_T57 l0 x3_1).f2).size : Int)) = true := decide_eq_true c11
        have c11b1 : decide (200 < ((rd_T57 l0 x3_1).f2).size) = true := decide_eq_true (by omega)
        clear c11
        have H' := A_ H
        clear H
        obtain ⟨hcz12_0, hcz12_1, hcz12_2, hcz12_3, hcz12_4, hfz12_0, hfz12_1, hfz12_2, hfz12_3, hfz12_4⟩ := cz5_ BK58.out
        go_wp2_with (first | (go_at_call 102; (with_reducible refine (spec_PathOk.calls k1 _ _ ((rd_T57 l0 x3_1).f0) true _ ?s1 ?s2 A9.out).mono ?_); (case s1 => exact Kd.C_below HR59_0.out (bG_ GE58.out)); (case s2 => exact HC59_0.out); rintro e w' ⟨rfl, ⟨nd, rfl⟩⟩))
        go_meet
        case rel => exact ⟨_, (true), rs_, H', ⟨by have := HK1.out; first | omega | exact Nat.le_refl _⟩, ⟨by (with_reducible repeat (first | refine blk_drewN ?_ _ | refine blk_drew ?_ | refine blk_alloc ?_ _)); with_reducible exact p5_01234_ (vb_ BK58.out)⟩, ⟨bG_ GE58.out⟩⟩
      rw [if_neg c11] at H
      have c11b0 : decide (200 < (((rd_T57 l0 x3_1).f2).size : Int)) = false := decide_eq_false c11
      have c11b1 : decide (200 < ((rd_T57 l0 x3_1).f2).size) = false := decide_eq_false (by omega)
      clear c11
      obtain ⟨bq13, hbq13⟩ : ∃ b_ : Bool, b_ = ((rd_T57 l0 x3_1).f1) := ⟨_, rfl⟩
      replace H : (if bq13 = true then (if ((rd_T57 l0 x3_1).f2).toList = ([] : List UInt8) then ((spec_l1In.f ((rd_T57 l0 x3_1).f3) 0 99999).bind fun t67 => (if t67 = true then ((spec_PropsOk.f k1 ((rd_T57 l0 x3_1).f4)).bind fun t65 => (spec_TreeOk.j1 k1 l0 x3_1 (!t65) ((rd_T57 l0 x3_1).f0) bq13 ((rd_T57 l0 x3_1).f2) ((rd_T57 l0 x3_1).f3) ((rd_T57 l0 x3_1).f4))) else (spec_TreeOk.j1 k1 l0 x3_1 true ((rd_T57 l0 x3_1).f0) bq13 ((rd_T57 l0 x3_1).f2) ((rd_T57 l0 x3_1).f3) ((rd_T57 l0 x3_1).f4)))) else (spec_TreeOk.j1 k1 l0 x3_1 true ((rd_T57 l0 x3_1).f0) bq13 ((rd_T57 l0 x3_1).f2) ((rd_T57 l0 x3_1).f3) ((rd_T57 l0 x3_1).f4))) else ((spec_l1In.f ((rd_T57 l0 x3_1).f3) 0 99999).bind fun t68 => (if t68 = true then ((spec_PropsOk.f k1 ((rd_T57 l0 x3_1).f4)).bind fun t66 => (spec_TreeOk.j1 k1 l0 x3_1 (!t66) ((rd_T57 l0 x3_1).f0) bq13 ((rd_T57 l0 x3_1).f2) ((rd_T57 l0 x3_1).f3) ((rd_T57 l0 x3_1).f4))) else (spec_TreeOk.j1 k1 l0 x3_1 true ((rd_T57 l0 x3_1).f0) bq13 ((rd_T57 l0 x3_1).f2) ((rd_T57 l0 x3_1).f3) ((rd_T57 l0 x3_1).f4))))) = some r := by rw [← hbq13] at H; exact H
      have Nbq13 := A_ hbq13
      clear hbq13
      (try rw [← Nbq13.out])
      by_cases c14 : bq13 = true
      . subst c14
        rw [if_pos rfl] at H
        by_cases c15 : ((rd_T57 l0 x3_1).f2).toList = ([] : List UInt8)
        rotate_left
        . rw [if_neg c15] at H
          obtain ⟨c15b0, c15b1⟩ := eF_ c15
          have H' := A_ H
          clear H
          obtain ⟨hcz22_0, hcz22_1, hcz22_2, hcz22_3, hcz22_4, hfz22_0, hfz22_1, hfz22_2, hfz22_3, hfz22_4⟩ := cz5_ BK58.out
          go_wp2_with (first | (go_at_call 102; (with_reducible refine (spec_PathOk.calls k1 _ _ ((rd_T57 l0 x3_1).f0) true _ ?s1 ?s2 A9.out).mono ?_); (case s1 => exact Kd.C_below HR59_0.out (bG_ GE58.out)); (case s2 => exact HC59_0.out); rintro e w' ⟨rfl, ⟨nd, rfl⟩⟩))
          go_meet
          case rel => (try rw [← Nbq13.out]); exact ⟨_, (true), rs_, H', ⟨by have := HK1.out; first | omega | exact Nat.le_refl _⟩, ⟨by (with_reducible repeat (first | refine blk_drewN ?_ _ | refine blk_drew ?_ | refine blk_alloc ?_ _)); with_reducible exact p5_01234_ (vb_ BK58.out)⟩, ⟨bG_ GE58.out⟩⟩
        rw [if_pos c15] at H
        obtain ⟨c15b0, c15b1⟩ := eT_ c15
        clear c15
        obtain ⟨t67, A16, H⟩ := bo_ H
        (try dsimp only at H)
        by_cases c17 : t67 = true
        . subst c17
          rw [if_pos rfl] at H
          obtain ⟨t65, A18, H⟩ := bo_ H
          (try dsimp only at H)
          have H' := A_ H
          clear H
          obtain ⟨hcz19_0, hcz19_1, hcz19_2, hcz19_3, hcz19_4, hfz19_0, hfz19_1, hfz19_2, hfz19_3, hfz19_4⟩ := cz5_ BK58.out
          go_wp2_with (first | (go_at_call 102; (with_reducible refine (spec_PathOk.calls k1 _ _ ((rd_T57 l0 x3_1).f0) true _ ?s1 ?s2 A9.out).mono ?_); (case s1 => exact Kd.C_below HR59_0.out (bG_ GE58.out)); (case s2 => exact HC59_0.out); rintro e w' ⟨rfl, ⟨nd, rfl⟩⟩) | (go_at_call 103; (with_reducible refine (spec_l1In.calls ((rd_T57 l0 x3_1).f3) 0 99999 true _ A16.out).mono ?_); rintro e w' ⟨rfl, ⟨nd, rfl⟩⟩) | (go_at_call 97; (with_reducible refine (spec_PropsOk.calls k1 _ _ ((rd_T57 l0 x3_1).f4) t65 _ ?s1 ?s2 A18.out).mono ?_); (case s1 => exact Kd.C_below HR59_4.out (bG_ GE58.out)); (case s2 => exact HC59_4.out); rintro e w20 ⟨rfl, hb⟩; replace BK58 := A_ (blk_below (g := gb58) (o := .cells #[.slice A59_0 ((rd_T57 l0 x3_1).f0).length c59_0, .bool true, .string ((rd_T57 l0 x3_1).f2), .int .i64 ((rd_T57 l0 x3_1).f3), .slice A59_4 ((rd_T57 l0 x3_1).f4).length c59_4] 57 (0, 0)) (by (with_reducible repeat (first | refine blk_drewN ?_ _ | refine blk_drew ?_ | refine blk_alloc ?_ _)); with_reducible exact p5_01234_ (vb_ BK58.out)) hb); replace HB := A_ (below_step (bG_ GE58.out) hb); clear hb))
          go_meet
          case rel => (try rw [← Nbq13.out]); exact ⟨_, (!t65), rs_, H', ⟨by have := HK1.out; first | omega | exact Nat.le_refl _⟩, ⟨vb_ BK58.out⟩, ⟨bG_ GE58.out⟩⟩
        . replace c17 := Bool.eq_false_iff.mpr c17
          subst c17
          rw [if_neg nf_] at H
          have H' := A_ H
          clear H
          obtain ⟨hcz21_0, hcz21_1, hcz21_2, hcz21_3, hcz21_4, hfz21_0, hfz21_1, hfz21_2, hfz21_3, hfz21_4⟩ := cz5_ BK58.out
          go_wp2_with (first | (go_at_call 102; (with_reducible refine (spec_PathOk.calls k1 _ _ ((rd_T57 l0 x3_1).f0) true _ ?s1 ?s2 A9.out).mono ?_); (case s1 => exact Kd.C_below HR59_0.out (bG_ GE58.out)); (case s2 => exact HC59_0.out); rintro e w' ⟨rfl, ⟨nd, rfl⟩⟩) | (go_at_call 103; (with_reducible refine (spec_l1In.calls ((rd_T57 l0 x3_1).f3) 0 99999 false _ A16.out).mono ?_); rintro e w' ⟨rfl, ⟨nd, rfl⟩⟩))
          go_meet
          case rel => (try rw [← Nbq13.out]); exact ⟨_, (true), rs_, H', ⟨by have := HK1.out; first | omega | exact Nat.le_refl _⟩, ⟨by (with_reducible repeat (first | refine blk_drewN ?_ _ | refine blk_drew ?_ | refine blk_alloc ?_ _)); with_reducible exact p5_01234_ (vb_ BK58.out)⟩, ⟨bG_ GE58.out⟩⟩
      . replace c14 := Bool.eq_false_iff.mpr c14
        subst c14
        rw [if_neg nf_] at H
        obtain ⟨t68, A23, H⟩ := bo_ H
        (try dsimp only at H)
        by_cases c24 : t68 = true
        . subst c24
          rw [if_pos rfl] at H
          obtain ⟨t66, A25, H⟩ := bo_ H
          (try dsimp only at H)
          have H' := A_ H
          clear H
          obtain ⟨hcz26_0, hcz26_1, hcz26_2, hcz26_3, hcz26_4, hfz26_0, hfz26_1, hfz26_2, hfz26_3, hfz26_4⟩ := cz5_ BK58.out
          go_wp2_with (first | (go_at_call 102; (with_reducible refine (spec_PathOk.calls k1 _ _ ((rd_T57 l0 x3_1).f0) true _ ?s1 ?s2 A9.out).mono ?_); (case s1 => exact Kd.C_below HR59_0.out (bG_ GE58.out)); (case s2 => exact HC59_0.out); rintro e w' ⟨rfl, ⟨nd, rfl⟩⟩) | (go_at_call 103; (with_reducible refine (spec_l1In.calls ((rd_T57 l0 x3_1).f3) 0 99999 true _ A23.out).mono ?_); rintro e w' ⟨rfl, ⟨nd, rfl⟩⟩) | (go_at_call 97; (with_reducible refine (spec_PropsOk.calls k1 _ _ ((rd_T57 l0 x3_1).f4) t66 _ ?s1 ?s2 A25.out).mono ?_); (case s1 => exact Kd.C_below HR59_4.out (bG_ GE58.out)); (case s2 => exact HC59_4.out); rintro e w27 ⟨rfl, hb⟩; replace BK58 := A_ (blk_below (g := gb58) (o := .cells #[.slice A59_0 ((rd_T57 l0 x3_1).f0).length c59_0, .bool false, .string ((rd_T57 l0 x3_1).f2), .int .i64 ((rd_T57 l0 x3_1).f3), .slice A59_4 ((rd_T57 l0 x3_1).f4).length c59_4] 57 (0, 0)) (by (with_reducible repeat (first | refine blk_drewN ?_ _ | refine blk_drew ?_ | refine blk_alloc ?_ _)); with_reducible exact p5_01234_ (vb_ BK58.out)) hb); replace HB := A_ (below_step (bG_ GE58.out) hb); clear hb))
          go_meet
          case rel => (try rw [← Nbq13.out]); exact ⟨_, (!t66), rs_, H', ⟨by have := HK1.out; first | omega | exact Nat.le_refl _⟩, ⟨vb_ BK58.out⟩, ⟨bG_ GE58.out⟩⟩
        . replace c24 := Bool.eq_false_iff.mpr c24
          subst c24
          rw [if_neg nf_] at H
          have H' := A_ H
          clear H
          obtain ⟨hcz28_0, hcz28_1, hcz28_2, hcz28_3, hcz28_4, hfz28_0, hfz28_1, hfz28_2, hfz28_3, hfz28_4⟩ := cz5_ BK58.out
          go_wp2_with (first | (go_at_call 102; (with_reducible refine (spec_PathOk.calls k1 _ _ ((rd_T57 l0 x3_1).f0) true _ ?s1 ?s2 A9.out).mono ?_); (case s1 => exact Kd.C_below HR59_0.out (bG_ GE58.out)); (case s2 => exact HC59_0.out); rintro e w' ⟨rfl, ⟨nd, rfl⟩⟩) | (go_at_call 103; (with_reducible refine (spec_l1In.calls ((rd_T57 l0 x3_1).f3) 0 99999 false _ A23.out).mono ?_); rintro e w' ⟨rfl, ⟨nd, rfl⟩⟩))
          go_meet
          case rel => (try rw [← Nbq13.out]); exact ⟨_, (true), rs_, H', ⟨by have := HK1.out; first | omega | exact Nat.le_refl _⟩, ⟨by (with_reducible repeat (first | refine blk_drewN ?_ _ | refine blk_drew ?_ | refine blk_alloc ?_ _)); with_reducible exact p5_01234_ (vb_ BK58.out)⟩, ⟨bG_ GE58.out⟩⟩
    . replace c10 := Bool.eq_false_iff.mpr c10
      subst c10
      rw [if_neg nf_] at H
      have H' := A_ H
      clear H
      obtain ⟨hcz29_0, hcz29_1, hcz29_2, hcz29_3, hcz29_4, hfz29_0, hfz29_1, hfz29_2, hfz29_3, hfz29_4⟩ := cz5_ BK58.out
      go_wp2_with (first | (go_at_call 102; (with_reducible refine (spec_PathOk.calls k1 _ _ ((rd_T57 l0 x3_1).f0) false _ ?s1 ?s2 A9.out).mono ?_); (case s1 => exact Kd.C_below HR59_0.out (bG_ GE58.out)); (case s2 => exact HC59_0.out); rintro e w' ⟨rfl, ⟨nd, rfl⟩⟩))
      go_meet
      case rel => exact ⟨_, (true), rs_, H', ⟨by have := HK1.out; first | omega | exact Nat.le_refl _⟩, ⟨by (with_reducible repeat (first | refine blk_drewN ?_ _ | refine blk_drew ?_ | refine blk_alloc ?_ _)); with_reducible exact p5_01234_ (vb_ BK58.out)⟩, ⟨bG_ GE58.out⟩⟩
   case rest =>
    clear HC4
    try clear c2
    try clear c2b0
    try clear c3
    try clear c3b0
    try clear hcz6_0
    try clear hcz6_1
    try clear hcz6_2
    try clear hcz6_3
    try clear hcz6_4
    try clear hfz6_0
    try clear hfz6_1
    try clear hfz6_2
    try clear hfz6_3
    try clear hfz6_4
    try clear hx59_0
    try clear hx59_1
    try clear hx59_2
    try clear hx59_3
    try clear hx59_4
    try clear p59
    try clear q59
    obtain ⟨kq, x51_3, rfl, HA, HJ3, BK58, HB⟩ := hcut
    cases kq with
    | zero => exact absurd HA.out (by simp [spec_TreeOk.j1])
    | succ kj3 =>
     have H := HA.out
     clear HA
     simp only [spec_TreeOk.j1] at H
     by_cases c30 : x51_3 = true
     . subst c30
       rw [if_pos rfl] at H
       obtain rfl := si_ H
       go_wp2
       go_ret
       exact ⟨rr_, bG_ GE58.out⟩
     . replace c30 := Bool.eq_false_iff.mpr c30
       subst c30
       rw [if_neg nf_] at H
       by_cases c31 : x3_1 > 0
       rotate_left
       . rw [if_neg c31] at H
         have c31b0 : decide (0 < x3_1) = false := decide_eq_false c31
         clear c31
         obtain ⟨t63, A47, H⟩ := bo_ H
         (try dsimp only at H)
         obtain ⟨t72, A48, H⟩ := bo_ H
         (try dsimp only at H)
         by_cases c49 : t72 = true
         . subst c49
           rw [if_pos rfl] at H
           have H' := A_ H
           clear H
           try go_wp2
           replace BK58 := A_ (blk_drew BK58.out)
           replace HB := A_ (below_drew1 HB.out)
           refine st5_ (n := 22) (ds := []) (bl_ BK58.out 0) (bl_ BK58.out 1) (bl_ BK58.out 2) (bl_ BK58.out 3) (bl_ BK58.out 4) (fun hHeld => ?_); refine with_tabW spec_TreeOk.tab7 spec_TreeOk.bits7 (fun HT_ HW_ => ?_)
           generalize wc.drew = w50 at BK58 HB hHeld ⊢
           refine pu_ (i := 0) (N := some 52) ?_
           refine pu_ (i := 1) (N := some 53) ?_
           refine pu_ (i := 2) (N := some 54) ?_
           refine pn_ (i := 3) (N := some 55) ?_
           refine pn_ (i := 4) (N := some 56) ?_
           refine pn_ (i := 5) (N := some 57) ?_
           refine pn_ (i := 6) (N := some 58) ?_
           refine pn_ (i := 7) (N := some 59) ?_
           refine pn_ (i := 8) (N := some 60) ?_
           refine pn_ (i := 9) (N := some 61) ?_
           refine pn_ (i := 10) (N := some 62) ?_
           refine pn_ (i := 11) (N := some 63) ?_
           refine pn_ (i := 12) (N := some 64) ?_
           refine pu_ (i := 13) (N := some 65) ?_
           refine pu_ (i := 14) (N := some 66) ?_
           refine pu_ (i := 15) (N := some 67) ?_
           refine pu_ (i := 16) (N := some 68) ?_
           refine tk_ (i := 17) (N := some 69) hHeld ?_
           refine on_ (i := 18) (N := some 70) (fun K hK => ?_)
           refine goes_ Try.func74 (by kernel_rfl) rfl #[.slice A59_0 ((rd_T57 l0 x3_1).f0).length c59_0] (by rfl) rfl rfl ml_ ?_
           with_reducible refine (spec_Above.calls _ _ ((rd_T57 l0 x3_1).f0) t63 _ ?s1 ?s2 A47.out).mono ?_
           (case s1 => exact cC_ (Kd.C_below HR59_0.out HB.out))
           (case s2 => exact HC59_0.out)
           rintro e w51 ⟨v73, rfl, ho0, hb⟩
           refine ⟨_, rfl, ?_⟩
           have HO61 := A_ (Kd.R_lower ho0 (below_size (bG_ GE58.out)))
           replace BK58 := A_ (bw_ BK58.out hb)
           replace HB := A_ (below_step (bG_ GE58.out) hb)
           clear hb ho0
           obtain ⟨Ao52, co52, eo52⟩ := Kd.R_slice HO61.out
           (first | subst eo52 | (injection eo52 with f1_ f2_ f3_; have f4_ := f1_.symm; have f5_ := f3_.symm; clear f1_ f2_ f3_; subst f4_; subst f5_))
           refine hK.out _ _ (hl_ BK58.out) (fun hHeld => ?_)
           clear hK K
           refine no_ (some 70) ?_
           refine on_ (i := 19) (N := some 71) (fun K hK => ?_)
           refine goes_ Try.func73 (by kernel_rfl) rfl #[.slice (some ad59) l0.length c0, .slice Ao52 t63.length co52] (by rfl) rfl rfl ml_ ?_
           with_reducible refine (spec_IsColl.calls kj3 _ _ l0 _ _ t63 true _ ?s1 ?s2 ?s3 ?s4 A48.out).mono ?_
           (case s1 => exact cC_ (Kd.C_below HR0.out HB.out))
           (case s2 => exact HC0.out)
           (case s3 => exact cC_ (Kd.R_reads' HO61.out).2.2)
           (case s4 => exact (Kd.R_reads' HO61.out).2.1)
           rintro e w' ⟨rfl, ⟨nd, rfl⟩⟩
           refine ⟨_, rfl, ?_⟩
           refine hK.out _ _ (hl_ BK58.out) (fun hHeld => ?_)
           clear hK K
           refine no_ (some 71) ?_
           refine pu_ (i := 20) (N := some 72) ?_
           refine pu_ (i := 21) (N := some 73) ?_
           refine done_ (done_of HT_.out (by kernel_rfl)) ?_
           (try clear hHeld)
           try go_wp2
           go_roundg kj3
           case measure => have := HK1.out; have := HJ3.out; omega
           case rel => exact ⟨(wrap64 (x3_1 + 1)), rs_, H', ⟨by have := HK1.out; have := HJ3.out; omega⟩, ⟨bG_ GE58.out⟩⟩
         . replace c49 := Bool.eq_false_iff.mpr c49
           subst c49
           rw [if_neg nf_] at H
           obtain rfl := si_ H
           try go_wp2
           replace BK58 := A_ (blk_drew BK58.out)
           replace HB := A_ (below_drew1 HB.out)
           refine st5_ (n := 22) (ds := []) (bl_ BK58.out 0) (bl_ BK58.out 1) (bl_ BK58.out 2) (bl_ BK58.out 3) (bl_ BK58.out 4) (fun hHeld => ?_); refine with_tabW spec_TreeOk.tab7 spec_TreeOk.bits7 (fun HT_ HW_ => ?_)
           generalize wc.drew = w53 at BK58 HB hHeld ⊢
           refine pu_ (i := 0) (N := some 52) ?_
           refine pu_ (i := 1) (N := some 53) ?_
           refine pu_ (i := 2) (N := some 54) ?_
           refine pn_ (i := 3) (N := some 55) ?_
           refine pn_ (i := 4) (N := some 56) ?_
           refine pn_ (i := 5) (N := some 57) ?_
           refine pn_ (i := 6) (N := some 58) ?_
           refine pn_ (i := 7) (N := some 59) ?_
           refine pn_ (i := 8) (N := some 60) ?_
           refine pn_ (i := 9) (N := some 61) ?_
           refine pn_ (i := 10) (N := some 62) ?_
           refine pn_ (i := 11) (N := some 63) ?_
           refine pn_ (i := 12) (N := some 64) ?_
           refine pu_ (i := 13) (N := some 65) ?_
           refine pu_ (i := 14) (N := some 66) ?_
           refine pu_ (i := 15) (N := some 67) ?_
           refine pu_ (i := 16) (N := some 68) ?_
           refine tk_ (i := 17) (N := some 69) hHeld ?_
           refine on_ (i := 18) (N := some 70) (fun K hK => ?_)
           refine goes_ Try.func74 (by kernel_rfl) rfl #[.slice A59_0 ((rd_T57 l0 x3_1).f0).length c59_0] (by rfl) rfl rfl ml_ ?_
           with_reducible refine (spec_Above.calls _ _ ((rd_T57 l0 x3_1).f0) t63 _ ?s1 ?s2 A47.out).mono ?_
           (case s1 => exact cC_ (Kd.C_below HR59_0.out HB.out))
           (case s2 => exact HC59_0.out)
           rintro e w54 ⟨v73, rfl, ho0, hb⟩
           refine ⟨_, rfl, ?_⟩
           have HO61 := A_ (Kd.R_lower ho0 (below_size (bG_ GE58.out)))
           replace BK58 := A_ (bw_ BK58.out hb)
           replace HB := A_ (below_step (bG_ GE58.out) hb)
           clear hb ho0
           obtain ⟨Ao55, co55, eo55⟩ := Kd.R_slice HO61.out
           (first | subst eo55 | (injection eo55 with f1_ f2_ f3_; have f4_ := f1_.symm; have f5_ := f3_.symm; clear f1_ f2_ f3_; subst f4_; subst f5_))
           refine hK.out _ _ (hl_ BK58.out) (fun hHeld => ?_)
           clear hK K
           refine no_ (some 70) ?_
           refine on_ (i := 19) (N := some 71) (fun K hK => ?_)
           refine goes_ Try.func73 (by kernel_rfl) rfl #[.slice (some ad59) l0.length c0, .slice Ao55 t63.length co55] (by rfl) rfl rfl ml_ ?_
           with_reducible refine (spec_IsColl.calls kj3 _ _ l0 _ _ t63 false _ ?s1 ?s2 ?s3 ?s4 A48.out).mono ?_
           (case s1 => exact cC_ (Kd.C_below HR0.out HB.out))
           (case s2 => exact HC0.out)
           (case s3 => exact cC_ (Kd.R_reads' HO61.out).2.2)
           (case s4 => exact (Kd.R_reads' HO61.out).2.1)
           rintro e w' ⟨rfl, ⟨nd, rfl⟩⟩
           refine ⟨_, rfl, ?_⟩
           refine hK.out _ _ (hl_ BK58.out) (fun hHeld => ?_)
           clear hK K
           refine no_ (some 71) ?_
           refine pu_ (i := 20) (N := some 72) ?_
           refine pu_ (i := 21) (N := some 73) ?_
           refine done_ (done_of HT_.out (by kernel_rfl)) ?_
           (try clear hHeld)
           try go_wp2
           go_ret
           exact ⟨rr_, bG_ GE58.out⟩
       rw [if_pos c31] at H
       have c31b0 : decide (0 < x3_1) = true := decide_eq_true c31
       clear c31
       obtain ⟨ji32, hji32⟩ : ∃ j_ : Int, (wrap64 (x3_1 - 1)) = j_ := ⟨_, rfl⟩
       replace H : (if 0 <= (ji32) then (if (ji32) < (l0.length : Int) then ((spec_LessPath.f kj3 ((rd_T57 l0 (ji32)).f0) ((rd_T57 l0 x3_1).f0)).bind fun t69 => (if t69 = true then ((spec_Above.f ((rd_T57 l0 x3_1).f0)).bind fun t60 => ((spec_IsColl.f kj3 l0 t60).bind fun t70 => (if t70 = true then (spec_TreeOk.l0 kj3 l0 (wrap64 (x3_1 + 1))) else (some false)))) else (some false))) else (none)) else (none)) = some r := by first | (rw [hji32] at H; exact H) | (simp only [hji32] at H ⊢; exact H)
       have hji32w : (IntKind.i64.wrap (x3_1 - 1)) = ji32 := (i64_w _).trans hji32
       by_cases c33 : 0 <= (ji32)
       rotate_left
       . exact absurd H (by rw [if_neg c33]; simp)
       rw [if_pos c33] at H
       have c33b0 := decide_eq_true c33
       clear c33
       by_cases c34 : (ji32) < (l0.length : Int)
       rotate_left
       . exact absurd H (by rw [if_neg c34]; simp)
       rw [if_pos c34] at H
       have c34b0 := decide_eq_true c34
       clear c34
       obtain ⟨t69, A35, H⟩ := bo_ H
       (try dsimp only at H)
       by_cases c36 : t69 = true
       . subst c36
         rw [if_pos rfl] at H
         obtain ⟨t60, A37, H⟩ := bo_ H
         (try dsimp only at H)
         obtain ⟨t70, A38, H⟩ := bo_ H
         (try dsimp only at H)
         by_cases c39 : t70 = true
         . subst c39
           rw [if_pos rfl] at H
           have H' := A_ H
           clear H
           try go_wp2
           replace BK58 := A_ (blk_drew BK58.out)
           replace HB := A_ (below_drew1 HB.out)
           have p56 : 0 <= ((ji32) : Int) := od_
           have q56 : (ji32) < (l0.length : Int) := od_
           obtain ⟨ad56, A56_0, c56_0, A56_4, c56_4, e56, hx56_0, hx56_1, hx56_2, hx56_3, hx56_4, hl56_0, hi56_0, hl56_4, hi56_4⟩ := at_T57 HR0.out (ji32) p56 q56
           have hw56_4 := hx56_4
           have hw56_3 := hx56_3
           have hw56_2 := hx56_2
           have hw56_1 := hx56_1
           have hw56_0 := hx56_0
           obtain rfl : ad59 = ad56 := (by injection e56)
           replace hx56_0 := bc_ HB.out hx56_0
           replace hx56_1 := bc_ HB.out hx56_1
           replace hx56_2 := bc_ HB.out hx56_2
           replace hx56_3 := bc_ HB.out hx56_3
           replace hx56_4 := bc_ HB.out hx56_4
           have HR56_0 := A_ hi56_0
           have HC56_0 := A_ hl56_0
           clear hi56_0 hl56_0
           clear hi56_4 hl56_4
           replace p56 := eq_true p56
           replace q56 := eq_true q56
           refine st10_ (n := 22) (ds := []) (bl_ BK58.out 0) (bl_ BK58.out 1) (bl_ BK58.out 2) (bl_ BK58.out 3) (bl_ BK58.out 4) (be_ hw56_0) (be_ hw56_1) (be_ hw56_2) (be_ hw56_3) (be_ hw56_4) (fun hHeld => ?_); refine with_tabW spec_TreeOk.tab7 spec_TreeOk.bits7 (fun HT_ HW_ => ?_)
           generalize wc.drew = w40 at BK58 HB HR56_0 hx56_0 hx56_1 hx56_2 hx56_3 hx56_4 hHeld ⊢
           refine pu_ (i := 0) (N := some 52) ?_
           refine pu_ (i := 1) (N := some 53) ?_
           refine pu_ (i := 2) (N := some 54) ?_
           refine pu_ (i := 3) (N := some 55) ?_
           refine pu_ (i := 4) (N := some 56) ?_
           refine pu_ (i := 5) (N := some 57) ?_
           refine pu_ (i := 6) (N := some 58) ?_
           refine pu_ (i := 7) (N := some 59) ?_
           refine pu_ (i := 9) (N := some 61) ?_
           refine tk_ (i := 8) (N := some 60) hHeld ?_
           refine tk_ (i := 10) (N := some 62) hHeld ?_
           refine on_ (i := 11) (N := some 63) (fun K hK => ?_)
           refine goes_ Try.func111 (by kernel_rfl) rfl #[.slice A56_0 ((rd_T57 l0 (ji32)).f0).length c56_0, .slice A59_0 ((rd_T57 l0 x3_1).f0).length c59_0] (by rfl) rfl rfl (by (try simp only [List.map_toArray, List.map_cons, List.map_nil]); first | done | (simp only [hji32]; rfl) | rfl | (simp only [List.length_drop, List.length_take]; rfl)) ?_
           with_reducible refine (spec_LessPath.calls kj3 _ _ ((rd_T57 l0 (ji32)).f0) _ _ ((rd_T57 l0 x3_1).f0) true _ ?s1 ?s2 ?s3 ?s4 A35.out).mono ?_
           (case s1 => exact cC_ (Kd.C_below HR56_0.out HB.out))
           (case s2 => exact HC56_0.out)
           (case s3 => exact cC_ (Kd.C_below HR59_0.out HB.out))
           (case s4 => exact HC59_0.out)
           rintro e w' ⟨rfl, ⟨nd, rfl⟩⟩
           refine ⟨_, rfl, ?_⟩
           refine hK.out _ _ ⟨bl_ BK58.out 0, bl_ BK58.out 1, bl_ BK58.out 2, bl_ BK58.out 3, bl_ BK58.out 4, (be_ hw56_0), (be_ hw56_1), (be_ hw56_2), (be_ hw56_3), (be_ hw56_4)⟩ (fun hHeld => ?_)
           clear hK K
           refine no_ (some 63) ?_
           refine pu_ (i := 12) (N := some 64) ?_
           refine pu_ (i := 13) (N := some 65) ?_
           refine pu_ (i := 14) (N := some 66) ?_
           refine pu_ (i := 15) (N := some 67) ?_
           refine pu_ (i := 16) (N := some 68) ?_
           refine tk_ (i := 17) (N := some 69) hHeld ?_
           refine on_ (i := 18) (N := some 70) (fun K hK => ?_)
           refine goes_ Try.func74 (by kernel_rfl) rfl #[.slice A59_0 ((rd_T57 l0 x3_1).f0).length c59_0] (by rfl) rfl rfl ml_ ?_
           with_reducible refine (spec_Above.calls _ _ ((rd_T57 l0 x3_1).f0) t60 _ ?s1 ?s2 A37.out).mono ?_
           (case s1 => exact cC_ (Kd.C_below HR59_0.out (bG_ GE58.out)))
           (case s2 => exact HC59_0.out)
           rintro e w41 ⟨v74, rfl, ho0, hb⟩
           refine ⟨_, rfl, ?_⟩
           have HO62 := A_ (Kd.R_lower ho0 (below_size (bG_ GE58.out)))
           replace BK58 := A_ (bw_ BK58.out hb)
           replace HB := A_ (below_step (bG_ GE58.out) hb)
           clear hb ho0
           obtain ⟨Ao42, co42, eo42⟩ := Kd.R_slice HO62.out
           (first | subst eo42 | (injection eo42 with f1_ f2_ f3_; have f4_ := f1_.symm; have f5_ := f3_.symm; clear f1_ f2_ f3_; subst f4_; subst f5_))
           refine hK.out _ _ ⟨bl_ BK58.out 0, bl_ BK58.out 1, bl_ BK58.out 2, bl_ BK58.out 3, bl_ BK58.out 4, (be_ hw56_0), (be_ hw56_1), (be_ hw56_2), (be_ hw56_3), (be_ hw56_4)⟩ (fun hHeld => ?_)
           clear hK K
           refine no_ (some 70) ?_
           refine on_ (i := 19) (N := some 71) (fun K hK => ?_)
           refine goes_ Try.func73 (by kernel_rfl) rfl #[.slice (some ad59) l0.length c0, .slice Ao42 t60.length co42] (by rfl) rfl rfl ml_ ?_
           with_reducible refine (spec_IsColl.calls kj3 _ _ l0 _ _ t60 true _ ?s1 ?s2 ?s3 ?s4 A38.out).mono ?_
           (case s1 => exact cC_ (Kd.C_below HR0.out HB.out))
           (case s2 => exact HC0.out)
           (case s3 => exact cC_ (Kd.R_reads' HO62.out).2.2)
           (case s4 => exact (Kd.R_reads' HO62.out).2.1)
           rintro e w' ⟨rfl, ⟨nd, rfl⟩⟩
           refine ⟨_, rfl, ?_⟩
           refine hK.out _ _ ⟨bl_ BK58.out 0, bl_ BK58.out 1, bl_ BK58.out 2, bl_ BK58.out 3, bl_ BK58.out 4, (be_ hw56_0), (be_ hw56_1), (be_ hw56_2), (be_ hw56_3), (be_ hw56_4)⟩ (fun hHeld => ?_)
           clear hK K
           refine no_ (some 71) ?_
           refine pu_ (i := 20) (N := some 72) ?_
           refine pu_ (i := 21) (N := some 73) ?_
           refine done_ (done_of HT_.out (by kernel_rfl)) ?_
           (try clear hHeld)
           try go_wp2
           go_roundg kj3
           case measure => have := HK1.out; have := HJ3.out; omega
           case rel => exact ⟨(wrap64 (x3_1 + 1)), rs_, H', ⟨by have := HK1.out; have := HJ3.out; omega⟩, ⟨bG_ GE58.out⟩⟩
         . replace c39 := Bool.eq_false_iff.mpr c39
           subst c39
           rw [if_neg nf_] at H
           obtain rfl := si_ H
           try go_wp2
           replace BK58 := A_ (blk_drew BK58.out)
           replace HB := A_ (below_drew1 HB.out)
           have p56 : 0 <= ((ji32) : Int) := od_
           have q56 : (ji32) < (l0.length : Int) := od_
           obtain ⟨ad56, A56_0, c56_0, A56_4, c56_4, e56, hx56_0, hx56_1, hx56_2, hx56_3, hx56_4, hl56_0, hi56_0, hl56_4, hi56_4⟩ := at_T57 HR0.out (ji32) p56 q56
           have hw56_4 := hx56_4
           have hw56_3 := hx56_3
           have hw56_2 := hx56_2
           have hw56_1 := hx56_1
           have hw56_0 := hx56_0
           obtain rfl : ad59 = ad56 := (by injection e56)
           replace hx56_0 := bc_ HB.out hx56_0
           replace hx56_1 := bc_ HB.out hx56_1
           replace hx56_2 := bc_ HB.out hx56_2
           replace hx56_3 := bc_ HB.out hx56_3
           replace hx56_4 := bc_ HB.out hx56_4
           have HR56_0 := A_ hi56_0
           have HC56_0 := A_ hl56_0
           clear hi56_0 hl56_0
           clear hi56_4 hl56_4
           replace p56 := eq_true p56
           replace q56 := eq_true q56
           refine st10_ (n := 22) (ds := []) (bl_ BK58.out 0) (bl_ BK58.out 1) (bl_ BK58.out 2) (bl_ BK58.out 3) (bl_ BK58.out 4) (be_ hw56_0) (be_ hw56_1) (be_ hw56_2) (be_ hw56_3) (be_ hw56_4) (fun hHeld => ?_); refine with_tabW spec_TreeOk.tab7 spec_TreeOk.bits7 (fun HT_ HW_ => ?_)
           generalize wc.drew = w43 at BK58 HB HR56_0 hx56_0 hx56_1 hx56_2 hx56_3 hx56_4 hHeld ⊢
           refine pu_ (i := 0) (N := some 52) ?_
           refine pu_ (i := 1) (N := some 53) ?_
           refine pu_ (i := 2) (N := some 54) ?_
           refine pu_ (i := 3) (N := some 55) ?_
           refine pu_ (i := 4) (N := some 56) ?_
           refine pu_ (i := 5) (N := some 57) ?_
           refine pu_ (i := 6) (N := some 58) ?_
           refine pu_ (i := 7) (N := some 59) ?_
           refine pu_ (i := 9) (N := some 61) ?_
           refine tk_ (i := 8) (N := some 60) hHeld ?_
           refine tk_ (i := 10) (N := some 62) hHeld ?_
           refine on_ (i := 11) (N := some 63) (fun K hK => ?_)
           refine goes_ Try.func111 (by kernel_rfl) rfl #[.slice A56_0 ((rd_T57 l0 (ji32)).f0).length c56_0, .slice A59_0 ((rd_T57 l0 x3_1).f0).length c59_0] (by rfl) rfl rfl (by (try simp only [List.map_toArray, List.map_cons, List.map_nil]); first | done | (simp only [hji32]; rfl) | rfl | (simp only [List.length_drop, List.length_take]; rfl)) ?_
           with_reducible refine (spec_LessPath.calls kj3 _ _ ((rd_T57 l0 (ji32)).f0) _ _ ((rd_T57 l0 x3_1).f0) true _ ?s1 ?s2 ?s3 ?s4 A35.out).mono ?_
           (case s1 => exact cC_ (Kd.C_below HR56_0.out HB.out))
           (case s2 => exact HC56_0.out)
           (case s3 => exact cC_ (Kd.C_below HR59_0.out HB.out))
           (case s4 => exact HC59_0.out)
           rintro e w' ⟨rfl, ⟨nd, rfl⟩⟩
           refine ⟨_, rfl, ?_⟩
           refine hK.out _ _ ⟨bl_ BK58.out 0, bl_ BK58.out 1, bl_ BK58.out 2, bl_ BK58.out 3, bl_ BK58.out 4, (be_ hw56_0), (be_ hw56_1), (be_ hw56_2), (be_ hw56_3), (be_ hw56_4)⟩ (fun hHeld => ?_)
           clear hK K
           refine no_ (some 63) ?_
           refine pu_ (i := 12) (N := some 64) ?_
           refine pu_ (i := 13) (N := some 65) ?_
           refine pu_ (i := 14) (N := some 66) ?_
           refine pu_ (i := 15) (N := some 67) ?_
           refine pu_ (i := 16) (N := some 68) ?_
           refine tk_ (i := 17) (N := some 69) hHeld ?_
           refine on_ (i := 18) (N := some 70) (fun K hK => ?_)
           refine goes_ Try.func74 (by kernel_rfl) rfl #[.slice A59_0 ((rd_T57 l0 x3_1).f0).length c59_0] (by rfl) rfl rfl ml_ ?_
           with_reducible refine (spec_Above.calls _ _ ((rd_T57 l0 x3_1).f0) t60 _ ?s1 ?s2 A37.out).mono ?_
           (case s1 => exact cC_ (Kd.C_below HR59_0.out (bG_ GE58.out)))
           (case s2 => exact HC59_0.out)
           rintro e w44 ⟨v74, rfl, ho0, hb⟩
           refine ⟨_, rfl, ?_⟩
           have HO62 := A_ (Kd.R_lower ho0 (below_size (bG_ GE58.out)))
           replace BK58 := A_ (bw_ BK58.out hb)
           replace HB := A_ (below_step (bG_ GE58.out) hb)
           clear hb ho0
           obtain ⟨Ao45, co45, eo45⟩ := Kd.R_slice HO62.out
           (first | subst eo45 | (injection eo45 with f1_ f2_ f3_; have f4_ := f1_.symm; have f5_ := f3_.symm; clear f1_ f2_ f3_; subst f4_; subst f5_))
           refine hK.out _ _ ⟨bl_ BK58.out 0, bl_ BK58.out 1, bl_ BK58.out 2, bl_ BK58.out 3, bl_ BK58.out 4, (be_ hw56_0), (be_ hw56_1), (be_ hw56_2), (be_ hw56_3), (be_ hw56_4)⟩ (fun hHeld => ?_)
           clear hK K
           refine no_ (some 70) ?_
           refine on_ (i := 19) (N := some 71) (fun K hK => ?_)
           refine goes_ Try.func73 (by kernel_rfl) rfl #[.slice (some ad59) l0.length c0, .slice Ao45 t60.length co45] (by rfl) rfl rfl ml_ ?_
           with_reducible refine (spec_IsColl.calls kj3 _ _ l0 _ _ t60 false _ ?s1 ?s2 ?s3 ?s4 A38.out).mono ?_
           (case s1 => exact cC_ (Kd.C_below HR0.out HB.out))
           (case s2 => exact HC0.out)
           (case s3 => exact cC_ (Kd.R_reads' HO62.out).2.2)
           (case s4 => exact (Kd.R_reads' HO62.out).2.1)
           rintro e w' ⟨rfl, ⟨nd, rfl⟩⟩
           refine ⟨_, rfl, ?_⟩
           refine hK.out _ _ ⟨bl_ BK58.out 0, bl_ BK58.out 1, bl_ BK58.out 2, bl_ BK58.out 3, bl_ BK58.out 4, (be_ hw56_0), (be_ hw56_1), (be_ hw56_2), (be_ hw56_3), (be_ hw56_4)⟩ (fun hHeld => ?_)
           clear hK K
           refine no_ (some 71) ?_
           refine pu_ (i := 20) (N := some 72) ?_
           refine pu_ (i := 21) (N := some 73) ?_
           refine done_ (done_of HT_.out (by kernel_rfl)) ?_
           (try clear hHeld)
           try go_wp2
           go_ret
           exact ⟨by first | rfl | (simp [errW_none, errW_some] <;> rfl) | (simp only [← hji32]; first | rfl | (simp [errW_none, errW_some] <;> rfl)) | (simp [*, errW_none, errW_some] <;> rfl), bG_ GE58.out⟩
       . replace c36 := Bool.eq_false_iff.mpr c36
         subst c36
         rw [if_neg nf_] at H
         obtain rfl := si_ H
         try go_wp2
         replace BK58 := A_ (blk_drew BK58.out)
         replace HB := A_ (below_drew1 HB.out)
         have p56 : 0 <= ((ji32) : Int) := od_
         have q56 : (ji32) < (l0.length : Int) := od_
         obtain ⟨ad56, A56_0, c56_0, A56_4, c56_4, e56, hx56_0, hx56_1, hx56_2, hx56_3, hx56_4, hl56_0, hi56_0, hl56_4, hi56_4⟩ := at_T57 HR0.out (ji32) p56 q56
         have hw56_4 := hx56_4
         have hw56_3 := hx56_3
         have hw56_2 := hx56_2
         have hw56_1 := hx56_1
         have hw56_0 := hx56_0
         obtain rfl : ad59 = ad56 := (by injection e56)
         replace hx56_0 := bc_ HB.out hx56_0
         replace hx56_1 := bc_ HB.out hx56_1
         replace hx56_2 := bc_ HB.out hx56_2
         replace hx56_3 := bc_ HB.out hx56_3
         replace hx56_4 := bc_ HB.out hx56_4
         have HR56_0 := A_ hi56_0
         have HC56_0 := A_ hl56_0
         clear hi56_0 hl56_0
         clear hi56_4 hl56_4
         replace p56 := eq_true p56
         replace q56 := eq_true q56
         refine st10_ (n := 22) (ds := []) (bl_ BK58.out 0) (bl_ BK58.out 1) (bl_ BK58.out 2) (bl_ BK58.out 3) (bl_ BK58.out 4) (be_ hw56_0) (be_ hw56_1) (be_ hw56_2) (be_ hw56_3) (be_ hw56_4) (fun hHeld => ?_); refine with_tabW spec_TreeOk.tab7 spec_TreeOk.bits7 (fun HT_ HW_ => ?_)
         generalize wc.drew = w46 at BK58 HB HR56_0 hx56_0 hx56_1 hx56_2 hx56_3 hx56_4 hHeld ⊢
         refine pu_ (i := 0) (N := some 52) ?_
         refine pu_ (i := 1) (N := some 53) ?_
         refine pu_ (i := 2) (N := some 54) ?_
         refine pu_ (i := 3) (N := some 55) ?_
         refine pu_ (i := 4) (N := some 56) ?_
         refine pu_ (i := 5) (N := some 57) ?_
         refine pu_ (i := 6) (N := some 58) ?_
         refine pu_ (i := 7) (N := some 59) ?_
         refine pu_ (i := 9) (N := some 61) ?_
         refine tk_ (i := 8) (N := some 60) hHeld ?_
         refine tk_ (i := 10) (N := some 62) hHeld ?_
         refine on_ (i := 11) (N := some 63) (fun K hK => ?_)
         refine goes_ Try.func111 (by kernel_rfl) rfl #[.slice A56_0 ((rd_T57 l0 (ji32)).f0).length c56_0, .slice A59_0 ((rd_T57 l0 x3_1).f0).length c59_0] (by rfl) rfl rfl (by (try simp only [List.map_toArray, List.map_cons, List.map_nil]); first | done | (simp only [hji32]; rfl) | rfl | (simp only [List.length_drop, List.length_take]; rfl)) ?_
         with_reducible refine (spec_LessPath.calls kj3 _ _ ((rd_T57 l0 (ji32)).f0) _ _ ((rd_T57 l0 x3_1).f0) false _ ?s1 ?s2 ?s3 ?s4 A35.out).mono ?_
         (case s1 => exact cC_ (Kd.C_below HR56_0.out HB.out))
         (case s2 => exact HC56_0.out)
         (case s3 => exact cC_ (Kd.C_below HR59_0.out HB.out))
         (case s4 => exact HC59_0.out)
         rintro e w' ⟨rfl, ⟨nd, rfl⟩⟩
         refine ⟨_, rfl, ?_⟩
         refine hK.out _ _ ⟨bl_ BK58.out 0, bl_ BK58.out 1, bl_ BK58.out 2, bl_ BK58.out 3, bl_ BK58.out 4, (be_ hw56_0), (be_ hw56_1), (be_ hw56_2), (be_ hw56_3), (be_ hw56_4)⟩ (fun hHeld => ?_)
         clear hK K
         refine no_ (some 63) ?_
         refine pu_ (i := 12) (N := some 64) ?_
         refine pu_ (i := 13) (N := some 65) ?_
         refine pu_ (i := 14) (N := some 66) ?_
         refine pn_ (i := 15) (N := some 67) ?_
         refine pn_ (i := 16) (N := some 68) ?_
         refine pn_ (i := 17) (N := some 69) ?_
         refine pn_ (i := 18) (N := some 70) ?_
         refine pn_ (i := 19) (N := some 71) ?_
         refine pn_ (i := 20) (N := some 72) ?_
         refine pu_ (i := 21) (N := some 73) ?_
         refine done_ (done_of HT_.out (by kernel_rfl)) ?_
         (try clear hHeld)
         try go_wp2
         go_ret
         exact ⟨by first | rfl | (simp [errW_none, errW_some] <;> rfl) | (simp only [← hji32]; first | rfl | (simp [errW_none, errW_some] <;> rfl)) | (simp [*, errW_none, errW_some] <;> rfl), bG_ GE58.out⟩
end Go.Proofs.Ytbgggcgjijljkaa.Q
