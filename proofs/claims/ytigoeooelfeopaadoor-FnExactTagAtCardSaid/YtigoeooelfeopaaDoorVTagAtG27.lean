-- PRINTED by print.py (a twelfth state) out of the translation. Not trusted: Lean checks it.
import Derived.Test.YtigoeooelfeopaaDoorVTagAtG26
import Derived.Deep.Slices
import Derived.WideShapes
import Derived.Laws.Strings
namespace Go.Proofs.YtigoeooelfeopaaDoor.Q
open Go.RowKit Go.Proofs.YtigoeooelfeopaaDoorW.PrintWords Go.Proofs.YtigoeooelfeopaaDoorW.PrintLast Go.Proofs.YtigoeooelfeopaaDoorW.PrintMore
attribute [local go_sem] max2_int min2_int max_two min_two max_three min_three max_four min_four   -- for this text's walks alone
set_option linter.unusedVariables false
set_option linter.unusedSimpArgs false
def laws_FnExactTagAt.j0 : Nat → List ByteArray → List ByteArray → Bool → List (S93) → List (S96) → Int → Int → List Int → List Int → List (S67) → List (S98) → Int → Int → List Int → List Int → Option (Bool)
 | 0, _, _, _, _, _, _, _, _, _, _, _, _, _, _, _ => none
 | k + 1, x1, x9, x47, x339000, x339001, x339002, x339003, x339004, x339005, x375000, x375001, x375002, x375003, x375004, x375005 => if x47 = true then (some false) else ((laws_toSrv.f k x339000 x339001 x339002 x339003 x339004 x339005).bind fun bt380 => ((laws_eqSrv.f k x375000 x375001 x375002 x375003 x375004 x375005 bt380.1 bt380.2.1 bt380.2.2.1 bt380.2.2.2.1 bt380.2.2.2.2.1 bt380.2.2.2.2.2).bind fun t394 => (if t394 = true then ((laws_toStringS.f k x1).bind fun t395 => ((laws_eqStringS.f k x9 t395).bind fun t398 => (if t398 = true then (some true) else (some false)))) else (some false))))
def laws_FnExactTagAt.f (k : Nat) (l0_0 : List (S93)) (l0_1 : List (S96)) (a0_2 : Int) (a0_3 : Int) (l0_4 : List Int) (l0_5 : List Int) (l1 : List ByteArray) : Option (Bool) := (laws_szSrv.f k l0_0 l0_1 a0_2 a0_3 l0_4 l0_5 1048576).bind fun t339 => (if t339 < 0 then (some true) else ((laws_szStringS.f k l1 t339).bind fun t340 => (if t340 < 0 then (some true) else ((laws_toSrv.f k l0_0 l0_1 a0_2 a0_3 l0_4 l0_5).bind fun bt341 => ((laws_toStringS.f k l1).bind fun t355 => ((spec_TagAt.f k bt341.1 bt341.2.1 bt341.2.2.1 bt341.2.2.2.1 bt341.2.2.2.2.1 bt341.2.2.2.2.2 t355).bind fun bt358 => ((laws_toSrv.f k l0_0 l0_1 a0_2 a0_3 l0_4 l0_5).bind fun bt360 => ((laws_toStringS.f k l1).bind fun t375 => ((impl_TagAt.f k bt360.1 bt360.2.1 bt360.2.2.1 bt360.2.2.2.1 bt360.2.2.2.2.1 bt360.2.2.2.2.2 t375).bind fun bt378 => (if bt378.1.toList = bt358.1.toList then (laws_FnExactTagAt.j0 k l1 t375 (bt378.2 != bt358.2) l0_0 l0_1 a0_2 a0_3 l0_4 l0_5 bt360.1 bt360.2.1 bt360.2.2.1 bt360.2.2.2.1 bt360.2.2.2.2.1 bt360.2.2.2.2.2) else (laws_FnExactTagAt.j0 k l1 t375 true l0_0 l0_1 a0_2 a0_3 l0_4 l0_5 bt360.1 bt360.2.1 bt360.2.2.1 bt360.2.2.2.1 bt360.2.2.2.2.1 bt360.2.2.2.2.2)))))))))))
set_option maxHeartbeats 8000000 in
set_option maxRecDepth 100000 in
theorem laws_FnExactTagAt.calls (k : Nat) (A0_0 : Option Addr) (c0_0 : Nat) (l0_0 : List (S93)) (A0_1 : Option Addr) (c0_1 : Nat) (l0_1 : List (S96)) (a0_2 : Int) (a0_3 : Int) (A0_4 : Option Addr) (c0_4 : Nat) (l0_4 : List Int) (A0_5 : Option Addr) (c0_5 : Nat) (l0_5 : List Int) (A1 : Option Addr) (c1 : Nat) (l1 : List ByteArray) (r : Bool) (w : World) (hr0_0 : Kd.C k93 w A0_0 l0_0.length l0_0) (hc0_0 : l0_0.length ≤ c0_0) (hr0_1 : Kd.C k96 w A0_1 l0_1.length l0_1) (hc0_1 : l0_1.length ≤ c0_1) (hr0_4 : Kd.C (Kd.int .i64) w A0_4 l0_4.length l0_4) (hc0_4 : l0_4.length ≤ c0_4) (hr0_5 : Kd.C (Kd.int .i64) w A0_5 l0_5.length l0_5) (hc0_5 : l0_5.length ≤ c0_5) (hr1 : Kd.C Kd.string w A1 l1.length l1) (hc1 : l1.length ≤ c1) (hGT : GT w) (h : laws_FnExactTagAt.f k l0_0 l0_1 a0_2 a0_3 l0_4 l0_5 l1 = some r) :
 Calls Tryd.prog 6 #[.agg #[.slice A0_0 l0_0.length c0_0, .slice A0_1 l0_1.length c0_1, .int .i64 a0_2, .int .i64 a0_3, .slice A0_4 l0_4.length c0_4, .slice A0_5 l0_5.length c0_5], .slice A1 l1.length c1] w fun e w' => e = .returned (.bool r) ∧ Below w.heap.size w w' := by
 have HGT := A_ hGT
 clear hGT
 have hu35 := Tryd.underlying35
 have hu42 := Tryd.underlying42
 have HR0_0 := A_ hr0_0
 have HC0_0 := A_ hc0_0
 clear hr0_0 hc0_0
 have HR0_1 := A_ hr0_1
 have HC0_1 := A_ hc0_1
 clear hr0_1 hc0_1
 have HR0_4 := A_ hr0_4
 have HC0_4 := A_ hc0_4
 clear hr0_4 hc0_4
 have HR0_5 := A_ hr0_5
 have HC0_5 := A_ hc0_5
 clear hr0_5 hc0_5
 have HR1 := A_ hr1
 have HC1 := A_ hc1
 clear hr1 hc1
 have HB := A_ (Below.refl w.heap.size w)
 have H : ((laws_szSrv.f k l0_0 l0_1 a0_2 a0_3 l0_4 l0_5 1048576).bind fun t339 => (if t339 < 0 then (some true) else ((laws_szStringS.f k l1 t339).bind fun t340 => (if t340 < 0 then (some true) else ((laws_toSrv.f k l0_0 l0_1 a0_2 a0_3 l0_4 l0_5).bind fun bt341 => ((laws_toStringS.f k l1).bind fun t355 => ((spec_TagAt.f k bt341.1 bt341.2.1 bt341.2.2.1 bt341.2.2.2.1 bt341.2.2.2.2.1 bt341.2.2.2.2.2 t355).bind fun bt358 => ((laws_toSrv.f k l0_0 l0_1 a0_2 a0_3 l0_4 l0_5).bind fun bt360 => ((laws_toStringS.f k l1).bind fun t375 => ((impl_TagAt.f k bt360.1 bt360.2.1 bt360.2.2.1 bt360.2.2.2.1 bt360.2.2.2.2.1 bt360.2.2.2.2.2 t375).bind fun bt378 => (if bt378.1.toList = bt358.1.toList then (laws_FnExactTagAt.j0 k l1 t375 (bt378.2 != bt358.2) l0_0 l0_1 a0_2 a0_3 l0_4 l0_5 bt360.1 bt360.2.1 bt360.2.2.1 bt360.2.2.2.1 bt360.2.2.2.2.1 bt360.2.2.2.2.2) else (laws_FnExactTagAt.j0 k l1 t375 true l0_0 l0_1 a0_2 a0_3 l0_4 l0_5 bt360.1 bt360.2.1 bt360.2.2.1 bt360.2.2.2.1 bt360.2.2.2.2.1 bt360.2.2.2.2.2)))))))))))) = some r := h
 clear h
 obtain ⟨t339, A3, H⟩ := bo_ H
 (try dsimp only at H)
 by_cases c4 : t339 < 0
 · rw [if_pos c4] at H
   have c4b0 : decide (t339 < 0) = true := decide_eq_true c4
   clear c4
   obtain rfl := si_ H
   go_enter Tryd.func6, Tryd.ntmps6
   go_wp2_with (first | ((with_reducible refine gd_ (N := 2) rfl ?_); refine bx_ (N := 2) (cs := #[.slice A0_0 l0_0.length c0_0, .slice A0_1 l0_1.length c0_1, .int .i64 a0_2, .int .i64 a0_3, .slice A0_4 l0_4.length c0_4, .slice A0_5 l0_5.length c0_5]) (t := 35) ?_; intro gb338 hg w5 hbox hb; have BK338 := A_ (hbox); have GW338 := A_ (ge_ hg bB_ : w.heap.size ≤ gb338); have GE338 := A_ (ge_ hg bB_ : w.heap.size ≤ gb338); replace HB := A_ (below_step bB_ hb); clear hb hbox hg; obtain ⟨hcz6_0, hcz6_1, hcz6_2, hcz6_3, hcz6_4, hcz6_5, hfz6_0, hfz6_1, hfz6_2, hfz6_3, hfz6_4, hfz6_5⟩ := cz6_ BK338.out) | ((with_reducible refine gc_ (f := 17) rfl ?_); refine gL_ (some 14) Tryd.func17 #[.agg #[.slice A0_0 l0_0.length c0_0, .slice A0_1 l0_1.length c0_1, .int .i64 a0_2, .int .i64 a0_3, .slice A0_4 l0_4.length c0_4, .slice A0_5 l0_5.length c0_5], .int .i64 1048576] ?_; (with_reducible refine (laws_szSrv.calls k _ _ l0_0 _ _ l0_1 a0_2 a0_3 _ _ l0_4 _ _ l0_5 1048576 t339 _ ?s1 ?s2 ?s3 ?s4 ?s5 ?s6 ?s7 ?s8 A3.out).mono ?_); (case s1 => exact cC_ (Kd.C_below HR0_0.out HB.out)); (case s2 => exact HC0_0.out); (case s3 => exact cC_ (Kd.C_below HR0_1.out HB.out)); (case s4 => exact HC0_1.out); (case s5 => exact cC_ (Kd.C_below HR0_4.out HB.out)); (case s6 => exact HC0_4.out); (case s7 => exact cC_ (Kd.C_below HR0_5.out HB.out)); (case s8 => exact HC0_5.out); rintro e w7 ⟨rfl, hb⟩; refine ⟨_, rfl, ?_⟩; replace BK338 := A_ (bw_ BK338.out hb); replace HB := A_ (below_step (bG_ GE338.out) hb); (try clear hb)))
   go_ret
   exact ⟨rr_, bG_ GE338.out⟩
 rw [if_neg c4] at H
 have c4b0 : decide (t339 < 0) = false := decide_eq_false c4
 clear c4
 obtain ⟨t340, A8, H⟩ := bo_ H
 (try dsimp only at H)
 by_cases c9 : t340 < 0
 · rw [if_pos c9] at H
   have c9b0 : decide (t340 < 0) = true := decide_eq_true c9
   clear c9
   obtain rfl := si_ H
   go_enter Tryd.func6, Tryd.ntmps6
   go_wp2_with (first | ((with_reducible refine gd_ (N := 2) rfl ?_); refine bx_ (N := 2) (cs := #[.slice A0_0 l0_0.length c0_0, .slice A0_1 l0_1.length c0_1, .int .i64 a0_2, .int .i64 a0_3, .slice A0_4 l0_4.length c0_4, .slice A0_5 l0_5.length c0_5]) (t := 35) ?_; intro gb338 hg w10 hbox hb; have BK338 := A_ (hbox); have GW338 := A_ (ge_ hg bB_ : w.heap.size ≤ gb338); have GE338 := A_ (ge_ hg bB_ : w.heap.size ≤ gb338); replace HB := A_ (below_step bB_ hb); clear hb hbox hg; obtain ⟨hcz11_0, hcz11_1, hcz11_2, hcz11_3, hcz11_4, hcz11_5, hfz11_0, hfz11_1, hfz11_2, hfz11_3, hfz11_4, hfz11_5⟩ := cz6_ BK338.out) | ((with_reducible refine gc_ (f := 17) rfl ?_); refine gL_ (some 14) Tryd.func17 #[.agg #[.slice A0_0 l0_0.length c0_0, .slice A0_1 l0_1.length c0_1, .int .i64 a0_2, .int .i64 a0_3, .slice A0_4 l0_4.length c0_4, .slice A0_5 l0_5.length c0_5], .int .i64 1048576] ?_; (with_reducible refine (laws_szSrv.calls k _ _ l0_0 _ _ l0_1 a0_2 a0_3 _ _ l0_4 _ _ l0_5 1048576 t339 _ ?s1 ?s2 ?s3 ?s4 ?s5 ?s6 ?s7 ?s8 A3.out).mono ?_); (case s1 => exact cC_ (Kd.C_below HR0_0.out HB.out)); (case s2 => exact HC0_0.out); (case s3 => exact cC_ (Kd.C_below HR0_1.out HB.out)); (case s4 => exact HC0_1.out); (case s5 => exact cC_ (Kd.C_below HR0_4.out HB.out)); (case s6 => exact HC0_4.out); (case s7 => exact cC_ (Kd.C_below HR0_5.out HB.out)); (case s8 => exact HC0_5.out); rintro e w12 ⟨rfl, hb⟩; refine ⟨_, rfl, ?_⟩; replace BK338 := A_ (bw_ BK338.out hb); replace HB := A_ (below_step (bG_ GE338.out) hb); (try clear hb)) | ((with_reducible refine gc_ (f := 18) rfl ?_); refine gL_ (some 19) Tryd.func18 #[.slice A1 l1.length c1, .int .i64 t339] ?_; (with_reducible refine (laws_szStringS.calls k _ _ l1 t339 t340 _ ?s1 ?s2 A8.out).mono ?_); (case s1 => exact cC_ (Kd.C_below HR1.out HB.out)); (case s2 => exact HC1.out); rintro e w' ⟨rfl, ⟨nd, rfl⟩⟩; refine ⟨_, rfl, ?_⟩))
   go_ret
   exact ⟨rr_, bG_ GE338.out⟩
 rw [if_neg c9] at H
 have c9b0 : decide (t340 < 0) = false := decide_eq_false c9
 clear c9
 obtain ⟨⟨t341, t344, t347, t348, t349, t352⟩, A13, H⟩ := bo_ H
 (try dsimp only at H)
 obtain ⟨t355, A14, H⟩ := bo_ H
 (try dsimp only at H)
 obtain ⟨⟨t358, t359⟩, A15, H⟩ := bo_ H
 (try dsimp only at H)
 obtain ⟨⟨t360, t363, t366, t367, t368, t371⟩, A16, H⟩ := bo_ H
 (try dsimp only at H)
 obtain ⟨t375, A17, H⟩ := bo_ H
 (try dsimp only at H)
 obtain ⟨⟨t378, t379⟩, A18, H⟩ := bo_ H
 (try dsimp only at H)
 have HC19 := A_ H
 clear H
 go_enter Tryd.func6, Tryd.ntmps6
 go_upto_region 12 with (first | ((with_reducible refine gd_ (N := 2) rfl ?_); refine bx_ (N := 2) (cs := #[.slice A0_0 l0_0.length c0_0, .slice A0_1 l0_1.length c0_1, .int .i64 a0_2, .int .i64 a0_3, .slice A0_4 l0_4.length c0_4, .slice A0_5 l0_5.length c0_5]) (t := 35) ?_; intro gb338 hg w20 hbox hb; have BK338 := A_ (hbox); have GW338 := A_ (ge_ hg bB_ : w.heap.size ≤ gb338); have GE338 := A_ (ge_ hg bB_ : w.heap.size ≤ gb338); replace HB := A_ (below_step bB_ hb); clear hb hbox hg; obtain ⟨hcz21_0, hcz21_1, hcz21_2, hcz21_3, hcz21_4, hcz21_5, hfz21_0, hfz21_1, hfz21_2, hfz21_3, hfz21_4, hfz21_5⟩ := cz6_ BK338.out) | ((with_reducible refine gc_ (f := 17) rfl ?_); refine gL_ (some 14) Tryd.func17 #[.agg #[.slice A0_0 l0_0.length c0_0, .slice A0_1 l0_1.length c0_1, .int .i64 a0_2, .int .i64 a0_3, .slice A0_4 l0_4.length c0_4, .slice A0_5 l0_5.length c0_5], .int .i64 1048576] ?_; (with_reducible refine (laws_szSrv.calls k _ _ l0_0 _ _ l0_1 a0_2 a0_3 _ _ l0_4 _ _ l0_5 1048576 t339 _ ?s1 ?s2 ?s3 ?s4 ?s5 ?s6 ?s7 ?s8 A3.out).mono ?_); (case s1 => exact cC_ (Kd.C_below HR0_0.out HB.out)); (case s2 => exact HC0_0.out); (case s3 => exact cC_ (Kd.C_below HR0_1.out HB.out)); (case s4 => exact HC0_1.out); (case s5 => exact cC_ (Kd.C_below HR0_4.out HB.out)); (case s6 => exact HC0_4.out); (case s7 => exact cC_ (Kd.C_below HR0_5.out HB.out)); (case s8 => exact HC0_5.out); rintro e w22 ⟨rfl, hb⟩; refine ⟨_, rfl, ?_⟩; replace BK338 := A_ (bw_ BK338.out hb); replace HB := A_ (below_step (bG_ GE338.out) hb); (try clear hb)) | ((with_reducible refine gc_ (f := 18) rfl ?_); refine gL_ (some 19) Tryd.func18 #[.slice A1 l1.length c1, .int .i64 t339] ?_; (with_reducible refine (laws_szStringS.calls k _ _ l1 t339 t340 _ ?s1 ?s2 A8.out).mono ?_); (case s1 => exact cC_ (Kd.C_below HR1.out HB.out)); (case s2 => exact HC1.out); rintro e w' ⟨rfl, ⟨nd, rfl⟩⟩; refine ⟨_, rfl, ?_⟩; (try (rw [drewN_self w22]; generalize hq_ : World.drewN w22 _ = w22; have n0_ : Aside0 (w22.heap[gb338]? = some (.cells #[.slice A0_0 l0_0.length c0_0, .slice A0_1 l0_1.length c0_1, .int .i64 a0_2, .int .i64 a0_3, .slice A0_4 l0_4.length c0_4, .slice A0_5 l0_5.length c0_5] 35 (0, 0))) := ⟨by rw [← hq_]; exact (vb_ BK338.out)⟩; have n1_ : Aside0 (Below w.heap.size w w22) := ⟨by rw [← hq_]; exact (bG_ GE338.out)⟩; clear BK338 HB hq_; have BK338 := n0_; have HB := n1_; clear n0_ n1_)); obtain ⟨hcz23_0, hcz23_1, hcz23_2, hcz23_3, hcz23_4, hcz23_5, hfz23_0, hfz23_1, hfz23_2, hfz23_3, hfz23_4, hfz23_5⟩ := cz6_ BK338.out) | ((with_reducible refine gc_ (f := 20) rfl ?_); refine gL_ (some 24) Tryd.func20 #[.agg #[.slice A0_0 l0_0.length c0_0, .slice A0_1 l0_1.length c0_1, .int .i64 a0_2, .int .i64 a0_3, .slice A0_4 l0_4.length c0_4, .slice A0_5 l0_5.length c0_5]] ?_; (with_reducible refine (laws_toSrv.calls k _ _ l0_0 _ _ l0_1 a0_2 a0_3 _ _ l0_4 _ _ l0_5 t341 t344 t347 t348 t349 t352 _ ?s1 ?s2 ?s3 ?s4 ?s5 ?s6 ?s7 ?s8 A13.out).mono ?_); (case s1 => exact cC_ (Kd.C_below HR0_0.out HB.out)); (case s2 => exact HC0_0.out); (case s3 => exact cC_ (Kd.C_below HR0_1.out HB.out)); (case s4 => exact HC0_1.out); (case s5 => exact cC_ (Kd.C_below HR0_4.out HB.out)); (case s6 => exact HC0_4.out); (case s7 => exact cC_ (Kd.C_below HR0_5.out HB.out)); (case s8 => exact HC0_5.out); rintro e w24 ⟨v342, v345, v350, v353, rfl, ho0, ho1, ho2, ho3, hb⟩; refine ⟨_, rfl, ?_⟩; have HO343 := A_ (Kd.S_lower ho0 (below_size (bG_ GE338.out))); have HO346 := A_ (Kd.S_lower ho1 (below_size (bG_ GE338.out))); have HO351 := A_ (Kd.R_lower ho2 (below_size (bG_ GE338.out))); have HO354 := A_ (Kd.R_lower ho3 (below_size (bG_ GE338.out))); replace BK338 := A_ (bw_ BK338.out hb); replace HB := A_ (below_step (bG_ GE338.out) hb); (try clear hb); (try clear ho0); (try clear ho1); (try clear ho2); (try clear ho3)) | ((with_reducible refine gc_ (f := 21) rfl ?_); refine gL_ (some 26) Tryd.func21 #[.slice A1 l1.length c1] ?_; (with_reducible refine (laws_toStringS.calls k _ _ l1 t355 _ ?s1 ?s2 A14.out).mono ?_); (case s1 => exact cC_ (Kd.C_below HR1.out HB.out)); (case s2 => exact HC1.out); rintro e w25 ⟨v356, rfl, ho0, hb⟩; refine ⟨_, rfl, ?_⟩; replace HO343 := A_ (Kd.S_elder' (vS_ HO343.out) (kb_ ho0) hb); replace HO346 := A_ (Kd.S_elder' (vS_ HO346.out) (kb_ ho0) hb); replace HO351 := A_ (Kd.R_below (vR_ HO351.out) hb); replace HO354 := A_ (Kd.R_below (vR_ HO354.out) hb); have HO357 := A_ (Kd.R_lower ho0 (below_size (bG_ GE338.out))); replace BK338 := A_ (bw_ BK338.out hb); replace HB := A_ (below_step (bG_ GE338.out) hb); (try clear hb); (try clear ho0); obtain ⟨Ao26, co26, eo26⟩ := Kd.S_slice HO343.out; subst eo26; obtain ⟨Ao27, co27, eo27⟩ := Kd.S_slice HO346.out; subst eo27; obtain ⟨Ao28, co28, eo28⟩ := Kd.R_slice HO351.out; subst eo28; obtain ⟨Ao29, co29, eo29⟩ := Kd.R_slice HO354.out; subst eo29; obtain ⟨Ao30, co30, eo30⟩ := Kd.R_slice HO357.out; subst eo30) | ((with_reducible refine gc_ (f := 19) rfl ?_); refine gL_ (some 27) Tryd.func19 #[.agg #[.slice Ao26 t341.length co26, .slice Ao27 t344.length co27, .int .i64 t347, .int .i64 t348, .slice Ao28 t349.length co28, .slice Ao29 t352.length co29], .slice Ao30 t355.length co30] ?_; (with_reducible refine (spec_TagAt.calls k _ _ t341 _ _ t344 t347 t348 _ _ t349 _ _ t352 _ _ t355 t358 t359 _ ?s1 ?s2 ?s3 ?s4 ?s5 ?s6 ?s7 ?s8 ?s9 ?s10 A15.out).mono ?_); (case s1 => exact cC_ (Kd.S_reads' HO343.out).2.2); (case s2 => exact (Kd.S_reads' HO343.out).2.1); (case s3 => exact cC_ (Kd.S_reads' HO346.out).2.2); (case s4 => exact (Kd.S_reads' HO346.out).2.1); (case s5 => exact cC_ (Kd.R_reads' HO351.out).2.2); (case s6 => exact (Kd.R_reads' HO351.out).2.1); (case s7 => exact cC_ (Kd.R_reads' HO354.out).2.2); (case s8 => exact (Kd.R_reads' HO354.out).2.1); (case s9 => exact cC_ (Kd.R_reads' HO357.out).2.2); (case s10 => exact (Kd.R_reads' HO357.out).2.1); rintro e w31 ⟨rfl, hb⟩; refine ⟨_, rfl, ?_⟩; replace HO343 := A_ (Kd.S_below (vS_ HO343.out) hb); replace HO346 := A_ (Kd.S_below (vS_ HO346.out) hb); replace HO351 := A_ (Kd.R_below (vR_ HO351.out) hb); replace HO354 := A_ (Kd.R_below (vR_ HO354.out) hb); replace HO357 := A_ (Kd.R_below (vR_ HO357.out) hb); replace BK338 := A_ (bw_ BK338.out hb); replace HB := A_ (below_step (bG_ GE338.out) hb); (try clear hb); obtain ⟨hcz32_0, hcz32_1, hcz32_2, hcz32_3, hcz32_4, hcz32_5, hfz32_0, hfz32_1, hfz32_2, hfz32_3, hfz32_4, hfz32_5⟩ := cz6_ BK338.out) | ((with_reducible refine gc_ (f := 20) rfl ?_); refine gL_ (some 31) Tryd.func20 #[.agg #[.slice A0_0 l0_0.length c0_0, .slice A0_1 l0_1.length c0_1, .int .i64 a0_2, .int .i64 a0_3, .slice A0_4 l0_4.length c0_4, .slice A0_5 l0_5.length c0_5]] ?_; (with_reducible refine (laws_toSrv.calls k _ _ l0_0 _ _ l0_1 a0_2 a0_3 _ _ l0_4 _ _ l0_5 t360 t363 t366 t367 t368 t371 _ ?s1 ?s2 ?s3 ?s4 ?s5 ?s6 ?s7 ?s8 A16.out).mono ?_); (case s1 => exact cC_ (Kd.C_below HR0_0.out HB.out)); (case s2 => exact HC0_0.out); (case s3 => exact cC_ (Kd.C_below HR0_1.out HB.out)); (case s4 => exact HC0_1.out); (case s5 => exact cC_ (Kd.C_below HR0_4.out HB.out)); (case s6 => exact HC0_4.out); (case s7 => exact cC_ (Kd.C_below HR0_5.out HB.out)); (case s8 => exact HC0_5.out); rintro e w33 ⟨v361, v364, v369, v372, rfl, ho0, ho1, ho2, ho3, hb⟩; refine ⟨_, rfl, ?_⟩; have HO362 := A_ (Kd.S_lower (Kd.S_new' (Kd.S_new' ho0 (Kd.S_lt (vS_ HO343.out))) (Kd.R_lt (vR_ HO357.out))) (below_size (bG_ GE338.out))); replace HO343 := A_ (Kd.S_elder' (vS_ HO343.out) (kb_ ho0) hb); have HO365 := A_ (Kd.S_lower (Kd.S_new' (Kd.S_new' ho1 (Kd.S_lt (vS_ HO346.out))) (Kd.R_lt (vR_ HO357.out))) (below_size (bG_ GE338.out))); replace HO346 := A_ (Kd.S_elder' (vS_ HO346.out) (kb_ ho1) hb); replace HO357 := A_ (Kd.R_below (vR_ HO357.out) hb); have HO370 := A_ (Kd.R_lower (Kd.R_new' (Kd.R_new' ho2 (Kd.R_lt (vR_ HO351.out))) (Kd.R_lt (vR_ HO354.out))) (below_size (bG_ GE338.out))); have HO373 := A_ (Kd.R_lower (Kd.R_new' (Kd.R_new' ho3 (Kd.R_lt (vR_ HO351.out))) (Kd.R_lt (vR_ HO354.out))) (below_size (bG_ GE338.out))); replace HO351 := A_ (Kd.R_mono (Kd.R_told (Kd.R_told (Kd.R_old (vR_ HO351.out) hb) (kb_ ho2)) (kb_ ho3)) (fun _ h_ => h_.1)); replace HO354 := A_ (Kd.R_mono (Kd.R_told (Kd.R_told (Kd.R_old (vR_ HO354.out) hb) (kb_ ho2)) (kb_ ho3)) (fun _ h_ => h_.1)); replace BK338 := A_ (bw_ BK338.out hb); replace HB := A_ (below_step (bG_ GE338.out) hb); (try clear hb); (try clear ho0); (try clear ho1); (try clear ho2); (try clear ho3)) | ((with_reducible refine gd_ (N := 8) rfl ?_); refine bx_ (N := 8) (cs := #[.slice none 0 0, .slice none 0 0, .int .i64 0, .int .i64 0, .slice none 0 0, .slice none 0 0]) (t := 42) ?_; intro gb374 hg w34 hbox hb; replace HO343 := A_ (Kd.S_below (vS_ HO343.out) hb); replace HO346 := A_ (Kd.S_below (vS_ HO346.out) hb); replace HO351 := A_ (Kd.R_below (vR_ HO351.out) hb); replace HO354 := A_ (Kd.R_below (vR_ HO354.out) hb); replace HO357 := A_ (Kd.R_below (vR_ HO357.out) hb); replace HO362 := A_ (Kd.S_below (vS_ HO362.out) hb); replace HO365 := A_ (Kd.S_below (vS_ HO365.out) hb); replace HO370 := A_ (Kd.R_below (vR_ HO370.out) hb); replace HO373 := A_ (Kd.R_below (vR_ HO373.out) hb); have BK374 := A_ (hbox); have GW374 := A_ (ge_ hg (bG_ GE338.out) : w.heap.size ≤ gb374); have GE374 := A_ (ge_ hg (bG_ GE338.out) : w.heap.size ≤ gb374); replace HB := A_ (below_step (bG_ GE338.out) hb); have NB338_374 := A_ (gm_ hg BK338.out); have NB374_338 := A_ (gn_ hg BK338.out); replace BK338 := A_ (bw_ BK338.out hb); clear hb hbox hg; obtain ⟨Ao35, co35, eo35⟩ := Kd.S_slice HO362.out; subst eo35; have hnb36 := NB374_338.out; have hnc36 := NB338_374.out; obtain ⟨hcz37_0, hcz37_1, hcz37_2, hcz37_3, hcz37_4, hcz37_5, hfz37_0, hfz37_1, hfz37_2, hfz37_3, hfz37_4, hfz37_5⟩ := cz6_ BK374.out; obtain ⟨Ao38, co38, eo38⟩ := Kd.S_slice HO365.out; subst eo38; obtain ⟨Ao39, co39, eo39⟩ := Kd.R_slice HO370.out; subst eo39; obtain ⟨Ao40, co40, eo40⟩ := Kd.R_slice HO373.out; subst eo40) | ((with_reducible refine gc_ (f := 21) rfl ?_); refine gL_ (some 33) Tryd.func21 #[.slice A1 l1.length c1] ?_; (with_reducible refine (laws_toStringS.calls k _ _ l1 t375 _ ?s1 ?s2 A17.out).mono ?_); (case s1 => exact Kd.C_below HR1.out (by repeat (first | (with_reducible first | exact HB.out | apply below_alloc | apply pw_below_drewN | apply below_drew1 | refine below_set ?_ GE338.out | refine below_set ?_ GE374.out) | exact HB.out))); (case s2 => exact HC1.out); rintro e w41 ⟨v376, rfl, ho0, hb⟩; refine ⟨_, rfl, ?_⟩; replace HO343 := A_ (Kd.S_elder' (by (with_reducible repeat (first | apply Kd.S_alloc | apply Kd.S_drewN | apply Kd.S_drew)); exact (Kd.S_mono (Kd.S_far (p := ⟨gb374, 5, none⟩) (Kd.S_far (p := ⟨gb374, 4, none⟩) (Kd.S_far (p := ⟨gb374, 3, none⟩) (Kd.S_far (p := ⟨gb374, 2, none⟩) (Kd.S_far (p := ⟨gb374, 1, none⟩) (Kd.S_far (p := ⟨gb374, 0, none⟩) (Kd.S_types HO343.out BK374.out (by decide)) (fun _ hk => hk.2) (.slice Ao35 t360.length co35)) (fun _ hk => hk.2) (.slice Ao38 t363.length co38)) (fun _ hk => hk.2) (.int .i64 t366)) (fun _ hk => hk.2) (.int .i64 t367)) (fun _ hk => hk.2) (.slice Ao39 t368.length co39)) (fun _ hk => hk.2) (.slice Ao40 t371.length co40)) (fun _ h_ => h_.1))) (kb_ ho0) hb); replace HO346 := A_ (Kd.S_elder' (by (with_reducible repeat (first | apply Kd.S_alloc | apply Kd.S_drewN | apply Kd.S_drew)); exact (Kd.S_mono (Kd.S_far (p := ⟨gb374, 5, none⟩) (Kd.S_far (p := ⟨gb374, 4, none⟩) (Kd.S_far (p := ⟨gb374, 3, none⟩) (Kd.S_far (p := ⟨gb374, 2, none⟩) (Kd.S_far (p := ⟨gb374, 1, none⟩) (Kd.S_far (p := ⟨gb374, 0, none⟩) (Kd.S_types HO346.out BK374.out (by decide)) (fun _ hk => hk.2) (.slice Ao35 t360.length co35)) (fun _ hk => hk.2) (.slice Ao38 t363.length co38)) (fun _ hk => hk.2) (.int .i64 t366)) (fun _ hk => hk.2) (.int .i64 t367)) (fun _ hk => hk.2) (.slice Ao39 t368.length co39)) (fun _ hk => hk.2) (.slice Ao40 t371.length co40)) (fun _ h_ => h_.1))) (kb_ ho0) hb); replace HO351 := A_ (Kd.R_below (by (with_reducible repeat (first | apply Kd.R_alloc | apply Kd.R_drewN | apply Kd.R_drew)); exact (Kd.R_mono (Kd.R_far (p := ⟨gb374, 5, none⟩) (Kd.R_far (p := ⟨gb374, 4, none⟩) (Kd.R_far (p := ⟨gb374, 3, none⟩) (Kd.R_far (p := ⟨gb374, 2, none⟩) (Kd.R_far (p := ⟨gb374, 1, none⟩) (Kd.R_far (p := ⟨gb374, 0, none⟩) (Kd.R_types HO351.out BK374.out (by decide)) (fun _ hk => hk.2) (.slice Ao35 t360.length co35)) (fun _ hk => hk.2) (.slice Ao38 t363.length co38)) (fun _ hk => hk.2) (.int .i64 t366)) (fun _ hk => hk.2) (.int .i64 t367)) (fun _ hk => hk.2) (.slice Ao39 t368.length co39)) (fun _ hk => hk.2) (.slice Ao40 t371.length co40)) (fun _ h_ => h_.1))) hb); replace HO354 := A_ (Kd.R_below (by (with_reducible repeat (first | apply Kd.R_alloc | apply Kd.R_drewN | apply Kd.R_drew)); exact (Kd.R_mono (Kd.R_far (p := ⟨gb374, 5, none⟩) (Kd.R_far (p := ⟨gb374, 4, none⟩) (Kd.R_far (p := ⟨gb374, 3, none⟩) (Kd.R_far (p := ⟨gb374, 2, none⟩) (Kd.R_far (p := ⟨gb374, 1, none⟩) (Kd.R_far (p := ⟨gb374, 0, none⟩) (Kd.R_types HO354.out BK374.out (by decide)) (fun _ hk => hk.2) (.slice Ao35 t360.length co35)) (fun _ hk => hk.2) (.slice Ao38 t363.length co38)) (fun _ hk => hk.2) (.int .i64 t366)) (fun _ hk => hk.2) (.int .i64 t367)) (fun _ hk => hk.2) (.slice Ao39 t368.length co39)) (fun _ hk => hk.2) (.slice Ao40 t371.length co40)) (fun _ h_ => h_.1))) hb); replace HO362 := A_ (Kd.S_elder' (by (with_reducible repeat (first | apply Kd.S_alloc | apply Kd.S_drewN | apply Kd.S_drew)); exact (Kd.S_mono (Kd.S_far (p := ⟨gb374, 5, none⟩) (Kd.S_far (p := ⟨gb374, 4, none⟩) (Kd.S_far (p := ⟨gb374, 3, none⟩) (Kd.S_far (p := ⟨gb374, 2, none⟩) (Kd.S_far (p := ⟨gb374, 1, none⟩) (Kd.S_far (p := ⟨gb374, 0, none⟩) (Kd.S_types HO362.out BK374.out (by decide)) (fun _ hk => hk.2) (.slice Ao35 t360.length co35)) (fun _ hk => hk.2) (.slice Ao38 t363.length co38)) (fun _ hk => hk.2) (.int .i64 t366)) (fun _ hk => hk.2) (.int .i64 t367)) (fun _ hk => hk.2) (.slice Ao39 t368.length co39)) (fun _ hk => hk.2) (.slice Ao40 t371.length co40)) (fun _ h_ => h_.1))) (kb_ ho0) hb); replace HO365 := A_ (Kd.S_elder' (by (with_reducible repeat (first | apply Kd.S_alloc | apply Kd.S_drewN | apply Kd.S_drew)); exact (Kd.S_mono (Kd.S_far (p := ⟨gb374, 5, none⟩) (Kd.S_far (p := ⟨gb374, 4, none⟩) (Kd.S_far (p := ⟨gb374, 3, none⟩) (Kd.S_far (p := ⟨gb374, 2, none⟩) (Kd.S_far (p := ⟨gb374, 1, none⟩) (Kd.S_far (p := ⟨gb374, 0, none⟩) (Kd.S_types HO365.out BK374.out (by decide)) (fun _ hk => hk.2) (.slice Ao35 t360.length co35)) (fun _ hk => hk.2) (.slice Ao38 t363.length co38)) (fun _ hk => hk.2) (.int .i64 t366)) (fun _ hk => hk.2) (.int .i64 t367)) (fun _ hk => hk.2) (.slice Ao39 t368.length co39)) (fun _ hk => hk.2) (.slice Ao40 t371.length co40)) (fun _ h_ => h_.1))) (kb_ ho0) hb); replace HO370 := A_ (Kd.R_below (by (with_reducible repeat (first | apply Kd.R_alloc | apply Kd.R_drewN | apply Kd.R_drew)); exact (Kd.R_mono (Kd.R_far (p := ⟨gb374, 5, none⟩) (Kd.R_far (p := ⟨gb374, 4, none⟩) (Kd.R_far (p := ⟨gb374, 3, none⟩) (Kd.R_far (p := ⟨gb374, 2, none⟩) (Kd.R_far (p := ⟨gb374, 1, none⟩) (Kd.R_far (p := ⟨gb374, 0, none⟩) (Kd.R_types HO370.out BK374.out (by decide)) (fun _ hk => hk.2) (.slice Ao35 t360.length co35)) (fun _ hk => hk.2) (.slice Ao38 t363.length co38)) (fun _ hk => hk.2) (.int .i64 t366)) (fun _ hk => hk.2) (.int .i64 t367)) (fun _ hk => hk.2) (.slice Ao39 t368.length co39)) (fun _ hk => hk.2) (.slice Ao40 t371.length co40)) (fun _ h_ => h_.1))) hb); replace HO373 := A_ (Kd.R_below (by (with_reducible repeat (first | apply Kd.R_alloc | apply Kd.R_drewN | apply Kd.R_drew)); exact (Kd.R_mono (Kd.R_far (p := ⟨gb374, 5, none⟩) (Kd.R_far (p := ⟨gb374, 4, none⟩) (Kd.R_far (p := ⟨gb374, 3, none⟩) (Kd.R_far (p := ⟨gb374, 2, none⟩) (Kd.R_far (p := ⟨gb374, 1, none⟩) (Kd.R_far (p := ⟨gb374, 0, none⟩) (Kd.R_types HO373.out BK374.out (by decide)) (fun _ hk => hk.2) (.slice Ao35 t360.length co35)) (fun _ hk => hk.2) (.slice Ao38 t363.length co38)) (fun _ hk => hk.2) (.int .i64 t366)) (fun _ hk => hk.2) (.int .i64 t367)) (fun _ hk => hk.2) (.slice Ao39 t368.length co39)) (fun _ hk => hk.2) (.slice Ao40 t371.length co40)) (fun _ h_ => h_.1))) hb); have HO377 := A_ (Kd.R_lower (Kd.R_new' ho0 (Kd.R_lt (by (with_reducible repeat (first | apply Kd.R_alloc | apply Kd.R_drewN | apply Kd.R_drew)); exact (Kd.R_mono (Kd.R_far (p := ⟨gb374, 5, none⟩) (Kd.R_far (p := ⟨gb374, 4, none⟩) (Kd.R_far (p := ⟨gb374, 3, none⟩) (Kd.R_far (p := ⟨gb374, 2, none⟩) (Kd.R_far (p := ⟨gb374, 1, none⟩) (Kd.R_far (p := ⟨gb374, 0, none⟩) (Kd.R_types HO357.out BK374.out (by decide)) (fun _ hk => hk.2) (.slice Ao35 t360.length co35)) (fun _ hk => hk.2) (.slice Ao38 t363.length co38)) (fun _ hk => hk.2) (.int .i64 t366)) (fun _ hk => hk.2) (.int .i64 t367)) (fun _ hk => hk.2) (.slice Ao39 t368.length co39)) (fun _ hk => hk.2) (.slice Ao40 t371.length co40)) (fun _ h_ => h_.1))))) (below_size (by repeat (first | (with_reducible first | exact HB.out | apply below_alloc | apply pw_below_drewN | apply below_drew1 | refine below_set ?_ GE338.out | refine below_set ?_ GE374.out) | exact HB.out)))); replace HO357 := A_ (Kd.R_elder' (by (with_reducible repeat (first | apply Kd.R_alloc | apply Kd.R_drewN | apply Kd.R_drew)); exact (Kd.R_mono (Kd.R_far (p := ⟨gb374, 5, none⟩) (Kd.R_far (p := ⟨gb374, 4, none⟩) (Kd.R_far (p := ⟨gb374, 3, none⟩) (Kd.R_far (p := ⟨gb374, 2, none⟩) (Kd.R_far (p := ⟨gb374, 1, none⟩) (Kd.R_far (p := ⟨gb374, 0, none⟩) (Kd.R_types HO357.out BK374.out (by decide)) (fun _ hk => hk.2) (.slice Ao35 t360.length co35)) (fun _ hk => hk.2) (.slice Ao38 t363.length co38)) (fun _ hk => hk.2) (.int .i64 t366)) (fun _ hk => hk.2) (.int .i64 t367)) (fun _ hk => hk.2) (.slice Ao39 t368.length co39)) (fun _ hk => hk.2) (.slice Ao40 t371.length co40)) (fun _ h_ => h_.1))) (kb_ ho0) hb); replace BK338 := A_ (blk_below (g := gb338) (o := .cells #[.slice A0_0 l0_0.length c0_0, .slice A0_1 l0_1.length c0_1, .int .i64 a0_2, .int .i64 a0_3, .slice A0_4 l0_4.length c0_4, .slice A0_5 l0_5.length c0_5] 35 (0, 0)) (by (with_reducible repeat (first | refine blk_drewN ?_ _ | refine blk_drew ?_ | refine blk_alloc ?_ _)); refine blk_far ?_ NB338_374.out _; (with_reducible repeat (first | refine blk_drewN ?_ _ | refine blk_drew ?_ | refine blk_alloc ?_ _)); refine blk_far ?_ NB338_374.out _; (with_reducible repeat (first | refine blk_drewN ?_ _ | refine blk_drew ?_ | refine blk_alloc ?_ _)); refine blk_far ?_ NB338_374.out _; (with_reducible repeat (first | refine blk_drewN ?_ _ | refine blk_drew ?_ | refine blk_alloc ?_ _)); refine blk_far ?_ NB338_374.out _; (with_reducible repeat (first | refine blk_drewN ?_ _ | refine blk_drew ?_ | refine blk_alloc ?_ _)); refine blk_far ?_ NB338_374.out _; (with_reducible repeat (first | refine blk_drewN ?_ _ | refine blk_drew ?_ | refine blk_alloc ?_ _)); refine blk_far ?_ NB338_374.out _; (with_reducible repeat (first | refine blk_drewN ?_ _ | refine blk_drew ?_ | refine blk_alloc ?_ _)); exact BK338.out) hb); replace BK374 := A_ (blk_below (g := gb374) (o := .cells #[.slice Ao35 t360.length co35, .slice Ao38 t363.length co38, .int .i64 t366, .int .i64 t367, .slice Ao39 t368.length co39, .slice Ao40 t371.length co40] 42 (0, 0)) (by (with_reducible repeat (first | refine blk_drewN ?_ _ | refine blk_drew ?_ | refine blk_alloc ?_ _)); refine blk_put (cs := #[.slice Ao35 t360.length co35, .slice Ao38 t363.length co38, .int .i64 t366, .int .i64 t367, .slice Ao39 t368.length co39, .slice none 0 0]) ?_ 5 _ rfl; (with_reducible repeat (first | refine blk_drewN ?_ _ | refine blk_drew ?_ | refine blk_alloc ?_ _)); refine blk_put (cs := #[.slice Ao35 t360.length co35, .slice Ao38 t363.length co38, .int .i64 t366, .int .i64 t367, .slice none 0 0, .slice none 0 0]) ?_ 4 _ rfl; (with_reducible repeat (first | refine blk_drewN ?_ _ | refine blk_drew ?_ | refine blk_alloc ?_ _)); refine blk_put (cs := #[.slice Ao35 t360.length co35, .slice Ao38 t363.length co38, .int .i64 t366, .int .i64 0, .slice none 0 0, .slice none 0 0]) ?_ 3 _ rfl; (with_reducible repeat (first | refine blk_drewN ?_ _ | refine blk_drew ?_ | refine blk_alloc ?_ _)); refine blk_put (cs := #[.slice Ao35 t360.length co35, .slice Ao38 t363.length co38, .int .i64 0, .int .i64 0, .slice none 0 0, .slice none 0 0]) ?_ 2 _ rfl; (with_reducible repeat (first | refine blk_drewN ?_ _ | refine blk_drew ?_ | refine blk_alloc ?_ _)); refine blk_put (cs := #[.slice Ao35 t360.length co35, .slice none 0 0, .int .i64 0, .int .i64 0, .slice none 0 0, .slice none 0 0]) ?_ 1 _ rfl; (with_reducible repeat (first | refine blk_drewN ?_ _ | refine blk_drew ?_ | refine blk_alloc ?_ _)); refine blk_put (cs := #[.slice none 0 0, .slice none 0 0, .int .i64 0, .int .i64 0, .slice none 0 0, .slice none 0 0]) ?_ 0 _ rfl; (with_reducible repeat (first | refine blk_drewN ?_ _ | refine blk_drew ?_ | refine blk_alloc ?_ _)); exact BK374.out) hb); replace HB := A_ (below_step (by repeat (first | (with_reducible first | exact HB.out | apply below_alloc | apply pw_below_drewN | apply below_drew1 | refine below_set ?_ GE338.out | refine below_set ?_ GE374.out) | exact HB.out)) hb); (try clear hb); (try clear ho0); obtain ⟨hcz42_0, hcz42_1, hcz42_2, hcz42_3, hcz42_4, hcz42_5, hfz42_0, hfz42_1, hfz42_2, hfz42_3, hfz42_4, hfz42_5⟩ := cz6_ BK374.out; obtain ⟨Ao43, co43, eo43⟩ := Kd.R_slice HO377.out; subst eo43) | ((with_reducible refine gc_ (f := 22) rfl ?_); refine gL_ (some 37) Tryd.func22 #[.agg #[.slice Ao35 t360.length co35, .slice Ao38 t363.length co38, .int .i64 t366, .int .i64 t367, .slice Ao39 t368.length co39, .slice Ao40 t371.length co40], .slice Ao43 t375.length co43] ?_; (with_reducible refine (impl_TagAt.calls k _ _ t360 _ _ t363 t366 t367 _ _ t368 _ _ t371 _ _ t375 t378 t379 _ ?s1 ?s2 ?s3 ?s4 ?s5 ?s6 ?s7 ?s8 ?s9 ?s10 ?gT1 A18.out).mono ?_); (case gT1 => exact gT_ HGT.out (by repeat (first | (with_reducible first | exact HB.out | apply below_alloc | apply pw_below_drewN | apply below_drew1 | refine below_set ?_ GE338.out | refine below_set ?_ GE374.out) | exact HB.out))); (case s1 => exact cC_ (Kd.S_reads' HO362.out).2.2); (case s2 => exact (Kd.S_reads' HO362.out).2.1); (case s3 => exact cC_ (Kd.S_reads' HO365.out).2.2); (case s4 => exact (Kd.S_reads' HO365.out).2.1); (case s5 => exact cC_ (Kd.R_reads' HO370.out).2.2); (case s6 => exact (Kd.R_reads' HO370.out).2.1); (case s7 => exact cC_ (Kd.R_reads' HO373.out).2.2); (case s8 => exact (Kd.R_reads' HO373.out).2.1); (case s9 => exact cC_ (Kd.R_reads' HO377.out).2.2); (case s10 => exact (Kd.R_reads' HO377.out).2.1); rintro e w44 ⟨rfl, hb⟩; refine ⟨_, rfl, ?_⟩; replace HO343 := A_ (Kd.S_below (vS_ HO343.out) hb); replace HO346 := A_ (Kd.S_below (vS_ HO346.out) hb); replace HO351 := A_ (Kd.R_below (vR_ HO351.out) hb); replace HO354 := A_ (Kd.R_below (vR_ HO354.out) hb); replace HO357 := A_ (Kd.R_below (vR_ HO357.out) hb); replace HO362 := A_ (Kd.S_below (vS_ HO362.out) hb); replace HO365 := A_ (Kd.S_below (vS_ HO365.out) hb); replace HO370 := A_ (Kd.R_below (vR_ HO370.out) hb); replace HO373 := A_ (Kd.R_below (vR_ HO373.out) hb); replace HO377 := A_ (Kd.R_below (vR_ HO377.out) hb); replace BK338 := A_ (bw_ BK338.out hb); replace BK374 := A_ (bw_ BK374.out hb); replace HB := A_ (below_step (by repeat (first | (with_reducible first | exact HB.out | apply below_alloc | apply pw_below_drewN | apply below_drew1 | refine below_set ?_ GE338.out | refine below_set ?_ GE374.out) | exact HB.out)) hb); (try clear hb)))
 (try simp only [Act.put, List.setIfInBounds_toArray, List.set_cons_zero, List.set_cons_succ])
 go_cut [47] (fun v47 wc => ∃ (kq : Nat) (x47_18 : Bool), v47 = .bool x47_18 ∧ Aside0 (laws_FnExactTagAt.j0 kq l1 t375 x47_18 l0_0 l0_1 a0_2 a0_3 l0_4 l0_5 t360 t363 t366 t367 t368 t371 = some r) ∧ Aside0 (kq ≤ k) ∧ Aside0 (Kd.R Kd.string 9 wc w.heap.size (fun _ => True) (.slice Ao43 t375.length co43) t375) ∧ Aside0 (Kd.S k67 67 wc w.heap.size (fun k_ => some k_ ≠ ((.slice Ao43 t375.length co43) : Value).ownBlock) (.slice Ao35 t360.length co35) t360) ∧ Aside0 (Kd.S k98 98 wc w.heap.size (fun k_ => some k_ ≠ ((.slice Ao43 t375.length co43) : Value).ownBlock) (.slice Ao38 t363.length co38) t363) ∧ Aside0 (Kd.R (Kd.int .i64) 3 wc w.heap.size (fun k_ => some k_ ≠ ((.slice Ao40 t371.length co40) : Value).ownBlock) (.slice Ao39 t368.length co39) t368) ∧ Aside0 (Kd.R (Kd.int .i64) 3 wc w.heap.size (fun k_ => some k_ ≠ ((.slice Ao39 t368.length co39) : Value).ownBlock) (.slice Ao40 t371.length co40) t371) ∧ Aside0 (wc.heap[gb338]? = some (.cells #[(.slice A0_0 l0_0.length c0_0), (.slice A0_1 l0_1.length c0_1), .int .i64 a0_2, .int .i64 a0_3, (.slice A0_4 l0_4.length c0_4), (.slice A0_5 l0_5.length c0_5)] 35 (0, 0))) ∧ Aside0 (wc.heap[gb374]? = some (.cells #[(.slice Ao35 t360.length co35), (.slice Ao38 t363.length co38), .int .i64 t366, .int .i64 t367, (.slice Ao39 t368.length co39), (.slice Ao40 t371.length co40)] 42 (0, 0))) ∧ Aside0 (Below w.heap.size w wc))
 case first =>
  have H := HC19.out
  clear HC19
  by_cases c45 : t378.toList = t358.toList
  rotate_left
  · rw [if_neg c45] at H
    have c45b0 : (t378.toList == t358.toList) = false := beq_eq_false_iff_ne.mpr c45
    have c45b1 : (t378.toList != t358.toList) = true := bne_iff_ne.mpr c45
    (first | rw [c45b0] | (simp only [i64_w, i32_w]; rw [c45b0]) | skip)
    have H' := A_ H
    clear H
    go_wp2
    go_meet
    case rel => exact ⟨_, (true), rs_, H', ⟨by first | omega | exact Nat.le_refl _⟩, ⟨by (with_reducible repeat (first | apply Kd.R_alloc | apply Kd.R_drewN | apply Kd.R_drew)); exact Kd.R_mono HO377.out (fun _ hk => trivial)⟩, ⟨by (with_reducible repeat (first | apply Kd.S_alloc | apply Kd.S_drewN | apply Kd.S_drew)); exact Kd.S_mono HO362.out (fun _ hk => hk.2)⟩, ⟨by (with_reducible repeat (first | apply Kd.S_alloc | apply Kd.S_drewN | apply Kd.S_drew)); exact Kd.S_mono HO365.out (fun _ hk => hk.2)⟩, ⟨by (with_reducible repeat (first | apply Kd.R_alloc | apply Kd.R_drewN | apply Kd.R_drew)); exact Kd.R_mono HO370.out (fun _ hk => hk.1.1)⟩, ⟨by (with_reducible repeat (first | apply Kd.R_alloc | apply Kd.R_drewN | apply Kd.R_drew)); exact Kd.R_mono HO373.out (fun _ hk => hk.1.1)⟩, ⟨vb_ BK338.out⟩, ⟨vb_ BK374.out⟩, ⟨by repeat (first | (with_reducible first | exact HB.out | apply below_alloc | apply pw_below_drewN | apply below_drew1 | refine below_set ?_ GE338.out | refine below_set ?_ GE374.out) | exact HB.out)⟩⟩
  rw [if_pos c45] at H
  have c45b0 : (t378.toList == t358.toList) = true := beq_iff_eq.mpr c45
  have c45b1 : (t378.toList != t358.toList) = false := bne_eq_false_iff_eq.mpr c45
  clear c45
  (first | rw [c45b0] | (simp only [i64_w, i32_w]; rw [c45b0]) | skip)
  have H' := A_ H
  clear H
  go_wp2
  go_meet
  case rel => exact ⟨_, ((t379 != t359)), rs_, H', ⟨by first | omega | exact Nat.le_refl _⟩, ⟨by (with_reducible repeat (first | apply Kd.R_alloc | apply Kd.R_drewN | apply Kd.R_drew)); exact Kd.R_mono HO377.out (fun _ hk => trivial)⟩, ⟨by (with_reducible repeat (first | apply Kd.S_alloc | apply Kd.S_drewN | apply Kd.S_drew)); exact Kd.S_mono HO362.out (fun _ hk => hk.2)⟩, ⟨by (with_reducible repeat (first | apply Kd.S_alloc | apply Kd.S_drewN | apply Kd.S_drew)); exact Kd.S_mono HO365.out (fun _ hk => hk.2)⟩, ⟨by (with_reducible repeat (first | apply Kd.R_alloc | apply Kd.R_drewN | apply Kd.R_drew)); exact Kd.R_mono HO370.out (fun _ hk => hk.1.1)⟩, ⟨by (with_reducible repeat (first | apply Kd.R_alloc | apply Kd.R_drewN | apply Kd.R_drew)); exact Kd.R_mono HO373.out (fun _ hk => hk.1.1)⟩, ⟨vb_ BK338.out⟩, ⟨vb_ BK374.out⟩, ⟨by repeat (first | (with_reducible first | exact HB.out | apply below_alloc | apply pw_below_drewN | apply below_drew1 | refine below_set ?_ GE338.out | refine below_set ?_ GE374.out) | exact HB.out)⟩⟩
 case rest =>
  clear HC19
  try clear c1
  try clear c2
  try clear p2
  try clear c3
  try clear c4
  try clear c4b0
  try clear c6
  try clear c9
  try clear c9b0
  try clear c17
  try clear c18
  try clear c19
  try clear c20
  try clear c21
  try clear c22
  try clear c36
  try clear c45
  try clear c45b0
  try clear c45b1
  try clear hcz11_0
  try clear hcz11_1
  try clear hcz11_2
  try clear hcz11_3
  try clear hcz11_4
  try clear hcz11_5
  try clear hcz21_0
  try clear hcz21_1
  try clear hcz21_2
  try clear hcz21_3
  try clear hcz21_4
  try clear hcz21_5
  try clear hcz23_0
  try clear hcz23_1
  try clear hcz23_2
  try clear hcz23_3
  try clear hcz23_4
  try clear hcz23_5
  try clear hcz32_0
  try clear hcz32_1
  try clear hcz32_2
  try clear hcz32_3
  try clear hcz32_4
  try clear hcz32_5
  try clear hcz37_0
  try clear hcz37_1
  try clear hcz37_2
  try clear hcz37_3
  try clear hcz37_4
  try clear hcz37_5
  try clear hcz42_0
  try clear hcz42_1
  try clear hcz42_2
  try clear hcz42_3
  try clear hcz42_4
  try clear hcz42_5
  try clear hcz6_0
  try clear hcz6_1
  try clear hcz6_2
  try clear hcz6_3
  try clear hcz6_4
  try clear hcz6_5
  try clear hfz11_0
  try clear hfz11_1
  try clear hfz11_2
  try clear hfz11_3
  try clear hfz11_4
  try clear hfz11_5
  try clear hfz21_0
  try clear hfz21_1
  try clear hfz21_2
  try clear hfz21_3
  try clear hfz21_4
  try clear hfz21_5
  try clear hfz23_0
  try clear hfz23_1
  try clear hfz23_2
  try clear hfz23_3
  try clear hfz23_4
  try clear hfz23_5
  try clear hfz32_0
  try clear hfz32_1
  try clear hfz32_2
  try clear hfz32_3
  try clear hfz32_4
  try clear hfz32_5
  try clear hfz37_0
  try clear hfz37_1
  try clear hfz37_2
  try clear hfz37_3
  try clear hfz37_4
  try clear hfz37_5
  try clear hfz42_0
  try clear hfz42_1
  try clear hfz42_2
  try clear hfz42_3
  try clear hfz42_4
  try clear hfz42_5
  try clear hfz6_0
  try clear hfz6_1
  try clear hfz6_2
  try clear hfz6_3
  try clear hfz6_4
  try clear hfz6_5
  obtain ⟨kq, x47_18, rfl, HA, HJ18, HO_9, HO_375000, HO_375001, HO_375004, HO_375005, BK338, BK374, HB⟩ := hcut
  cases kq with
  | zero => exact absurd HA.out (by simp [laws_FnExactTagAt.j0])
  | succ kj18 =>
   have H := HA.out
   clear HA
   simp only [laws_FnExactTagAt.j0] at H
   by_cases c46 : x47_18 = true
   · subst c46
     rw [if_pos rfl] at H
     obtain rfl := si_ H
     go_wp2
     go_ret
     exact ⟨rr_, by repeat (first | (with_reducible first | exact HB.out | apply below_alloc | apply pw_below_drewN | apply below_drew1 | refine below_set ?_ GE338.out | refine below_set ?_ GE374.out) | exact HB.out)⟩
   · replace c46 := Bool.eq_false_iff.mpr c46
     subst c46
     rw [if_neg nf_] at H
     obtain ⟨⟨t380, t383, t386, t387, t388, t391⟩, A47, H⟩ := bo_ H
     (try dsimp only at H)
     obtain ⟨t394, A48, H⟩ := bo_ H
     (try dsimp only at H)
     by_cases c49 : t394 = true
     · subst c49
       rw [if_pos rfl] at H
       obtain ⟨t395, A50, H⟩ := bo_ H
       (try dsimp only at H)
       obtain ⟨t398, A51, H⟩ := bo_ H
       (try dsimp only at H)
       by_cases c52 : t398 = true
       · subst c52
         rw [if_pos rfl] at H
         obtain rfl := si_ H
         try go_wp2
         replace HO_9 := A_ (Kd.R_drew HO_9.out)
         replace HO_375000 := A_ (Kd.S_drew HO_375000.out)
         replace HO_375001 := A_ (Kd.S_drew HO_375001.out)
         replace HO_375004 := A_ (Kd.R_drew HO_375004.out)
         replace HO_375005 := A_ (Kd.R_drew HO_375005.out)
         replace BK338 := A_ (blk_drew BK338.out)
         replace BK374 := A_ (blk_drew BK374.out)
         replace HB := A_ (below_drew1 HB.out)
         refine start_ (n := 5) (S := fun w' => w'.cell? ⟨gb374, 0, none⟩ = some (.slice Ao35 t360.length co35) ∧ w'.cell? ⟨gb374, 1, none⟩ = some (.slice Ao38 t363.length co38) ∧ w'.cell? ⟨gb374, 2, none⟩ = some (.int .i64 t366) ∧ w'.cell? ⟨gb374, 3, none⟩ = some (.int .i64 t367) ∧ w'.cell? ⟨gb374, 4, none⟩ = some (.slice Ao39 t368.length co39) ∧ w'.cell? ⟨gb374, 5, none⟩ = some (.slice Ao40 t371.length co40) ∧ w'.cell? ⟨gb338, 0, none⟩ = some (.slice A0_0 l0_0.length c0_0) ∧ w'.cell? ⟨gb338, 1, none⟩ = some (.slice A0_1 l0_1.length c0_1) ∧ w'.cell? ⟨gb338, 2, none⟩ = some (.int .i64 a0_2) ∧ w'.cell? ⟨gb338, 3, none⟩ = some (.int .i64 a0_3) ∧ w'.cell? ⟨gb338, 4, none⟩ = some (.slice A0_4 l0_4.length c0_4) ∧ w'.cell? ⟨gb338, 5, none⟩ = some (.slice A0_5 l0_5.length c0_5)) (ds := []) #[false, false, false, false, false] (by kernel_rfl) rfl rfl ⟨bl_ BK374.out 0, bl_ BK374.out 1, bl_ BK374.out 2, bl_ BK374.out 3, bl_ BK374.out 4, bl_ BK374.out 5, bl_ BK338.out 0, bl_ BK338.out 1, bl_ BK338.out 2, bl_ BK338.out 3, bl_ BK338.out 4, bl_ BK338.out 5⟩ (fun hHeld => ?_)
         generalize wc.drew = w53 at HO_9 HO_375000 HO_375001 HO_375004 HO_375005 BK338 BK374 HB hHeld ⊢
         refine tk_ (i := 0) (N := some 48) hHeld ?_
         refine tk_ (i := 1) (N := some 49) hHeld ?_
         refine on_ (i := 2) (N := some 50) (fun K hK => ?_)
         refine goes_ Tryd.func20 (by kernel_rfl) rfl #[.agg #[.slice A0_0 l0_0.length c0_0, .slice A0_1 l0_1.length c0_1, .int .i64 a0_2, .int .i64 a0_3, .slice A0_4 l0_4.length c0_4, .slice A0_5 l0_5.length c0_5]] (by rfl) rfl rfl ml_ ?_
         with_reducible refine (laws_toSrv.calls kj18 _ _ l0_0 _ _ l0_1 a0_2 a0_3 _ _ l0_4 _ _ l0_5 t380 t383 t386 t387 t388 t391 _ ?s1 ?s2 ?s3 ?s4 ?s5 ?s6 ?s7 ?s8 A47.out).mono ?_
         (case s1 => exact cC_ (Kd.C_below HR0_0.out HB.out))
         (case s2 => exact HC0_0.out)
         (case s3 => exact cC_ (Kd.C_below HR0_1.out HB.out))
         (case s4 => exact HC0_1.out)
         (case s5 => exact cC_ (Kd.C_below HR0_4.out HB.out))
         (case s6 => exact HC0_4.out)
         (case s7 => exact cC_ (Kd.C_below HR0_5.out HB.out))
         (case s8 => exact HC0_5.out)
         rintro e w54 ⟨v381, v384, v389, v392, rfl, ho0, ho1, ho2, ho3, hb⟩
         refine ⟨_, rfl, ?_⟩
         have HO382 := A_ (Kd.S_lower (Kd.S_new' (Kd.S_new' ho0 (Kd.R_lt (vR_ HO_9.out))) (Kd.S_lt (vS_ HO_375000.out))) (below_size (by repeat (first | (with_reducible first | exact HB.out | apply below_alloc | apply pw_below_drewN | apply below_drew1 | refine below_set ?_ GE338.out | refine below_set ?_ GE374.out) | exact HB.out))))
         replace HO_375000 := A_ (Kd.S_elder' (vS_ HO_375000.out) (kb_ ho0) hb)
         have HO385 := A_ (Kd.S_lower (Kd.S_new' (Kd.S_new' ho1 (Kd.R_lt (vR_ HO_9.out))) (Kd.S_lt (vS_ HO_375001.out))) (below_size (by repeat (first | (with_reducible first | exact HB.out | apply below_alloc | apply pw_below_drewN | apply below_drew1 | refine below_set ?_ GE338.out | refine below_set ?_ GE374.out) | exact HB.out))))
         replace HO_9 := A_ (Kd.R_below (vR_ HO_9.out) hb)
         replace HO_375001 := A_ (Kd.S_elder' (vS_ HO_375001.out) (kb_ ho1) hb)
         have HO390 := A_ (Kd.R_lower (Kd.R_new' (Kd.R_new' ho2 (Kd.R_lt (vR_ HO_375004.out))) (Kd.R_lt (vR_ HO_375005.out))) (below_size (by repeat (first | (with_reducible first | exact HB.out | apply below_alloc | apply pw_below_drewN | apply below_drew1 | refine below_set ?_ GE338.out | refine below_set ?_ GE374.out) | exact HB.out))))
         have HO393 := A_ (Kd.R_lower (Kd.R_new' (Kd.R_new' ho3 (Kd.R_lt (vR_ HO_375004.out))) (Kd.R_lt (vR_ HO_375005.out))) (below_size (by repeat (first | (with_reducible first | exact HB.out | apply below_alloc | apply pw_below_drewN | apply below_drew1 | refine below_set ?_ GE338.out | refine below_set ?_ GE374.out) | exact HB.out))))
         replace HO_375004 := A_ (Kd.R_mono (Kd.R_told (Kd.R_told (Kd.R_old (vR_ HO_375004.out) hb) (kb_ ho2)) (kb_ ho3)) (fun _ h_ => h_.1))
         replace HO_375005 := A_ (Kd.R_mono (Kd.R_told (Kd.R_told (Kd.R_old (vR_ HO_375005.out) hb) (kb_ ho2)) (kb_ ho3)) (fun _ h_ => h_.1))
         replace BK338 := A_ (bw_ BK338.out hb)
         replace BK374 := A_ (bw_ BK374.out hb)
         replace HB := A_ (below_step (by repeat (first | (with_reducible first | exact HB.out | apply below_alloc | apply pw_below_drewN | apply below_drew1 | refine below_set ?_ GE338.out | refine below_set ?_ GE374.out) | exact HB.out)) hb)
         (try clear hb)
         (try clear hb2)
         (try clear hk)
         (try clear hi)
         (try clear ho0)
         (try clear ho1)
         (try clear ho2)
         (try clear ho3)
         obtain ⟨Ao55, co55, eo55⟩ := Kd.S_slice HO382.out
         (first | subst eo55 | (injection eo55 with f1_ f2_ f3_; have f4_ := f1_.symm; have f5_ := f3_.symm; clear f1_ f2_ f3_; subst f4_; subst f5_))
         obtain ⟨Ao56, co56, eo56⟩ := Kd.S_slice HO385.out
         (first | subst eo56 | (injection eo56 with f1_ f2_ f3_; have f4_ := f1_.symm; have f5_ := f3_.symm; clear f1_ f2_ f3_; subst f4_; subst f5_))
         obtain ⟨Ao57, co57, eo57⟩ := Kd.R_slice HO390.out
         (first | subst eo57 | (injection eo57 with f1_ f2_ f3_; have f4_ := f1_.symm; have f5_ := f3_.symm; clear f1_ f2_ f3_; subst f4_; subst f5_))
         obtain ⟨Ao58, co58, eo58⟩ := Kd.R_slice HO393.out
         (first | subst eo58 | (injection eo58 with f1_ f2_ f3_; have f4_ := f1_.symm; have f5_ := f3_.symm; clear f1_ f2_ f3_; subst f4_; subst f5_))
         refine hK.out _ _ ⟨bl_ BK374.out 0, bl_ BK374.out 1, bl_ BK374.out 2, bl_ BK374.out 3, bl_ BK374.out 4, bl_ BK374.out 5, bl_ BK338.out 0, bl_ BK338.out 1, bl_ BK338.out 2, bl_ BK338.out 3, bl_ BK338.out 4, bl_ BK338.out 5⟩ (fun hHeld => ?_)
         clear hK K
         refine no_ (some 50) ?_
         refine on_ (i := 3) (N := some 51) (fun K hK => ?_)
         refine goes_ Tryd.func23 (by kernel_rfl) rfl #[.agg #[.slice Ao35 t360.length co35, .slice Ao38 t363.length co38, .int .i64 t366, .int .i64 t367, .slice Ao39 t368.length co39, .slice Ao40 t371.length co40], .agg #[.slice Ao55 t380.length co55, .slice Ao56 t383.length co56, .int .i64 t386, .int .i64 t387, .slice Ao57 t388.length co57, .slice Ao58 t391.length co58]] (by rfl) rfl rfl ml_ ?_
         with_reducible refine (laws_eqSrv.calls kj18 _ _ t360 _ _ t363 t366 t367 _ _ t368 _ _ t371 _ _ t380 _ _ t383 t386 t387 _ _ t388 _ _ t391 true _ ?s1 ?s2 ?s3 ?s4 ?s5 ?s6 ?s7 ?s8 ?s9 ?s10 ?s11 ?s12 ?s13 ?s14 ?s15 ?s16 A48.out).mono ?_
         (case s1 => exact cC_ (Kd.S_reads' HO_375000.out).2.2)
         (case s2 => exact (Kd.S_reads' HO_375000.out).2.1)
         (case s3 => exact cC_ (Kd.S_reads' HO_375001.out).2.2)
         (case s4 => exact (Kd.S_reads' HO_375001.out).2.1)
         (case s5 => exact cC_ (Kd.R_reads' HO_375004.out).2.2)
         (case s6 => exact (Kd.R_reads' HO_375004.out).2.1)
         (case s7 => exact cC_ (Kd.R_reads' HO_375005.out).2.2)
         (case s8 => exact (Kd.R_reads' HO_375005.out).2.1)
         (case s9 => exact cC_ (Kd.S_reads' HO382.out).2.2)
         (case s10 => exact (Kd.S_reads' HO382.out).2.1)
         (case s11 => exact cC_ (Kd.S_reads' HO385.out).2.2)
         (case s12 => exact (Kd.S_reads' HO385.out).2.1)
         (case s13 => exact cC_ (Kd.R_reads' HO390.out).2.2)
         (case s14 => exact (Kd.R_reads' HO390.out).2.1)
         (case s15 => exact cC_ (Kd.R_reads' HO393.out).2.2)
         (case s16 => exact (Kd.R_reads' HO393.out).2.1)
         rintro e w59 ⟨rfl, hb⟩
         refine ⟨_, rfl, ?_⟩
         replace HO_9 := A_ (Kd.R_below (vR_ HO_9.out) hb)
         replace HO_375000 := A_ (Kd.S_below (vS_ HO_375000.out) hb)
         replace HO_375001 := A_ (Kd.S_below (vS_ HO_375001.out) hb)
         replace HO_375004 := A_ (Kd.R_below (vR_ HO_375004.out) hb)
         replace HO_375005 := A_ (Kd.R_below (vR_ HO_375005.out) hb)
         replace HO382 := A_ (Kd.S_below (vS_ HO382.out) hb)
         replace HO385 := A_ (Kd.S_below (vS_ HO385.out) hb)
         replace HO390 := A_ (Kd.R_below (vR_ HO390.out) hb)
         replace HO393 := A_ (Kd.R_below (vR_ HO393.out) hb)
         replace BK338 := A_ (bw_ BK338.out hb)
         replace BK374 := A_ (bw_ BK374.out hb)
         replace HB := A_ (below_step (by repeat (first | (with_reducible first | exact HB.out | apply below_alloc | apply pw_below_drewN | apply below_drew1 | refine below_set ?_ GE338.out | refine below_set ?_ GE374.out) | exact HB.out)) hb)
         (try clear hb)
         (try clear hb2)
         (try clear hk)
         (try clear hi)
         refine hK.out _ _ ⟨bl_ BK374.out 0, bl_ BK374.out 1, bl_ BK374.out 2, bl_ BK374.out 3, bl_ BK374.out 4, bl_ BK374.out 5, bl_ BK338.out 0, bl_ BK338.out 1, bl_ BK338.out 2, bl_ BK338.out 3, bl_ BK338.out 4, bl_ BK338.out 5⟩ (fun hHeld => ?_)
         clear hK K
         refine no_ (some 51) ?_
         refine pu_ (i := 4) (N := some 52) ?_
         refine done_ (by kernel_rfl) ?_
         try go_wp2_with (first | ((with_reducible refine gc_ (f := 21) rfl ?_); refine gL_ (some 55) Tryd.func21 #[.slice A1 l1.length c1] ?_; (with_reducible refine (laws_toStringS.calls kj18 _ _ l1 t395 _ ?s1 ?s2 A50.out).mono ?_); (case s1 => exact cC_ (Kd.C_below HR1.out HB.out)); (case s2 => exact HC1.out); rintro e w60 ⟨v396, rfl, ho0, hb⟩; refine ⟨_, rfl, ?_⟩; replace HO_375000 := A_ (Kd.S_elder' (vS_ HO_375000.out) (kb_ ho0) hb); replace HO_375001 := A_ (Kd.S_elder' (vS_ HO_375001.out) (kb_ ho0) hb); replace HO_375004 := A_ (Kd.R_below (vR_ HO_375004.out) hb); replace HO_375005 := A_ (Kd.R_below (vR_ HO_375005.out) hb); replace HO382 := A_ (Kd.S_elder' (vS_ HO382.out) (kb_ ho0) hb); replace HO385 := A_ (Kd.S_elder' (vS_ HO385.out) (kb_ ho0) hb); replace HO390 := A_ (Kd.R_below (vR_ HO390.out) hb); replace HO393 := A_ (Kd.R_below (vR_ HO393.out) hb); have HO397 := A_ (Kd.R_lower (Kd.R_new' ho0 (Kd.R_lt (vR_ HO_9.out))) (below_size (by repeat (first | (with_reducible first | exact HB.out | apply below_alloc | apply pw_below_drewN | apply below_drew1 | refine below_set ?_ GE338.out | refine below_set ?_ GE374.out) | exact HB.out)))); replace HO_9 := A_ (Kd.R_elder' (vR_ HO_9.out) (kb_ ho0) hb); replace BK338 := A_ (bw_ BK338.out hb); replace BK374 := A_ (bw_ BK374.out hb); replace HB := A_ (below_step (by repeat (first | (with_reducible first | exact HB.out | apply below_alloc | apply pw_below_drewN | apply below_drew1 | refine below_set ?_ GE338.out | refine below_set ?_ GE374.out) | exact HB.out)) hb); (try clear hb); (try clear ho0); obtain ⟨Ao61, co61, eo61⟩ := Kd.R_slice HO397.out; subst eo61) | ((with_reducible refine gc_ (f := 14) rfl ?_); refine gL_ (some 56) Tryd.func14 #[.slice Ao43 t375.length co43, .slice Ao61 t395.length co61] ?_; (with_reducible refine (laws_eqStringS.calls kj18 _ _ t375 _ _ t395 true _ ?s1 ?s2 ?s3 ?s4 A51.out).mono ?_); (case s1 => exact cC_ (Kd.R_reads' HO_9.out).2.2); (case s2 => exact (Kd.R_reads' HO_9.out).2.1); (case s3 => exact cC_ (Kd.R_reads' HO397.out).2.2); (case s4 => exact (Kd.R_reads' HO397.out).2.1); rintro e w' ⟨rfl, ⟨nd, rfl⟩⟩; refine ⟨_, rfl, ?_⟩))
         go_ret
         exact ⟨rr_, by repeat (first | (with_reducible first | exact HB.out | apply below_alloc | apply pw_below_drewN | apply below_drew1 | refine below_set ?_ GE338.out | refine below_set ?_ GE374.out) | exact HB.out)⟩
       · replace c52 := Bool.eq_false_iff.mpr c52
         subst c52
         rw [if_neg nf_] at H
         obtain rfl := si_ H
         try go_wp2
         replace HO_9 := A_ (Kd.R_drew HO_9.out)
         replace HO_375000 := A_ (Kd.S_drew HO_375000.out)
         replace HO_375001 := A_ (Kd.S_drew HO_375001.out)
         replace HO_375004 := A_ (Kd.R_drew HO_375004.out)
         replace HO_375005 := A_ (Kd.R_drew HO_375005.out)
         replace BK338 := A_ (blk_drew BK338.out)
         replace BK374 := A_ (blk_drew BK374.out)
         replace HB := A_ (below_drew1 HB.out)
         refine start_ (n := 5) (S := fun w' => w'.cell? ⟨gb374, 0, none⟩ = some (.slice Ao35 t360.length co35) ∧ w'.cell? ⟨gb374, 1, none⟩ = some (.slice Ao38 t363.length co38) ∧ w'.cell? ⟨gb374, 2, none⟩ = some (.int .i64 t366) ∧ w'.cell? ⟨gb374, 3, none⟩ = some (.int .i64 t367) ∧ w'.cell? ⟨gb374, 4, none⟩ = some (.slice Ao39 t368.length co39) ∧ w'.cell? ⟨gb374, 5, none⟩ = some (.slice Ao40 t371.length co40) ∧ w'.cell? ⟨gb338, 0, none⟩ = some (.slice A0_0 l0_0.length c0_0) ∧ w'.cell? ⟨gb338, 1, none⟩ = some (.slice A0_1 l0_1.length c0_1) ∧ w'.cell? ⟨gb338, 2, none⟩ = some (.int .i64 a0_2) ∧ w'.cell? ⟨gb338, 3, none⟩ = some (.int .i64 a0_3) ∧ w'.cell? ⟨gb338, 4, none⟩ = some (.slice A0_4 l0_4.length c0_4) ∧ w'.cell? ⟨gb338, 5, none⟩ = some (.slice A0_5 l0_5.length c0_5)) (ds := []) #[false, false, false, false, false] (by kernel_rfl) rfl rfl ⟨bl_ BK374.out 0, bl_ BK374.out 1, bl_ BK374.out 2, bl_ BK374.out 3, bl_ BK374.out 4, bl_ BK374.out 5, bl_ BK338.out 0, bl_ BK338.out 1, bl_ BK338.out 2, bl_ BK338.out 3, bl_ BK338.out 4, bl_ BK338.out 5⟩ (fun hHeld => ?_)
         generalize wc.drew = w62 at HO_9 HO_375000 HO_375001 HO_375004 HO_375005 BK338 BK374 HB hHeld ⊢
         refine tk_ (i := 0) (N := some 48) hHeld ?_
         refine tk_ (i := 1) (N := some 49) hHeld ?_
         refine on_ (i := 2) (N := some 50) (fun K hK => ?_)
         refine goes_ Tryd.func20 (by kernel_rfl) rfl #[.agg #[.slice A0_0 l0_0.length c0_0, .slice A0_1 l0_1.length c0_1, .int .i64 a0_2, .int .i64 a0_3, .slice A0_4 l0_4.length c0_4, .slice A0_5 l0_5.length c0_5]] (by rfl) rfl rfl ml_ ?_
         with_reducible refine (laws_toSrv.calls kj18 _ _ l0_0 _ _ l0_1 a0_2 a0_3 _ _ l0_4 _ _ l0_5 t380 t383 t386 t387 t388 t391 _ ?s1 ?s2 ?s3 ?s4 ?s5 ?s6 ?s7 ?s8 A47.out).mono ?_
         (case s1 => exact cC_ (Kd.C_below HR0_0.out HB.out))
         (case s2 => exact HC0_0.out)
         (case s3 => exact cC_ (Kd.C_below HR0_1.out HB.out))
         (case s4 => exact HC0_1.out)
         (case s5 => exact cC_ (Kd.C_below HR0_4.out HB.out))
         (case s6 => exact HC0_4.out)
         (case s7 => exact cC_ (Kd.C_below HR0_5.out HB.out))
         (case s8 => exact HC0_5.out)
         rintro e w63 ⟨v381, v384, v389, v392, rfl, ho0, ho1, ho2, ho3, hb⟩
         refine ⟨_, rfl, ?_⟩
         have HO382 := A_ (Kd.S_lower (Kd.S_new' (Kd.S_new' ho0 (Kd.R_lt (vR_ HO_9.out))) (Kd.S_lt (vS_ HO_375000.out))) (below_size (by repeat (first | (with_reducible first | exact HB.out | apply below_alloc | apply pw_below_drewN | apply below_drew1 | refine below_set ?_ GE338.out | refine below_set ?_ GE374.out) | exact HB.out))))
         replace HO_375000 := A_ (Kd.S_elder' (vS_ HO_375000.out) (kb_ ho0) hb)
         have HO385 := A_ (Kd.S_lower (Kd.S_new' (Kd.S_new' ho1 (Kd.R_lt (vR_ HO_9.out))) (Kd.S_lt (vS_ HO_375001.out))) (below_size (by repeat (first | (with_reducible first | exact HB.out | apply below_alloc | apply pw_below_drewN | apply below_drew1 | refine below_set ?_ GE338.out | refine below_set ?_ GE374.out) | exact HB.out))))
         replace HO_9 := A_ (Kd.R_below (vR_ HO_9.out) hb)
         replace HO_375001 := A_ (Kd.S_elder' (vS_ HO_375001.out) (kb_ ho1) hb)
         have HO390 := A_ (Kd.R_lower (Kd.R_new' (Kd.R_new' ho2 (Kd.R_lt (vR_ HO_375004.out))) (Kd.R_lt (vR_ HO_375005.out))) (below_size (by repeat (first | (with_reducible first | exact HB.out | apply below_alloc | apply pw_below_drewN | apply below_drew1 | refine below_set ?_ GE338.out | refine below_set ?_ GE374.out) | exact HB.out))))
         have HO393 := A_ (Kd.R_lower (Kd.R_new' (Kd.R_new' ho3 (Kd.R_lt (vR_ HO_375004.out))) (Kd.R_lt (vR_ HO_375005.out))) (below_size (by repeat (first | (with_reducible first | exact HB.out | apply below_alloc | apply pw_below_drewN | apply below_drew1 | refine below_set ?_ GE338.out | refine below_set ?_ GE374.out) | exact HB.out))))
         replace HO_375004 := A_ (Kd.R_mono (Kd.R_told (Kd.R_told (Kd.R_old (vR_ HO_375004.out) hb) (kb_ ho2)) (kb_ ho3)) (fun _ h_ => h_.1))
         replace HO_375005 := A_ (Kd.R_mono (Kd.R_told (Kd.R_told (Kd.R_old (vR_ HO_375005.out) hb) (kb_ ho2)) (kb_ ho3)) (fun _ h_ => h_.1))
         replace BK338 := A_ (bw_ BK338.out hb)
         replace BK374 := A_ (bw_ BK374.out hb)
         replace HB := A_ (below_step (by repeat (first | (with_reducible first | exact HB.out | apply below_alloc | apply pw_below_drewN | apply below_drew1 | refine below_set ?_ GE338.out | refine below_set ?_ GE374.out) | exact HB.out)) hb)
         (try clear hb)
         (try clear hb2)
         (try clear hk)
         (try clear hi)
         (try clear ho0)
         (try clear ho1)
         (try clear ho2)
         (try clear ho3)
         obtain ⟨Ao64, co64, eo64⟩ := Kd.S_slice HO382.out
         (first | subst eo64 | (injection eo64 with f1_ f2_ f3_; have f4_ := f1_.symm; have f5_ := f3_.symm; clear f1_ f2_ f3_; subst f4_; subst f5_))
         obtain ⟨Ao65, co65, eo65⟩ := Kd.S_slice HO385.out
         (first | subst eo65 | (injection eo65 with f1_ f2_ f3_; have f4_ := f1_.symm; have f5_ := f3_.symm; clear f1_ f2_ f3_; subst f4_; subst f5_))
         obtain ⟨Ao66, co66, eo66⟩ := Kd.R_slice HO390.out
         (first | subst eo66 | (injection eo66 with f1_ f2_ f3_; have f4_ := f1_.symm; have f5_ := f3_.symm; clear f1_ f2_ f3_; subst f4_; subst f5_))
         obtain ⟨Ao67, co67, eo67⟩ := Kd.R_slice HO393.out
         (first | subst eo67 | (injection eo67 with f1_ f2_ f3_; have f4_ := f1_.symm; have f5_ := f3_.symm; clear f1_ f2_ f3_; subst f4_; subst f5_))
         refine hK.out _ _ ⟨bl_ BK374.out 0, bl_ BK374.out 1, bl_ BK374.out 2, bl_ BK374.out 3, bl_ BK374.out 4, bl_ BK374.out 5, bl_ BK338.out 0, bl_ BK338.out 1, bl_ BK338.out 2, bl_ BK338.out 3, bl_ BK338.out 4, bl_ BK338.out 5⟩ (fun hHeld => ?_)
         clear hK K
         refine no_ (some 50) ?_
         refine on_ (i := 3) (N := some 51) (fun K hK => ?_)
         refine goes_ Tryd.func23 (by kernel_rfl) rfl #[.agg #[.slice Ao35 t360.length co35, .slice Ao38 t363.length co38, .int .i64 t366, .int .i64 t367, .slice Ao39 t368.length co39, .slice Ao40 t371.length co40], .agg #[.slice Ao64 t380.length co64, .slice Ao65 t383.length co65, .int .i64 t386, .int .i64 t387, .slice Ao66 t388.length co66, .slice Ao67 t391.length co67]] (by rfl) rfl rfl ml_ ?_
         with_reducible refine (laws_eqSrv.calls kj18 _ _ t360 _ _ t363 t366 t367 _ _ t368 _ _ t371 _ _ t380 _ _ t383 t386 t387 _ _ t388 _ _ t391 true _ ?s1 ?s2 ?s3 ?s4 ?s5 ?s6 ?s7 ?s8 ?s9 ?s10 ?s11 ?s12 ?s13 ?s14 ?s15 ?s16 A48.out).mono ?_
         (case s1 => exact cC_ (Kd.S_reads' HO_375000.out).2.2)
         (case s2 => exact (Kd.S_reads' HO_375000.out).2.1)
         (case s3 => exact cC_ (Kd.S_reads' HO_375001.out).2.2)
         (case s4 => exact (Kd.S_reads' HO_375001.out).2.1)
         (case s5 => exact cC_ (Kd.R_reads' HO_375004.out).2.2)
         (case s6 => exact (Kd.R_reads' HO_375004.out).2.1)
         (case s7 => exact cC_ (Kd.R_reads' HO_375005.out).2.2)
         (case s8 => exact (Kd.R_reads' HO_375005.out).2.1)
         (case s9 => exact cC_ (Kd.S_reads' HO382.out).2.2)
         (case s10 => exact (Kd.S_reads' HO382.out).2.1)
         (case s11 => exact cC_ (Kd.S_reads' HO385.out).2.2)
         (case s12 => exact (Kd.S_reads' HO385.out).2.1)
         (case s13 => exact cC_ (Kd.R_reads' HO390.out).2.2)
         (case s14 => exact (Kd.R_reads' HO390.out).2.1)
         (case s15 => exact cC_ (Kd.R_reads' HO393.out).2.2)
         (case s16 => exact (Kd.R_reads' HO393.out).2.1)
         rintro e w68 ⟨rfl, hb⟩
         refine ⟨_, rfl, ?_⟩
         replace HO_9 := A_ (Kd.R_below (vR_ HO_9.out) hb)
         replace HO_375000 := A_ (Kd.S_below (vS_ HO_375000.out) hb)
         replace HO_375001 := A_ (Kd.S_below (vS_ HO_375001.out) hb)
         replace HO_375004 := A_ (Kd.R_below (vR_ HO_375004.out) hb)
         replace HO_375005 := A_ (Kd.R_below (vR_ HO_375005.out) hb)
         replace HO382 := A_ (Kd.S_below (vS_ HO382.out) hb)
         replace HO385 := A_ (Kd.S_below (vS_ HO385.out) hb)
         replace HO390 := A_ (Kd.R_below (vR_ HO390.out) hb)
         replace HO393 := A_ (Kd.R_below (vR_ HO393.out) hb)
         replace BK338 := A_ (bw_ BK338.out hb)
         replace BK374 := A_ (bw_ BK374.out hb)
         replace HB := A_ (below_step (by repeat (first | (with_reducible first | exact HB.out | apply below_alloc | apply pw_below_drewN | apply below_drew1 | refine below_set ?_ GE338.out | refine below_set ?_ GE374.out) | exact HB.out)) hb)
         (try clear hb)
         (try clear hb2)
         (try clear hk)
         (try clear hi)
         refine hK.out _ _ ⟨bl_ BK374.out 0, bl_ BK374.out 1, bl_ BK374.out 2, bl_ BK374.out 3, bl_ BK374.out 4, bl_ BK374.out 5, bl_ BK338.out 0, bl_ BK338.out 1, bl_ BK338.out 2, bl_ BK338.out 3, bl_ BK338.out 4, bl_ BK338.out 5⟩ (fun hHeld => ?_)
         clear hK K
         refine no_ (some 51) ?_
         refine pu_ (i := 4) (N := some 52) ?_
         refine done_ (by kernel_rfl) ?_
         try go_wp2_with (first | ((with_reducible refine gc_ (f := 21) rfl ?_); refine gL_ (some 55) Tryd.func21 #[.slice A1 l1.length c1] ?_; (with_reducible refine (laws_toStringS.calls kj18 _ _ l1 t395 _ ?s1 ?s2 A50.out).mono ?_); (case s1 => exact cC_ (Kd.C_below HR1.out HB.out)); (case s2 => exact HC1.out); rintro e w69 ⟨v396, rfl, ho0, hb⟩; refine ⟨_, rfl, ?_⟩; replace HO_375000 := A_ (Kd.S_elder' (vS_ HO_375000.out) (kb_ ho0) hb); replace HO_375001 := A_ (Kd.S_elder' (vS_ HO_375001.out) (kb_ ho0) hb); replace HO_375004 := A_ (Kd.R_below (vR_ HO_375004.out) hb); replace HO_375005 := A_ (Kd.R_below (vR_ HO_375005.out) hb); replace HO382 := A_ (Kd.S_elder' (vS_ HO382.out) (kb_ ho0) hb); replace HO385 := A_ (Kd.S_elder' (vS_ HO385.out) (kb_ ho0) hb); replace HO390 := A_ (Kd.R_below (vR_ HO390.out) hb); replace HO393 := A_ (Kd.R_below (vR_ HO393.out) hb); have HO397 := A_ (Kd.R_lower (Kd.R_new' ho0 (Kd.R_lt (vR_ HO_9.out))) (below_size (by repeat (first | (with_reducible first | exact HB.out | apply below_alloc | apply pw_below_drewN | apply below_drew1 | refine below_set ?_ GE338.out | refine below_set ?_ GE374.out) | exact HB.out)))); replace HO_9 := A_ (Kd.R_elder' (vR_ HO_9.out) (kb_ ho0) hb); replace BK338 := A_ (bw_ BK338.out hb); replace BK374 := A_ (bw_ BK374.out hb); replace HB := A_ (below_step (by repeat (first | (with_reducible first | exact HB.out | apply below_alloc | apply pw_below_drewN | apply below_drew1 | refine below_set ?_ GE338.out | refine below_set ?_ GE374.out) | exact HB.out)) hb); (try clear hb); (try clear ho0); obtain ⟨Ao70, co70, eo70⟩ := Kd.R_slice HO397.out; subst eo70) | ((with_reducible refine gc_ (f := 14) rfl ?_); refine gL_ (some 56) Tryd.func14 #[.slice Ao43 t375.length co43, .slice Ao70 t395.length co70] ?_; (with_reducible refine (laws_eqStringS.calls kj18 _ _ t375 _ _ t395 false _ ?s1 ?s2 ?s3 ?s4 A51.out).mono ?_); (case s1 => exact cC_ (Kd.R_reads' HO_9.out).2.2); (case s2 => exact (Kd.R_reads' HO_9.out).2.1); (case s3 => exact cC_ (Kd.R_reads' HO397.out).2.2); (case s4 => exact (Kd.R_reads' HO397.out).2.1); rintro e w' ⟨rfl, ⟨nd, rfl⟩⟩; refine ⟨_, rfl, ?_⟩))
         go_ret
         exact ⟨rr_, by repeat (first | (with_reducible first | exact HB.out | apply below_alloc | apply pw_below_drewN | apply below_drew1 | refine below_set ?_ GE338.out | refine below_set ?_ GE374.out) | exact HB.out)⟩
     · replace c49 := Bool.eq_false_iff.mpr c49
       subst c49
       rw [if_neg nf_] at H
       obtain rfl := si_ H
       try go_wp2
       replace HO_9 := A_ (Kd.R_drew HO_9.out)
       replace HO_375000 := A_ (Kd.S_drew HO_375000.out)
       replace HO_375001 := A_ (Kd.S_drew HO_375001.out)
       replace HO_375004 := A_ (Kd.R_drew HO_375004.out)
       replace HO_375005 := A_ (Kd.R_drew HO_375005.out)
       replace BK338 := A_ (blk_drew BK338.out)
       replace BK374 := A_ (blk_drew BK374.out)
       replace HB := A_ (below_drew1 HB.out)
       refine start_ (n := 5) (S := fun w' => w'.cell? ⟨gb374, 0, none⟩ = some (.slice Ao35 t360.length co35) ∧ w'.cell? ⟨gb374, 1, none⟩ = some (.slice Ao38 t363.length co38) ∧ w'.cell? ⟨gb374, 2, none⟩ = some (.int .i64 t366) ∧ w'.cell? ⟨gb374, 3, none⟩ = some (.int .i64 t367) ∧ w'.cell? ⟨gb374, 4, none⟩ = some (.slice Ao39 t368.length co39) ∧ w'.cell? ⟨gb374, 5, none⟩ = some (.slice Ao40 t371.length co40) ∧ w'.cell? ⟨gb338, 0, none⟩ = some (.slice A0_0 l0_0.length c0_0) ∧ w'.cell? ⟨gb338, 1, none⟩ = some (.slice A0_1 l0_1.length c0_1) ∧ w'.cell? ⟨gb338, 2, none⟩ = some (.int .i64 a0_2) ∧ w'.cell? ⟨gb338, 3, none⟩ = some (.int .i64 a0_3) ∧ w'.cell? ⟨gb338, 4, none⟩ = some (.slice A0_4 l0_4.length c0_4) ∧ w'.cell? ⟨gb338, 5, none⟩ = some (.slice A0_5 l0_5.length c0_5)) (ds := []) #[false, false, false, false, false] (by kernel_rfl) rfl rfl ⟨bl_ BK374.out 0, bl_ BK374.out 1, bl_ BK374.out 2, bl_ BK374.out 3, bl_ BK374.out 4, bl_ BK374.out 5, bl_ BK338.out 0, bl_ BK338.out 1, bl_ BK338.out 2, bl_ BK338.out 3, bl_ BK338.out 4, bl_ BK338.out 5⟩ (fun hHeld => ?_)
       generalize wc.drew = w71 at HO_9 HO_375000 HO_375001 HO_375004 HO_375005 BK338 BK374 HB hHeld ⊢
       refine tk_ (i := 0) (N := some 48) hHeld ?_
       refine tk_ (i := 1) (N := some 49) hHeld ?_
       refine on_ (i := 2) (N := some 50) (fun K hK => ?_)
       refine goes_ Tryd.func20 (by kernel_rfl) rfl #[.agg #[.slice A0_0 l0_0.length c0_0, .slice A0_1 l0_1.length c0_1, .int .i64 a0_2, .int .i64 a0_3, .slice A0_4 l0_4.length c0_4, .slice A0_5 l0_5.length c0_5]] (by rfl) rfl rfl ml_ ?_
       with_reducible refine (laws_toSrv.calls kj18 _ _ l0_0 _ _ l0_1 a0_2 a0_3 _ _ l0_4 _ _ l0_5 t380 t383 t386 t387 t388 t391 _ ?s1 ?s2 ?s3 ?s4 ?s5 ?s6 ?s7 ?s8 A47.out).mono ?_
       (case s1 => exact cC_ (Kd.C_below HR0_0.out HB.out))
       (case s2 => exact HC0_0.out)
       (case s3 => exact cC_ (Kd.C_below HR0_1.out HB.out))
       (case s4 => exact HC0_1.out)
       (case s5 => exact cC_ (Kd.C_below HR0_4.out HB.out))
       (case s6 => exact HC0_4.out)
       (case s7 => exact cC_ (Kd.C_below HR0_5.out HB.out))
       (case s8 => exact HC0_5.out)
       rintro e w72 ⟨v381, v384, v389, v392, rfl, ho0, ho1, ho2, ho3, hb⟩
       refine ⟨_, rfl, ?_⟩
       have HO382 := A_ (Kd.S_lower (Kd.S_new' (Kd.S_new' ho0 (Kd.R_lt (vR_ HO_9.out))) (Kd.S_lt (vS_ HO_375000.out))) (below_size (by repeat (first | (with_reducible first | exact HB.out | apply below_alloc | apply pw_below_drewN | apply below_drew1 | refine below_set ?_ GE338.out | refine below_set ?_ GE374.out) | exact HB.out))))
       replace HO_375000 := A_ (Kd.S_elder' (vS_ HO_375000.out) (kb_ ho0) hb)
       have HO385 := A_ (Kd.S_lower (Kd.S_new' (Kd.S_new' ho1 (Kd.R_lt (vR_ HO_9.out))) (Kd.S_lt (vS_ HO_375001.out))) (below_size (by repeat (first | (with_reducible first | exact HB.out | apply below_alloc | apply pw_below_drewN | apply below_drew1 | refine below_set ?_ GE338.out | refine below_set ?_ GE374.out) | exact HB.out))))
       replace HO_9 := A_ (Kd.R_below (vR_ HO_9.out) hb)
       replace HO_375001 := A_ (Kd.S_elder' (vS_ HO_375001.out) (kb_ ho1) hb)
       have HO390 := A_ (Kd.R_lower (Kd.R_new' (Kd.R_new' ho2 (Kd.R_lt (vR_ HO_375004.out))) (Kd.R_lt (vR_ HO_375005.out))) (below_size (by repeat (first | (with_reducible first | exact HB.out | apply below_alloc | apply pw_below_drewN | apply below_drew1 | refine below_set ?_ GE338.out | refine below_set ?_ GE374.out) | exact HB.out))))
       have HO393 := A_ (Kd.R_lower (Kd.R_new' (Kd.R_new' ho3 (Kd.R_lt (vR_ HO_375004.out))) (Kd.R_lt (vR_ HO_375005.out))) (below_size (by repeat (first | (with_reducible first | exact HB.out | apply below_alloc | apply pw_below_drewN | apply below_drew1 | refine below_set ?_ GE338.out | refine below_set ?_ GE374.out) | exact HB.out))))
       replace HO_375004 := A_ (Kd.R_mono (Kd.R_told (Kd.R_told (Kd.R_old (vR_ HO_375004.out) hb) (kb_ ho2)) (kb_ ho3)) (fun _ h_ => h_.1))
       replace HO_375005 := A_ (Kd.R_mono (Kd.R_told (Kd.R_told (Kd.R_old (vR_ HO_375005.out) hb) (kb_ ho2)) (kb_ ho3)) (fun _ h_ => h_.1))
       replace BK338 := A_ (bw_ BK338.out hb)
       replace BK374 := A_ (bw_ BK374.out hb)
       replace HB := A_ (below_step (by repeat (first | (with_reducible first | exact HB.out | apply below_alloc | apply pw_below_drewN | apply below_drew1 | refine below_set ?_ GE338.out | refine below_set ?_ GE374.out) | exact HB.out)) hb)
       (try clear hb)
       (try clear hb2)
       (try clear hk)
       (try clear hi)
       (try clear ho0)
       (try clear ho1)
       (try clear ho2)
       (try clear ho3)
       obtain ⟨Ao73, co73, eo73⟩ := Kd.S_slice HO382.out
       (first | subst eo73 | (injection eo73 with f1_ f2_ f3_; have f4_ := f1_.symm; have f5_ := f3_.symm; clear f1_ f2_ f3_; subst f4_; subst f5_))
       obtain ⟨Ao74, co74, eo74⟩ := Kd.S_slice HO385.out
       (first | subst eo74 | (injection eo74 with f1_ f2_ f3_; have f4_ := f1_.symm; have f5_ := f3_.symm; clear f1_ f2_ f3_; subst f4_; subst f5_))
       obtain ⟨Ao75, co75, eo75⟩ := Kd.R_slice HO390.out
       (first | subst eo75 | (injection eo75 with f1_ f2_ f3_; have f4_ := f1_.symm; have f5_ := f3_.symm; clear f1_ f2_ f3_; subst f4_; subst f5_))
       obtain ⟨Ao76, co76, eo76⟩ := Kd.R_slice HO393.out
       (first | subst eo76 | (injection eo76 with f1_ f2_ f3_; have f4_ := f1_.symm; have f5_ := f3_.symm; clear f1_ f2_ f3_; subst f4_; subst f5_))
       refine hK.out _ _ ⟨bl_ BK374.out 0, bl_ BK374.out 1, bl_ BK374.out 2, bl_ BK374.out 3, bl_ BK374.out 4, bl_ BK374.out 5, bl_ BK338.out 0, bl_ BK338.out 1, bl_ BK338.out 2, bl_ BK338.out 3, bl_ BK338.out 4, bl_ BK338.out 5⟩ (fun hHeld => ?_)
       clear hK K
       refine no_ (some 50) ?_
       refine on_ (i := 3) (N := some 51) (fun K hK => ?_)
       refine goes_ Tryd.func23 (by kernel_rfl) rfl #[.agg #[.slice Ao35 t360.length co35, .slice Ao38 t363.length co38, .int .i64 t366, .int .i64 t367, .slice Ao39 t368.length co39, .slice Ao40 t371.length co40], .agg #[.slice Ao73 t380.length co73, .slice Ao74 t383.length co74, .int .i64 t386, .int .i64 t387, .slice Ao75 t388.length co75, .slice Ao76 t391.length co76]] (by rfl) rfl rfl ml_ ?_
       with_reducible refine (laws_eqSrv.calls kj18 _ _ t360 _ _ t363 t366 t367 _ _ t368 _ _ t371 _ _ t380 _ _ t383 t386 t387 _ _ t388 _ _ t391 false _ ?s1 ?s2 ?s3 ?s4 ?s5 ?s6 ?s7 ?s8 ?s9 ?s10 ?s11 ?s12 ?s13 ?s14 ?s15 ?s16 A48.out).mono ?_
       (case s1 => exact cC_ (Kd.S_reads' HO_375000.out).2.2)
       (case s2 => exact (Kd.S_reads' HO_375000.out).2.1)
       (case s3 => exact cC_ (Kd.S_reads' HO_375001.out).2.2)
       (case s4 => exact (Kd.S_reads' HO_375001.out).2.1)
       (case s5 => exact cC_ (Kd.R_reads' HO_375004.out).2.2)
       (case s6 => exact (Kd.R_reads' HO_375004.out).2.1)
       (case s7 => exact cC_ (Kd.R_reads' HO_375005.out).2.2)
       (case s8 => exact (Kd.R_reads' HO_375005.out).2.1)
       (case s9 => exact cC_ (Kd.S_reads' HO382.out).2.2)
       (case s10 => exact (Kd.S_reads' HO382.out).2.1)
       (case s11 => exact cC_ (Kd.S_reads' HO385.out).2.2)
       (case s12 => exact (Kd.S_reads' HO385.out).2.1)
       (case s13 => exact cC_ (Kd.R_reads' HO390.out).2.2)
       (case s14 => exact (Kd.R_reads' HO390.out).2.1)
       (case s15 => exact cC_ (Kd.R_reads' HO393.out).2.2)
       (case s16 => exact (Kd.R_reads' HO393.out).2.1)
       rintro e w77 ⟨rfl, hb⟩
       refine ⟨_, rfl, ?_⟩
       replace HO_9 := A_ (Kd.R_below (vR_ HO_9.out) hb)
       replace HO_375000 := A_ (Kd.S_below (vS_ HO_375000.out) hb)
       replace HO_375001 := A_ (Kd.S_below (vS_ HO_375001.out) hb)
       replace HO_375004 := A_ (Kd.R_below (vR_ HO_375004.out) hb)
       replace HO_375005 := A_ (Kd.R_below (vR_ HO_375005.out) hb)
       replace HO382 := A_ (Kd.S_below (vS_ HO382.out) hb)
       replace HO385 := A_ (Kd.S_below (vS_ HO385.out) hb)
       replace HO390 := A_ (Kd.R_below (vR_ HO390.out) hb)
       replace HO393 := A_ (Kd.R_below (vR_ HO393.out) hb)
       replace BK338 := A_ (bw_ BK338.out hb)
       replace BK374 := A_ (bw_ BK374.out hb)
       replace HB := A_ (below_step (by repeat (first | (with_reducible first | exact HB.out | apply below_alloc | apply pw_below_drewN | apply below_drew1 | refine below_set ?_ GE338.out | refine below_set ?_ GE374.out) | exact HB.out)) hb)
       (try clear hb)
       (try clear hb2)
       (try clear hk)
       (try clear hi)
       refine hK.out _ _ ⟨bl_ BK374.out 0, bl_ BK374.out 1, bl_ BK374.out 2, bl_ BK374.out 3, bl_ BK374.out 4, bl_ BK374.out 5, bl_ BK338.out 0, bl_ BK338.out 1, bl_ BK338.out 2, bl_ BK338.out 3, bl_ BK338.out 4, bl_ BK338.out 5⟩ (fun hHeld => ?_)
       clear hK K
       refine no_ (some 51) ?_
       refine pu_ (i := 4) (N := some 52) ?_
       refine done_ (by kernel_rfl) ?_
       try go_wp2
       go_ret
       exact ⟨rr_, by repeat (first | (with_reducible first | exact HB.out | apply below_alloc | apply pw_below_drewN | apply below_drew1 | refine below_set ?_ GE338.out | refine below_set ?_ GE374.out) | exact HB.out)⟩
end Go.Proofs.YtigoeooelfeopaaDoor.Q

/- What a reading of a parameter says of its cells, kind by kind: for the rows of laws whose parameters are slices and structs. No condition. -/
namespace Go.Proofs.YtigoeooelfeopaaDoor.Op
open Go.RowKit Go.ChangeShapes Go.WideShapes Go.Proofs.YtigoeooelfeopaaDoorW.PrintWords
def Opens {α H : Type} (enc : TypeId × Value → H) (P : Program) (w : World) (t : TypeId) (d : Kd α) (G : α → Prop) : Prop :=
  ∀ fuel cs x, DataW.trod enc P w 0 (fun _ => true) true fuel t cs = some x → ∃ a, d.K w a cs ∧ G a
section
variable {H : Type} {enc : TypeId × Value → H} {P : Program} {w : World} {t : TypeId}
theorem opens_string (ht : P.underlying t = some .string) : Opens enc P w t Kd.string (fun s => s.size ≤ maxLen) := by
  intro fuel cs x h
  obtain ⟨s, rfl, _, hs⟩ := DataW.trod_string ht h
  exact ⟨s, rfl, hs⟩
theorem opens_bool (ht : P.underlying t = some .bool) : Opens enc P w t Kd.bool (fun _ => True) := by
  intro fuel cs x h
  obtain ⟨s, rfl, _⟩ := DataW.trod_bool ht h
  exact ⟨s, rfl, trivial⟩
theorem opens_int {k : IntKind} (ht : P.underlying t = some (.int k)) : Opens enc P w t (Kd.int k) (fun n => (Lit.int k n).wf = true) := by
  intro fuel cs x h
  obtain ⟨n, rfl, _, hn⟩ := DataW.trod_int ht h
  exact ⟨n, rfl, hn⟩
theorem opens_slice {α : Type} [Inhabited α] {e : TypeId} {d : Kd α} {G : α → Prop} (ht : P.underlying t = some (.slice e)) (hc : P.cellsOf e = d.sz) (he : Opens enc P w e d G) :
    Opens enc P w t (Kd.slice e d) (fun l => l.length ≤ maxLen ∧ ∀ a ∈ l, G a) := by
  intro fuel cs x h
  rcases Go.Deep.open_slice ht h with ⟨rfl, _⟩ | ⟨a, len, cap, m, n, D, Pl, rfl, _, hl, hm, hmm, _, hx⟩
  · exact ⟨[], ⟨none, 0, rfl, Nat.le_refl _, Kd.C_nil d w⟩, by simp, by simp⟩
  · have hm' : m = cap := by simpa using hmm
    have each : ∀ i, i < len → ∃ y : α, G y ∧ ∃ c, d.K w y c ∧ ∀ j u, c[j]? = some u → w.cell? (a.add (i * d.sz + j)) = some u := fun i hi => by
      obtain ⟨cs', h1, h2⟩ := hx i (by omega)
      obtain ⟨y, hK, hG⟩ := he _ _ _ h2
      obtain ⟨_, h3, h4⟩ := World.cells?_some h1
      refine ⟨y, hG, cs', hK, fun j u hu => ?_⟩
      have hj : j < P.cellsOf e := by
        have := (List.getElem?_eq_some_iff.1 hu).1
        omega
      have h5 := h4 j hj
      rw [Go.Deep.add_add, hc, hu] at h5
      exact h5
    obtain ⟨f, hf⟩ := Go.Deep.choose_lt each
    have hmax : maxLen = 9223372036854775807 := by decide
    refine ⟨(List.range len).map f, ⟨some a, cap, by simp, by simpa using hl, ?_⟩, by simp; omega, ?_⟩
    · refine ⟨rfl, by simp; omega, fun _ => ⟨a, rfl, fun j p hj => ?_⟩⟩
      have hjl : j < len := by
        have := (List.getElem?_eq_some_iff.1 hj).1
        simpa using this
      have hp : f j = p := by
        rw [List.getElem?_map, List.getElem?_range hjl] at hj
        simpa using hj
      obtain ⟨_, c, hK, hcell⟩ := hf j hjl
      exact ⟨c, d.K_len hK, hp ▸ hK, hcell⟩
    · intro y hy
      obtain ⟨j, hj, rfl⟩ := List.mem_map.1 hy
      exact (hf j (List.mem_range.1 hj)).1
end
end Go.Proofs.YtigoeooelfeopaaDoor.Op

/- What a reading of a struct says of its cells. No condition. -/
namespace Go.Proofs.YtigoeooelfeopaaDoor.Q
open Go.RowKit Go.ChangeShapes Go.WideShapes Go.Proofs.YtigoeooelfeopaaDoorW.PrintWords Go.Proofs.YtigoeooelfeopaaDoor
set_option linter.unusedVariables false
set_option linter.unusedSimpArgs false
structure S35 where
  f0 : List (S93)
  f1 : List (S96)
  f2 : Int
  f3 : Int
  f4 : List Int
  f5 : List Int
def z35 : S35 := ⟨([] : List (S93)), ([] : List (S96)), (0 : Int), (0 : Int), ([] : List Int), ([] : List Int)⟩
def k35 : Kd S35 := Kd.iso (Kd.pair (Kd.slice 93 k93) (Kd.pair (Kd.slice 96 k96) (Kd.pair (Kd.int .i64) (Kd.pair (Kd.int .i64) (Kd.pair (Kd.slice 3 (Kd.int .i64)) (Kd.slice 3 (Kd.int .i64))))))) (fun x : S35 => (x.f0, x.f1, x.f2, x.f3, x.f4, x.f5))
theorem k35_open {w : World} {x : S35} {cs : List Value} (h : k35.K w x cs) : ∃ A0 c0 A1 c1 A4 c4 A5 c5, cs = [.slice A0 x.f0.length c0, .slice A1 x.f1.length c1, .int .i64 x.f2, .int .i64 x.f3, .slice A4 x.f4.length c4, .slice A5 x.f5.length c5] ∧ x.f0.length ≤ c0 ∧ Kd.C k93 w A0 x.f0.length x.f0 ∧ x.f1.length ≤ c1 ∧ Kd.C k96 w A1 x.f1.length x.f1 ∧ x.f4.length ≤ c4 ∧ Kd.C (Kd.int .i64) w A4 x.f4.length x.f4 ∧ x.f5.length ≤ c5 ∧ Kd.C (Kd.int .i64) w A5 x.f5.length x.f5 := by
  obtain ⟨_, _, rfl, ⟨A0, c0, rfl, l0, g0⟩, ⟨_, _, rfl, ⟨A1, c1, rfl, l1, g1⟩, ⟨_, _, rfl, rfl, ⟨_, _, rfl, rfl, ⟨_, _, rfl, ⟨A4, c4, rfl, l4, g4⟩, ⟨A5, c5, rfl, l5, g5⟩⟩⟩⟩⟩⟩ := h
  exact ⟨A0, c0, A1, c1, A4, c4, A5, c5, rfl, l0, g0, l1, g1, l4, g4, l5, g5⟩
theorem len3 {α : Type} {cs : List α} (h : cs.length = 3) : ∃ c0 c1 c2, cs = [c0, c1, c2] := by
  match cs, h with
  | [c0, c1, c2], _ => exact ⟨_, _, _, rfl⟩
theorem len5 {α : Type} {cs : List α} (h : cs.length = 5) : ∃ c0 c1 c2 c3 c4, cs = [c0, c1, c2, c3, c4] := by
  match cs, h with
  | [c0, c1, c2, c3, c4], _ => exact ⟨_, _, _, _, _, rfl⟩
theorem len6 {α : Type} {cs : List α} (h : cs.length = 6) : ∃ c0 c1 c2 c3 c4 c5, cs = [c0, c1, c2, c3, c4, c5] := by
  match cs, h with
  | [c0, c1, c2, c3, c4, c5], _ => exact ⟨_, _, _, _, _, _, rfl⟩
instance : Inhabited S147 := ⟨z147⟩
instance : Inhabited S93 := ⟨z93⟩
instance : Inhabited S96 := ⟨z96⟩
instance : Inhabited S35 := ⟨z35⟩
instance : Inhabited S103 := ⟨z103⟩
def G147 (x : S147) : Prop := (fun s : ByteArray => s.size ≤ maxLen) x.f0 ∧ (fun s : ByteArray => s.size ≤ maxLen) x.f1 ∧ (fun s : ByteArray => s.size ≤ maxLen) x.f2
theorem opens147 {H : Type} {enc : TypeId × Value → H} {w : World} : Op.Opens enc Tryd.prog w 147 k147 G147 := by
  intro fuel cs x h
  obtain ⟨xs, n, _, _, hl, hlen, hf⟩ := DataW.trod_struct Tryd.underlying147 h
  replace hl : cs.length = 3 := hl.trans (by kernel_rfl)
  replace hlen : xs.length = 3 := hlen.trans (by kernel_rfl)
  obtain ⟨c0, c1, c2, rfl⟩ := len3 hl
  have hc9_ : Tryd.prog.cellsOf 9 = 1 := by kernel_rfl
  obtain ⟨a0, k0_, g0_⟩ : ∃ a, Kd.string.K w a [c0] ∧ (fun s : ByteArray => s.size ≤ maxLen) a := by
    have h1 : DataW.trod enc Tryd.prog w 0 (fun _ => true) true n 9 (([c0, c1, c2].drop 0).take (Tryd.prog.cellsOf 9)) = xs[0]? := hf 0 _ rfl
    have hlt : 0 < xs.length := by omega
    rw [List.getElem?_eq_getElem hlt] at h1
    simp only [hc9_, List.drop_zero, List.drop_succ_cons, List.take_succ_cons, List.take_zero] at h1
    exact (Op.opens_string Tryd.underlying9) n [c0] _ h1
  obtain ⟨a1, k1_, g1_⟩ : ∃ a, Kd.string.K w a [c1] ∧ (fun s : ByteArray => s.size ≤ maxLen) a := by
    have h1 : DataW.trod enc Tryd.prog w 0 (fun _ => true) true n 9 (([c0, c1, c2].drop 1).take (Tryd.prog.cellsOf 9)) = xs[1]? := hf 1 _ rfl
    have hlt : 1 < xs.length := by omega
    rw [List.getElem?_eq_getElem hlt] at h1
    simp only [hc9_, List.drop_zero, List.drop_succ_cons, List.take_succ_cons, List.take_zero] at h1
    exact (Op.opens_string Tryd.underlying9) n [c1] _ h1
  obtain ⟨a2, k2_, g2_⟩ : ∃ a, Kd.string.K w a [c2] ∧ (fun s : ByteArray => s.size ≤ maxLen) a := by
    have h1 : DataW.trod enc Tryd.prog w 0 (fun _ => true) true n 9 (([c0, c1, c2].drop 2).take (Tryd.prog.cellsOf 9)) = xs[2]? := hf 2 _ rfl
    have hlt : 2 < xs.length := by omega
    rw [List.getElem?_eq_getElem hlt] at h1
    simp only [hc9_, List.drop_zero, List.drop_succ_cons, List.take_succ_cons, List.take_zero] at h1
    exact (Op.opens_string Tryd.underlying9) n [c2] _ h1
  exact ⟨⟨a0, a1, a2⟩, ⟨[c0], [c1, c2], rfl, k0_, ⟨[c1], [c2], rfl, k1_, k2_⟩⟩, ⟨g0_, g1_, g2_⟩⟩
def G93 (x : S93) : Prop := (fun l : List ByteArray => l.length ≤ maxLen ∧ ∀ a ∈ l, (fun s : ByteArray => s.size ≤ maxLen) a) x.f0 ∧ (fun _ : Bool => True) x.f1 ∧ (fun s : ByteArray => s.size ≤ maxLen) x.f2 ∧ (fun x : Int => (Lit.int .i64 x).wf = true) x.f3 ∧ (fun l : List (S147) => l.length ≤ maxLen ∧ ∀ a ∈ l, G147 a) x.f4
theorem opens93 {H : Type} {enc : TypeId × Value → H} {w : World} : Op.Opens enc Tryd.prog w 93 k93 G93 := by
  intro fuel cs x h
  obtain ⟨xs, n, _, _, hl, hlen, hf⟩ := DataW.trod_struct Tryd.underlying93 h
  replace hl : cs.length = 5 := hl.trans (by kernel_rfl)
  replace hlen : xs.length = 5 := hlen.trans (by kernel_rfl)
  obtain ⟨c0, c1, c2, c3, c4, rfl⟩ := len5 hl
  have hc25_ : Tryd.prog.cellsOf 25 = 1 := by kernel_rfl
  have hc4_ : Tryd.prog.cellsOf 4 = 1 := by kernel_rfl
  have hc9_ : Tryd.prog.cellsOf 9 = 1 := by kernel_rfl
  have hc3_ : Tryd.prog.cellsOf 3 = 1 := by kernel_rfl
  have hc91_ : Tryd.prog.cellsOf 91 = 1 := by kernel_rfl
  obtain ⟨a0, k0_, g0_⟩ : ∃ a, (Kd.slice 9 Kd.string).K w a [c0] ∧ (fun l : List ByteArray => l.length ≤ maxLen ∧ ∀ a ∈ l, (fun s : ByteArray => s.size ≤ maxLen) a) a := by
    have h1 : DataW.trod enc Tryd.prog w 0 (fun _ => true) true n 25 (([c0, c1, c2, c3, c4].drop 0).take (Tryd.prog.cellsOf 25)) = xs[0]? := hf 0 _ rfl
    have hlt : 0 < xs.length := by omega
    rw [List.getElem?_eq_getElem hlt] at h1
    simp only [hc25_, List.drop_zero, List.drop_succ_cons, List.take_succ_cons, List.take_zero] at h1
    exact (Op.opens_slice Tryd.underlying25 (by kernel_rfl) (Op.opens_string Tryd.underlying9)) n [c0] _ h1
  obtain ⟨a1, k1_, g1_⟩ : ∃ a, Kd.bool.K w a [c1] ∧ (fun _ : Bool => True) a := by
    have h1 : DataW.trod enc Tryd.prog w 0 (fun _ => true) true n 4 (([c0, c1, c2, c3, c4].drop 1).take (Tryd.prog.cellsOf 4)) = xs[1]? := hf 1 _ rfl
    have hlt : 1 < xs.length := by omega
    rw [List.getElem?_eq_getElem hlt] at h1
    simp only [hc4_, List.drop_zero, List.drop_succ_cons, List.take_succ_cons, List.take_zero] at h1
    exact (Op.opens_bool Tryd.underlying4) n [c1] _ h1
  obtain ⟨a2, k2_, g2_⟩ : ∃ a, Kd.string.K w a [c2] ∧ (fun s : ByteArray => s.size ≤ maxLen) a := by
    have h1 : DataW.trod enc Tryd.prog w 0 (fun _ => true) true n 9 (([c0, c1, c2, c3, c4].drop 2).take (Tryd.prog.cellsOf 9)) = xs[2]? := hf 2 _ rfl
    have hlt : 2 < xs.length := by omega
    rw [List.getElem?_eq_getElem hlt] at h1
    simp only [hc9_, List.drop_zero, List.drop_succ_cons, List.take_succ_cons, List.take_zero] at h1
    exact (Op.opens_string Tryd.underlying9) n [c2] _ h1
  obtain ⟨a3, k3_, g3_⟩ : ∃ a, (Kd.int .i64).K w a [c3] ∧ (fun x : Int => (Lit.int .i64 x).wf = true) a := by
    have h1 : DataW.trod enc Tryd.prog w 0 (fun _ => true) true n 3 (([c0, c1, c2, c3, c4].drop 3).take (Tryd.prog.cellsOf 3)) = xs[3]? := hf 3 _ rfl
    have hlt : 3 < xs.length := by omega
    rw [List.getElem?_eq_getElem hlt] at h1
    simp only [hc3_, List.drop_zero, List.drop_succ_cons, List.take_succ_cons, List.take_zero] at h1
    exact (Op.opens_int Tryd.underlying3) n [c3] _ h1
  obtain ⟨a4, k4_, g4_⟩ : ∃ a, (Kd.slice 147 k147).K w a [c4] ∧ (fun l : List (S147) => l.length ≤ maxLen ∧ ∀ a ∈ l, G147 a) a := by
    have h1 : DataW.trod enc Tryd.prog w 0 (fun _ => true) true n 91 (([c0, c1, c2, c3, c4].drop 4).take (Tryd.prog.cellsOf 91)) = xs[4]? := hf 4 _ rfl
    have hlt : 4 < xs.length := by omega
    rw [List.getElem?_eq_getElem hlt] at h1
    simp only [hc91_, List.drop_zero, List.drop_succ_cons, List.take_succ_cons, List.take_zero] at h1
    exact (Op.opens_slice Tryd.underlying91 (by kernel_rfl) opens147) n [c4] _ h1
  exact ⟨⟨a0, a1, a2, a3, a4⟩, ⟨[c0], [c1, c2, c3, c4], rfl, k0_, ⟨[c1], [c2, c3, c4], rfl, k1_, ⟨[c2], [c3, c4], rfl, k2_, ⟨[c3], [c4], rfl, k3_, k4_⟩⟩⟩⟩, ⟨g0_, g1_, g2_, g3_, g4_⟩⟩
def G96 (x : S96) : Prop := (fun x : Int => (Lit.int .i64 x).wf = true) x.f0 ∧ (fun l : List ByteArray => l.length ≤ maxLen ∧ ∀ a ∈ l, (fun s : ByteArray => s.size ≤ maxLen) a) x.f1 ∧ (fun _ : Bool => True) x.f2 ∧ (fun _ : Bool => True) x.f3 ∧ (fun x : Int => (Lit.int .i64 x).wf = true) x.f4
theorem opens96 {H : Type} {enc : TypeId × Value → H} {w : World} : Op.Opens enc Tryd.prog w 96 k96 G96 := by
  intro fuel cs x h
  obtain ⟨xs, n, _, _, hl, hlen, hf⟩ := DataW.trod_struct Tryd.underlying96 h
  replace hl : cs.length = 5 := hl.trans (by kernel_rfl)
  replace hlen : xs.length = 5 := hlen.trans (by kernel_rfl)
  obtain ⟨c0, c1, c2, c3, c4, rfl⟩ := len5 hl
  have hc3_ : Tryd.prog.cellsOf 3 = 1 := by kernel_rfl
  have hc25_ : Tryd.prog.cellsOf 25 = 1 := by kernel_rfl
  have hc4_ : Tryd.prog.cellsOf 4 = 1 := by kernel_rfl
  obtain ⟨a0, k0_, g0_⟩ : ∃ a, (Kd.int .i64).K w a [c0] ∧ (fun x : Int => (Lit.int .i64 x).wf = true) a := by
    have h1 : DataW.trod enc Tryd.prog w 0 (fun _ => true) true n 3 (([c0, c1, c2, c3, c4].drop 0).take (Tryd.prog.cellsOf 3)) = xs[0]? := hf 0 _ rfl
    have hlt : 0 < xs.length := by omega
    rw [List.getElem?_eq_getElem hlt] at h1
    simp only [hc3_, List.drop_zero, List.drop_succ_cons, List.take_succ_cons, List.take_zero] at h1
    exact (Op.opens_int Tryd.underlying3) n [c0] _ h1
  obtain ⟨a1, k1_, g1_⟩ : ∃ a, (Kd.slice 9 Kd.string).K w a [c1] ∧ (fun l : List ByteArray => l.length ≤ maxLen ∧ ∀ a ∈ l, (fun s : ByteArray => s.size ≤ maxLen) a) a := by
    have h1 : DataW.trod enc Tryd.prog w 0 (fun _ => true) true n 25 (([c0, c1, c2, c3, c4].drop 1).take (Tryd.prog.cellsOf 25)) = xs[1]? := hf 1 _ rfl
    have hlt : 1 < xs.length := by omega
    rw [List.getElem?_eq_getElem hlt] at h1
    simp only [hc25_, List.drop_zero, List.drop_succ_cons, List.take_succ_cons, List.take_zero] at h1
    exact (Op.opens_slice Tryd.underlying25 (by kernel_rfl) (Op.opens_string Tryd.underlying9)) n [c1] _ h1
  obtain ⟨a2, k2_, g2_⟩ : ∃ a, Kd.bool.K w a [c2] ∧ (fun _ : Bool => True) a := by
    have h1 : DataW.trod enc Tryd.prog w 0 (fun _ => true) true n 4 (([c0, c1, c2, c3, c4].drop 2).take (Tryd.prog.cellsOf 4)) = xs[2]? := hf 2 _ rfl
    have hlt : 2 < xs.length := by omega
    rw [List.getElem?_eq_getElem hlt] at h1
    simp only [hc4_, List.drop_zero, List.drop_succ_cons, List.take_succ_cons, List.take_zero] at h1
    exact (Op.opens_bool Tryd.underlying4) n [c2] _ h1
  obtain ⟨a3, k3_, g3_⟩ : ∃ a, Kd.bool.K w a [c3] ∧ (fun _ : Bool => True) a := by
    have h1 : DataW.trod enc Tryd.prog w 0 (fun _ => true) true n 4 (([c0, c1, c2, c3, c4].drop 3).take (Tryd.prog.cellsOf 4)) = xs[3]? := hf 3 _ rfl
    have hlt : 3 < xs.length := by omega
    rw [List.getElem?_eq_getElem hlt] at h1
    simp only [hc4_, List.drop_zero, List.drop_succ_cons, List.take_succ_cons, List.take_zero] at h1
    exact (Op.opens_bool Tryd.underlying4) n [c3] _ h1
  obtain ⟨a4, k4_, g4_⟩ : ∃ a, (Kd.int .i64).K w a [c4] ∧ (fun x : Int => (Lit.int .i64 x).wf = true) a := by
    have h1 : DataW.trod enc Tryd.prog w 0 (fun _ => true) true n 3 (([c0, c1, c2, c3, c4].drop 4).take (Tryd.prog.cellsOf 3)) = xs[4]? := hf 4 _ rfl
    have hlt : 4 < xs.length := by omega
    rw [List.getElem?_eq_getElem hlt] at h1
    simp only [hc3_, List.drop_zero, List.drop_succ_cons, List.take_succ_cons, List.take_zero] at h1
    exact (Op.opens_int Tryd.underlying3) n [c4] _ h1
  exact ⟨⟨a0, a1, a2, a3, a4⟩, ⟨[c0], [c1, c2, c3, c4], rfl, k0_, ⟨[c1], [c2, c3, c4], rfl, k1_, ⟨[c2], [c3, c4], rfl, k2_, ⟨[c3], [c4], rfl, k3_, k4_⟩⟩⟩⟩, ⟨g0_, g1_, g2_, g3_, g4_⟩⟩
def G35 (x : S35) : Prop := (fun l : List (S93) => l.length ≤ maxLen ∧ ∀ a ∈ l, G93 a) x.f0 ∧ (fun l : List (S96) => l.length ≤ maxLen ∧ ∀ a ∈ l, G96 a) x.f1 ∧ (fun x : Int => (Lit.int .i64 x).wf = true) x.f2 ∧ (fun x : Int => (Lit.int .i64 x).wf = true) x.f3 ∧ (fun l : List Int => l.length ≤ maxLen ∧ ∀ a ∈ l, (fun x : Int => (Lit.int .i64 x).wf = true) a) x.f4 ∧ (fun l : List Int => l.length ≤ maxLen ∧ ∀ a ∈ l, (fun x : Int => (Lit.int .i64 x).wf = true) a) x.f5
theorem opens35 {H : Type} {enc : TypeId × Value → H} {w : World} : Op.Opens enc Tryd.prog w 35 k35 G35 := by
  intro fuel cs x h
  obtain ⟨xs, n, _, _, hl, hlen, hf⟩ := DataW.trod_struct Tryd.underlying35 h
  replace hl : cs.length = 6 := hl.trans (by kernel_rfl)
  replace hlen : xs.length = 6 := hlen.trans (by kernel_rfl)
  obtain ⟨c0, c1, c2, c3, c4, c5, rfl⟩ := len6 hl
  have hc31_ : Tryd.prog.cellsOf 31 = 1 := by kernel_rfl
  have hc32_ : Tryd.prog.cellsOf 32 = 1 := by kernel_rfl
  have hc3_ : Tryd.prog.cellsOf 3 = 1 := by kernel_rfl
  have hc33_ : Tryd.prog.cellsOf 33 = 1 := by kernel_rfl
  obtain ⟨a0, k0_, g0_⟩ : ∃ a, (Kd.slice 93 k93).K w a [c0] ∧ (fun l : List (S93) => l.length ≤ maxLen ∧ ∀ a ∈ l, G93 a) a := by
    have h1 : DataW.trod enc Tryd.prog w 0 (fun _ => true) true n 31 (([c0, c1, c2, c3, c4, c5].drop 0).take (Tryd.prog.cellsOf 31)) = xs[0]? := hf 0 _ rfl
    have hlt : 0 < xs.length := by omega
    rw [List.getElem?_eq_getElem hlt] at h1
    simp only [hc31_, List.drop_zero, List.drop_succ_cons, List.take_succ_cons, List.take_zero] at h1
    exact (Op.opens_slice Tryd.underlying31 (by kernel_rfl) opens93) n [c0] _ h1
  obtain ⟨a1, k1_, g1_⟩ : ∃ a, (Kd.slice 96 k96).K w a [c1] ∧ (fun l : List (S96) => l.length ≤ maxLen ∧ ∀ a ∈ l, G96 a) a := by
    have h1 : DataW.trod enc Tryd.prog w 0 (fun _ => true) true n 32 (([c0, c1, c2, c3, c4, c5].drop 1).take (Tryd.prog.cellsOf 32)) = xs[1]? := hf 1 _ rfl
    have hlt : 1 < xs.length := by omega
    rw [List.getElem?_eq_getElem hlt] at h1
    simp only [hc32_, List.drop_zero, List.drop_succ_cons, List.take_succ_cons, List.take_zero] at h1
    exact (Op.opens_slice Tryd.underlying32 (by kernel_rfl) opens96) n [c1] _ h1
  obtain ⟨a2, k2_, g2_⟩ : ∃ a, (Kd.int .i64).K w a [c2] ∧ (fun x : Int => (Lit.int .i64 x).wf = true) a := by
    have h1 : DataW.trod enc Tryd.prog w 0 (fun _ => true) true n 3 (([c0, c1, c2, c3, c4, c5].drop 2).take (Tryd.prog.cellsOf 3)) = xs[2]? := hf 2 _ rfl
    have hlt : 2 < xs.length := by omega
    rw [List.getElem?_eq_getElem hlt] at h1
    simp only [hc3_, List.drop_zero, List.drop_succ_cons, List.take_succ_cons, List.take_zero] at h1
    exact (Op.opens_int Tryd.underlying3) n [c2] _ h1
  obtain ⟨a3, k3_, g3_⟩ : ∃ a, (Kd.int .i64).K w a [c3] ∧ (fun x : Int => (Lit.int .i64 x).wf = true) a := by
    have h1 : DataW.trod enc Tryd.prog w 0 (fun _ => true) true n 3 (([c0, c1, c2, c3, c4, c5].drop 3).take (Tryd.prog.cellsOf 3)) = xs[3]? := hf 3 _ rfl
    have hlt : 3 < xs.length := by omega
    rw [List.getElem?_eq_getElem hlt] at h1
    simp only [hc3_, List.drop_zero, List.drop_succ_cons, List.take_succ_cons, List.take_zero] at h1
    exact (Op.opens_int Tryd.underlying3) n [c3] _ h1
  obtain ⟨a4, k4_, g4_⟩ : ∃ a, (Kd.slice 3 (Kd.int .i64)).K w a [c4] ∧ (fun l : List Int => l.length ≤ maxLen ∧ ∀ a ∈ l, (fun x : Int => (Lit.int .i64 x).wf = true) a) a := by
    have h1 : DataW.trod enc Tryd.prog w 0 (fun _ => true) true n 33 (([c0, c1, c2, c3, c4, c5].drop 4).take (Tryd.prog.cellsOf 33)) = xs[4]? := hf 4 _ rfl
    have hlt : 4 < xs.length := by omega
    rw [List.getElem?_eq_getElem hlt] at h1
    simp only [hc33_, List.drop_zero, List.drop_succ_cons, List.take_succ_cons, List.take_zero] at h1
    exact (Op.opens_slice Tryd.underlying33 (by kernel_rfl) (Op.opens_int Tryd.underlying3)) n [c4] _ h1
  obtain ⟨a5, k5_, g5_⟩ : ∃ a, (Kd.slice 3 (Kd.int .i64)).K w a [c5] ∧ (fun l : List Int => l.length ≤ maxLen ∧ ∀ a ∈ l, (fun x : Int => (Lit.int .i64 x).wf = true) a) a := by
    have h1 : DataW.trod enc Tryd.prog w 0 (fun _ => true) true n 33 (([c0, c1, c2, c3, c4, c5].drop 5).take (Tryd.prog.cellsOf 33)) = xs[5]? := hf 5 _ rfl
    have hlt : 5 < xs.length := by omega
    rw [List.getElem?_eq_getElem hlt] at h1
    simp only [hc33_, List.drop_zero, List.drop_succ_cons, List.take_succ_cons, List.take_zero] at h1
    exact (Op.opens_slice Tryd.underlying33 (by kernel_rfl) (Op.opens_int Tryd.underlying3)) n [c5] _ h1
  exact ⟨⟨a0, a1, a2, a3, a4, a5⟩, ⟨[c0], [c1, c2, c3, c4, c5], rfl, k0_, ⟨[c1], [c2, c3, c4, c5], rfl, k1_, ⟨[c2], [c3, c4, c5], rfl, k2_, ⟨[c3], [c4, c5], rfl, k3_, ⟨[c4], [c5], rfl, k4_, k5_⟩⟩⟩⟩⟩, ⟨g0_, g1_, g2_, g3_, g4_, g5_⟩⟩
end Go.Proofs.YtigoeooelfeopaaDoor.Q

/- Small lemmas for plain laws over rounds: indices as lengths of what was passed, bytes' equality. No condition. -/
set_option linter.unusedSimpArgs false
set_option linter.unusedVariables false
namespace Go.Proofs.YtigoeooelfeopaaDoor.L
open Go.RowKit Go.Proofs.YtigoeooelfeopaaDoorW.PrintWords Go.Proofs.YtigoeooelfeopaaDoorW.PrintLast
theorem ba_toList (s : ByteArray) : s.toList = s.data.toList := ByteArray.toList_eq s
theorem ba_inj {a b : ByteArray} (h : a.toList = b.toList) : a = b := by
  rw [ba_toList, ba_toList] at h
  cases a with | mk x => cases b with | mk y => congr 1; exact Array.toList_inj.1 h
theorem ba_eq {a b : ByteArray} : (a.toList = b.toList) = (a = b) := propext ⟨ba_inj, fun h => by rw [h]⟩
theorem maxLen_eq : maxLen = 9223372036854775807 := by decide
theorem wrap_id {x : Int} (h0 : -9223372036854775808 ≤ x) (h1 : x < 9223372036854775808) : wrap64 x = x := by
  unfold wrap64
  omega
section
variable {α : Type} {l pre suf : List α} {a : α}
theorem lt_at (h : l = pre ++ a :: suf) : ((pre.length : Nat) : Int) < (l.length : Int) := by subst h; simp; omega
theorem rd_at (d : α) (h : l = pre ++ a :: suf) : rdOf d l (pre.length : Int) = a := by subst h; simp [rdOf, List.getD_eq_getElem?_getD]
theorem getD_at (d : α) (h : l = pre ++ a :: suf) : l.getD ((pre.length : Nat) : Int).toNat d = a := by subst h; simp [List.getD_eq_getElem?_getD]
theorem next_at (h : l = pre ++ a :: suf) (hl : l.length ≤ maxLen) : wrap64 ((pre.length : Int) + 1) = ((pre ++ [a]).length : Int) := by
  have : l.length = pre.length + 1 + suf.length := by subst h; simp; omega
  rw [maxLen_eq] at hl
  rw [wrap_id (by omega) (by omega)]
  simp
theorem snoc_at (h : l = pre ++ a :: suf) : l = (pre ++ [a]) ++ suf := by subst h; simp
theorem end_at (h : l = pre ++ []) : ¬ ((pre.length : Nat) : Int) < (l.length : Int) := by subst h; simp
theorem set_at {b : α} (h : l = pre ++ a :: suf) : l.set ((pre.length : Nat) : Int).toNat b = (pre ++ [b]) ++ suf := by subst h; simp
theorem nonneg_at (n : Nat) : (0 : Int) ≤ (n : Int) := Int.natCast_nonneg n
end
def Sz (g : Nat → Option Int) (n : Int) (P : Prop) : Prop := Ev g (-1) ∨ ∃ m : Int, 0 ≤ m ∧ m ≤ n ∧ Ev g m ∧ P
theorem Sz.bind {g : Nat → Option Int} {f : Nat → Int → Option Int} {n : Int} {P Q : Prop} (h : Sz g n P) (hk : ∀ m, 0 ≤ m → m ≤ n → P → Sz (fun k => f k m) m Q) (hneg : Ev (fun k => f k (-1)) (-1)) : Sz (fun k => (g k).bind (f k)) n Q := by
  rcases h with h | ⟨m, h0, h1, h, hP⟩
  · exact .inl (Ev.bind h hneg)
  · rcases hk m h0 h1 hP with h2 | ⟨m', h0', h1', h2, hQ⟩
    · exact .inl (Ev.bind h h2)
    · exact .inr ⟨m', h0', by omega, Ev.bind h h2, hQ⟩
theorem Sz.sub {f : Nat → Option Int} {n c : Int} {Q : Prop} (hc : 0 ≤ c) (hk : c ≤ n → Sz f (n - c) Q) : Sz (fun k => if n - c < 0 then some (-1) else f k) n Q := by
  by_cases h : n - c < 0
  · simp only [if_pos h]; exact .inl (Ev.now _)
  · simp only [if_neg h]
    rcases hk (by omega) with h2 | ⟨m, h0, h1, h2, hQ⟩
    · exact .inl h2
    · exact .inr ⟨m, h0, by omega, h2, hQ⟩
theorem Sz.ev {α : Type} {g : Nat → Option Int} {f : Nat → Int → Option α} {n : Int} {P : Prop} {r : α} (h : Sz g n P) (hneg : Ev (fun k => f k (-1)) r) (hk : ∀ m, 0 ≤ m → m ≤ n → P → Ev (fun k => f k m) r) : Ev (fun k => (g k).bind (f k)) r := by
  rcases h with h | ⟨m, h0, h1, h, hP⟩
  · exact Ev.bind h hneg
  · exact Ev.bind h (hk m h0 h1 hP)
def IntOk (x : Int) : Prop := -9223372036854775808 ≤ x ∧ x < 9223372036854775808
theorem wf_int {x : Int} (h : (Lit.int .i64 x).wf = true) : IntOk x := by
  unfold Lit.wf at h
  rw [Bool.and_eq_true, decide_eq_true_eq, decide_eq_true_eq] at h
  have h1 : IntKind.i64.min = -9223372036854775808 := by decide
  have h2 : IntKind.i64.max = 9223372036854775807 := by decide
  rw [h1, h2] at h
  exact ⟨h.1, by omega⟩
def SmS (l : List ByteArray) : Prop := l.length ≤ 1048576 ∧ ∀ s ∈ l, s.size ≤ 1048576
theorem sz_loop {α : Type} {l : List α} {P : α → Prop} (g : Nat → Int → Int → Option Int)
    (hend : ∀ n, Ev (fun k => g k n l.length) n)
    (hstep : ∀ pre a suf n, l = pre ++ a :: suf → 0 ≤ n → n ≤ 1048576 → Ev (fun k => g k n (pre.length : Int)) (-1) ∨ ∃ m, 0 ≤ m ∧ m ≤ n ∧ P a ∧ ∀ r, Ev (fun k => g k m ((pre ++ [a]).length : Int)) r → Ev (fun k => g k n (pre.length : Int)) r) :
    ∀ (suf pre : List α) (n : Int), l = pre ++ suf → 0 ≤ n → n ≤ 1048576 → Sz (fun k => g k n (pre.length : Int)) n (∀ a ∈ suf, P a) := by
  intro suf
  induction suf with
  | nil =>
    intro pre n h h0 h1
    have := hend n
    rw [h, List.append_nil] at this
    exact .inr ⟨n, h0, Int.le_refl _, this, by simp⟩
  | cons a suf ih =>
    intro pre n h h0 h1
    rcases hstep pre a suf n h h0 h1 with h2 | ⟨m, hm0, hm1, hP, hr⟩
    · exact .inl h2
    · rcases ih (pre ++ [a]) m (snoc_at h) hm0 (by omega) with h3 | ⟨m', hm0', hm1', h3, h4⟩
      · exact .inl (hr _ h3)
      · exact .inr ⟨m', hm0', by omega, hr _ h3, fun x hx => by
          rcases List.mem_cons.1 hx with rfl | hx
          · exact hP
          · exact h4 x hx⟩
theorem to_loop {α β : Type} {l : List α} {f : α → β} (g : Nat → List β → Int → Option (List β))
    (hend : ∀ out, Ev (fun k => g k out l.length) out)
    (hstep : ∀ pre a suf (out : List β), l = pre ++ a :: suf → ((pre.length : Nat) : Int) < (out.length : Int) → ∀ r, Ev (fun k => g k (out.set ((pre.length : Nat) : Int).toNat (f a)) ((pre ++ [a]).length : Int)) r → Ev (fun k => g k out (pre.length : Int)) r) :
    ∀ (suf pre : List α) (out rest : List β), l = pre ++ suf → out = pre.map f ++ rest → rest.length = suf.length → Ev (fun k => g k out (pre.length : Int)) (l.map f) := by
  intro suf
  induction suf with
  | nil =>
    intro pre out rest h ho hr
    obtain rfl : rest = [] := by simpa using hr
    have := hend out
    rw [h, List.append_nil] at this ⊢
    rw [ho, List.append_nil] at this ⊢
    exact this
  | cons a suf ih =>
    intro pre out rest h ho hr
    obtain ⟨b, rest, rfl⟩ : ∃ b r, rest = b :: r := by
      cases rest with
      | nil => simp at hr
      | cons b r => exact ⟨b, r, rfl⟩
    have hlen : ((pre.length : Nat) : Int) < (out.length : Int) := by rw [ho]; simp; omega
    refine hstep pre a suf out h hlen _ (ih (pre ++ [a]) _ rest (snoc_at h) ?_ (by simpa using hr))
    rw [ho]
    simp [List.set_append]
theorem eq_loop {α : Type} [DecidableEq α] {a b : List α} (g : Nat → Int → Option Bool)
    (hend : Ev (fun k => g k a.length) true)
    (hstep : ∀ pre x su pre' y sv, a = pre ++ x :: su → b = pre' ++ y :: sv → pre.length = pre'.length → (x ≠ y → Ev (fun k => g k (pre.length : Int)) false) ∧ (x = y → ∀ r, Ev (fun k => g k ((pre ++ [x]).length : Int)) r → Ev (fun k => g k (pre.length : Int)) r)) :
    ∀ (su sv pu pv : List α), a = pu ++ su → b = pv ++ sv → pu.length = pv.length → su.length = sv.length → Ev (fun k => g k (pu.length : Int)) (decide (su = sv)) := by
  intro su
  induction su with
  | nil =>
    intro sv pu pv h h' hp hs
    obtain rfl : sv = [] := by simpa using hs.symm
    rw [h, List.append_nil] at hend
    exact hend
  | cons x su ih =>
    intro sv pu pv h h' hp hs
    cases sv with
    | nil => simp at hs
    | cons y sv =>
      obtain ⟨h1, h2⟩ := hstep pu x su pv y sv h h' hp
      by_cases e : x = y
      · have h3 := h2 e _ (ih sv (pu ++ [x]) (pv ++ [y]) (snoc_at h) (snoc_at h') (by simp [hp]) (by simpa using hs))
        simp only [e, List.cons.injEq, true_and]
        exact h3
      · rw [show decide (x :: su = y :: sv) = false from decide_eq_false (fun h => e (List.cons.inj h).1)]
        exact h1 e
theorem ev_cast {α : Type} {g : Nat → Option α} {r s : α} (h : Ev g r) (e : r = s) : Ev g s := e ▸ h
end Go.Proofs.YtigoeooelfeopaaDoor.L
