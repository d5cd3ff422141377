-- PRINTED by print.py (a twelfth state) out of the translation. Not trusted: Lean checks it.
import Derived.Test.YteabkidfgdmmpaaVPropsOkG0
import Derived.Test.YteabkidfgdmmpaaVPropsOkG2
import Derived.Test.YteabkidfgdmmpaaVPropsOkG4
import Derived.Test.YteabkidfgdmmpaaOpen
import Derived.Laws.Strings
import Derived.Test.YteabkidfgdmmpaaWWords
import Derived.Test.YteabkidfgdmmpaaWLast
import Derived.Test.YteabkidfgdmmpaaWMore
import Derived.Test.YteabkidfgdmmpaaVPropsOkG1
import Derived.Test.YteabkidfgdmmpaaVPropsOkG3
namespace Go.Proofs.Yteabkidfgdmmpaa.Q
open Go.RowKit Go.Proofs.YteabkidfgdmmpaaW.PrintWords Go.Proofs.YteabkidfgdmmpaaW.PrintLast Go.Proofs.YteabkidfgdmmpaaW.PrintMore
attribute [local go_sem] max2_int min2_int max_two min_two max_three min_three max_four min_four   -- for this text's walks alone
set_option linter.unusedVariables false
set_option linter.unusedSimpArgs false

/-! ### laws_FnExactPropsOk: function 6 -/
def laws_FnExactPropsOk.f (k : Nat) (l0 : List (S70)) : Option (Bool) := (laws_szPropS.f k l0 1048576).bind fun t268 => (if t268 < 0 then (some true) else ((laws_toPropS.f k l0).bind fun t269 => ((spec_PropsOk.f k t269).bind fun t272 => ((laws_toPropS.f k l0).bind fun t273 => ((impl_PropsOk.f k t273).bind fun t276 => (if (t276 != t272) = true then (some false) else ((laws_toPropS.f k l0).bind fun t277 => ((laws_eqPropS.f k t273 t277).bind fun t280 => (if t280 = true then (some true) else (some false))))))))))
theorem laws_FnExactPropsOk.mono : ∀ a0 k, LeO (laws_FnExactPropsOk.f k a0) (laws_FnExactPropsOk.f (k + 1) a0) := by
  intro a0 k
  unfold laws_FnExactPropsOk.f
  repeat' first
      | (with_reducible exact impl_PropsOk.mono _ _)
      | (with_reducible exact laws_eqPropS.mono _ _ _)
      | (with_reducible exact laws_szPropS.mono _ _ _)
      | (with_reducible exact laws_toPropS.mono _ _)
      | (with_reducible exact spec_PropsOk.mono _ _)
      | (with_reducible exact LeO.refl _)
      | (with_reducible exact LeO.none _)
      | (with_reducible refine LeO.ite ?_ ?_)
      | (with_reducible refine LeO.bind ?_ (fun _ => ?_))
      | exact impl_PropsOk.mono _ _
      | exact laws_eqPropS.mono _ _ _
      | exact laws_szPropS.mono _ _ _
      | exact laws_toPropS.mono _ _
      | exact spec_PropsOk.mono _ _
      | exact LeO.none _
      | refine LeO.ite ?_ ?_
      | refine LeO.bind ?_ (fun _ => ?_)
set_option maxHeartbeats 8000000 in
set_option maxRecDepth 100000 in
theorem laws_FnExactPropsOk.calls (k : Nat) (A0 : Option Addr) (c0 : Nat) (l0 : List (S70)) (r : Bool) (w : World) (hr0 : Kd.C k70 w A0 l0.length l0) (hc0 : l0.length ≤ c0) (h : laws_FnExactPropsOk.f k l0 = some r) :
    Calls Try.prog 6 #[.slice A0 l0.length c0] w fun e w' => e = .returned (.bool r) ∧ Below w.heap.size w w' := by
  have HR0 := Aside0.mk hr0
  have HC0 := Aside0.mk hc0
  clear hr0 hc0
  have HB := Aside0.mk (Below.refl w.heap.size w)
  have H : ((laws_szPropS.f k l0 1048576).bind fun t268 => (if t268 < 0 then (some true) else ((laws_toPropS.f k l0).bind fun t269 => ((spec_PropsOk.f k t269).bind fun t272 => ((laws_toPropS.f k l0).bind fun t273 => ((impl_PropsOk.f k t273).bind fun t276 => (if (t276 != t272) = true then (some false) else ((laws_toPropS.f k l0).bind fun t277 => ((laws_eqPropS.f k t273 t277).bind fun t280 => (if t280 = true then (some true) else (some false))))))))))) = some r := h
  clear h
  replace H := Option.bind_eq_some_iff.mp H
  obtain ⟨t268, A20, H⟩ := H
  replace H : (if t268 < 0 then (some true) else ((laws_toPropS.f k l0).bind fun t269 => ((spec_PropsOk.f k t269).bind fun t272 => ((laws_toPropS.f k l0).bind fun t273 => ((impl_PropsOk.f k t273).bind fun t276 => (if (t276 != t272) = true then (some false) else ((laws_toPropS.f k l0).bind fun t277 => ((laws_eqPropS.f k t273 t277).bind fun t280 => (if t280 = true then (some true) else (some false)))))))))) = some r := H
  have A2 := Aside0.mk A20
  clear A20
  by_cases c3 : t268 < 0
  · rw [if_pos c3] at H
    have c3b0 : decide (t268 < 0) = true := decide_eq_true c3
    clear c3
    obtain rfl := Option.some.inj H
    go_enter Try.func6, Try.ntmps6
    go_wp2_with (first | ((with_reducible refine gate_callee (f := 24) rfl ?_); refine goesL_ (some 9) rfl rfl Try.func24 (by kernel_rfl) rfl #[.slice A0 l0.length c0, .int .i64 1048576] rfl (by (try simp only [List.map_toArray, List.map_cons, List.map_nil]); first | done | rfl | (simp only [List.length_drop, List.length_take]; rfl)) ?_; (with_reducible refine (laws_szPropS.calls k _ _ l0 1048576 t268 _ ?side1 ?side2 A2.out).mono ?_); (case side1 => repeat (first | exact HR0.out | (with_reducible refine Kd.C_alloc ?_ _) | (with_reducible refine Kd.C_drewN ?_ _) | (with_reducible refine Kd.C_drew ?_))); (case side2 => exact HC0.out); rintro e w4 ⟨rfl, hb⟩; refine ⟨_, rfl, ?_⟩; have n0_ := Aside0.mk (below_step (by repeat (first | (with_reducible first | exact HB.out | apply below_alloc | apply pw_below_drewN | apply below_drew1) | exact HB.out)) hb); clear HB; have HB := n0_; clear n0_; (try clear hb); (try clear hb2); (try clear hk); (try clear hi)))
    go_ret
    exact ⟨by first | rfl | (simp [errW_none, errW_some] <;> rfl) | (simp [*, errW_none, errW_some] <;> rfl), by repeat (first | (with_reducible first | exact HB.out | apply below_alloc | apply pw_below_drewN | apply below_drew1) | exact HB.out)⟩
  · rw [if_neg c3] at H
    have c3b0 : decide (t268 < 0) = false := decide_eq_false c3
    clear c3
    replace H := Option.bind_eq_some_iff.mp H
    obtain ⟨t269, A50, H⟩ := H
    replace H : ((spec_PropsOk.f k t269).bind fun t272 => ((laws_toPropS.f k l0).bind fun t273 => ((impl_PropsOk.f k t273).bind fun t276 => (if (t276 != t272) = true then (some false) else ((laws_toPropS.f k l0).bind fun t277 => ((laws_eqPropS.f k t273 t277).bind fun t280 => (if t280 = true then (some true) else (some false)))))))) = some r := H
    have A5 := Aside0.mk A50
    clear A50
    replace H := Option.bind_eq_some_iff.mp H
    obtain ⟨t272, A60, H⟩ := H
    replace H : ((laws_toPropS.f k l0).bind fun t273 => ((impl_PropsOk.f k t273).bind fun t276 => (if (t276 != t272) = true then (some false) else ((laws_toPropS.f k l0).bind fun t277 => ((laws_eqPropS.f k t273 t277).bind fun t280 => (if t280 = true then (some true) else (some false))))))) = some r := H
    have A6 := Aside0.mk A60
    clear A60
    replace H := Option.bind_eq_some_iff.mp H
    obtain ⟨t273, A70, H⟩ := H
    replace H : ((impl_PropsOk.f k t273).bind fun t276 => (if (t276 != t272) = true then (some false) else ((laws_toPropS.f k l0).bind fun t277 => ((laws_eqPropS.f k t273 t277).bind fun t280 => (if t280 = true then (some true) else (some false)))))) = some r := H
    have A7 := Aside0.mk A70
    clear A70
    replace H := Option.bind_eq_some_iff.mp H
    obtain ⟨t276, A80, H⟩ := H
    replace H : (if (t276 != t272) = true then (some false) else ((laws_toPropS.f k l0).bind fun t277 => ((laws_eqPropS.f k t273 t277).bind fun t280 => (if t280 = true then (some true) else (some false))))) = some r := H
    have A8 := Aside0.mk A80
    clear A80
    by_cases c9 : (t276 != t272) = true
    · rw [if_pos c9] at H
      have c9b0 : (t276 != t272) = true := c9
      (try (have c9b1 : decide (t276 = t272) = false := by simpa using c9))
      (try (have c9b2 : (t276 == t272) = false := by simpa using c9))
      (try (have c9b3 : ¬ (t276 = t272) := by simpa using c9))
      clear c9
      obtain rfl := Option.some.inj H
      go_enter Try.func6, Try.ntmps6
      go_wp2_with (first | ((with_reducible refine gate_callee (f := 24) rfl ?_); refine goesL_ (some 9) rfl rfl Try.func24 (by kernel_rfl) rfl #[.slice A0 l0.length c0, .int .i64 1048576] rfl (by (try simp only [List.map_toArray, List.map_cons, List.map_nil]); first | done | rfl | (simp only [List.length_drop, List.length_take]; rfl)) ?_; (with_reducible refine (laws_szPropS.calls k _ _ l0 1048576 t268 _ ?side1 ?side2 A2.out).mono ?_); (case side1 => repeat (first | exact HR0.out | (with_reducible refine Kd.C_alloc ?_ _) | (with_reducible refine Kd.C_drewN ?_ _) | (with_reducible refine Kd.C_drew ?_))); (case side2 => exact HC0.out); rintro e w10 ⟨rfl, hb⟩; refine ⟨_, rfl, ?_⟩; have n0_ := Aside0.mk (below_step (by repeat (first | (with_reducible first | exact HB.out | apply below_alloc | apply pw_below_drewN | apply below_drew1) | exact HB.out)) hb); clear HB; have HB := n0_; clear n0_; (try clear hb); (try clear hb2); (try clear hk); (try clear hi)) | ((with_reducible refine gate_callee (f := 26) rfl ?_); refine goesL_ (some 13) rfl rfl Try.func26 (by kernel_rfl) rfl #[.slice A0 l0.length c0] rfl (by (try simp only [List.map_toArray, List.map_cons, List.map_nil]); first | done | rfl | (simp only [List.length_drop, List.length_take]; rfl)) ?_; (with_reducible refine (laws_toPropS.calls k _ _ l0 t269 _ ?side1 ?side2 A5.out).mono ?_); (case side1 => repeat (first | exact (Kd.C_below HR0.out HB.out) | (with_reducible refine Kd.C_alloc ?_ _) | (with_reducible refine Kd.C_drewN ?_ _) | (with_reducible refine Kd.C_drew ?_))); (case side2 => exact HC0.out); rintro e w11 ⟨v270, rfl, ho0, hb⟩; refine ⟨_, rfl, ?_⟩; have n0_ := Aside0.mk (Kd.R_lower ho0 (below_size (by repeat (first | (with_reducible first | exact HB.out | apply below_alloc | apply pw_below_drewN | apply below_drew1) | exact HB.out)))); have n1_ := Aside0.mk (below_step (by repeat (first | (with_reducible first | exact HB.out | apply below_alloc | apply pw_below_drewN | apply below_drew1) | exact HB.out)) hb); clear HB; have HO271 := n0_; have HB := n1_; clear n0_ n1_; (try clear hb); (try clear hb2); (try clear hk); (try clear hi); (try clear ho0); obtain ⟨Ao12, co12, eo12⟩ := Kd.R_slice HO271.out; subst eo12) | ((with_reducible refine gate_callee (f := 29) rfl ?_); refine goesL_ (some 14) rfl rfl Try.func29 (by kernel_rfl) rfl #[.slice Ao12 t269.length co12] rfl (by (try simp only [List.map_toArray, List.map_cons, List.map_nil]); first | done | rfl | (simp only [List.length_drop, List.length_take]; rfl)) ?_; (with_reducible refine (spec_PropsOk.calls k _ _ t269 t272 _ ?side1 ?side2 A6.out).mono ?_); (case side1 => repeat (first | exact (Kd.R_reads' HO271.out).2.2 | (with_reducible refine Kd.C_alloc ?_ _) | (with_reducible refine Kd.C_drewN ?_ _) | (with_reducible refine Kd.C_drew ?_))); (case side2 => exact (Kd.R_reads' HO271.out).2.1); rintro e w13 ⟨rfl, hb⟩; refine ⟨_, rfl, ?_⟩; have n0_ := Aside0.mk (Kd.R_below (by (with_reducible repeat (first | apply Kd.R_alloc | apply Kd.R_drewN | apply Kd.R_drew)); exact HO271.out) hb); have n1_ := Aside0.mk (below_step (by repeat (first | (with_reducible first | exact HB.out | apply below_alloc | apply pw_below_drewN | apply below_drew1) | exact HB.out)) hb); clear HO271; clear HB; have HO271 := n0_; have HB := n1_; clear n0_ n1_; (try clear hb); (try clear hb2); (try clear hk); (try clear hi)) | ((with_reducible refine gate_callee (f := 26) rfl ?_); refine goesL_ (some 16) rfl rfl Try.func26 (by kernel_rfl) rfl #[.slice A0 l0.length c0] rfl (by (try simp only [List.map_toArray, List.map_cons, List.map_nil]); first | done | rfl | (simp only [List.length_drop, List.length_take]; rfl)) ?_; (with_reducible refine (laws_toPropS.calls k _ _ l0 t273 _ ?side1 ?side2 A7.out).mono ?_); (case side1 => repeat (first | exact (Kd.C_below HR0.out HB.out) | (with_reducible refine Kd.C_alloc ?_ _) | (with_reducible refine Kd.C_drewN ?_ _) | (with_reducible refine Kd.C_drew ?_))); (case side2 => exact HC0.out); rintro e w14 ⟨v274, rfl, ho0, hb⟩; refine ⟨_, rfl, ?_⟩; have n0_ := Aside0.mk (Kd.R_elder' (by (with_reducible repeat (first | apply Kd.R_alloc | apply Kd.R_drewN | apply Kd.R_drew)); exact HO271.out) (by first | exact Kd.R_base ho0 | exact Kd.S_base ho0) hb); have n1_ := Aside0.mk (Kd.R_lower (Kd.R_new' ho0 (Kd.R_lt (by (with_reducible repeat (first | apply Kd.R_alloc | apply Kd.R_drewN | apply Kd.R_drew)); exact HO271.out))) (below_size (by repeat (first | (with_reducible first | exact HB.out | apply below_alloc | apply pw_below_drewN | apply below_drew1) | exact HB.out)))); have n2_ := Aside0.mk (below_step (by repeat (first | (with_reducible first | exact HB.out | apply below_alloc | apply pw_below_drewN | apply below_drew1) | exact HB.out)) hb); clear HO271; clear HB; have HO271 := n0_; have HO275 := n1_; have HB := n2_; clear n0_ n1_ n2_; (try clear hb); (try clear hb2); (try clear hk); (try clear hi); (try clear ho0); obtain ⟨Ao15, co15, eo15⟩ := Kd.R_slice HO275.out; subst eo15) | ((with_reducible refine gate_callee (f := 30) rfl ?_); refine goesL_ (some 18) rfl rfl Try.func30 (by kernel_rfl) rfl #[.slice Ao15 t273.length co15] rfl (by (try simp only [List.map_toArray, List.map_cons, List.map_nil]); first | done | rfl | (simp only [List.length_drop, List.length_take]; rfl)) ?_; (with_reducible refine (impl_PropsOk.calls k _ _ t273 t276 _ ?side1 ?side2 A8.out).mono ?_); (case side1 => repeat (first | exact (Kd.R_reads' HO275.out).2.2 | (with_reducible refine Kd.C_alloc ?_ _) | (with_reducible refine Kd.C_drewN ?_ _) | (with_reducible refine Kd.C_drew ?_))); (case side2 => exact (Kd.R_reads' HO275.out).2.1); rintro e w16 ⟨rfl, hb⟩; refine ⟨_, rfl, ?_⟩; have n0_ := Aside0.mk (Kd.R_below (by (with_reducible repeat (first | apply Kd.R_alloc | apply Kd.R_drewN | apply Kd.R_drew)); exact HO271.out) hb); have n1_ := Aside0.mk (Kd.R_below (by (with_reducible repeat (first | apply Kd.R_alloc | apply Kd.R_drewN | apply Kd.R_drew)); exact HO275.out) hb); have n2_ := Aside0.mk (below_step (by repeat (first | (with_reducible first | exact HB.out | apply below_alloc | apply pw_below_drewN | apply below_drew1) | exact HB.out)) hb); clear HO271; clear HO275; clear HB; have HO271 := n0_; have HO275 := n1_; have HB := n2_; clear n0_ n1_ n2_; (try clear hb); (try clear hb2); (try clear hk); (try clear hi)))
      go_ret
      exact ⟨by first | rfl | (simp [errW_none, errW_some] <;> rfl) | (simp [*, errW_none, errW_some] <;> rfl), by repeat (first | (with_reducible first | exact HB.out | apply below_alloc | apply pw_below_drewN | apply below_drew1) | exact HB.out)⟩
    · rw [if_neg c9] at H
      have c9b0 : (t276 != t272) = false := by simpa using c9
      (try (have c9b1 : decide (t276 = t272) = true := by simpa using c9))
      (try (have c9b2 : (t276 == t272) = true := by simpa using c9))
      clear c9
      replace H := Option.bind_eq_some_iff.mp H
      obtain ⟨t277, A170, H⟩ := H
      replace H : ((laws_eqPropS.f k t273 t277).bind fun t280 => (if t280 = true then (some true) else (some false))) = some r := H
      have A17 := Aside0.mk A170
      clear A170
      replace H := Option.bind_eq_some_iff.mp H
      obtain ⟨t280, A180, H⟩ := H
      replace H : (if t280 = true then (some true) else (some false)) = some r := H
      have A18 := Aside0.mk A180
      clear A180
      by_cases c19 : t280 = true
      · subst c19
        have H1 : (some true) = some r := by rw [if_pos rfl] at H; exact H
        clear H
        have H := H1
        clear H1
        obtain rfl := Option.some.inj H
        go_enter Try.func6, Try.ntmps6
        go_wp2_with (first | ((with_reducible refine gate_callee (f := 24) rfl ?_); refine goesL_ (some 9) rfl rfl Try.func24 (by kernel_rfl) rfl #[.slice A0 l0.length c0, .int .i64 1048576] rfl (by (try simp only [List.map_toArray, List.map_cons, List.map_nil]); first | done | rfl | (simp only [List.length_drop, List.length_take]; rfl)) ?_; (with_reducible refine (laws_szPropS.calls k _ _ l0 1048576 t268 _ ?side1 ?side2 A2.out).mono ?_); (case side1 => repeat (first | exact HR0.out | (with_reducible refine Kd.C_alloc ?_ _) | (with_reducible refine Kd.C_drewN ?_ _) | (with_reducible refine Kd.C_drew ?_))); (case side2 => exact HC0.out); rintro e w20 ⟨rfl, hb⟩; refine ⟨_, rfl, ?_⟩; have n0_ := Aside0.mk (below_step (by repeat (first | (with_reducible first | exact HB.out | apply below_alloc | apply pw_below_drewN | apply below_drew1) | exact HB.out)) hb); clear HB; have HB := n0_; clear n0_; (try clear hb); (try clear hb2); (try clear hk); (try clear hi)) | ((with_reducible refine gate_callee (f := 26) rfl ?_); refine goesL_ (some 13) rfl rfl Try.func26 (by kernel_rfl) rfl #[.slice A0 l0.length c0] rfl (by (try simp only [List.map_toArray, List.map_cons, List.map_nil]); first | done | rfl | (simp only [List.length_drop, List.length_take]; rfl)) ?_; (with_reducible refine (laws_toPropS.calls k _ _ l0 t269 _ ?side1 ?side2 A5.out).mono ?_); (case side1 => repeat (first | exact (Kd.C_below HR0.out HB.out) | (with_reducible refine Kd.C_alloc ?_ _) | (with_reducible refine Kd.C_drewN ?_ _) | (with_reducible refine Kd.C_drew ?_))); (case side2 => exact HC0.out); rintro e w21 ⟨v270, rfl, ho0, hb⟩; refine ⟨_, rfl, ?_⟩; have n0_ := Aside0.mk (Kd.R_lower ho0 (below_size (by repeat (first | (with_reducible first | exact HB.out | apply below_alloc | apply pw_below_drewN | apply below_drew1) | exact HB.out)))); have n1_ := Aside0.mk (below_step (by repeat (first | (with_reducible first | exact HB.out | apply below_alloc | apply pw_below_drewN | apply below_drew1) | exact HB.out)) hb); clear HB; have HO271 := n0_; have HB := n1_; clear n0_ n1_; (try clear hb); (try clear hb2); (try clear hk); (try clear hi); (try clear ho0); obtain ⟨Ao22, co22, eo22⟩ := Kd.R_slice HO271.out; subst eo22) | ((with_reducible refine gate_callee (f := 29) rfl ?_); refine goesL_ (some 14) rfl rfl Try.func29 (by kernel_rfl) rfl #[.slice Ao22 t269.length co22] rfl (by (try simp only [List.map_toArray, List.map_cons, List.map_nil]); first | done | rfl | (simp only [List.length_drop, List.length_take]; rfl)) ?_; (with_reducible refine (spec_PropsOk.calls k _ _ t269 t272 _ ?side1 ?side2 A6.out).mono ?_); (case side1 => repeat (first | exact (Kd.R_reads' HO271.out).2.2 | (with_reducible refine Kd.C_alloc ?_ _) | (with_reducible refine Kd.C_drewN ?_ _) | (with_reducible refine Kd.C_drew ?_))); (case side2 => exact (Kd.R_reads' HO271.out).2.1); rintro e w23 ⟨rfl, hb⟩; refine ⟨_, rfl, ?_⟩; have n0_ := Aside0.mk (Kd.R_below (by (with_reducible repeat (first | apply Kd.R_alloc | apply Kd.R_drewN | apply Kd.R_drew)); exact HO271.out) hb); have n1_ := Aside0.mk (below_step (by repeat (first | (with_reducible first | exact HB.out | apply below_alloc | apply pw_below_drewN | apply below_drew1) | exact HB.out)) hb); clear HO271; clear HB; have HO271 := n0_; have HB := n1_; clear n0_ n1_; (try clear hb); (try clear hb2); (try clear hk); (try clear hi)) | ((with_reducible refine gate_callee (f := 26) rfl ?_); refine goesL_ (some 16) rfl rfl Try.func26 (by kernel_rfl) rfl #[.slice A0 l0.length c0] rfl (by (try simp only [List.map_toArray, List.map_cons, List.map_nil]); first | done | rfl | (simp only [List.length_drop, List.length_take]; rfl)) ?_; (with_reducible refine (laws_toPropS.calls k _ _ l0 t273 _ ?side1 ?side2 A7.out).mono ?_); (case side1 => repeat (first | exact (Kd.C_below HR0.out HB.out) | (with_reducible refine Kd.C_alloc ?_ _) | (with_reducible refine Kd.C_drewN ?_ _) | (with_reducible refine Kd.C_drew ?_))); (case side2 => exact HC0.out); rintro e w24 ⟨v274, rfl, ho0, hb⟩; refine ⟨_, rfl, ?_⟩; have n0_ := Aside0.mk (Kd.R_elder' (by (with_reducible repeat (first | apply Kd.R_alloc | apply Kd.R_drewN | apply Kd.R_drew)); exact HO271.out) (by first | exact Kd.R_base ho0 | exact Kd.S_base ho0) hb); have n1_ := Aside0.mk (Kd.R_lower (Kd.R_new' ho0 (Kd.R_lt (by (with_reducible repeat (first | apply Kd.R_alloc | apply Kd.R_drewN | apply Kd.R_drew)); exact HO271.out))) (below_size (by repeat (first | (with_reducible first | exact HB.out | apply below_alloc | apply pw_below_drewN | apply below_drew1) | exact HB.out)))); have n2_ := Aside0.mk (below_step (by repeat (first | (with_reducible first | exact HB.out | apply below_alloc | apply pw_below_drewN | apply below_drew1) | exact HB.out)) hb); clear HO271; clear HB; have HO271 := n0_; have HO275 := n1_; have HB := n2_; clear n0_ n1_ n2_; (try clear hb); (try clear hb2); (try clear hk); (try clear hi); (try clear ho0); obtain ⟨Ao25, co25, eo25⟩ := Kd.R_slice HO275.out; subst eo25) | ((with_reducible refine gate_callee (f := 30) rfl ?_); refine goesL_ (some 18) rfl rfl Try.func30 (by kernel_rfl) rfl #[.slice Ao25 t273.length co25] rfl (by (try simp only [List.map_toArray, List.map_cons, List.map_nil]); first | done | rfl | (simp only [List.length_drop, List.length_take]; rfl)) ?_; (with_reducible refine (impl_PropsOk.calls k _ _ t273 t276 _ ?side1 ?side2 A8.out).mono ?_); (case side1 => repeat (first | exact (Kd.R_reads' HO275.out).2.2 | (with_reducible refine Kd.C_alloc ?_ _) | (with_reducible refine Kd.C_drewN ?_ _) | (with_reducible refine Kd.C_drew ?_))); (case side2 => exact (Kd.R_reads' HO275.out).2.1); rintro e w26 ⟨rfl, hb⟩; refine ⟨_, rfl, ?_⟩; have n0_ := Aside0.mk (Kd.R_below (by (with_reducible repeat (first | apply Kd.R_alloc | apply Kd.R_drewN | apply Kd.R_drew)); exact HO271.out) hb); have n1_ := Aside0.mk (Kd.R_below (by (with_reducible repeat (first | apply Kd.R_alloc | apply Kd.R_drewN | apply Kd.R_drew)); exact HO275.out) hb); have n2_ := Aside0.mk (below_step (by repeat (first | (with_reducible first | exact HB.out | apply below_alloc | apply pw_below_drewN | apply below_drew1) | exact HB.out)) hb); clear HO271; clear HO275; clear HB; have HO271 := n0_; have HO275 := n1_; have HB := n2_; clear n0_ n1_ n2_; (try clear hb); (try clear hb2); (try clear hk); (try clear hi)) | ((with_reducible refine gate_callee (f := 26) rfl ?_); refine goesL_ (some 24) rfl rfl Try.func26 (by kernel_rfl) rfl #[.slice A0 l0.length c0] rfl (by (try simp only [List.map_toArray, List.map_cons, List.map_nil]); first | done | rfl | (simp only [List.length_drop, List.length_take]; rfl)) ?_; (with_reducible refine (laws_toPropS.calls k _ _ l0 t277 _ ?side1 ?side2 A17.out).mono ?_); (case side1 => repeat (first | exact (Kd.C_below HR0.out HB.out) | (with_reducible refine Kd.C_alloc ?_ _) | (with_reducible refine Kd.C_drewN ?_ _) | (with_reducible refine Kd.C_drew ?_))); (case side2 => exact HC0.out); rintro e w27 ⟨v278, rfl, ho0, hb⟩; refine ⟨_, rfl, ?_⟩; have n0_ := Aside0.mk (Kd.R_elder' (by (with_reducible repeat (first | apply Kd.R_alloc | apply Kd.R_drewN | apply Kd.R_drew)); exact HO271.out) (by first | exact Kd.R_base ho0 | exact Kd.S_base ho0) hb); have n1_ := Aside0.mk (Kd.R_elder' (by (with_reducible repeat (first | apply Kd.R_alloc | apply Kd.R_drewN | apply Kd.R_drew)); exact HO275.out) (by first | exact Kd.R_base ho0 | exact Kd.S_base ho0) hb); have n2_ := Aside0.mk (Kd.R_lower (Kd.R_new' (Kd.R_new' ho0 (Kd.R_lt (by (with_reducible repeat (first | apply Kd.R_alloc | apply Kd.R_drewN | apply Kd.R_drew)); exact HO271.out))) (Kd.R_lt (by (with_reducible repeat (first | apply Kd.R_alloc | apply Kd.R_drewN | apply Kd.R_drew)); exact HO275.out))) (below_size (by repeat (first | (with_reducible first | exact HB.out | apply below_alloc | apply pw_below_drewN | apply below_drew1) | exact HB.out)))); have n3_ := Aside0.mk (below_step (by repeat (first | (with_reducible first | exact HB.out | apply below_alloc | apply pw_below_drewN | apply below_drew1) | exact HB.out)) hb); clear HO271; clear HO275; clear HB; have HO271 := n0_; have HO275 := n1_; have HO279 := n2_; have HB := n3_; clear n0_ n1_ n2_ n3_; (try clear hb); (try clear hb2); (try clear hk); (try clear hi); (try clear ho0); obtain ⟨Ao28, co28, eo28⟩ := Kd.R_slice HO279.out; subst eo28) | ((with_reducible refine gate_callee (f := 28) rfl ?_); refine goesL_ (some 25) rfl rfl Try.func28 (by kernel_rfl) rfl #[.slice Ao25 t273.length co25, .slice Ao28 t277.length co28] rfl (by (try simp only [List.map_toArray, List.map_cons, List.map_nil]); first | done | rfl | (simp only [List.length_drop, List.length_take]; rfl)) ?_; (with_reducible refine (laws_eqPropS.calls k _ _ t273 _ _ t277 true _ ?side1 ?side2 ?side3 ?side4 A18.out).mono ?_); (case side1 => repeat (first | exact (Kd.R_reads' HO275.out).2.2 | (with_reducible refine Kd.C_alloc ?_ _) | (with_reducible refine Kd.C_drewN ?_ _) | (with_reducible refine Kd.C_drew ?_))); (case side2 => exact (Kd.R_reads' HO275.out).2.1); (case side3 => repeat (first | exact (Kd.R_reads' HO279.out).2.2 | (with_reducible refine Kd.C_alloc ?_ _) | (with_reducible refine Kd.C_drewN ?_ _) | (with_reducible refine Kd.C_drew ?_))); (case side4 => exact (Kd.R_reads' HO279.out).2.1); rintro e w29 ⟨rfl, hb⟩; refine ⟨_, rfl, ?_⟩; have n0_ := Aside0.mk (Kd.R_below (by (with_reducible repeat (first | apply Kd.R_alloc | apply Kd.R_drewN | apply Kd.R_drew)); exact HO271.out) hb); have n1_ := Aside0.mk (Kd.R_below (by (with_reducible repeat (first | apply Kd.R_alloc | apply Kd.R_drewN | apply Kd.R_drew)); exact HO275.out) hb); have n2_ := Aside0.mk (Kd.R_below (by (with_reducible repeat (first | apply Kd.R_alloc | apply Kd.R_drewN | apply Kd.R_drew)); exact HO279.out) hb); have n3_ := Aside0.mk (below_step (by repeat (first | (with_reducible first | exact HB.out | apply below_alloc | apply pw_below_drewN | apply below_drew1) | exact HB.out)) hb); clear HO271; clear HO275; clear HO279; clear HB; have HO271 := n0_; have HO275 := n1_; have HO279 := n2_; have HB := n3_; clear n0_ n1_ n2_ n3_; (try clear hb); (try clear hb2); (try clear hk); (try clear hi)))
        go_ret
        exact ⟨by first | rfl | (simp [errW_none, errW_some] <;> rfl) | (simp [*, errW_none, errW_some] <;> rfl), by repeat (first | (with_reducible first | exact HB.out | apply below_alloc | apply pw_below_drewN | apply below_drew1) | exact HB.out)⟩
      · replace c19 := Bool.eq_false_iff.mpr c19
        subst c19
        have H1 : (some false) = some r := by rw [if_neg (show ¬ (false = true) by decide)] at H; exact H
        clear H
        have H := H1
        clear H1
        obtain rfl := Option.some.inj H
        go_enter Try.func6, Try.ntmps6
        go_wp2_with (first | ((with_reducible refine gate_callee (f := 24) rfl ?_); refine goesL_ (some 9) rfl rfl Try.func24 (by kernel_rfl) rfl #[.slice A0 l0.length c0, .int .i64 1048576] rfl (by (try simp only [List.map_toArray, List.map_cons, List.map_nil]); first | done | rfl | (simp only [List.length_drop, List.length_take]; rfl)) ?_; (with_reducible refine (laws_szPropS.calls k _ _ l0 1048576 t268 _ ?side1 ?side2 A2.out).mono ?_); (case side1 => repeat (first | exact HR0.out | (with_reducible refine Kd.C_alloc ?_ _) | (with_reducible refine Kd.C_drewN ?_ _) | (with_reducible refine Kd.C_drew ?_))); (case side2 => exact HC0.out); rintro e w30 ⟨rfl, hb⟩; refine ⟨_, rfl, ?_⟩; have n0_ := Aside0.mk (below_step (by repeat (first | (with_reducible first | exact HB.out | apply below_alloc | apply pw_below_drewN | apply below_drew1) | exact HB.out)) hb); clear HB; have HB := n0_; clear n0_; (try clear hb); (try clear hb2); (try clear hk); (try clear hi)) | ((with_reducible refine gate_callee (f := 26) rfl ?_); refine goesL_ (some 13) rfl rfl Try.func26 (by kernel_rfl) rfl #[.slice A0 l0.length c0] rfl (by (try simp only [List.map_toArray, List.map_cons, List.map_nil]); first | done | rfl | (simp only [List.length_drop, List.length_take]; rfl)) ?_; (with_reducible refine (laws_toPropS.calls k _ _ l0 t269 _ ?side1 ?side2 A5.out).mono ?_); (case side1 => repeat (first | exact (Kd.C_below HR0.out HB.out) | (with_reducible refine Kd.C_alloc ?_ _) | (with_reducible refine Kd.C_drewN ?_ _) | (with_reducible refine Kd.C_drew ?_))); (case side2 => exact HC0.out); rintro e w31 ⟨v270, rfl, ho0, hb⟩; refine ⟨_, rfl, ?_⟩; have n0_ := Aside0.mk (Kd.R_lower ho0 (below_size (by repeat (first | (with_reducible first | exact HB.out | apply below_alloc | apply pw_below_drewN | apply below_drew1) | exact HB.out)))); have n1_ := Aside0.mk (below_step (by repeat (first | (with_reducible first | exact HB.out | apply below_alloc | apply pw_below_drewN | apply below_drew1) | exact HB.out)) hb); clear HB; have HO271 := n0_; have HB := n1_; clear n0_ n1_; (try clear hb); (try clear hb2); (try clear hk); (try clear hi); (try clear ho0); obtain ⟨Ao32, co32, eo32⟩ := Kd.R_slice HO271.out; subst eo32) | ((with_reducible refine gate_callee (f := 29) rfl ?_); refine goesL_ (some 14) rfl rfl Try.func29 (by kernel_rfl) rfl #[.slice Ao32 t269.length co32] rfl (by (try simp only [List.map_toArray, List.map_cons, List.map_nil]); first | done | rfl | (simp only [List.length_drop, List.length_take]; rfl)) ?_; (with_reducible refine (spec_PropsOk.calls k _ _ t269 t272 _ ?side1 ?side2 A6.out).mono ?_); (case side1 => repeat (first | exact (Kd.R_reads' HO271.out).2.2 | (with_reducible refine Kd.C_alloc ?_ _) | (with_reducible refine Kd.C_drewN ?_ _) | (with_reducible refine Kd.C_drew ?_))); (case side2 => exact (Kd.R_reads' HO271.out).2.1); rintro e w33 ⟨rfl, hb⟩; refine ⟨_, rfl, ?_⟩; have n0_ := Aside0.mk (Kd.R_below (by (with_reducible repeat (first | apply Kd.R_alloc | apply Kd.R_drewN | apply Kd.R_drew)); exact HO271.out) hb); have n1_ := Aside0.mk (below_step (by repeat (first | (with_reducible first | exact HB.out | apply below_alloc | apply pw_below_drewN | apply below_drew1) | exact HB.out)) hb); clear HO271; clear HB; have HO271 := n0_; have HB := n1_; clear n0_ n1_; (try clear hb); (try clear hb2); (try clear hk); (try clear hi)) | ((with_reducible refine gate_callee (f := 26) rfl ?_); refine goesL_ (some 16) rfl rfl Try.func26 (by kernel_rfl) rfl #[.slice A0 l0.length c0] rfl (by (try simp only [List.map_toArray, List.map_cons, List.map_nil]); first | done | rfl | (simp only [List.length_drop, List.length_take]; rfl)) ?_; (with_reducible refine (laws_toPropS.calls k _ _ l0 t273 _ ?side1 ?side2 A7.out).mono ?_); (case side1 => repeat (first | exact (Kd.C_below HR0.out HB.out) | (with_reducible refine Kd.C_alloc ?_ _) | (with_reducible refine Kd.C_drewN ?_ _) | (with_reducible refine Kd.C_drew ?_))); (case side2 => exact HC0.out); rintro e w34 ⟨v274, rfl, ho0, hb⟩; refine ⟨_, rfl, ?_⟩; have n0_ := Aside0.mk (Kd.R_elder' (by (with_reducible repeat (first | apply Kd.R_alloc | apply Kd.R_drewN | apply Kd.R_drew)); exact HO271.out) (by first | exact Kd.R_base ho0 | exact Kd.S_base ho0) hb); have n1_ := Aside0.mk (Kd.R_lower (Kd.R_new' ho0 (Kd.R_lt (by (with_reducible repeat (first | apply Kd.R_alloc | apply Kd.R_drewN | apply Kd.R_drew)); exact HO271.out))) (below_size (by repeat (first | (with_reducible first | exact HB.out | apply below_alloc | apply pw_below_drewN | apply below_drew1) | exact HB.out)))); have n2_ := Aside0.mk (below_step (by repeat (first | (with_reducible first | exact HB.out | apply below_alloc | apply pw_below_drewN | apply below_drew1) | exact HB.out)) hb); clear HO271; clear HB; have HO271 := n0_; have HO275 := n1_; have HB := n2_; clear n0_ n1_ n2_; (try clear hb); (try clear hb2); (try clear hk); (try clear hi); (try clear ho0); obtain ⟨Ao35, co35, eo35⟩ := Kd.R_slice HO275.out; subst eo35) | ((with_reducible refine gate_callee (f := 30) rfl ?_); refine goesL_ (some 18) rfl rfl Try.func30 (by kernel_rfl) rfl #[.slice Ao35 t273.length co35] rfl (by (try simp only [List.map_toArray, List.map_cons, List.map_nil]); first | done | rfl | (simp only [List.length_drop, List.length_take]; rfl)) ?_; (with_reducible refine (impl_PropsOk.calls k _ _ t273 t276 _ ?side1 ?side2 A8.out).mono ?_); (case side1 => repeat (first | exact (Kd.R_reads' HO275.out).2.2 | (with_reducible refine Kd.C_alloc ?_ _) | (with_reducible refine Kd.C_drewN ?_ _) | (with_reducible refine Kd.C_drew ?_))); (case side2 => exact (Kd.R_reads' HO275.out).2.1); rintro e w36 ⟨rfl, hb⟩; refine ⟨_, rfl, ?_⟩; have n0_ := Aside0.mk (Kd.R_below (by (with_reducible repeat (first | apply Kd.R_alloc | apply Kd.R_drewN | apply Kd.R_drew)); exact HO271.out) hb); have n1_ := Aside0.mk (Kd.R_below (by (with_reducible repeat (first | apply Kd.R_alloc | apply Kd.R_drewN | apply Kd.R_drew)); exact HO275.out) hb); have n2_ := Aside0.mk (below_step (by repeat (first | (with_reducible first | exact HB.out | apply below_alloc | apply pw_below_drewN | apply below_drew1) | exact HB.out)) hb); clear HO271; clear HO275; clear HB; have HO271 := n0_; have HO275 := n1_; have HB := n2_; clear n0_ n1_ n2_; (try clear hb); (try clear hb2); (try clear hk); (try clear hi)) | ((with_reducible refine gate_callee (f := 26) rfl ?_); refine goesL_ (some 24) rfl rfl Try.func26 (by kernel_rfl) rfl #[.slice A0 l0.length c0] rfl (by (try simp only [List.map_toArray, List.map_cons, List.map_nil]); first | done | rfl | (simp only [List.length_drop, List.length_take]; rfl)) ?_; (with_reducible refine (laws_toPropS.calls k _ _ l0 t277 _ ?side1 ?side2 A17.out).mono ?_); (case side1 => repeat (first | exact (Kd.C_below HR0.out HB.out) | (with_reducible refine Kd.C_alloc ?_ _) | (with_reducible refine Kd.C_drewN ?_ _) | (with_reducible refine Kd.C_drew ?_))); (case side2 => exact HC0.out); rintro e w37 ⟨v278, rfl, ho0, hb⟩; refine ⟨_, rfl, ?_⟩; have n0_ := Aside0.mk (Kd.R_elder' (by (with_reducible repeat (first | apply Kd.R_alloc | apply Kd.R_drewN | apply Kd.R_drew)); exact HO271.out) (by first | exact Kd.R_base ho0 | exact Kd.S_base ho0) hb); have n1_ := Aside0.mk (Kd.R_elder' (by (with_reducible repeat (first | apply Kd.R_alloc | apply Kd.R_drewN | apply Kd.R_drew)); exact HO275.out) (by first | exact Kd.R_base ho0 | exact Kd.S_base ho0) hb); have n2_ := Aside0.mk (Kd.R_lower (Kd.R_new' (Kd.R_new' ho0 (Kd.R_lt (by (with_reducible repeat (first | apply Kd.R_alloc | apply Kd.R_drewN | apply Kd.R_drew)); exact HO271.out))) (Kd.R_lt (by (with_reducible repeat (first | apply Kd.R_alloc | apply Kd.R_drewN | apply Kd.R_drew)); exact HO275.out))) (below_size (by repeat (first | (with_reducible first | exact HB.out | apply below_alloc | apply pw_below_drewN | apply below_drew1) | exact HB.out)))); have n3_ := Aside0.mk (below_step (by repeat (first | (with_reducible first | exact HB.out | apply below_alloc | apply pw_below_drewN | apply below_drew1) | exact HB.out)) hb); clear HO271; clear HO275; clear HB; have HO271 := n0_; have HO275 := n1_; have HO279 := n2_; have HB := n3_; clear n0_ n1_ n2_ n3_; (try clear hb); (try clear hb2); (try clear hk); (try clear hi); (try clear ho0); obtain ⟨Ao38, co38, eo38⟩ := Kd.R_slice HO279.out; subst eo38) | ((with_reducible refine gate_callee (f := 28) rfl ?_); refine goesL_ (some 25) rfl rfl Try.func28 (by kernel_rfl) rfl #[.slice Ao35 t273.length co35, .slice Ao38 t277.length co38] rfl (by (try simp only [List.map_toArray, List.map_cons, List.map_nil]); first | done | rfl | (simp only [List.length_drop, List.length_take]; rfl)) ?_; (with_reducible refine (laws_eqPropS.calls k _ _ t273 _ _ t277 false _ ?side1 ?side2 ?side3 ?side4 A18.out).mono ?_); (case side1 => repeat (first | exact (Kd.R_reads' HO275.out).2.2 | (with_reducible refine Kd.C_alloc ?_ _) | (with_reducible refine Kd.C_drewN ?_ _) | (with_reducible refine Kd.C_drew ?_))); (case side2 => exact (Kd.R_reads' HO275.out).2.1); (case side3 => repeat (first | exact (Kd.R_reads' HO279.out).2.2 | (with_reducible refine Kd.C_alloc ?_ _) | (with_reducible refine Kd.C_drewN ?_ _) | (with_reducible refine Kd.C_drew ?_))); (case side4 => exact (Kd.R_reads' HO279.out).2.1); rintro e w39 ⟨rfl, hb⟩; refine ⟨_, rfl, ?_⟩; have n0_ := Aside0.mk (Kd.R_below (by (with_reducible repeat (first | apply Kd.R_alloc | apply Kd.R_drewN | apply Kd.R_drew)); exact HO271.out) hb); have n1_ := Aside0.mk (Kd.R_below (by (with_reducible repeat (first | apply Kd.R_alloc | apply Kd.R_drewN | apply Kd.R_drew)); exact HO275.out) hb); have n2_ := Aside0.mk (Kd.R_below (by (with_reducible repeat (first | apply Kd.R_alloc | apply Kd.R_drewN | apply Kd.R_drew)); exact HO279.out) hb); have n3_ := Aside0.mk (below_step (by repeat (first | (with_reducible first | exact HB.out | apply below_alloc | apply pw_below_drewN | apply below_drew1) | exact HB.out)) hb); clear HO271; clear HO275; clear HO279; clear HB; have HO271 := n0_; have HO275 := n1_; have HO279 := n2_; have HB := n3_; clear n0_ n1_ n2_ n3_; (try clear hb); (try clear hb2); (try clear hk); (try clear hi)))
        go_ret
        exact ⟨by first | rfl | (simp [errW_none, errW_some] <;> rfl) | (simp [*, errW_none, errW_some] <;> rfl), by repeat (first | (with_reducible first | exact HB.out | apply below_alloc | apply pw_below_drewN | apply below_drew1) | exact HB.out)⟩

end Go.Proofs.Yteabkidfgdmmpaa.Q

/- What a reading of a struct says of its cells. No condition. -/
namespace Go.Proofs.Yteabkidfgdmmpaa.Q
open Go.RowKit Go.ChangeShapes Go.WideShapes Go.Proofs.YteabkidfgdmmpaaW.PrintWords Go.Proofs.Yteabkidfgdmmpaa
set_option linter.unusedVariables false
set_option linter.unusedSimpArgs false
theorem len3 {α : Type} {cs : List α} (h : cs.length = 3) : ∃ c0 c1 c2, cs = [c0, c1, c2] := by
  match cs, h with
  | [c0, c1, c2], _ => exact ⟨_, _, _, rfl⟩
theorem len5 {α : Type} {cs : List α} (h : cs.length = 5) : ∃ c0 c1 c2 c3 c4, cs = [c0, c1, c2, c3, c4] := by
  match cs, h with
  | [c0, c1, c2, c3, c4], _ => exact ⟨_, _, _, _, _, rfl⟩
instance : Inhabited S70 := ⟨z70⟩
instance : Inhabited S77 := ⟨z77⟩
def G70 (x : S70) : Prop := (fun s : ByteArray => s.size ≤ maxLen) x.f0 ∧ (fun s : ByteArray => s.size ≤ maxLen) x.f1 ∧ (fun s : ByteArray => s.size ≤ maxLen) x.f2
theorem opens70 {H : Type} {enc : TypeId × Value → H} {w : World} : Op.Opens enc Try.prog w 70 k70 G70 := by
  intro fuel cs x h
  obtain ⟨xs, n, _, _, hl, hlen, hf⟩ := DataW.trod_struct Try.underlying70 h
  replace hl : cs.length = 3 := hl.trans (by kernel_rfl)
  replace hlen : xs.length = 3 := hlen.trans (by kernel_rfl)
  obtain ⟨c0, c1, c2, rfl⟩ := len3 hl
  have hc9_ : Try.prog.cellsOf 9 = 1 := by kernel_rfl
  obtain ⟨a0, k0_, g0_⟩ : ∃ a, Kd.string.K w a [c0] ∧ (fun s : ByteArray => s.size ≤ maxLen) a := by
    have h1 : DataW.trod enc Try.prog w 0 (fun _ => true) true n 9 (([c0, c1, c2].drop 0).take (Try.prog.cellsOf 9)) = xs[0]? := hf 0 _ rfl
    have hlt : 0 < xs.length := by omega
    rw [List.getElem?_eq_getElem hlt] at h1
    simp only [hc9_, List.drop_zero, List.drop_succ_cons, List.take_succ_cons, List.take_zero] at h1
    exact (Op.opens_string Try.underlying9) n [c0] _ h1
  obtain ⟨a1, k1_, g1_⟩ : ∃ a, Kd.string.K w a [c1] ∧ (fun s : ByteArray => s.size ≤ maxLen) a := by
    have h1 : DataW.trod enc Try.prog w 0 (fun _ => true) true n 9 (([c0, c1, c2].drop 1).take (Try.prog.cellsOf 9)) = xs[1]? := hf 1 _ rfl
    have hlt : 1 < xs.length := by omega
    rw [List.getElem?_eq_getElem hlt] at h1
    simp only [hc9_, List.drop_zero, List.drop_succ_cons, List.take_succ_cons, List.take_zero] at h1
    exact (Op.opens_string Try.underlying9) n [c1] _ h1
  obtain ⟨a2, k2_, g2_⟩ : ∃ a, Kd.string.K w a [c2] ∧ (fun s : ByteArray => s.size ≤ maxLen) a := by
    have h1 : DataW.trod enc Try.prog w 0 (fun _ => true) true n 9 (([c0, c1, c2].drop 2).take (Try.prog.cellsOf 9)) = xs[2]? := hf 2 _ rfl
    have hlt : 2 < xs.length := by omega
    rw [List.getElem?_eq_getElem hlt] at h1
    simp only [hc9_, List.drop_zero, List.drop_succ_cons, List.take_succ_cons, List.take_zero] at h1
    exact (Op.opens_string Try.underlying9) n [c2] _ h1
  exact ⟨⟨a0, a1, a2⟩, ⟨[c0], [c1, c2], rfl, k0_, ⟨[c1], [c2], rfl, k1_, k2_⟩⟩, ⟨g0_, g1_, g2_⟩⟩
def G77 (x : S77) : Prop := (fun l : List ByteArray => l.length ≤ maxLen ∧ ∀ a ∈ l, (fun s : ByteArray => s.size ≤ maxLen) a) x.f0 ∧ (fun _ : Bool => True) x.f1 ∧ (fun s : ByteArray => s.size ≤ maxLen) x.f2 ∧ (fun x : Int => (Lit.int .i64 x).wf = true) x.f3 ∧ (fun l : List (S70) => l.length ≤ maxLen ∧ ∀ a ∈ l, G70 a) x.f4
theorem opens77 {H : Type} {enc : TypeId × Value → H} {w : World} : Op.Opens enc Try.prog w 77 k77 G77 := by
  intro fuel cs x h
  obtain ⟨xs, n, _, _, hl, hlen, hf⟩ := DataW.trod_struct Try.underlying77 h
  replace hl : cs.length = 5 := hl.trans (by kernel_rfl)
  replace hlen : xs.length = 5 := hlen.trans (by kernel_rfl)
  obtain ⟨c0, c1, c2, c3, c4, rfl⟩ := len5 hl
  have hc22_ : Try.prog.cellsOf 22 = 1 := by kernel_rfl
  have hc4_ : Try.prog.cellsOf 4 = 1 := by kernel_rfl
  have hc9_ : Try.prog.cellsOf 9 = 1 := by kernel_rfl
  have hc3_ : Try.prog.cellsOf 3 = 1 := by kernel_rfl
  have hc27_ : Try.prog.cellsOf 27 = 1 := by kernel_rfl
  obtain ⟨a0, k0_, g0_⟩ : ∃ a, (Kd.slice 9 Kd.string).K w a [c0] ∧ (fun l : List ByteArray => l.length ≤ maxLen ∧ ∀ a ∈ l, (fun s : ByteArray => s.size ≤ maxLen) a) a := by
    have h1 : DataW.trod enc Try.prog w 0 (fun _ => true) true n 22 (([c0, c1, c2, c3, c4].drop 0).take (Try.prog.cellsOf 22)) = xs[0]? := hf 0 _ rfl
    have hlt : 0 < xs.length := by omega
    rw [List.getElem?_eq_getElem hlt] at h1
    simp only [hc22_, List.drop_zero, List.drop_succ_cons, List.take_succ_cons, List.take_zero] at h1
    exact (Op.opens_slice Try.underlying22 (by kernel_rfl) (Op.opens_string Try.underlying9)) n [c0] _ h1
  obtain ⟨a1, k1_, g1_⟩ : ∃ a, Kd.bool.K w a [c1] ∧ (fun _ : Bool => True) a := by
    have h1 : DataW.trod enc Try.prog w 0 (fun _ => true) true n 4 (([c0, c1, c2, c3, c4].drop 1).take (Try.prog.cellsOf 4)) = xs[1]? := hf 1 _ rfl
    have hlt : 1 < xs.length := by omega
    rw [List.getElem?_eq_getElem hlt] at h1
    simp only [hc4_, List.drop_zero, List.drop_succ_cons, List.take_succ_cons, List.take_zero] at h1
    exact (Op.opens_bool Try.underlying4) n [c1] _ h1
  obtain ⟨a2, k2_, g2_⟩ : ∃ a, Kd.string.K w a [c2] ∧ (fun s : ByteArray => s.size ≤ maxLen) a := by
    have h1 : DataW.trod enc Try.prog w 0 (fun _ => true) true n 9 (([c0, c1, c2, c3, c4].drop 2).take (Try.prog.cellsOf 9)) = xs[2]? := hf 2 _ rfl
    have hlt : 2 < xs.length := by omega
    rw [List.getElem?_eq_getElem hlt] at h1
    simp only [hc9_, List.drop_zero, List.drop_succ_cons, List.take_succ_cons, List.take_zero] at h1
    exact (Op.opens_string Try.underlying9) n [c2] _ h1
  obtain ⟨a3, k3_, g3_⟩ : ∃ a, (Kd.int .i64).K w a [c3] ∧ (fun x : Int => (Lit.int .i64 x).wf = true) a := by
    have h1 : DataW.trod enc Try.prog w 0 (fun _ => true) true n 3 (([c0, c1, c2, c3, c4].drop 3).take (Try.prog.cellsOf 3)) = xs[3]? := hf 3 _ rfl
    have hlt : 3 < xs.length := by omega
    rw [List.getElem?_eq_getElem hlt] at h1
    simp only [hc3_, List.drop_zero, List.drop_succ_cons, List.take_succ_cons, List.take_zero] at h1
    exact (Op.opens_int Try.underlying3) n [c3] _ h1
  obtain ⟨a4, k4_, g4_⟩ : ∃ a, (Kd.slice 70 k70).K w a [c4] ∧ (fun l : List (S70) => l.length ≤ maxLen ∧ ∀ a ∈ l, G70 a) a := by
    have h1 : DataW.trod enc Try.prog w 0 (fun _ => true) true n 27 (([c0, c1, c2, c3, c4].drop 4).take (Try.prog.cellsOf 27)) = xs[4]? := hf 4 _ rfl
    have hlt : 4 < xs.length := by omega
    rw [List.getElem?_eq_getElem hlt] at h1
    simp only [hc27_, List.drop_zero, List.drop_succ_cons, List.take_succ_cons, List.take_zero] at h1
    exact (Op.opens_slice Try.underlying27 (by kernel_rfl) opens70) n [c4] _ h1
  exact ⟨⟨a0, a1, a2, a3, a4⟩, ⟨[c0], [c1, c2, c3, c4], rfl, k0_, ⟨[c1], [c2, c3, c4], rfl, k1_, ⟨[c2], [c3, c4], rfl, k2_, ⟨[c3], [c4], rfl, k3_, k4_⟩⟩⟩⟩, ⟨g0_, g1_, g2_, g3_, g4_⟩⟩
end Go.Proofs.Yteabkidfgdmmpaa.Q

/- Small lemmas for plain laws over rounds: indices as lengths of what was passed, bytes' equality. No condition. -/
set_option linter.unusedSimpArgs false
set_option linter.unusedVariables false
namespace Go.Proofs.Yteabkidfgdmmpaa.L
open Go.RowKit Go.Proofs.YteabkidfgdmmpaaW.PrintWords Go.Proofs.YteabkidfgdmmpaaW.PrintLast

theorem ba_toList (s : ByteArray) : s.toList = s.data.toList := ByteArray.toList_eq s
theorem ba_inj {a b : ByteArray} (h : a.toList = b.toList) : a = b := by
  rw [ba_toList, ba_toList] at h
  cases a with | mk x => cases b with | mk y => congr 1; exact Array.toList_inj.1 h
theorem ba_eq {a b : ByteArray} : (a.toList = b.toList) = (a = b) := propext ⟨ba_inj, fun h => by rw [h]⟩
theorem maxLen_eq : maxLen = 9223372036854775807 := by decide
theorem wrap_id {x : Int} (h0 : -9223372036854775808 ≤ x) (h1 : x < 9223372036854775808) : wrap64 x = x := by
  unfold wrap64
  omega

section
variable {α : Type} {l pre suf : List α} {a : α}
theorem lt_at (h : l = pre ++ a :: suf) : ((pre.length : Nat) : Int) < (l.length : Int) := by subst h; simp; omega
theorem getD_at (d : α) (h : l = pre ++ a :: suf) : l.getD ((pre.length : Nat) : Int).toNat d = a := by subst h; simp [List.getD_eq_getElem?_getD]
theorem next_at (h : l = pre ++ a :: suf) (hl : l.length ≤ maxLen) : wrap64 ((pre.length : Int) + 1) = ((pre ++ [a]).length : Int) := by
  have : l.length = pre.length + 1 + suf.length := by subst h; simp; omega
  rw [maxLen_eq] at hl
  rw [wrap_id (by omega) (by omega)]
  simp
theorem snoc_at (h : l = pre ++ a :: suf) : l = (pre ++ [a]) ++ suf := by subst h; simp
theorem end_at (h : l = pre ++ []) : ¬ ((pre.length : Nat) : Int) < (l.length : Int) := by subst h; simp
theorem nonneg_at (n : Nat) : (0 : Int) ≤ (n : Int) := Int.natCast_nonneg n
end

/-- How a size comes out: too great (-1), or what is left (m of n), and then P holds. -/
def Sz (g : Nat → Option Int) (n : Int) (P : Prop) : Prop := Ev g (-1) ∨ ∃ m : Int, 0 ≤ m ∧ m ≤ n ∧ Ev g m ∧ P
theorem Sz.bind {g : Nat → Option Int} {f : Nat → Int → Option Int} {n : Int} {P Q : Prop} (h : Sz g n P) (hk : ∀ m, 0 ≤ m → m ≤ n → P → Sz (fun k => f k m) m Q) (hneg : Ev (fun k => f k (-1)) (-1)) : Sz (fun k => (g k).bind (f k)) n Q := by
  rcases h with h | ⟨m, h0, h1, h, hP⟩
  · exact .inl (Ev.bind h hneg)
  · rcases hk m h0 h1 hP with h2 | ⟨m', h0', h1', h2, hQ⟩
    · exact .inl (Ev.bind h h2)
    · exact .inr ⟨m', h0', by omega, Ev.bind h h2, hQ⟩
theorem Sz.sub {f : Nat → Option Int} {n c : Int} {Q : Prop} (hc : 0 ≤ c) (hk : c ≤ n → Sz f (n - c) Q) : Sz (fun k => if n - c < 0 then some (-1) else f k) n Q := by
  by_cases h : n - c < 0
  · simp only [if_pos h]; exact .inl (Ev.now _)
  · simp only [if_neg h]
    rcases hk (by omega) with h2 | ⟨m, h0, h1, h2, hQ⟩
    · exact .inl h2
    · exact .inr ⟨m, h0, by omega, h2, hQ⟩
theorem Sz.ev {α : Type} {g : Nat → Option Int} {f : Nat → Int → Option α} {n : Int} {P : Prop} {r : α} (h : Sz g n P) (hneg : Ev (fun k => f k (-1)) r) (hk : ∀ m, 0 ≤ m → m ≤ n → P → Ev (fun k => f k m) r) : Ev (fun k => (g k).bind (f k)) r := by
  rcases h with h | ⟨m, h0, h1, h, hP⟩
  · exact Ev.bind h hneg
  · exact Ev.bind h (hk m h0 h1 hP)
/-- A loop that takes sizes off. -/
theorem sz_loop {α : Type} {l : List α} {P : α → Prop} (g : Nat → Int → Int → Option Int)
    (hend : ∀ n, Ev (fun k => g k n l.length) n)
    (hstep : ∀ pre a suf n, l = pre ++ a :: suf → 0 ≤ n → n ≤ 1048576 → Ev (fun k => g k n (pre.length : Int)) (-1) ∨ ∃ m, 0 ≤ m ∧ m ≤ n ∧ P a ∧ ∀ r, Ev (fun k => g k m ((pre ++ [a]).length : Int)) r → Ev (fun k => g k n (pre.length : Int)) r) :
    ∀ (suf pre : List α) (n : Int), l = pre ++ suf → 0 ≤ n → n ≤ 1048576 → Sz (fun k => g k n (pre.length : Int)) n (∀ a ∈ suf, P a) := by
  intro suf
  induction suf with
  | nil =>
    intro pre n h h0 h1
    have := hend n
    rw [h, List.append_nil] at this
    exact .inr ⟨n, h0, Int.le_refl _, this, by simp⟩
  | cons a suf ih =>
    intro pre n h h0 h1
    rcases hstep pre a suf n h h0 h1 with h2 | ⟨m, hm0, hm1, hP, hr⟩
    · exact .inl h2
    · rcases ih (pre ++ [a]) m (snoc_at h) hm0 (by omega) with h3 | ⟨m', hm0', hm1', h3, h4⟩
      · exact .inl (hr _ h3)
      · exact .inr ⟨m', hm0', by omega, hr _ h3, fun x hx => by
          rcases List.mem_cons.1 hx with rfl | hx
          · exact hP
          · exact h4 x hx⟩
/-- A loop that fills a list, element by element. -/
theorem to_loop {α β : Type} {l : List α} {f : α → β} (g : Nat → List β → Int → Option (List β))
    (hend : ∀ out, Ev (fun k => g k out l.length) out)
    (hstep : ∀ pre a suf (out : List β), l = pre ++ a :: suf → ((pre.length : Nat) : Int) < (out.length : Int) → ∀ r, Ev (fun k => g k (out.set ((pre.length : Nat) : Int).toNat (f a)) ((pre ++ [a]).length : Int)) r → Ev (fun k => g k out (pre.length : Int)) r) :
    ∀ (suf pre : List α) (out rest : List β), l = pre ++ suf → out = pre.map f ++ rest → rest.length = suf.length → Ev (fun k => g k out (pre.length : Int)) (l.map f) := by
  intro suf
  induction suf with
  | nil =>
    intro pre out rest h ho hr
    obtain rfl : rest = [] := by simpa using hr
    have := hend out
    rw [h, List.append_nil] at this ⊢
    rw [ho, List.append_nil] at this ⊢
    exact this
  | cons a suf ih =>
    intro pre out rest h ho hr
    obtain ⟨b, rest, rfl⟩ : ∃ b r, rest = b :: r := by
      cases rest with
      | nil => simp at hr
      | cons b r => exact ⟨b, r, rfl⟩
    have hlen : ((pre.length : Nat) : Int) < (out.length : Int) := by rw [ho]; simp; omega
    refine hstep pre a suf out h hlen _ (ih (pre ++ [a]) _ rest (snoc_at h) ?_ (by simpa using hr))
    rw [ho]
    simp [List.set_append]
/-- A loop that compares two lists of one length. -/
theorem eq_loop {α : Type} [DecidableEq α] {a b : List α} (g : Nat → Int → Option Bool)
    (hend : Ev (fun k => g k a.length) true)
    (hstep : ∀ pre x su pre' y sv, a = pre ++ x :: su → b = pre' ++ y :: sv → pre.length = pre'.length → (x ≠ y → Ev (fun k => g k (pre.length : Int)) false) ∧ (x = y → ∀ r, Ev (fun k => g k ((pre ++ [x]).length : Int)) r → Ev (fun k => g k (pre.length : Int)) r)) :
    ∀ (su sv pu pv : List α), a = pu ++ su → b = pv ++ sv → pu.length = pv.length → su.length = sv.length → Ev (fun k => g k (pu.length : Int)) (decide (su = sv)) := by
  intro su
  induction su with
  | nil =>
    intro sv pu pv h h' hp hs
    obtain rfl : sv = [] := by simpa using hs.symm
    rw [h, List.append_nil] at hend
    exact hend
  | cons x su ih =>
    intro sv pu pv h h' hp hs
    cases sv with
    | nil => simp at hs
    | cons y sv =>
      obtain ⟨h1, h2⟩ := hstep pu x su pv y sv h h' hp
      by_cases e : x = y
      · have h3 := h2 e _ (ih sv (pu ++ [x]) (pv ++ [y]) (snoc_at h) (snoc_at h') (by simp [hp]) (by simpa using hs))
        simp only [e, List.cons.injEq, true_and]
        exact h3
      · rw [show decide (x :: su = y :: sv) = false from decide_eq_false (fun h => e (List.cons.inj h).1)]
        exact h1 e
end Go.Proofs.Yteabkidfgdmmpaa.L

/- The laws' own functions over a mirrored struct (Prop): size, copy, equality. No condition. -/
set_option linter.unusedSimpArgs false
set_option linter.unusedVariables false
namespace Go.Proofs.Yteabkidfgdmmpaa.L
open Go.RowKit Go.Proofs.YteabkidfgdmmpaaW.PrintWords Go.Proofs.YteabkidfgdmmpaaW.PrintLast Go.Proofs.Yteabkidfgdmmpaa.Q
/-! ### Prop -/
instance : DecidableEq S71 := fun a b => if h : a.f0 = b.f0 ∧ a.f1 = b.f1 ∧ a.f2 = b.f2 then .isTrue (by cases a; cases b; simp_all) else .isFalse (fun e => h (by rw [e]; exact ⟨rfl, rfl, rfl⟩))
theorem rd_lawsProp {l pre suf : List S70} {a : S70} (h : l = pre ++ a :: suf) : rd_T70 l (pre.length : Int) = a := getD_at _ h
theorem rd_implProp {l pre suf : List S71} {a : S71} (h : l = pre ++ a :: suf) : rd_T71 l (pre.length : Int) = a := getD_at _ h
def toProp (p : S70) : S71 := ⟨p.f0, p.f1, p.f2⟩
def SmProp (p : S71) : Prop := p.f0.size ≤ 1048576 ∧ p.f1.size ≤ 1048576 ∧ p.f2.size ≤ 1048576
def GGProp (x : S70) : Prop := x.f0.size ≤ maxLen ∧ x.f1.size ≤ maxLen ∧ x.f2.size ≤ maxLen
theorem szProp {p : S70} (hp : GGProp p) {n : Int} (h0 : 0 ≤ n) (h1 : n ≤ 1048576) : Sz (fun k => laws_szProp.f p.f0 p.f1 p.f2 n) n (SmProp (toProp p)) := by
  obtain ⟨g0, g1, g2⟩ := hp
  unfold laws_szProp.f
  have e0 := wrap_id (x := n - (p.f0.size : Int)) (by rw [maxLen_eq] at g0; omega) (by omega)
  simp only [e0]
  refine Sz.sub (by omega) (fun c0 => ?_)
  obtain ⟨n0, hn0⟩ : ∃ m, m = n - (p.f0.size : Int) := ⟨_, rfl⟩
  simp only [← hn0]
  have e1 := wrap_id (x := n0 - (p.f1.size : Int)) (by rw [maxLen_eq] at g1; omega) (by omega)
  simp only [e1]
  refine Sz.sub (by omega) (fun c1 => ?_)
  obtain ⟨n1, hn1⟩ : ∃ m, m = n0 - (p.f1.size : Int) := ⟨_, rfl⟩
  simp only [← hn1]
  have e2 := wrap_id (x := n1 - (p.f2.size : Int)) (by rw [maxLen_eq] at g2; omega) (by omega)
  simp only [e2]
  refine Sz.sub (by omega) (fun c2 => ?_)
  obtain ⟨n2, hn2⟩ : ∃ m, m = n1 - (p.f2.size : Int) := ⟨_, rfl⟩
  simp only [← hn2]
  exact .inr ⟨n2, by omega, by omega, Ev.now _, by show p.f0.size ≤ 1048576; omega, by show p.f1.size ≤ 1048576; omega, by show p.f2.size ≤ 1048576; omega⟩
theorem toProp1 {p : S70} (hp : SmProp (toProp p)) : Ev (fun k => laws_toProp.f p.f0 p.f1 p.f2) (p.f0, p.f1, p.f2) := by
  obtain ⟨g0, g1, g2⟩ := hp
  unfold laws_toProp.f
  exact Ev.now _
theorem eqProp1 {p q : S71} (hp : SmProp p) : Ev (fun k => laws_eqProp.f p.f0 p.f1 p.f2 q.f0 q.f1 q.f2) (decide (p = q)) := by
  obtain ⟨g0, g1, g2⟩ := hp
  unfold laws_eqProp.f
  by_cases e0 : p.f0 = q.f0
  rotate_left
  · rw [show decide (p = q) = false from decide_eq_false (fun h => e0 (by rw [h]))]
    simp only [ba_eq, e0, bne_iff_ne, ne_eq, not_false_eq_true, not_true_eq_false, if_true, if_false]
    exact Ev.now _
  simp only [ba_eq, e0, bne_self_eq_false, Bool.false_eq_true, if_true, if_false]
  by_cases e1 : p.f1 = q.f1
  rotate_left
  · rw [show decide (p = q) = false from decide_eq_false (fun h => e1 (by rw [h]))]
    simp only [ba_eq, e1, bne_iff_ne, ne_eq, not_false_eq_true, not_true_eq_false, if_true, if_false]
    exact Ev.now _
  simp only [ba_eq, e1, bne_self_eq_false, Bool.false_eq_true, if_true, if_false]
  by_cases e2 : p.f2 = q.f2
  rotate_left
  · rw [show decide (p = q) = false from decide_eq_false (fun h => e2 (by rw [h]))]
    simp only [ba_eq, e2, bne_iff_ne, ne_eq, not_false_eq_true, not_true_eq_false, if_true, if_false]
    exact Ev.now _
  simp only [ba_eq, e2, bne_self_eq_false, Bool.false_eq_true, if_true, if_false]
  rw [show decide (p = q) = true from decide_eq_true (by cases p; cases q; simp_all)]
  exact Ev.now _
def SmProps (l : List S71) : Prop := l.length ≤ 1048576 ∧ ∀ p ∈ l, SmProp p
theorem szPropS {l : List S70} (hl : l.length ≤ maxLen) (hs : ∀ s ∈ l, GGProp s) {n : Int} (h0 : 0 ≤ n) (h1 : n ≤ 1048576) : Sz (fun k => laws_szPropS.f k l n) n (SmProps (l.map toProp)) := by
  have hl' := hl
  rw [maxLen_eq] at hl'
  unfold laws_szPropS.f
  simp only [wrap_id (x := n - (l.length : Int)) (by omega) (by omega)]
  refine Sz.sub (by omega) (fun hlt => ?_)
  have key : Sz (fun k => laws_szPropS.l0 k l (n - l.length) 0) (n - l.length) (∀ p ∈ l, SmProp (toProp p)) := by
    refine sz_loop (l := l) (P := fun p => SmProp (toProp p)) (fun k n i => laws_szPropS.l0 k l n i) ?_ ?_ l [] (n - l.length) rfl (by omega) (by omega)
    · intro n
      refine Ev.step (fun k => laws_szPropS.l0.eq_2 ..) ?_
      simp only [Int.lt_irrefl, if_false]
      exact Ev.now _
    · intro pre a suf n h h0 h1
      rcases szProp (hs a (by rw [h]; simp)) h0 h1 with h2 | ⟨m, hm0, hm1, h2, h3⟩
      · left
        refine Ev.step (fun k => laws_szPropS.l0.eq_2 ..) ?_
        simp only [if_pos (lt_at h), if_pos (nonneg_at _), rd_lawsProp h]
        refine Ev.bind h2 ?_
        simp only [show (-1 : Int) < 0 by omega, if_true]
        exact Ev.now _
      · refine .inr ⟨m, hm0, hm1, h3, fun r hr => ?_⟩
        refine Ev.step (fun k => laws_szPropS.l0.eq_2 ..) ?_
        simp only [if_pos (lt_at h), if_pos (nonneg_at _), rd_lawsProp h]
        refine Ev.bind h2 ?_
        simp only [if_neg (show ¬ m < 0 by omega), next_at h hl]
        exact hr
  rcases key with h | ⟨m, hm0, hm1, h2, h3⟩
  · exact .inl h
  · refine .inr ⟨m, hm0, hm1, h2, by simp; omega, fun p hp => ?_⟩
    obtain ⟨q, hq, rfl⟩ := List.mem_map.1 hp
    exact h3 q hq
theorem toPropS {p : List S70} (hp : SmProps (p.map toProp)) : Ev (fun k => laws_toPropS.f k p) (p.map toProp) := by
  obtain ⟨hl0, hs⟩ := hp
  rw [List.length_map] at hl0
  have hl2 : p.length ≤ maxLen := by rw [maxLen_eq]; omega
  unfold laws_toPropS.f
  simp only [if_pos (nonneg_at _), Int.toNat_natCast, if_pos (show p.length ≤ 5864062014805 by omega)]
  refine to_loop (l := p) (f := toProp) (fun k out i => laws_toPropS.l0 k p out i) ?_ ?_ p [] _ (List.replicate p.length z71) rfl rfl (by simp)
  · intro out
    refine Ev.step (fun k => laws_toPropS.l0.eq_2 ..) ?_
    simp only [Int.lt_irrefl, if_false]
    exact Ev.now _
  · intro pre a suf out h ho r hr
    refine Ev.step (fun k => laws_toPropS.l0.eq_2 ..) ?_
    simp only [if_pos (lt_at h), if_pos (nonneg_at _), rd_lawsProp h]
    refine Ev.bind (toProp1 (hs _ (List.mem_map.2 ⟨a, by rw [h]; simp, rfl⟩))) ?_
    simp only [if_pos ho, next_at h hl2]
    exact hr
theorem eqPropS {a b : List S71} (ha : SmProps a) : Ev (fun k => laws_eqPropS.f k a b) (decide (a = b)) := by
  have hl : a.length ≤ maxLen := by have := ha.1; rw [maxLen_eq]; omega
  unfold laws_eqPropS.f
  by_cases e : (a.length : Int) = (b.length : Int)
  · simp only [if_pos e]
    refine eq_loop (a := a) (b := b) (fun k i => laws_eqPropS.l0 k a b i) ?_ ?_ a b [] [] rfl rfl rfl (by omega)
    · refine Ev.step (fun k => laws_eqPropS.l0.eq_2 ..) ?_
      simp only [Int.lt_irrefl, if_false]
      exact Ev.now _
    · intro pre x su pre' y sv h h' hp
      have h3 := rd_implProp h'
      have h4 := lt_at h'
      rw [← hp] at h3 h4
      have h5 := eqProp1 (q := y) (ha.2 x (by rw [h]; simp))
      refine ⟨fun hne => ?_, fun heq r hr => ?_⟩
      · refine Ev.step (fun k => laws_eqPropS.l0.eq_2 ..) ?_
        simp only [if_pos (lt_at h), if_pos (nonneg_at _), if_pos h4, rd_implProp h, h3]
        refine Ev.bind h5 ?_
        simp only [hne, decide_false, Bool.false_eq_true, if_false]
        exact Ev.now _
      · refine Ev.step (fun k => laws_eqPropS.l0.eq_2 ..) ?_
        simp only [if_pos (lt_at h), if_pos (nonneg_at _), if_pos h4, rd_implProp h, h3]
        refine Ev.bind h5 ?_
        simp only [heq, decide_true, if_true, next_at h hl]
        rw [heq] at hr
        exact hr
  · simp only [if_neg e]
    rw [show decide (a = b) = false from decide_eq_false (fun h => e (by rw [h]))]
    exact Ev.now _
end Go.Proofs.Yteabkidfgdmmpaa.L

/- Texts byte by byte: plain texts, small names, as the program and the reference have them. No condition. -/
set_option linter.unusedSimpArgs false
set_option linter.unusedVariables false
namespace Go.Proofs.Yteabkidfgdmmpaa.L
open Go.RowKit Go.Proofs.YteabkidfgdmmpaaW.PrintWords Go.Proofs.YteabkidfgdmmpaaW.PrintLast Go.Proofs.Yteabkidfgdmmpaa.Q

abbrev bl (s : ByteArray) : List UInt8 := s.data.toList
theorem bl_len (s : ByteArray) : (bl s).length = s.size := data_length s
section
variable {s : ByteArray} {pre suf : List UInt8} {c : UInt8}
theorem blt_at (h : bl s = pre ++ c :: suf) : ((pre.length : Nat) : Int) < (s.size : Int) := by
  have := bl_len s
  rw [h] at this
  simp at this
  omega
theorem bend_at (h : bl s = pre ++ []) : ¬ ((pre.length : Nat) : Int) < (s.size : Int) := by
  have := bl_len s
  rw [h] at this
  simp at this
  omega
theorem bt_at' (h : bl s = pre ++ c :: suf) : bt s (pre.length : Int) = (c.toNat : Int) := by
  have hlt := blt_at h
  have h2 : pre.length < s.size := by omega
  rw [← bt_at s (pre.length : Int) (by simpa using h2)]
  have h3 : pre.length < (bl s).length := by rw [bl_len]; exact h2
  have h4 : (bl s)[pre.length] = c := by simp [h]
  have h5 : s[pre.length]'h2 = (bl s)[pre.length] := by
    show s.data[pre.length] = _
    simp
  simp only [Int.toNat_natCast, h5, h4]
theorem bnext_at (h : bl s = pre ++ c :: suf) (hs : s.size ≤ maxLen) : wrap64 ((pre.length : Int) + 1) = ((pre ++ [c]).length : Int) := by
  have := blt_at h
  rw [maxLen_eq] at hs
  rw [wrap_id (by omega) (by omega)]
  simp
end
theorem byte_bounds (c : UInt8) : 0 ≤ (c.toNat : Int) ∧ (c.toNat : Int) ≤ 255 := ⟨by omega, by have := c.toNat_lt; omega⟩
theorem wrap_byte (c : UInt8) : wrap64 (c.toNat : Int) = (c.toNat : Int) := wrap_id (by omega) (by have := byte_bounds c; omega)

/-- A byte within bounds. -/
def inB (lo hi : Int) (c : UInt8) : Bool := decide (lo ≤ (c.toNat : Int) ∧ (c.toNat : Int) ≤ hi)
theorem specIn (a b c : Int) : spec_l1In.f a b c = some (decide (b ≤ a ∧ a ≤ c)) := by
  unfold spec_l1In.f
  by_cases h : a ≥ b
  · rw [if_pos h]; simp [show b ≤ a from h]
  · rw [if_neg h]; simp [show ¬ b ≤ a from h]
theorem implIn (a b c : Int) : impl_in.f a b c = some (decide (b ≤ a ∧ a ≤ c)) := by
  unfold impl_in.f
  by_cases h : a ≥ b
  · rw [if_pos h]; simp [show b ≤ a from h]
  · rw [if_neg h]; simp [show ¬ b ≤ a from h]
theorem implIsPlain (c : UInt8) : impl_isPlain.f (c.toNat : Int) = some (inB 32 126 c) := by
  unfold impl_isPlain.f inB
  by_cases h : (c.toNat : Int) ≥ 32
  · rw [if_pos h]; simp only [show (32 : Int) ≤ c.toNat from h, true_and]
  · rw [if_neg h]; simp only [show ¬ (32 : Int) ≤ c.toNat from h, false_and, decide_false]
theorem implIsSmall (c : UInt8) : impl_isSmall.f (c.toNat : Int) = some (inB 97 122 c) := by
  unfold impl_isSmall.f inB
  by_cases h : (c.toNat : Int) ≥ 97
  · rw [if_pos h]; simp only [show (97 : Int) ≤ c.toNat from h, true_and]
  · rw [if_neg h]; simp only [show ¬ (97 : Int) ≤ c.toNat from h, false_and, decide_false]
theorem implIsDigit (c : UInt8) : impl_isDigit.f (c.toNat : Int) = some (inB 48 57 c) := by
  unfold impl_isDigit.f inB
  by_cases h : (c.toNat : Int) ≥ 48
  · rw [if_pos h]; simp only [show (48 : Int) ≤ c.toNat from h, true_and]
  · rw [if_neg h]; simp only [show ¬ (48 : Int) ≤ c.toNat from h, false_and, decide_false]
theorem specSmall1 (c : UInt8) : spec_l1Small.f (c.toNat : Int) = some (inB 97 122 c) := by
  unfold spec_l1Small.f; rw [wrap_byte, specIn]; rfl
theorem specDigit1 (c : UInt8) : spec_l1Digit.f (c.toNat : Int) = some (inB 48 57 c) := by
  unfold spec_l1Digit.f; rw [wrap_byte, specIn]; rfl

/-- All bytes are plain. -/
def plainL (l : List UInt8) : Bool := l.all (inB 32 126)
theorem specPlain_loop {s : ByteArray} (hs : s.size ≤ maxLen) : ∀ (suf pre : List UInt8), bl s = pre ++ suf → Ev (fun k => spec_Plain.l0 k s pre.length) (plainL suf) := by
  intro suf
  induction suf with
  | nil =>
    intro pre h
    refine Ev.step (fun k => spec_Plain.l0.eq_2 ..) ?_
    simp only [if_neg (bend_at h)]
    exact Ev.now _
  | cons c suf ih =>
    intro pre h
    refine Ev.step (fun k => spec_Plain.l0.eq_2 ..) ?_
    simp only [if_pos (blt_at h), if_pos (nonneg_at _), bt_at' h, wrap_byte, specIn, Option.bind_some, bnext_at h hs]
    have := ih (pre ++ [c]) (snoc_at h)
    simp only [plainL, List.all_cons, inB] at this ⊢
    by_cases e : (32 : Int) ≤ c.toNat ∧ (c.toNat : Int) ≤ 126
    · simp only [e, and_self, decide_true, if_true, Bool.true_and]
      exact this
    · simp only [e, decide_false, Bool.false_eq_true, if_false, Bool.false_and]
      exact Ev.now _
theorem specPlain {s : ByteArray} (hs : s.size ≤ maxLen) : Ev (fun k => spec_Plain.f k s) (plainL (bl s)) := specPlain_loop hs _ [] rfl
theorem implPlain_loop {s : ByteArray} (hs : s.size ≤ maxLen) : ∀ (suf pre : List UInt8), bl s = pre ++ suf → Ev (fun k => impl_Plain.l0 k s pre.length) (plainL suf) := by
  intro suf
  induction suf with
  | nil =>
    intro pre h
    refine Ev.step (fun k => impl_Plain.l0.eq_2 ..) ?_
    simp only [if_neg (bend_at h)]
    exact Ev.now _
  | cons c suf ih =>
    intro pre h
    refine Ev.step (fun k => impl_Plain.l0.eq_2 ..) ?_
    simp only [if_pos (blt_at h), if_pos (nonneg_at _), bt_at' h, implIsPlain, Option.bind_some, bnext_at h hs]
    have := ih (pre ++ [c]) (snoc_at h)
    simp only [plainL, List.all_cons] at this ⊢
    by_cases e : inB 32 126 c = true
    · simp only [e, if_true, Bool.true_and]
      exact this
    · simp only [e, if_false, Bool.false_and]
      exact Ev.now _
theorem implPlain {s : ByteArray} (hs : s.size ≤ maxLen) : Ev (fun k => impl_Plain.f k s) (plainL (bl s)) := implPlain_loop hs _ [] rfl

/-- The bytes of a small name, from a byte on that is the first one or not. -/
def smallL : Bool → List UInt8 → Bool
  | _, [] => true
  | first, c :: l => (inB 97 122 c || (!first && (inB 48 57 c || decide (c = 45)))) && smallL false l
theorem eq45 (c : UInt8) : ((c.toNat : Int) = 45) = (c = 45) := by
  apply propext
  constructor
  · intro h
    apply UInt8.toNat_inj.1
    show c.toNat = 45
    omega
  · rintro rfl
    rfl
def smallName (s : ByteArray) : Bool := smallL true (bl s) && decide (1 ≤ (s.size : Int) ∧ (s.size : Int) ≤ 20)
theorem specSmall_loop {s : ByteArray} (hs : s.size ≤ maxLen) : ∀ (suf pre : List UInt8), bl s = pre ++ suf → Ev (fun k => spec_SmallName.l0 k s pre.length) (smallL (decide (pre = [])) suf && decide (1 ≤ (s.size : Int) ∧ (s.size : Int) ≤ 20)) := by
  intro suf
  induction suf with
  | nil =>
    intro pre h
    refine Ev.step (fun k => spec_SmallName.l0.eq_2 ..) ?_
    simp only [if_neg (bend_at h), specIn, Option.bind_some, smallL, Bool.true_and]
    exact Ev.now _
  | cons c suf ih =>
    intro pre h
    refine Ev.step (fun k => spec_SmallName.l0.eq_2 ..) ?_
    simp only [if_pos (blt_at h), if_pos (nonneg_at _), bt_at' h, specSmall1, specDigit1, Option.bind_some, bnext_at h hs, eq45]
    have := ih (pre ++ [c]) (snoc_at h)
    rw [show decide (pre ++ [c] = []) = false by simp] at this
    simp only [smallL]
    by_cases e : inB 97 122 c = true
    · simp only [e, if_true, Bool.true_or, Bool.true_and]
      exact this
    · simp only [e, Bool.false_eq_true, if_false, Bool.false_or]
      by_cases e0 : pre = []
      · subst e0
        simp only [List.length_nil, Int.natCast_zero, if_true, decide_true, Bool.not_true, Bool.false_and]
        exact Ev.now _
      · have hp : ¬ ((pre.length : Nat) : Int) = 0 := by
          intro h0
          exact e0 (List.eq_nil_of_length_eq_zero (by omega))
        simp only [if_neg hp, e0, decide_false, Bool.not_false, Bool.true_and]
        by_cases e1 : inB 48 57 c = true
        · simp only [e1, if_true, Bool.true_or, Bool.true_and]
          exact this
        · simp only [e1, Bool.false_eq_true, if_false, Bool.false_or]
          by_cases e2 : c = 45
          · simp only [e2, if_true, decide_true, Bool.true_and]
            subst e2
            exact this
          · simp only [e2, if_false, decide_false, Bool.false_and]
            exact Ev.now _
theorem specSmall {s : ByteArray} (hs : s.size ≤ maxLen) : Ev (fun k => spec_SmallName.f k s) (smallName s) := specSmall_loop hs _ [] rfl
theorem implSmall_loop {s : ByteArray} (hs : s.size ≤ maxLen) : ∀ (suf pre : List UInt8), bl s = pre ++ suf → Ev (fun k => impl_SmallName.l0 k s pre.length) (smallL (decide (pre = [])) suf && decide (1 ≤ (s.size : Int) ∧ (s.size : Int) ≤ 20)) := by
  intro suf
  induction suf with
  | nil =>
    intro pre h
    refine Ev.step (fun k => impl_SmallName.l0.eq_2 ..) ?_
    simp only [if_neg (bend_at h), implIn, Option.bind_some, smallL, Bool.true_and]
    exact Ev.now _
  | cons c suf ih =>
    intro pre h
    refine Ev.step (fun k => impl_SmallName.l0.eq_2 ..) ?_
    simp only [if_pos (blt_at h), if_pos (nonneg_at _), bt_at' h, implIsSmall, implIsDigit, Option.bind_some, bnext_at h hs, eq45]
    have := ih (pre ++ [c]) (snoc_at h)
    rw [show decide (pre ++ [c] = []) = false by simp] at this
    simp only [smallL]
    by_cases e : inB 97 122 c = true
    · simp only [e, if_true, Bool.true_or, Bool.true_and]
      exact this
    · simp only [e, Bool.false_eq_true, if_false, Bool.false_or]
      by_cases e0 : pre = []
      · subst e0
        simp only [List.length_nil, Int.natCast_zero, if_true, decide_true, Bool.not_true, Bool.false_and]
        exact Ev.now _
      · have hp : ¬ ((pre.length : Nat) : Int) = 0 := by
          intro h0
          exact e0 (List.eq_nil_of_length_eq_zero (by omega))
        simp only [if_neg hp, e0, decide_false, Bool.not_false, Bool.true_and]
        by_cases e1 : inB 48 57 c = true
        · simp only [e1, if_true, Bool.true_or, Bool.true_and]
          exact this
        · simp only [e1, Bool.false_eq_true, if_false, Bool.false_or]
          by_cases e2 : c = 45
          · simp only [e2, if_true, decide_true, Bool.true_and]
            subst e2
            exact this
          · simp only [e2, if_false, decide_false, Bool.false_and]
            exact Ev.now _
theorem implSmall {s : ByteArray} (hs : s.size ≤ maxLen) : Ev (fun k => impl_SmallName.f k s) (smallName s) := implSmall_loop hs _ [] rfl
end Go.Proofs.Yteabkidfgdmmpaa.L

/- Properties: are they right, and which one is of a space and a name; as the program and the reference have it. No condition. -/
set_option linter.unusedSimpArgs false
set_option linter.unusedVariables false
namespace Go.Proofs.Yteabkidfgdmmpaa.L
open Go.RowKit Go.Proofs.YteabkidfgdmmpaaW.PrintWords Go.Proofs.YteabkidfgdmmpaaW.PrintLast Go.Proofs.Yteabkidfgdmmpaa.Q
def propOk (p : S71) : Bool := decide ((p.f0.size : Int) ≤ 20) && plainL (bl p.f0) && smallName p.f1 && decide ((p.f2.size : Int) ≤ 20) && plainL (bl p.f2)
def lessProp (p q : S71) : Bool := if p.f0 = q.f0 then Op.bytesLess p.f1.toList q.f1.toList else Op.bytesLess p.f0.toList q.f0.toList
theorem bytesLess_irrefl : ∀ l : List UInt8, Op.bytesLess l l = false
  | [] => rfl
  | a :: l => by simp [Op.bytesLess, bytesLess_irrefl l]
theorem specPropOk {p : S71} (hp : SmProp p) : Ev (fun k => spec_l10Prop.f k p.f0 p.f1 p.f2) (propOk p) := by
  obtain ⟨g0, g1, g2⟩ := hp
  have h : ∀ s : ByteArray, s.size ≤ 1048576 → s.size ≤ maxLen := fun s h => by rw [maxLen_eq]; omega
  unfold spec_l10Prop.f propOk
  by_cases c0 : (p.f0.size : Int) ≤ 20
  · simp only [if_pos c0, c0, decide_true, Bool.true_and]
    refine Ev.bind (specPlain (h _ g0)) ?_
    by_cases c1 : plainL (bl p.f0) = true
    · simp only [c1, if_true, Bool.true_and]
      refine Ev.bind (specSmall (h _ g1)) ?_
      by_cases c2 : smallName p.f1 = true
      · simp only [c2, if_true, Bool.true_and]
        by_cases c3 : (p.f2.size : Int) ≤ 20
        · simp only [if_pos c3, c3, decide_true, Bool.true_and]
          exact Ev.bind (specPlain (h _ g2)) (Ev.now _)
        · simp only [if_neg c3, c3, decide_false, Bool.false_and]
          exact Ev.now _
      · simp only [c2, Bool.false_eq_true, if_false, Bool.false_and]
        exact Ev.now _
    · simp only [c1, Bool.false_eq_true, if_false, Bool.false_and]
      exact Ev.now _
  · simp only [if_neg c0, c0, decide_false, Bool.false_and]
    exact Ev.now _
theorem implPropOk {p : S71} (hp : SmProp p) : Ev (fun k => impl_propOk.f k p.f0 p.f1 p.f2) (propOk p) := by
  obtain ⟨g0, g1, g2⟩ := hp
  have h : ∀ s : ByteArray, s.size ≤ 1048576 → s.size ≤ maxLen := fun s h => by rw [maxLen_eq]; omega
  unfold impl_propOk.f propOk
  by_cases c0 : (p.f0.size : Int) ≤ 20
  · simp only [if_pos c0, c0, decide_true, Bool.true_and]
    refine Ev.bind (implPlain (h _ g0)) ?_
    by_cases c1 : plainL (bl p.f0) = true
    · simp only [c1, if_true, Bool.true_and]
      refine Ev.bind (implSmall (h _ g1)) ?_
      by_cases c2 : smallName p.f1 = true
      · simp only [c2, if_true, Bool.true_and]
        by_cases c3 : (p.f2.size : Int) ≤ 20
        · simp only [if_pos c3, c3, decide_true, Bool.true_and]
          exact Ev.bind (implPlain (h _ g2)) (Ev.now _)
        · simp only [if_neg c3, c3, decide_false, Bool.false_and]
          exact Ev.now _
      · simp only [c2, Bool.false_eq_true, if_false, Bool.false_and]
        exact Ev.now _
    · simp only [c1, Bool.false_eq_true, if_false, Bool.false_and]
      exact Ev.now _
  · simp only [if_neg c0, c0, decide_false, Bool.false_and]
    exact Ev.now _
theorem specLessProp (p q : S71) : spec_l10LessProp.f p.f0 p.f1 p.f2 q.f0 q.f1 q.f2 = some (lessProp p q) := by
  unfold spec_l10LessProp.f lessProp
  simp only [ba_eq]
  by_cases e : p.f0 = q.f0 <;> simp [e]
theorem implLessProp (p q : S71) : impl_lessProp.f p.f0 p.f1 p.f2 q.f0 q.f1 q.f2 = some (lessProp p q) := by
  unfold impl_lessProp.f lessProp
  simp only [ba_eq]
  by_cases e : p.f0 = q.f0
  · simp [e, bytesLess_irrefl]
  · simp only [if_neg e]
    cases Op.bytesLess p.f0.toList q.f0.toList <;> simp
/-- Each right, and each behind the one ahead. -/
def propsL : Option S71 → List S71 → Bool
  | _, [] => true
  | last, p :: l => propOk p && (match last with | none => true | some q => lessProp q p) && propsL (some p) l
def propsOk (l : List S71) : Bool := propsL none l && decide ((l.length : Int) ≤ 4)
theorem pred_at {α : Type} {l pre suf : List α} {a b : α} (h : l = pre ++ [b] ++ a :: suf) (hl : l.length ≤ maxLen) : wrap64 (((pre ++ [b]).length : Int) - 1) = (pre.length : Int) := by
  have : l.length = pre.length + 1 + (suf.length + 1) := by rw [h]; simp; omega
  rw [maxLen_eq] at hl
  have e : ((pre ++ [b]).length : Int) = pre.length + 1 := by simp
  rw [e, wrap_id (by omega) (by omega)]
  omega
theorem specPropsOk {l : List S71} (hs : SmProps l) : Ev (fun k => spec_PropsOk.f k l) (propsOk l) := by
  have hl : l.length ≤ maxLen := by have := hs.1; rw [maxLen_eq]; omega
  have key : ∀ (suf pre : List S71), l = pre ++ suf → Ev (fun k => spec_PropsOk.l0 k l pre.length) (propsL pre.getLast? suf && decide ((l.length : Int) ≤ 4)) := by
    intro suf
    induction suf with
    | nil =>
      intro pre h
      refine Ev.step (fun k => spec_PropsOk.l0.eq_2 ..) ?_
      simp only [if_neg (end_at h), propsL, Bool.true_and]
      exact Ev.now _
    | cons a suf ih =>
      intro pre h
      have hn := ih (pre ++ [a]) (snoc_at h)
      rw [List.getLast?_append] at hn
      simp only [List.getLast?_singleton, Option.some_or] at hn
      refine Ev.step (fun k => spec_PropsOk.l0.eq_2 ..) ?_
      simp only [if_pos (lt_at h), if_pos (nonneg_at _), rd_implProp h]
      refine Ev.bind (specPropOk (hs.2 a (by rw [h]; simp))) ?_
      simp only [propsL]
      by_cases c0 : propOk a = true
      · simp only [c0, if_true, Bool.true_and]
        rcases List.eq_nil_or_concat pre with rfl | ⟨pre', b, rfl⟩
        · simp only [List.length_nil, Int.natCast_zero, show ¬ (0 : Int) > 0 by omega, if_false, List.getLast?_nil, Bool.true_and]
          have := next_at h hl
          simp only [List.length_nil, Int.natCast_zero] at this
          rw [this]
          exact hn
        · rw [List.concat_eq_append] at h hn ⊢
          have hp := pred_at h hl
          have h2 : l = pre' ++ b :: (a :: suf) := by rw [h]; simp
          simp only [show (((pre' ++ [b]).length : Nat) : Int) > 0 by first | (simp; done) | (simp; omega), if_true, hp, if_pos (nonneg_at _), if_pos (lt_at h2), rd_implProp h2, specLessProp, Option.bind_some, List.getLast?_append, List.getLast?_singleton, Option.some_or, next_at h hl]
          by_cases c1 : lessProp b a = true
          · simp only [c1, if_true, Bool.true_and]
            exact hn
          · simp only [c1, Bool.false_eq_true, if_false, Bool.false_and]
            exact Ev.now _
      · simp only [c0, Bool.false_eq_true, if_false, Bool.false_and]
        exact Ev.now _
  exact key l [] rfl
theorem implPropsOk {l : List S71} (hs : SmProps l) : Ev (fun k => impl_PropsOk.f k l) (propsOk l) := by
  have hl : l.length ≤ maxLen := by have := hs.1; rw [maxLen_eq]; omega
  have key : ∀ (suf pre : List S71), l = pre ++ suf → Ev (fun k => impl_PropsOk.l0 k l l (l.length : Int) pre.length) (propsL pre.getLast? suf && decide ((l.length : Int) ≤ 4)) := by
    intro suf
    induction suf with
    | nil =>
      intro pre h
      refine Ev.step (fun k => impl_PropsOk.l0.eq_2 ..) ?_
      simp only [if_neg (end_at h), propsL, Bool.true_and]
      exact Ev.now _
    | cons a suf ih =>
      intro pre h
      have hn := ih (pre ++ [a]) (snoc_at h)
      rw [List.getLast?_append] at hn
      simp only [List.getLast?_singleton, Option.some_or] at hn
      refine Ev.step (fun k => impl_PropsOk.l0.eq_2 ..) ?_
      simp only [if_pos (lt_at h), if_pos (nonneg_at _), rd_implProp h]
      refine Ev.bind (implPropOk (hs.2 a (by rw [h]; simp))) ?_
      simp only [propsL]
      by_cases c0 : propOk a = true
      · simp only [c0, if_true, Bool.true_and]
        rcases List.eq_nil_or_concat pre with rfl | ⟨pre', b, rfl⟩
        · simp only [List.length_nil, Int.natCast_zero, show ¬ (0 : Int) > 0 by omega, if_false, List.getLast?_nil, Bool.true_and]
          have := next_at h hl
          simp only [List.length_nil, Int.natCast_zero] at this
          rw [this]
          exact hn
        · rw [List.concat_eq_append] at h hn ⊢
          have hp := pred_at h hl
          have h2 : l = pre' ++ b :: (a :: suf) := by rw [h]; simp
          simp only [show (((pre' ++ [b]).length : Nat) : Int) > 0 by first | (simp; done) | (simp; omega), if_true, hp, if_pos (nonneg_at _), if_pos (lt_at h2), rd_implProp h2, implLessProp, Option.bind_some, List.getLast?_append, List.getLast?_singleton, Option.some_or, next_at h hl]
          by_cases c1 : lessProp b a = true
          · simp only [c1, if_true, Bool.true_and]
            exact hn
          · simp only [c1, Bool.false_eq_true, if_false, Bool.false_and]
            exact Ev.now _
      · simp only [c0, Bool.false_eq_true, if_false, Bool.false_and]
        exact Ev.now _
  exact key l [] rfl
end Go.Proofs.Yteabkidfgdmmpaa.L

/- The law FnExactPropsOk computes true: the program and the reference say the same. No condition. -/
set_option linter.unusedSimpArgs false
set_option linter.unusedVariables false
namespace Go.Proofs.Yteabkidfgdmmpaa.Pure
open Go.RowKit Go.Proofs.YteabkidfgdmmpaaW.PrintWords Go.Proofs.YteabkidfgdmmpaaW.PrintLast Go.Proofs.Yteabkidfgdmmpaa.Q Go.Proofs.Yteabkidfgdmmpaa.L
theorem FnExactPropsOk : ∀ (x0 : List (S70)), (fun l : List (S70) => l.length ≤ maxLen ∧ ∀ a ∈ l, G70 a) x0 → ∃ k, laws_FnExactPropsOk.f k x0 = some true := by
  intro x0 g0
  apply Ev.rounds
  unfold laws_FnExactPropsOk.f
  refine Sz.ev (szPropS g0.1 g0.2 (n := 1048576) (by omega) (by omega)) (by simp only [show (-1 : Int) < 0 by omega, if_true]; exact Ev.now _) (fun m0 a0 b0 s0 => ?_)
  simp only [if_neg (show ¬ m0 < 0 by omega)]
  refine Ev.bind (toPropS s0) ?_
  refine Ev.bind (specPropsOk s0) ?_
  refine Ev.bind (toPropS s0) ?_
  refine Ev.bind (implPropsOk s0) ?_
  simp only [eq_self, if_true, bne_self_eq_false, Bool.false_eq_true, if_false, decide_true]
  refine Ev.bind (toPropS s0) ?_
  refine Ev.bind (eqPropS s0) ?_
  simp only [eq_self, if_true, bne_self_eq_false, Bool.false_eq_true, if_false, decide_true]
  exact Ev.now _
end Go.Proofs.Yteabkidfgdmmpaa.Pure
