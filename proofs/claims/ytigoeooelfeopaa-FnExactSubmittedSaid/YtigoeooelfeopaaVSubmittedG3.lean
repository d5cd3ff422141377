/- The law FnExactSubmitted: its way to 'true', and the walk over it. No condition. -/
import Derived.Test.YtigoeooelfeopaaVSubmittedG0
import Derived.Test.YtigoeooelfeopaaVSubmittedG1
import Derived.Test.YtigoeooelfeopaaVSubmittedG2
import Derived.Test.YtigoeooelfeopaaOpen
import Derived.Laws.Strings
import Derived.Test.YtigoeooelfeopaaWWords
import Derived.Test.YtigoeooelfeopaaWLast
import Derived.Test.YtigoeooelfeopaaWMore
set_option linter.unusedVariables false
set_option linter.unusedSimpArgs false
namespace Go.Proofs.Ytigoeooelfeopaa.Q
open Go.RowKit Go.Proofs.YtigoeooelfeopaaW.PrintWords Go.Proofs.YtigoeooelfeopaaW.PrintLast
theorem below_drawn_FnExactSubmitted {w w1 : World} {n : Nat} (h : w1 = w.drewN n) : Below w.heap.size w w1 := h ▸ pw_below_drewN (Below.refl _ _) n
def laws_FnExactSubmitted.f (k : Nat) (l0 : List (List (S72))) : Option Bool := ((laws_szCondSS.f k l0 1048576).bind fun t1 => (if t1 < 0 then (some true) else ((laws_toCondSS.f k l0).bind fun t3 => ((spec_Submitted.f k t3).bind fun t6 => ((laws_toCondSS.f k l0).bind fun t9 => ((impl_Submitted.f k t9).bind fun t12 => ((laws_eqIntS.f k t12 t6).bind fun t15 => (if t15 = true then ((laws_toCondSS.f k l0).bind fun t17 => ((laws_eqCondSS.f k t9 t17).bind fun t20 => (if t20 = true then ((laws_markCondSS.f k t9 1).bind fun bt22 => (if bt22.1 < 0 then none else ((laws_eqIntS.f k t12 t6).bind fun t26 => (if t26 = true then ((laws_markIntS.f k t12 1).bind fun bt28 => ((laws_heldIntS.f k bt28.2 1).bind fun t32 => (if t32 < 0 then none else (if t32 = bt28.1 then ((laws_toCondSS.f k l0).bind fun t34 => ((impl_Submitted.f k t34).bind fun t37 => ((laws_eqIntS.f k t37 t6).bind fun t40 => (if t40 = true then ((laws_heldIntS.f k bt28.2 1).bind fun t42 => (if t42 < 0 then none else (if t42 = bt28.1 then (some true) else none))) else none)))) else none)))) else none)))) else none))) else none))))))))
set_option maxHeartbeats 16000000 in
set_option maxRecDepth 100000 in
theorem laws_FnExactSubmitted.calls (k : Nat) (A0 : Option Addr) (c0 : Nat) (l0 : List (List (S72))) (r : Bool) (w : World) (hr0 : Kd.C (Kd.slice 72 k72) w A0 l0.length l0) (hc0 : l0.length ≤ c0) (h : laws_FnExactSubmitted.f k l0 = some r) :
    Calls Try.prog 5 #[.slice A0 l0.length c0] w fun e w' => e = .returned (.bool r) ∧ Below w.heap.size w w' := by
  have HR0 := Aside0.mk hr0
  have HC0 := Aside0.mk hc0
  clear hr0 hc0
  have HB := Aside0.mk (Below.refl w.heap.size w)
  have H : ((laws_szCondSS.f k l0 1048576).bind fun t1 => (if t1 < 0 then (some true) else ((laws_toCondSS.f k l0).bind fun t3 => ((spec_Submitted.f k t3).bind fun t6 => ((laws_toCondSS.f k l0).bind fun t9 => ((impl_Submitted.f k t9).bind fun t12 => ((laws_eqIntS.f k t12 t6).bind fun t15 => (if t15 = true then ((laws_toCondSS.f k l0).bind fun t17 => ((laws_eqCondSS.f k t9 t17).bind fun t20 => (if t20 = true then ((laws_markCondSS.f k t9 1).bind fun bt22 => (if bt22.1 < 0 then none else ((laws_eqIntS.f k t12 t6).bind fun t26 => (if t26 = true then ((laws_markIntS.f k t12 1).bind fun bt28 => ((laws_heldIntS.f k bt28.2 1).bind fun t32 => (if t32 < 0 then none else (if t32 = bt28.1 then ((laws_toCondSS.f k l0).bind fun t34 => ((impl_Submitted.f k t34).bind fun t37 => ((laws_eqIntS.f k t37 t6).bind fun t40 => (if t40 = true then ((laws_heldIntS.f k bt28.2 1).bind fun t42 => (if t42 < 0 then none else (if t42 = bt28.1 then (some true) else none))) else none)))) else none)))) else none)))) else none))) else none)))))))) = some r := h
  clear h
  replace H := Option.bind_eq_some_iff.mp H
  obtain ⟨t1, A0_, H⟩ := H
  replace H : (if t1 < 0 then (some true) else ((laws_toCondSS.f k l0).bind fun t3 => ((spec_Submitted.f k t3).bind fun t6 => ((laws_toCondSS.f k l0).bind fun t9 => ((impl_Submitted.f k t9).bind fun t12 => ((laws_eqIntS.f k t12 t6).bind fun t15 => (if t15 = true then ((laws_toCondSS.f k l0).bind fun t17 => ((laws_eqCondSS.f k t9 t17).bind fun t20 => (if t20 = true then ((laws_markCondSS.f k t9 1).bind fun bt22 => (if bt22.1 < 0 then none else ((laws_eqIntS.f k t12 t6).bind fun t26 => (if t26 = true then ((laws_markIntS.f k t12 1).bind fun bt28 => ((laws_heldIntS.f k bt28.2 1).bind fun t32 => (if t32 < 0 then none else (if t32 = bt28.1 then ((laws_toCondSS.f k l0).bind fun t34 => ((impl_Submitted.f k t34).bind fun t37 => ((laws_eqIntS.f k t37 t6).bind fun t40 => (if t40 = true then ((laws_heldIntS.f k bt28.2 1).bind fun t42 => (if t42 < 0 then none else (if t42 = bt28.1 then (some true) else none))) else none)))) else none)))) else none)))) else none))) else none))))))) = some r := H
  have A2 := Aside0.mk A0_
  clear A0_
  by_cases c44 : t1 < 0
  · rw [if_pos c44] at H
    have c44b0 : decide (t1 < 0) = true := decide_eq_true c44
    clear c44
    obtain rfl := Option.some.inj H
    go_enter Try.func5, Try.ntmps5
    go_wp2_with (first | ((with_reducible refine gate_callee (f := 10) rfl ?_); refine goesL_ (some 13) rfl rfl Try.func10 (by kernel_rfl) rfl #[.slice A0 l0.length c0, .int .i64 1048576] rfl (by (try simp only [List.map_toArray, List.map_cons, List.map_nil]); first | done | rfl) ?_; (with_reducible refine (laws_szCondSS.calls k A0 c0 l0 1048576 t1 _ ?side1 ?side2 A2.out).mono ?_); (case side1 => repeat (first | exact (Kd.C_below HR0.out HB.out) | (with_reducible refine Kd.C_alloc ?_ _) | (with_reducible refine Kd.C_drewN ?_ _) | (with_reducible refine Kd.C_drew ?_))); (case side2 => exact HC0.out); rintro e w_1 ⟨rfl, hb_⟩; refine ⟨_, rfl, ?_⟩; have n0_ : Aside0 (w.heap.size ≤ w_1.heap.size) := ⟨below_size hb_⟩; have m0_ := Aside0.mk (below_step (by repeat (first | (with_reducible first | exact HB.out | apply below_alloc | apply pw_below_drewN | apply below_drew1) | exact HB.out)) hb_); clear HB; have HZ1 := n0_; have HB := m0_; clear n0_ m0_; (try clear hb_); (try clear hk_); (try clear ho0_)))
    go_ret
    exact ⟨rfl, (by repeat (first | (with_reducible first | exact HB.out | apply below_alloc | apply pw_below_drewN | apply below_drew1) | exact HB.out))⟩
  rw [if_neg c44] at H
  have c44b0 : decide (t1 < 0) = false := decide_eq_false c44
  clear c44
  replace H := Option.bind_eq_some_iff.mp H
  obtain ⟨t3, A0_, H⟩ := H
  replace H : ((spec_Submitted.f k t3).bind fun t6 => ((laws_toCondSS.f k l0).bind fun t9 => ((impl_Submitted.f k t9).bind fun t12 => ((laws_eqIntS.f k t12 t6).bind fun t15 => (if t15 = true then ((laws_toCondSS.f k l0).bind fun t17 => ((laws_eqCondSS.f k t9 t17).bind fun t20 => (if t20 = true then ((laws_markCondSS.f k t9 1).bind fun bt22 => (if bt22.1 < 0 then none else ((laws_eqIntS.f k t12 t6).bind fun t26 => (if t26 = true then ((laws_markIntS.f k t12 1).bind fun bt28 => ((laws_heldIntS.f k bt28.2 1).bind fun t32 => (if t32 < 0 then none else (if t32 = bt28.1 then ((laws_toCondSS.f k l0).bind fun t34 => ((impl_Submitted.f k t34).bind fun t37 => ((laws_eqIntS.f k t37 t6).bind fun t40 => (if t40 = true then ((laws_heldIntS.f k bt28.2 1).bind fun t42 => (if t42 < 0 then none else (if t42 = bt28.1 then (some true) else none))) else none)))) else none)))) else none)))) else none))) else none))))) = some r := H
  have A4 := Aside0.mk A0_
  clear A0_
  replace H := Option.bind_eq_some_iff.mp H
  obtain ⟨t6, A0_, H⟩ := H
  replace H : ((laws_toCondSS.f k l0).bind fun t9 => ((impl_Submitted.f k t9).bind fun t12 => ((laws_eqIntS.f k t12 t6).bind fun t15 => (if t15 = true then ((laws_toCondSS.f k l0).bind fun t17 => ((laws_eqCondSS.f k t9 t17).bind fun t20 => (if t20 = true then ((laws_markCondSS.f k t9 1).bind fun bt22 => (if bt22.1 < 0 then none else ((laws_eqIntS.f k t12 t6).bind fun t26 => (if t26 = true then ((laws_markIntS.f k t12 1).bind fun bt28 => ((laws_heldIntS.f k bt28.2 1).bind fun t32 => (if t32 < 0 then none else (if t32 = bt28.1 then ((laws_toCondSS.f k l0).bind fun t34 => ((impl_Submitted.f k t34).bind fun t37 => ((laws_eqIntS.f k t37 t6).bind fun t40 => (if t40 = true then ((laws_heldIntS.f k bt28.2 1).bind fun t42 => (if t42 < 0 then none else (if t42 = bt28.1 then (some true) else none))) else none)))) else none)))) else none)))) else none))) else none)))) = some r := H
  have A7 := Aside0.mk A0_
  clear A0_
  replace H := Option.bind_eq_some_iff.mp H
  obtain ⟨t9, A0_, H⟩ := H
  replace H : ((impl_Submitted.f k t9).bind fun t12 => ((laws_eqIntS.f k t12 t6).bind fun t15 => (if t15 = true then ((laws_toCondSS.f k l0).bind fun t17 => ((laws_eqCondSS.f k t9 t17).bind fun t20 => (if t20 = true then ((laws_markCondSS.f k t9 1).bind fun bt22 => (if bt22.1 < 0 then none else ((laws_eqIntS.f k t12 t6).bind fun t26 => (if t26 = true then ((laws_markIntS.f k t12 1).bind fun bt28 => ((laws_heldIntS.f k bt28.2 1).bind fun t32 => (if t32 < 0 then none else (if t32 = bt28.1 then ((laws_toCondSS.f k l0).bind fun t34 => ((impl_Submitted.f k t34).bind fun t37 => ((laws_eqIntS.f k t37 t6).bind fun t40 => (if t40 = true then ((laws_heldIntS.f k bt28.2 1).bind fun t42 => (if t42 < 0 then none else (if t42 = bt28.1 then (some true) else none))) else none)))) else none)))) else none)))) else none))) else none))) = some r := H
  have A10 := Aside0.mk A0_
  clear A0_
  replace H := Option.bind_eq_some_iff.mp H
  obtain ⟨t12, A0_, H⟩ := H
  replace H : ((laws_eqIntS.f k t12 t6).bind fun t15 => (if t15 = true then ((laws_toCondSS.f k l0).bind fun t17 => ((laws_eqCondSS.f k t9 t17).bind fun t20 => (if t20 = true then ((laws_markCondSS.f k t9 1).bind fun bt22 => (if bt22.1 < 0 then none else ((laws_eqIntS.f k t12 t6).bind fun t26 => (if t26 = true then ((laws_markIntS.f k t12 1).bind fun bt28 => ((laws_heldIntS.f k bt28.2 1).bind fun t32 => (if t32 < 0 then none else (if t32 = bt28.1 then ((laws_toCondSS.f k l0).bind fun t34 => ((impl_Submitted.f k t34).bind fun t37 => ((laws_eqIntS.f k t37 t6).bind fun t40 => (if t40 = true then ((laws_heldIntS.f k bt28.2 1).bind fun t42 => (if t42 < 0 then none else (if t42 = bt28.1 then (some true) else none))) else none)))) else none)))) else none)))) else none))) else none)) = some r := H
  have A13 := Aside0.mk A0_
  clear A0_
  replace H := Option.bind_eq_some_iff.mp H
  obtain ⟨t15, A0_, H⟩ := H
  replace H : (if t15 = true then ((laws_toCondSS.f k l0).bind fun t17 => ((laws_eqCondSS.f k t9 t17).bind fun t20 => (if t20 = true then ((laws_markCondSS.f k t9 1).bind fun bt22 => (if bt22.1 < 0 then none else ((laws_eqIntS.f k t12 t6).bind fun t26 => (if t26 = true then ((laws_markIntS.f k t12 1).bind fun bt28 => ((laws_heldIntS.f k bt28.2 1).bind fun t32 => (if t32 < 0 then none else (if t32 = bt28.1 then ((laws_toCondSS.f k l0).bind fun t34 => ((impl_Submitted.f k t34).bind fun t37 => ((laws_eqIntS.f k t37 t6).bind fun t40 => (if t40 = true then ((laws_heldIntS.f k bt28.2 1).bind fun t42 => (if t42 < 0 then none else (if t42 = bt28.1 then (some true) else none))) else none)))) else none)))) else none)))) else none))) else none) = some r := H
  have A16 := Aside0.mk A0_
  clear A0_
  by_cases c45 : t15 = true
  rotate_left
  · rw [if_neg c45] at H
    exact absurd H (by simp)
  subst c45
  rw [if_pos rfl] at H
  replace H := Option.bind_eq_some_iff.mp H
  obtain ⟨t17, A0_, H⟩ := H
  replace H : ((laws_eqCondSS.f k t9 t17).bind fun t20 => (if t20 = true then ((laws_markCondSS.f k t9 1).bind fun bt22 => (if bt22.1 < 0 then none else ((laws_eqIntS.f k t12 t6).bind fun t26 => (if t26 = true then ((laws_markIntS.f k t12 1).bind fun bt28 => ((laws_heldIntS.f k bt28.2 1).bind fun t32 => (if t32 < 0 then none else (if t32 = bt28.1 then ((laws_toCondSS.f k l0).bind fun t34 => ((impl_Submitted.f k t34).bind fun t37 => ((laws_eqIntS.f k t37 t6).bind fun t40 => (if t40 = true then ((laws_heldIntS.f k bt28.2 1).bind fun t42 => (if t42 < 0 then none else (if t42 = bt28.1 then (some true) else none))) else none)))) else none)))) else none)))) else none)) = some r := H
  have A18 := Aside0.mk A0_
  clear A0_
  replace H := Option.bind_eq_some_iff.mp H
  obtain ⟨t20, A0_, H⟩ := H
  replace H : (if t20 = true then ((laws_markCondSS.f k t9 1).bind fun bt22 => (if bt22.1 < 0 then none else ((laws_eqIntS.f k t12 t6).bind fun t26 => (if t26 = true then ((laws_markIntS.f k t12 1).bind fun bt28 => ((laws_heldIntS.f k bt28.2 1).bind fun t32 => (if t32 < 0 then none else (if t32 = bt28.1 then ((laws_toCondSS.f k l0).bind fun t34 => ((impl_Submitted.f k t34).bind fun t37 => ((laws_eqIntS.f k t37 t6).bind fun t40 => (if t40 = true then ((laws_heldIntS.f k bt28.2 1).bind fun t42 => (if t42 < 0 then none else (if t42 = bt28.1 then (some true) else none))) else none)))) else none)))) else none)))) else none) = some r := H
  have A21 := Aside0.mk A0_
  clear A0_
  by_cases c46 : t20 = true
  rotate_left
  · rw [if_neg c46] at H
    exact absurd H (by simp)
  subst c46
  rw [if_pos rfl] at H
  replace H := Option.bind_eq_some_iff.mp H
  obtain ⟨⟨t22, t23⟩, A0_, H⟩ := H
  replace H : (if t22 < 0 then none else ((laws_eqIntS.f k t12 t6).bind fun t26 => (if t26 = true then ((laws_markIntS.f k t12 1).bind fun bt28 => ((laws_heldIntS.f k bt28.2 1).bind fun t32 => (if t32 < 0 then none else (if t32 = bt28.1 then ((laws_toCondSS.f k l0).bind fun t34 => ((impl_Submitted.f k t34).bind fun t37 => ((laws_eqIntS.f k t37 t6).bind fun t40 => (if t40 = true then ((laws_heldIntS.f k bt28.2 1).bind fun t42 => (if t42 < 0 then none else (if t42 = bt28.1 then (some true) else none))) else none)))) else none)))) else none))) = some r := H
  have A24 := Aside0.mk A0_
  clear A0_
  by_cases c47 : t22 < 0
  · rw [if_pos c47] at H
    exact absurd H (by simp)
  rw [if_neg c47] at H
  have c47b0 : decide (t22 < 0) = false := decide_eq_false c47
  clear c47
  replace H := Option.bind_eq_some_iff.mp H
  obtain ⟨t26, A0_, H⟩ := H
  replace H : (if t26 = true then ((laws_markIntS.f k t12 1).bind fun bt28 => ((laws_heldIntS.f k bt28.2 1).bind fun t32 => (if t32 < 0 then none else (if t32 = bt28.1 then ((laws_toCondSS.f k l0).bind fun t34 => ((impl_Submitted.f k t34).bind fun t37 => ((laws_eqIntS.f k t37 t6).bind fun t40 => (if t40 = true then ((laws_heldIntS.f k bt28.2 1).bind fun t42 => (if t42 < 0 then none else (if t42 = bt28.1 then (some true) else none))) else none)))) else none)))) else none) = some r := H
  have A27 := Aside0.mk A0_
  clear A0_
  by_cases c48 : t26 = true
  rotate_left
  · rw [if_neg c48] at H
    exact absurd H (by simp)
  subst c48
  rw [if_pos rfl] at H
  replace H := Option.bind_eq_some_iff.mp H
  obtain ⟨⟨t28, t29⟩, A0_, H⟩ := H
  replace H : ((laws_heldIntS.f k t29 1).bind fun t32 => (if t32 < 0 then none else (if t32 = t28 then ((laws_toCondSS.f k l0).bind fun t34 => ((impl_Submitted.f k t34).bind fun t37 => ((laws_eqIntS.f k t37 t6).bind fun t40 => (if t40 = true then ((laws_heldIntS.f k t29 1).bind fun t42 => (if t42 < 0 then none else (if t42 = t28 then (some true) else none))) else none)))) else none))) = some r := H
  have A30 := Aside0.mk A0_
  clear A0_
  replace H := Option.bind_eq_some_iff.mp H
  obtain ⟨t32, A0_, H⟩ := H
  replace H : (if t32 < 0 then none else (if t32 = t28 then ((laws_toCondSS.f k l0).bind fun t34 => ((impl_Submitted.f k t34).bind fun t37 => ((laws_eqIntS.f k t37 t6).bind fun t40 => (if t40 = true then ((laws_heldIntS.f k t29 1).bind fun t42 => (if t42 < 0 then none else (if t42 = t28 then (some true) else none))) else none)))) else none)) = some r := H
  have A33 := Aside0.mk A0_
  clear A0_
  by_cases c49 : t32 < 0
  · rw [if_pos c49] at H
    exact absurd H (by simp)
  rw [if_neg c49] at H
  have c49b0 : decide (t32 < 0) = false := decide_eq_false c49
  clear c49
  by_cases c50 : t32 = t28
  rotate_left
  · rw [if_neg c50] at H
    exact absurd H (by simp)
  rw [if_pos c50] at H
  have c50b0 : (t32 == t28) = true := beq_iff_eq.mpr c50
  have c50b1 : (t32 != t28) = false := bne_eq_false_iff_eq.mpr c50
  clear c50
  replace H := Option.bind_eq_some_iff.mp H
  obtain ⟨t34, A0_, H⟩ := H
  replace H : ((impl_Submitted.f k t34).bind fun t37 => ((laws_eqIntS.f k t37 t6).bind fun t40 => (if t40 = true then ((laws_heldIntS.f k t29 1).bind fun t42 => (if t42 < 0 then none else (if t42 = t28 then (some true) else none))) else none))) = some r := H
  have A35 := Aside0.mk A0_
  clear A0_
  replace H := Option.bind_eq_some_iff.mp H
  obtain ⟨t37, A0_, H⟩ := H
  replace H : ((laws_eqIntS.f k t37 t6).bind fun t40 => (if t40 = true then ((laws_heldIntS.f k t29 1).bind fun t42 => (if t42 < 0 then none else (if t42 = t28 then (some true) else none))) else none)) = some r := H
  have A38 := Aside0.mk A0_
  clear A0_
  replace H := Option.bind_eq_some_iff.mp H
  obtain ⟨t40, A0_, H⟩ := H
  replace H : (if t40 = true then ((laws_heldIntS.f k t29 1).bind fun t42 => (if t42 < 0 then none else (if t42 = t28 then (some true) else none))) else none) = some r := H
  have A41 := Aside0.mk A0_
  clear A0_
  by_cases c51 : t40 = true
  rotate_left
  · rw [if_neg c51] at H
    exact absurd H (by simp)
  subst c51
  rw [if_pos rfl] at H
  replace H := Option.bind_eq_some_iff.mp H
  obtain ⟨t42, A0_, H⟩ := H
  replace H : (if t42 < 0 then none else (if t42 = t28 then (some true) else none)) = some r := H
  have A43 := Aside0.mk A0_
  clear A0_
  by_cases c52 : t42 < 0
  · rw [if_pos c52] at H
    exact absurd H (by simp)
  rw [if_neg c52] at H
  have c52b0 : decide (t42 < 0) = false := decide_eq_false c52
  clear c52
  by_cases c53 : t42 = t28
  rotate_left
  · rw [if_neg c53] at H
    exact absurd H (by simp)
  rw [if_pos c53] at H
  have c53b0 : (t42 == t28) = true := beq_iff_eq.mpr c53
  have c53b1 : (t42 != t28) = false := bne_eq_false_iff_eq.mpr c53
  clear c53
  obtain rfl := Option.some.inj H
  go_enter Try.func5, Try.ntmps5
  go_wp2_with (first | ((with_reducible refine gate_callee (f := 10) rfl ?_); refine goesL_ (some 13) rfl rfl Try.func10 (by kernel_rfl) rfl #[.slice A0 l0.length c0, .int .i64 1048576] rfl (by (try simp only [List.map_toArray, List.map_cons, List.map_nil]); first | done | rfl) ?_; (with_reducible refine (laws_szCondSS.calls k A0 c0 l0 1048576 t1 _ ?side1 ?side2 A2.out).mono ?_); (case side1 => repeat (first | exact (Kd.C_below HR0.out HB.out) | (with_reducible refine Kd.C_alloc ?_ _) | (with_reducible refine Kd.C_drewN ?_ _) | (with_reducible refine Kd.C_drew ?_))); (case side2 => exact HC0.out); rintro e w_1 ⟨rfl, hb_⟩; refine ⟨_, rfl, ?_⟩; have n0_ : Aside0 (w.heap.size ≤ w_1.heap.size) := ⟨below_size hb_⟩; have m0_ := Aside0.mk (below_step (by repeat (first | (with_reducible first | exact HB.out | apply below_alloc | apply pw_below_drewN | apply below_drew1) | exact HB.out)) hb_); clear HB; have HZ1 := n0_; have HB := m0_; clear n0_ m0_; (try clear hb_); (try clear hk_); (try clear ho0_)) | ((with_reducible refine gate_callee (f := 12) rfl ?_); refine goesL_ (some 17) rfl rfl Try.func12 (by kernel_rfl) rfl #[.slice A0 l0.length c0] rfl (by (try simp only [List.map_toArray, List.map_cons, List.map_nil]); first | done | rfl) ?_; (with_reducible refine (laws_toCondSS.calls k A0 c0 l0 t3 _ ?side1 ?side2 A4.out).mono ?_); (case side1 => repeat (first | exact (Kd.C_below HR0.out HB.out) | (with_reducible refine Kd.C_alloc ?_ _) | (with_reducible refine Kd.C_drewN ?_ _) | (with_reducible refine Kd.C_drew ?_))); (case side2 => exact HC0.out); rintro e w_2 ⟨v54, rfl, ho0_, hb_⟩; refine ⟨_, rfl, ?_⟩; have n0_ : Aside0 (w_1.heap.size ≤ w_2.heap.size) := ⟨below_size hb_⟩; have m0_ := Aside0.mk (below_step (by repeat (first | (with_reducible first | exact HB.out | apply below_alloc | apply pw_below_drewN | apply below_drew1) | exact HB.out)) hb_); have m1_ := Aside0.mk (show Kd.S (Kd.slice 58 k58) 56 w_2 w.heap.size (fun k_ => w_1.heap.size ≤ k_ ∧ k_ < w_2.heap.size) v54 t3 from Kd.S_mono (Kd.S_lower (Kd.S_bound ho0_) (below_size (by repeat (first | (with_reducible first | exact HB.out | apply below_alloc | apply pw_below_drewN | apply below_drew1) | exact HB.out)))) (fun k_ h_ => ⟨h_.2.1, h_.2.2.1⟩)); clear HB; have HZ2 := n0_; have HB := m0_; have HO5 := m1_; clear n0_ m0_ m1_; (try clear hb_); (try clear hk_); (try clear ho0_); (try clear ho1_); obtain ⟨Ao5, co5, eo_⟩ := Kd.S_slice HO5.out; subst eo_) | ((with_reducible refine gate_callee (f := 17) rfl ?_); refine goesL_ (some 18) rfl rfl Try.func17 (by kernel_rfl) rfl #[.slice Ao5 t3.length co5] rfl (by (try simp only [List.map_toArray, List.map_cons, List.map_nil]); first | done | rfl) ?_; (with_reducible refine (spec_Submitted.calls k Ao5 co5 t3 t6 _ ?side1 ?side2 A7.out).mono ?_); (case side1 => repeat (first | exact (Kd.S_reads' HO5.out).2.2 | (with_reducible refine Kd.C_alloc ?_ _) | (with_reducible refine Kd.C_drewN ?_ _) | (with_reducible refine Kd.C_drew ?_))); (case side2 => exact (Kd.S_reads' HO5.out).2.1); rintro e w_3 ⟨v55, rfl, ho0_, hb_⟩; refine ⟨_, rfl, ?_⟩; have n0_ : Aside0 (w_2.heap.size ≤ w_3.heap.size) := ⟨below_size hb_⟩; have m0_ := Aside0.mk (Kd.S_below (by (with_reducible repeat (first | apply Kd.S_alloc | apply Kd.S_drewN | apply Kd.S_drew)); exact HO5.out) hb_); have m1_ := Aside0.mk (below_step (by repeat (first | (with_reducible first | exact HB.out | apply below_alloc | apply pw_below_drewN | apply below_drew1) | exact HB.out)) hb_); have m2_ := Aside0.mk (show Kd.R (Kd.int .i64) 3 w_3 w.heap.size (fun k_ => w_2.heap.size ≤ k_ ∧ k_ < w_3.heap.size) v55 t6 from Kd.R_mono (Kd.R_lower (Kd.R_bound ho0_) (below_size (by repeat (first | (with_reducible first | exact HB.out | apply below_alloc | apply pw_below_drewN | apply below_drew1) | exact HB.out)))) (fun k_ h_ => ⟨h_.2.1, h_.2.2.1⟩)); clear HO5 HB; have HZ3 := n0_; have HO5 := m0_; have HB := m1_; have HO8 := m2_; clear n0_ m0_ m1_ m2_; (try clear hb_); (try clear hk_); (try clear ho0_); (try clear ho1_); obtain ⟨Ao8, co8, eo_⟩ := Kd.R_slice HO8.out; subst eo_) | ((with_reducible refine gate_callee (f := 12) rfl ?_); refine goesL_ (some 20) rfl rfl Try.func12 (by kernel_rfl) rfl #[.slice A0 l0.length c0] rfl (by (try simp only [List.map_toArray, List.map_cons, List.map_nil]); first | done | rfl) ?_; (with_reducible refine (laws_toCondSS.calls k A0 c0 l0 t9 _ ?side1 ?side2 A10.out).mono ?_); (case side1 => repeat (first | exact (Kd.C_below HR0.out HB.out) | (with_reducible refine Kd.C_alloc ?_ _) | (with_reducible refine Kd.C_drewN ?_ _) | (with_reducible refine Kd.C_drew ?_))); (case side2 => exact HC0.out); rintro e w_4 ⟨v56, rfl, ho0_, hb_⟩; refine ⟨_, rfl, ?_⟩; have n0_ : Aside0 (w_3.heap.size ≤ w_4.heap.size) := ⟨below_size hb_⟩; have m0_ := Aside0.mk (Kd.S_below (by (with_reducible repeat (first | apply Kd.S_alloc | apply Kd.S_drewN | apply Kd.S_drew)); exact HO5.out) hb_); have m1_ := Aside0.mk (Kd.R_below (by (with_reducible repeat (first | apply Kd.R_alloc | apply Kd.R_drewN | apply Kd.R_drew)); exact HO8.out) hb_); have m2_ := Aside0.mk (below_step (by repeat (first | (with_reducible first | exact HB.out | apply below_alloc | apply pw_below_drewN | apply below_drew1) | exact HB.out)) hb_); have m3_ := Aside0.mk (show Kd.S (Kd.slice 58 k58) 56 w_4 w.heap.size (fun k_ => w_3.heap.size ≤ k_ ∧ k_ < w_4.heap.size) v56 t9 from Kd.S_mono (Kd.S_lower (Kd.S_bound ho0_) (below_size (by repeat (first | (with_reducible first | exact HB.out | apply below_alloc | apply pw_below_drewN | apply below_drew1) | exact HB.out)))) (fun k_ h_ => ⟨h_.2.1, h_.2.2.1⟩)); clear HO5 HO8 HB; have HZ4 := n0_; have HO5 := m0_; have HO8 := m1_; have HB := m2_; have HO11 := m3_; clear n0_ m0_ m1_ m2_ m3_; (try clear hb_); (try clear hk_); (try clear ho0_); (try clear ho1_); obtain ⟨Ao11, co11, eo_⟩ := Kd.S_slice HO11.out; subst eo_) | ((with_reducible refine gate_callee (f := 18) rfl ?_); refine goesL_ (some 22) rfl rfl Try.func18 (by kernel_rfl) rfl #[.slice Ao11 t9.length co11] rfl (by (try simp only [List.map_toArray, List.map_cons, List.map_nil]); first | done | rfl) ?_; (with_reducible refine (impl_Submitted.calls k Ao11 co11 t9 t12 _ ?side1 ?side2 A13.out).mono ?_); (case side1 => repeat (first | exact (Kd.S_reads' HO11.out).2.2 | (with_reducible refine Kd.C_alloc ?_ _) | (with_reducible refine Kd.C_drewN ?_ _) | (with_reducible refine Kd.C_drew ?_))); (case side2 => exact (Kd.S_reads' HO11.out).2.1); rintro e w_5 ⟨v57, rfl, ho0_, hb_⟩; refine ⟨_, rfl, ?_⟩; have n0_ : Aside0 (w_4.heap.size ≤ w_5.heap.size) := ⟨below_size hb_⟩; have m0_ := Aside0.mk (Kd.S_below (by (with_reducible repeat (first | apply Kd.S_alloc | apply Kd.S_drewN | apply Kd.S_drew)); exact HO5.out) hb_); have m1_ := Aside0.mk (Kd.R_below (by (with_reducible repeat (first | apply Kd.R_alloc | apply Kd.R_drewN | apply Kd.R_drew)); exact HO8.out) hb_); have m2_ := Aside0.mk (Kd.S_below (by (with_reducible repeat (first | apply Kd.S_alloc | apply Kd.S_drewN | apply Kd.S_drew)); exact HO11.out) hb_); have m3_ := Aside0.mk (below_step (by repeat (first | (with_reducible first | exact HB.out | apply below_alloc | apply pw_below_drewN | apply below_drew1) | exact HB.out)) hb_); have m4_ := Aside0.mk (show Kd.R (Kd.int .i64) 3 w_5 w.heap.size (fun k_ => w_4.heap.size ≤ k_ ∧ k_ < w_5.heap.size) v57 t12 from Kd.R_mono (Kd.R_lower (Kd.R_bound ho0_) (below_size (by repeat (first | (with_reducible first | exact HB.out | apply below_alloc | apply pw_below_drewN | apply below_drew1) | exact HB.out)))) (fun k_ h_ => ⟨h_.2.1, h_.2.2.1⟩)); clear HO5 HO8 HO11 HB; have HZ5 := n0_; have HO5 := m0_; have HO8 := m1_; have HO11 := m2_; have HB := m3_; have HO14 := m4_; clear n0_ m0_ m1_ m2_ m3_ m4_; (try clear hb_); (try clear hk_); (try clear ho0_); (try clear ho1_); obtain ⟨Ao14, co14, eo_⟩ := Kd.R_slice HO14.out; subst eo_) | ((with_reducible refine gate_callee (f := 16) rfl ?_); refine goesL_ (some 25) rfl rfl Try.func16 (by kernel_rfl) rfl #[.slice Ao14 t12.length co14, .slice Ao8 t6.length co8] rfl (by (try simp only [List.map_toArray, List.map_cons, List.map_nil]); first | done | rfl) ?_; (with_reducible refine (laws_eqIntS.calls k Ao14 co14 t12 Ao8 co8 t6 true _ ?side1 ?side2 ?side3 ?side4 A16.out).mono ?_); (case side1 => repeat (first | exact (Kd.R_reads' HO14.out).2.2 | (with_reducible refine Kd.C_alloc ?_ _) | (with_reducible refine Kd.C_drewN ?_ _) | (with_reducible refine Kd.C_drew ?_))); (case side2 => exact (Kd.R_reads' HO14.out).2.1); (case side3 => repeat (first | exact (Kd.R_reads' HO8.out).2.2 | (with_reducible refine Kd.C_alloc ?_ _) | (with_reducible refine Kd.C_drewN ?_ _) | (with_reducible refine Kd.C_drew ?_))); (case side4 => exact (Kd.R_reads' HO8.out).2.1); rintro e w_6 ⟨rfl, ⟨nd_, hw_⟩⟩; refine ⟨_, rfl, ?_⟩; have hb_ := below_drawn_FnExactSubmitted hw_; clear hw_; have n0_ : Aside0 (w_5.heap.size ≤ w_6.heap.size) := ⟨below_size hb_⟩; have m0_ := Aside0.mk (Kd.S_below (by (with_reducible repeat (first | apply Kd.S_alloc | apply Kd.S_drewN | apply Kd.S_drew)); exact HO5.out) hb_); have m1_ := Aside0.mk (Kd.R_below (by (with_reducible repeat (first | apply Kd.R_alloc | apply Kd.R_drewN | apply Kd.R_drew)); exact HO8.out) hb_); have m2_ := Aside0.mk (Kd.S_below (by (with_reducible repeat (first | apply Kd.S_alloc | apply Kd.S_drewN | apply Kd.S_drew)); exact HO11.out) hb_); have m3_ := Aside0.mk (Kd.R_below (by (with_reducible repeat (first | apply Kd.R_alloc | apply Kd.R_drewN | apply Kd.R_drew)); exact HO14.out) hb_); have m4_ := Aside0.mk (below_step (by repeat (first | (with_reducible first | exact HB.out | apply below_alloc | apply pw_below_drewN | apply below_drew1) | exact HB.out)) hb_); clear HO5 HO8 HO11 HO14 HB; have HZ6 := n0_; have HO5 := m0_; have HO8 := m1_; have HO11 := m2_; have HO14 := m3_; have HB := m4_; clear n0_ m0_ m1_ m2_ m3_ m4_; (try clear hb_); (try clear hk_); (try clear ho0_)) | ((with_reducible refine gate_callee (f := 12) rfl ?_); refine goesL_ (some 29) rfl rfl Try.func12 (by kernel_rfl) rfl #[.slice A0 l0.length c0] rfl (by (try simp only [List.map_toArray, List.map_cons, List.map_nil]); first | done | rfl) ?_; (with_reducible refine (laws_toCondSS.calls k A0 c0 l0 t17 _ ?side1 ?side2 A18.out).mono ?_); (case side1 => repeat (first | exact (Kd.C_below HR0.out HB.out) | (with_reducible refine Kd.C_alloc ?_ _) | (with_reducible refine Kd.C_drewN ?_ _) | (with_reducible refine Kd.C_drew ?_))); (case side2 => exact HC0.out); rintro e w_7 ⟨v58, rfl, ho0_, hb_⟩; refine ⟨_, rfl, ?_⟩; have n0_ : Aside0 (w_6.heap.size ≤ w_7.heap.size) := ⟨below_size hb_⟩; have m0_ := Aside0.mk (Kd.S_below (by (with_reducible repeat (first | apply Kd.S_alloc | apply Kd.S_drewN | apply Kd.S_drew)); exact HO5.out) hb_); have m1_ := Aside0.mk (Kd.R_below (by (with_reducible repeat (first | apply Kd.R_alloc | apply Kd.R_drewN | apply Kd.R_drew)); exact HO8.out) hb_); have m2_ := Aside0.mk (Kd.S_below (by (with_reducible repeat (first | apply Kd.S_alloc | apply Kd.S_drewN | apply Kd.S_drew)); exact HO11.out) hb_); have m3_ := Aside0.mk (Kd.R_below (by (with_reducible repeat (first | apply Kd.R_alloc | apply Kd.R_drewN | apply Kd.R_drew)); exact HO14.out) hb_); have m4_ := Aside0.mk (below_step (by repeat (first | (with_reducible first | exact HB.out | apply below_alloc | apply pw_below_drewN | apply below_drew1) | exact HB.out)) hb_); have m5_ := Aside0.mk (show Kd.S (Kd.slice 58 k58) 56 w_7 w.heap.size (fun k_ => w_6.heap.size ≤ k_ ∧ k_ < w_7.heap.size) v58 t17 from Kd.S_mono (Kd.S_lower (Kd.S_bound ho0_) (below_size (by repeat (first | (with_reducible first | exact HB.out | apply below_alloc | apply pw_below_drewN | apply below_drew1) | exact HB.out)))) (fun k_ h_ => ⟨h_.2.1, h_.2.2.1⟩)); clear HO5 HO8 HO11 HO14 HB; have HZ7 := n0_; have HO5 := m0_; have HO8 := m1_; have HO11 := m2_; have HO14 := m3_; have HB := m4_; have HO19 := m5_; clear n0_ m0_ m1_ m2_ m3_ m4_ m5_; (try clear hb_); (try clear hk_); (try clear ho0_); (try clear ho1_); obtain ⟨Ao19, co19, eo_⟩ := Kd.S_slice HO19.out; subst eo_) | ((with_reducible refine gate_callee (f := 15) rfl ?_); refine goesL_ (some 30) rfl rfl Try.func15 (by kernel_rfl) rfl #[.slice Ao11 t9.length co11, .slice Ao19 t17.length co19] rfl (by (try simp only [List.map_toArray, List.map_cons, List.map_nil]); first | done | rfl) ?_; (with_reducible refine (laws_eqCondSS.calls k Ao11 co11 t9 Ao19 co19 t17 true _ ?side1 ?side2 ?side3 ?side4 A21.out).mono ?_); (case side1 => repeat (first | exact (Kd.S_reads' HO11.out).2.2 | (with_reducible refine Kd.C_alloc ?_ _) | (with_reducible refine Kd.C_drewN ?_ _) | (with_reducible refine Kd.C_drew ?_))); (case side2 => exact (Kd.S_reads' HO11.out).2.1); (case side3 => repeat (first | exact (Kd.S_reads' HO19.out).2.2 | (with_reducible refine Kd.C_alloc ?_ _) | (with_reducible refine Kd.C_drewN ?_ _) | (with_reducible refine Kd.C_drew ?_))); (case side4 => exact (Kd.S_reads' HO19.out).2.1); rintro e w_8 ⟨rfl, hb_⟩; refine ⟨_, rfl, ?_⟩; have n0_ : Aside0 (w_7.heap.size ≤ w_8.heap.size) := ⟨below_size hb_⟩; have m0_ := Aside0.mk (Kd.S_below (by (with_reducible repeat (first | apply Kd.S_alloc | apply Kd.S_drewN | apply Kd.S_drew)); exact HO5.out) hb_); have m1_ := Aside0.mk (Kd.R_below (by (with_reducible repeat (first | apply Kd.R_alloc | apply Kd.R_drewN | apply Kd.R_drew)); exact HO8.out) hb_); have m2_ := Aside0.mk (Kd.S_below (by (with_reducible repeat (first | apply Kd.S_alloc | apply Kd.S_drewN | apply Kd.S_drew)); exact HO11.out) hb_); have m3_ := Aside0.mk (Kd.R_below (by (with_reducible repeat (first | apply Kd.R_alloc | apply Kd.R_drewN | apply Kd.R_drew)); exact HO14.out) hb_); have m4_ := Aside0.mk (Kd.S_below (by (with_reducible repeat (first | apply Kd.S_alloc | apply Kd.S_drewN | apply Kd.S_drew)); exact HO19.out) hb_); have m5_ := Aside0.mk (below_step (by repeat (first | (with_reducible first | exact HB.out | apply below_alloc | apply pw_below_drewN | apply below_drew1) | exact HB.out)) hb_); clear HO5 HO8 HO11 HO14 HO19 HB; have HZ8 := n0_; have HO5 := m0_; have HO8 := m1_; have HO11 := m2_; have HO14 := m3_; have HO19 := m4_; have HB := m5_; clear n0_ m0_ m1_ m2_ m3_ m4_ m5_; (try clear hb_); (try clear hk_); (try clear ho0_)) | ((with_reducible refine gate_callee (f := 19) rfl ?_); refine goesL_ (some 34) rfl rfl Try.func19 (by kernel_rfl) rfl #[(.slice Ao11 t9.length co11), .int .i64 1] rfl (by (try simp only [List.map_toArray, List.map_cons, List.map_nil]); first | done | rfl) ?_; (with_reducible refine (laws_markCondSS.calls k (fun k_ => w_3.heap.size ≤ k_ ∧ k_ < w_4.heap.size) (.slice Ao11 t9.length co11) t9 1 t22 t23 w _ ?side1 ?side2 A24.out).mono ?_); (case side1 => exact (by repeat (first | (with_reducible first | exact HB.out | apply below_alloc | apply pw_below_drewN | apply below_drew1) | exact HB.out))); (case side2 => exact (by (with_reducible repeat (first | apply Kd.S_alloc | apply Kd.S_drewN | apply Kd.S_drew)); exact HO11.out)); rintro e w_9 ⟨rfl, ho0_, hb_, hk_⟩; refine ⟨_, rfl, ?_⟩; have n0_ : Aside0 (w_8.heap.size ≤ w_9.heap.size) := ⟨hk_.1⟩; have m0_ := Aside0.mk (Kd.S_step (by (with_reducible repeat (first | apply Kd.S_alloc | apply Kd.S_drewN | apply Kd.S_drew)); exact HO5.out) (fun k_ h1_ h2_ => hk_.2 k_ h2_ (fun h3_ => by have := HZ1.out; have := HZ2.out; have := HZ3.out; have := HZ4.out; have := HZ5.out; have := HZ6.out; have := HZ7.out; have := HZ8.out; omega))); have m1_ := Aside0.mk (Kd.R_step (by (with_reducible repeat (first | apply Kd.R_alloc | apply Kd.R_drewN | apply Kd.R_drew)); exact HO8.out) (fun k_ h1_ h2_ => hk_.2 k_ h2_ (fun h3_ => by have := HZ1.out; have := HZ2.out; have := HZ3.out; have := HZ4.out; have := HZ5.out; have := HZ6.out; have := HZ7.out; have := HZ8.out; omega))); have m2_ := Aside0.mk (Kd.R_step (by (with_reducible repeat (first | apply Kd.R_alloc | apply Kd.R_drewN | apply Kd.R_drew)); exact HO14.out) (fun k_ h1_ h2_ => hk_.2 k_ h2_ (fun h3_ => by have := HZ1.out; have := HZ2.out; have := HZ3.out; have := HZ4.out; have := HZ5.out; have := HZ6.out; have := HZ7.out; have := HZ8.out; omega))); have m3_ := Aside0.mk (Kd.S_step (by (with_reducible repeat (first | apply Kd.S_alloc | apply Kd.S_drewN | apply Kd.S_drew)); exact HO19.out) (fun k_ h1_ h2_ => hk_.2 k_ h2_ (fun h3_ => by have := HZ1.out; have := HZ2.out; have := HZ3.out; have := HZ4.out; have := HZ5.out; have := HZ6.out; have := HZ7.out; have := HZ8.out; omega))); have m4_ := Aside0.mk (Kd.S_mono ho0_ (fun _ h_ => h_)); have m5_ := Aside0.mk hb_; have m6_ := Aside0.mk (Kd.S_reads' ho0_).1; clear HO5 HO8 HO14 HO19 HO11 HB; have HZ9 := n0_; have HO5 := m0_; have HO8 := m1_; have HO14 := m2_; have HO19 := m3_; have HO11 := m4_; have HB := m5_; have HE25 := m6_; clear n0_ m0_ m1_ m2_ m3_ m4_ m5_ m6_; (try clear hb_); (try clear hk_); (try clear ho0_); (try clear ho1_); (try clear ho2_)) | (go_at_call 16; (with_reducible refine (laws_eqIntS.calls k Ao14 co14 t12 Ao8 co8 t6 true _ ?side1 ?side2 ?side3 ?side4 A27.out).mono ?_); (case side1 => repeat (first | exact (Kd.R_reads' HO14.out).2.2 | (with_reducible refine Kd.C_alloc ?_ _) | (with_reducible refine Kd.C_drewN ?_ _) | (with_reducible refine Kd.C_drew ?_))); (case side2 => exact (Kd.R_reads' HO14.out).2.1); (case side3 => repeat (first | exact (Kd.R_reads' HO8.out).2.2 | (with_reducible refine Kd.C_alloc ?_ _) | (with_reducible refine Kd.C_drewN ?_ _) | (with_reducible refine Kd.C_drew ?_))); (case side4 => exact (Kd.R_reads' HO8.out).2.1); rintro e w_10 ⟨rfl, ⟨nd_, hw_⟩⟩; have hb_ := below_drawn_FnExactSubmitted hw_; clear hw_; have n0_ : Aside0 (w_9.heap.size ≤ w_10.heap.size) := ⟨below_size hb_⟩; have m0_ := Aside0.mk (Kd.S_below (by (with_reducible repeat (first | apply Kd.S_alloc | apply Kd.S_drewN | apply Kd.S_drew)); exact HO5.out) hb_); have m1_ := Aside0.mk (Kd.R_below (by (with_reducible repeat (first | apply Kd.R_alloc | apply Kd.R_drewN | apply Kd.R_drew)); exact HO8.out) hb_); have m2_ := Aside0.mk (Kd.S_below (by (with_reducible repeat (first | apply Kd.S_alloc | apply Kd.S_drewN | apply Kd.S_drew)); exact HO11.out) hb_); have m3_ := Aside0.mk (Kd.R_below (by (with_reducible repeat (first | apply Kd.R_alloc | apply Kd.R_drewN | apply Kd.R_drew)); exact HO14.out) hb_); have m4_ := Aside0.mk (Kd.S_below (by (with_reducible repeat (first | apply Kd.S_alloc | apply Kd.S_drewN | apply Kd.S_drew)); exact HO19.out) hb_); have m5_ := Aside0.mk (below_step (by repeat (first | (with_reducible first | exact HB.out | apply below_alloc | apply pw_below_drewN | apply below_drew1) | exact HB.out)) hb_); clear HO5 HO8 HO11 HO14 HO19 HB; have HZ10 := n0_; have HO5 := m0_; have HO8 := m1_; have HO11 := m2_; have HO14 := m3_; have HO19 := m4_; have HB := m5_; clear n0_ m0_ m1_ m2_ m3_ m4_ m5_; (try clear hb_); (try clear hk_); (try clear ho0_)) | ((with_reducible refine gate_callee (f := 20) rfl ?_); refine goesL_ (some 45) rfl rfl Try.func20 (by kernel_rfl) rfl #[(.slice Ao14 t12.length co14), .int .i64 1] rfl (by (try simp only [List.map_toArray, List.map_cons, List.map_nil]); first | done | rfl) ?_; (with_reducible refine (laws_markIntS.calls k (fun k_ => w_4.heap.size ≤ k_ ∧ k_ < w_5.heap.size) (.slice Ao14 t12.length co14) t12 1 t28 t29 w _ ?side1 ?side2 A30.out).mono ?_); (case side1 => exact (by repeat (first | (with_reducible first | exact HB.out | apply below_alloc | apply pw_below_drewN | apply below_drew1) | exact HB.out))); (case side2 => exact (by (with_reducible repeat (first | apply Kd.R_alloc | apply Kd.R_drewN | apply Kd.R_drew)); exact HO14.out)); rintro e w_11 ⟨rfl, ho0_, hb_, hk_⟩; refine ⟨_, rfl, ?_⟩; have n0_ : Aside0 (w_10.heap.size ≤ w_11.heap.size) := ⟨hk_.1⟩; have m0_ := Aside0.mk (Kd.S_step (by (with_reducible repeat (first | apply Kd.S_alloc | apply Kd.S_drewN | apply Kd.S_drew)); exact HO5.out) (fun k_ h1_ h2_ => hk_.2 k_ h2_ (fun h3_ => by have := HZ1.out; have := HZ2.out; have := HZ3.out; have := HZ4.out; have := HZ5.out; have := HZ6.out; have := HZ7.out; have := HZ8.out; have := HZ9.out; have := HZ10.out; omega))); have m1_ := Aside0.mk (Kd.R_step (by (with_reducible repeat (first | apply Kd.R_alloc | apply Kd.R_drewN | apply Kd.R_drew)); exact HO8.out) (fun k_ h1_ h2_ => hk_.2 k_ h2_ (fun h3_ => by have := HZ1.out; have := HZ2.out; have := HZ3.out; have := HZ4.out; have := HZ5.out; have := HZ6.out; have := HZ7.out; have := HZ8.out; have := HZ9.out; have := HZ10.out; omega))); have m2_ := Aside0.mk (Kd.S_step (by (with_reducible repeat (first | apply Kd.S_alloc | apply Kd.S_drewN | apply Kd.S_drew)); exact HO11.out) (fun k_ h1_ h2_ => hk_.2 k_ h2_ (fun h3_ => by have := HZ1.out; have := HZ2.out; have := HZ3.out; have := HZ4.out; have := HZ5.out; have := HZ6.out; have := HZ7.out; have := HZ8.out; have := HZ9.out; have := HZ10.out; omega))); have m3_ := Aside0.mk (Kd.S_step (by (with_reducible repeat (first | apply Kd.S_alloc | apply Kd.S_drewN | apply Kd.S_drew)); exact HO19.out) (fun k_ h1_ h2_ => hk_.2 k_ h2_ (fun h3_ => by have := HZ1.out; have := HZ2.out; have := HZ3.out; have := HZ4.out; have := HZ5.out; have := HZ6.out; have := HZ7.out; have := HZ8.out; have := HZ9.out; have := HZ10.out; omega))); have m4_ := Aside0.mk (Kd.R_mono (ok' := fun k_ => w_4.heap.size ≤ k_ ∧ k_ < w_5.heap.size) (Kd.R_tight rfl ho0_) (fun k_ h_ => HO14.out.1 k_ h_.symm)); have m5_ := Aside0.mk hb_; have m6_ := Aside0.mk (Kd.R_reads' ho0_).1; clear HO5 HO8 HO11 HO19 HO14 HB; have HZ11 := n0_; have HO5 := m0_; have HO8 := m1_; have HO11 := m2_; have HO19 := m3_; have HO14 := m4_; have HB := m5_; have HE31 := m6_; clear n0_ m0_ m1_ m2_ m3_ m4_ m5_ m6_; (try clear hb_); (try clear hk_); (try clear ho0_); (try clear ho1_); (try clear ho2_)) | ((with_reducible refine gate_callee (f := 21) rfl ?_); refine goesL_ (some 48) rfl rfl Try.func21 (by kernel_rfl) rfl #[.slice Ao14 t12.length co14, .int .i64 1] rfl (by (try simp only [List.map_toArray, List.map_cons, List.map_nil]); first | done | rfl) ?_; refine calls_of_args (args' := #[.slice Ao14 t29.length co14, .int .i64 1]) (by simp only [HE31.out]) ?_; (with_reducible refine (laws_heldIntS.calls k Ao14 co14 t29 1 t32 _ ?side1 ?side2 A33.out).mono ?_); (case side1 => repeat (first | (have h_ := Kd.R_reads' HO14.out; rw [HE31.out] at h_; exact h_.2.2) | (with_reducible refine Kd.C_alloc ?_ _) | (with_reducible refine Kd.C_drewN ?_ _) | (with_reducible refine Kd.C_drew ?_))); (case side2 => have h_ := Kd.R_reads' HO14.out; rw [HE31.out] at h_; exact h_.2.1); rintro e w_12 ⟨rfl, ⟨nd_, hw_⟩⟩; refine ⟨_, rfl, ?_⟩; have hb_ := below_drawn_FnExactSubmitted hw_; clear hw_; have n0_ : Aside0 (w_11.heap.size ≤ w_12.heap.size) := ⟨below_size hb_⟩; have m0_ := Aside0.mk (Kd.S_below (by (with_reducible repeat (first | apply Kd.S_alloc | apply Kd.S_drewN | apply Kd.S_drew)); exact HO5.out) hb_); have m1_ := Aside0.mk (Kd.R_below (by (with_reducible repeat (first | apply Kd.R_alloc | apply Kd.R_drewN | apply Kd.R_drew)); exact HO8.out) hb_); have m2_ := Aside0.mk (Kd.S_below (by (with_reducible repeat (first | apply Kd.S_alloc | apply Kd.S_drewN | apply Kd.S_drew)); exact HO11.out) hb_); have m3_ := Aside0.mk (Kd.R_below (by (with_reducible repeat (first | apply Kd.R_alloc | apply Kd.R_drewN | apply Kd.R_drew)); exact HO14.out) hb_); have m4_ := Aside0.mk (Kd.S_below (by (with_reducible repeat (first | apply Kd.S_alloc | apply Kd.S_drewN | apply Kd.S_drew)); exact HO19.out) hb_); have m5_ := Aside0.mk (below_step (by repeat (first | (with_reducible first | exact HB.out | apply below_alloc | apply pw_below_drewN | apply below_drew1) | exact HB.out)) hb_); clear HO5 HO8 HO11 HO14 HO19 HB; have HZ12 := n0_; have HO5 := m0_; have HO8 := m1_; have HO11 := m2_; have HO14 := m3_; have HO19 := m4_; have HB := m5_; clear n0_ m0_ m1_ m2_ m3_ m4_ m5_; (try clear hb_); (try clear hk_); (try clear ho0_)) | ((with_reducible refine gate_callee (f := 12) rfl ?_); refine goesL_ (some 55) rfl rfl Try.func12 (by kernel_rfl) rfl #[.slice A0 l0.length c0] rfl (by (try simp only [List.map_toArray, List.map_cons, List.map_nil]); first | done | rfl) ?_; (with_reducible refine (laws_toCondSS.calls k A0 c0 l0 t34 _ ?side1 ?side2 A35.out).mono ?_); (case side1 => repeat (first | exact (Kd.C_below HR0.out HB.out) | (with_reducible refine Kd.C_alloc ?_ _) | (with_reducible refine Kd.C_drewN ?_ _) | (with_reducible refine Kd.C_drew ?_))); (case side2 => exact HC0.out); rintro e w_13 ⟨v59, rfl, ho0_, hb_⟩; refine ⟨_, rfl, ?_⟩; have n0_ : Aside0 (w_12.heap.size ≤ w_13.heap.size) := ⟨below_size hb_⟩; have m0_ := Aside0.mk (Kd.S_below (by (with_reducible repeat (first | apply Kd.S_alloc | apply Kd.S_drewN | apply Kd.S_drew)); exact HO5.out) hb_); have m1_ := Aside0.mk (Kd.R_below (by (with_reducible repeat (first | apply Kd.R_alloc | apply Kd.R_drewN | apply Kd.R_drew)); exact HO8.out) hb_); have m2_ := Aside0.mk (Kd.S_below (by (with_reducible repeat (first | apply Kd.S_alloc | apply Kd.S_drewN | apply Kd.S_drew)); exact HO11.out) hb_); have m3_ := Aside0.mk (Kd.R_below (by (with_reducible repeat (first | apply Kd.R_alloc | apply Kd.R_drewN | apply Kd.R_drew)); exact HO14.out) hb_); have m4_ := Aside0.mk (Kd.S_below (by (with_reducible repeat (first | apply Kd.S_alloc | apply Kd.S_drewN | apply Kd.S_drew)); exact HO19.out) hb_); have m5_ := Aside0.mk (below_step (by repeat (first | (with_reducible first | exact HB.out | apply below_alloc | apply pw_below_drewN | apply below_drew1) | exact HB.out)) hb_); have m6_ := Aside0.mk (show Kd.S (Kd.slice 58 k58) 56 w_13 w.heap.size (fun k_ => w_12.heap.size ≤ k_ ∧ k_ < w_13.heap.size) v59 t34 from Kd.S_mono (Kd.S_lower (Kd.S_bound ho0_) (below_size (by repeat (first | (with_reducible first | exact HB.out | apply below_alloc | apply pw_below_drewN | apply below_drew1) | exact HB.out)))) (fun k_ h_ => ⟨h_.2.1, h_.2.2.1⟩)); clear HO5 HO8 HO11 HO14 HO19 HB; have HZ13 := n0_; have HO5 := m0_; have HO8 := m1_; have HO11 := m2_; have HO14 := m3_; have HO19 := m4_; have HB := m5_; have HO36 := m6_; clear n0_ m0_ m1_ m2_ m3_ m4_ m5_ m6_; (try clear hb_); (try clear hk_); (try clear ho0_); (try clear ho1_); obtain ⟨Ao36, co36, eo_⟩ := Kd.S_slice HO36.out; subst eo_) | ((with_reducible refine gate_callee (f := 18) rfl ?_); refine goesL_ (some 56) rfl rfl Try.func18 (by kernel_rfl) rfl #[.slice Ao36 t34.length co36] rfl (by (try simp only [List.map_toArray, List.map_cons, List.map_nil]); first | done | rfl) ?_; (with_reducible refine (impl_Submitted.calls k Ao36 co36 t34 t37 _ ?side1 ?side2 A38.out).mono ?_); (case side1 => repeat (first | exact (Kd.S_reads' HO36.out).2.2 | (with_reducible refine Kd.C_alloc ?_ _) | (with_reducible refine Kd.C_drewN ?_ _) | (with_reducible refine Kd.C_drew ?_))); (case side2 => exact (Kd.S_reads' HO36.out).2.1); rintro e w_14 ⟨v60, rfl, ho0_, hb_⟩; refine ⟨_, rfl, ?_⟩; have n0_ : Aside0 (w_13.heap.size ≤ w_14.heap.size) := ⟨below_size hb_⟩; have m0_ := Aside0.mk (Kd.S_below (by (with_reducible repeat (first | apply Kd.S_alloc | apply Kd.S_drewN | apply Kd.S_drew)); exact HO5.out) hb_); have m1_ := Aside0.mk (Kd.R_below (by (with_reducible repeat (first | apply Kd.R_alloc | apply Kd.R_drewN | apply Kd.R_drew)); exact HO8.out) hb_); have m2_ := Aside0.mk (Kd.S_below (by (with_reducible repeat (first | apply Kd.S_alloc | apply Kd.S_drewN | apply Kd.S_drew)); exact HO11.out) hb_); have m3_ := Aside0.mk (Kd.R_below (by (with_reducible repeat (first | apply Kd.R_alloc | apply Kd.R_drewN | apply Kd.R_drew)); exact HO14.out) hb_); have m4_ := Aside0.mk (Kd.S_below (by (with_reducible repeat (first | apply Kd.S_alloc | apply Kd.S_drewN | apply Kd.S_drew)); exact HO19.out) hb_); have m5_ := Aside0.mk (Kd.S_below (by (with_reducible repeat (first | apply Kd.S_alloc | apply Kd.S_drewN | apply Kd.S_drew)); exact HO36.out) hb_); have m6_ := Aside0.mk (below_step (by repeat (first | (with_reducible first | exact HB.out | apply below_alloc | apply pw_below_drewN | apply below_drew1) | exact HB.out)) hb_); have m7_ := Aside0.mk (show Kd.R (Kd.int .i64) 3 w_14 w.heap.size (fun k_ => w_13.heap.size ≤ k_ ∧ k_ < w_14.heap.size) v60 t37 from Kd.R_mono (Kd.R_lower (Kd.R_bound ho0_) (below_size (by repeat (first | (with_reducible first | exact HB.out | apply below_alloc | apply pw_below_drewN | apply below_drew1) | exact HB.out)))) (fun k_ h_ => ⟨h_.2.1, h_.2.2.1⟩)); clear HO5 HO8 HO11 HO14 HO19 HO36 HB; have HZ14 := n0_; have HO5 := m0_; have HO8 := m1_; have HO11 := m2_; have HO14 := m3_; have HO19 := m4_; have HO36 := m5_; have HB := m6_; have HO39 := m7_; clear n0_ m0_ m1_ m2_ m3_ m4_ m5_ m6_ m7_; (try clear hb_); (try clear hk_); (try clear ho0_); (try clear ho1_); obtain ⟨Ao39, co39, eo_⟩ := Kd.R_slice HO39.out; subst eo_) | ((with_reducible refine gate_callee (f := 16) rfl ?_); refine goesL_ (some 59) rfl rfl Try.func16 (by kernel_rfl) rfl #[.slice Ao39 t37.length co39, .slice Ao8 t6.length co8] rfl (by (try simp only [List.map_toArray, List.map_cons, List.map_nil]); first | done | rfl) ?_; (with_reducible refine (laws_eqIntS.calls k Ao39 co39 t37 Ao8 co8 t6 true _ ?side1 ?side2 ?side3 ?side4 A41.out).mono ?_); (case side1 => repeat (first | exact (Kd.R_reads' HO39.out).2.2 | (with_reducible refine Kd.C_alloc ?_ _) | (with_reducible refine Kd.C_drewN ?_ _) | (with_reducible refine Kd.C_drew ?_))); (case side2 => exact (Kd.R_reads' HO39.out).2.1); (case side3 => repeat (first | exact (Kd.R_reads' HO8.out).2.2 | (with_reducible refine Kd.C_alloc ?_ _) | (with_reducible refine Kd.C_drewN ?_ _) | (with_reducible refine Kd.C_drew ?_))); (case side4 => exact (Kd.R_reads' HO8.out).2.1); rintro e w_15 ⟨rfl, ⟨nd_, hw_⟩⟩; refine ⟨_, rfl, ?_⟩; have hb_ := below_drawn_FnExactSubmitted hw_; clear hw_; have n0_ : Aside0 (w_14.heap.size ≤ w_15.heap.size) := ⟨below_size hb_⟩; have m0_ := Aside0.mk (Kd.S_below (by (with_reducible repeat (first | apply Kd.S_alloc | apply Kd.S_drewN | apply Kd.S_drew)); exact HO5.out) hb_); have m1_ := Aside0.mk (Kd.R_below (by (with_reducible repeat (first | apply Kd.R_alloc | apply Kd.R_drewN | apply Kd.R_drew)); exact HO8.out) hb_); have m2_ := Aside0.mk (Kd.S_below (by (with_reducible repeat (first | apply Kd.S_alloc | apply Kd.S_drewN | apply Kd.S_drew)); exact HO11.out) hb_); have m3_ := Aside0.mk (Kd.R_below (by (with_reducible repeat (first | apply Kd.R_alloc | apply Kd.R_drewN | apply Kd.R_drew)); exact HO14.out) hb_); have m4_ := Aside0.mk (Kd.S_below (by (with_reducible repeat (first | apply Kd.S_alloc | apply Kd.S_drewN | apply Kd.S_drew)); exact HO19.out) hb_); have m5_ := Aside0.mk (Kd.S_below (by (with_reducible repeat (first | apply Kd.S_alloc | apply Kd.S_drewN | apply Kd.S_drew)); exact HO36.out) hb_); have m6_ := Aside0.mk (Kd.R_below (by (with_reducible repeat (first | apply Kd.R_alloc | apply Kd.R_drewN | apply Kd.R_drew)); exact HO39.out) hb_); have m7_ := Aside0.mk (below_step (by repeat (first | (with_reducible first | exact HB.out | apply below_alloc | apply pw_below_drewN | apply below_drew1) | exact HB.out)) hb_); clear HO5 HO8 HO11 HO14 HO19 HO36 HO39 HB; have HZ15 := n0_; have HO5 := m0_; have HO8 := m1_; have HO11 := m2_; have HO14 := m3_; have HO19 := m4_; have HO36 := m5_; have HO39 := m6_; have HB := m7_; clear n0_ m0_ m1_ m2_ m3_ m4_ m5_ m6_ m7_; (try clear hb_); (try clear hk_); (try clear ho0_)) | ((with_reducible refine gate_callee (f := 21) rfl ?_); refine goesL_ (some 63) rfl rfl Try.func21 (by kernel_rfl) rfl #[.slice Ao14 t12.length co14, .int .i64 1] rfl (by (try simp only [List.map_toArray, List.map_cons, List.map_nil]); first | done | rfl) ?_; refine calls_of_args (args' := #[.slice Ao14 t29.length co14, .int .i64 1]) (by simp only [HE31.out]) ?_; (with_reducible refine (laws_heldIntS.calls k Ao14 co14 t29 1 t42 _ ?side1 ?side2 A43.out).mono ?_); (case side1 => repeat (first | (have h_ := Kd.R_reads' HO14.out; rw [HE31.out] at h_; exact h_.2.2) | (with_reducible refine Kd.C_alloc ?_ _) | (with_reducible refine Kd.C_drewN ?_ _) | (with_reducible refine Kd.C_drew ?_))); (case side2 => have h_ := Kd.R_reads' HO14.out; rw [HE31.out] at h_; exact h_.2.1); rintro e w_16 ⟨rfl, ⟨nd_, hw_⟩⟩; refine ⟨_, rfl, ?_⟩; have hb_ := below_drawn_FnExactSubmitted hw_; clear hw_; have n0_ : Aside0 (w_15.heap.size ≤ w_16.heap.size) := ⟨below_size hb_⟩; have m0_ := Aside0.mk (Kd.S_below (by (with_reducible repeat (first | apply Kd.S_alloc | apply Kd.S_drewN | apply Kd.S_drew)); exact HO5.out) hb_); have m1_ := Aside0.mk (Kd.R_below (by (with_reducible repeat (first | apply Kd.R_alloc | apply Kd.R_drewN | apply Kd.R_drew)); exact HO8.out) hb_); have m2_ := Aside0.mk (Kd.S_below (by (with_reducible repeat (first | apply Kd.S_alloc | apply Kd.S_drewN | apply Kd.S_drew)); exact HO11.out) hb_); have m3_ := Aside0.mk (Kd.R_below (by (with_reducible repeat (first | apply Kd.R_alloc | apply Kd.R_drewN | apply Kd.R_drew)); exact HO14.out) hb_); have m4_ := Aside0.mk (Kd.S_below (by (with_reducible repeat (first | apply Kd.S_alloc | apply Kd.S_drewN | apply Kd.S_drew)); exact HO19.out) hb_); have m5_ := Aside0.mk (Kd.S_below (by (with_reducible repeat (first | apply Kd.S_alloc | apply Kd.S_drewN | apply Kd.S_drew)); exact HO36.out) hb_); have m6_ := Aside0.mk (Kd.R_below (by (with_reducible repeat (first | apply Kd.R_alloc | apply Kd.R_drewN | apply Kd.R_drew)); exact HO39.out) hb_); have m7_ := Aside0.mk (below_step (by repeat (first | (with_reducible first | exact HB.out | apply below_alloc | apply pw_below_drewN | apply below_drew1) | exact HB.out)) hb_); clear HO5 HO8 HO11 HO14 HO19 HO36 HO39 HB; have HZ16 := n0_; have HO5 := m0_; have HO8 := m1_; have HO11 := m2_; have HO14 := m3_; have HO19 := m4_; have HO36 := m5_; have HO39 := m6_; have HB := m7_; clear n0_ m0_ m1_ m2_ m3_ m4_ m5_ m6_ m7_; (try clear hb_); (try clear hk_); (try clear ho0_)))
  go_ret
  exact ⟨rfl, (by repeat (first | (with_reducible first | exact HB.out | apply below_alloc | apply pw_below_drewN | apply below_drew1) | exact HB.out))⟩
end Go.Proofs.Ytigoeooelfeopaa.Q

/- What a reading of a struct says of its cells. No condition. -/
namespace Go.Proofs.Ytigoeooelfeopaa.Q
open Go.RowKit Go.ChangeShapes Go.WideShapes Go.Proofs.YtigoeooelfeopaaW.PrintWords Go.Proofs.Ytigoeooelfeopaa
set_option linter.unusedVariables false
set_option linter.unusedSimpArgs false
theorem len3 {α : Type} {cs : List α} (h : cs.length = 3) : ∃ c0 c1 c2, cs = [c0, c1, c2] := by
  match cs, h with
  | [c0, c1, c2], _ => exact ⟨_, _, _, rfl⟩
instance : Inhabited S72 := ⟨z72⟩
def G72 (x : S72) : Prop := (fun _ : Bool => True) x.f0 ∧ (fun x : Int => (Lit.int .i64 x).wf = true) x.f1 ∧ (fun s : ByteArray => s.size ≤ maxLen) x.f2
theorem opens72 {H : Type} {enc : TypeId × Value → H} {w : World} : Op.Opens enc Try.prog w 72 k72 G72 := by
  intro fuel cs x h
  obtain ⟨xs, n, _, _, hl, hlen, hf⟩ := DataW.trod_struct Try.underlying72 h
  replace hl : cs.length = 3 := hl.trans (by kernel_rfl)
  replace hlen : xs.length = 3 := hlen.trans (by kernel_rfl)
  obtain ⟨c0, c1, c2, rfl⟩ := len3 hl
  have hc4_ : Try.prog.cellsOf 4 = 1 := by kernel_rfl
  have hc3_ : Try.prog.cellsOf 3 = 1 := by kernel_rfl
  have hc9_ : Try.prog.cellsOf 9 = 1 := by kernel_rfl
  obtain ⟨a0, k0_, g0_⟩ : ∃ a, Kd.bool.K w a [c0] ∧ (fun _ : Bool => True) a := by
    have h1 : DataW.trod enc Try.prog w 0 (fun _ => true) true n 4 (([c0, c1, c2].drop 0).take (Try.prog.cellsOf 4)) = xs[0]? := hf 0 _ rfl
    have hlt : 0 < xs.length := by omega
    rw [List.getElem?_eq_getElem hlt] at h1
    simp only [hc4_, List.drop_zero, List.drop_succ_cons, List.take_succ_cons, List.take_zero] at h1
    exact (Op.opens_bool Try.underlying4) n [c0] _ h1
  obtain ⟨a1, k1_, g1_⟩ : ∃ a, (Kd.int .i64).K w a [c1] ∧ (fun x : Int => (Lit.int .i64 x).wf = true) a := by
    have h1 : DataW.trod enc Try.prog w 0 (fun _ => true) true n 3 (([c0, c1, c2].drop 1).take (Try.prog.cellsOf 3)) = xs[1]? := hf 1 _ rfl
    have hlt : 1 < xs.length := by omega
    rw [List.getElem?_eq_getElem hlt] at h1
    simp only [hc3_, List.drop_zero, List.drop_succ_cons, List.take_succ_cons, List.take_zero] at h1
    exact (Op.opens_int Try.underlying3) n [c1] _ h1
  obtain ⟨a2, k2_, g2_⟩ : ∃ a, Kd.string.K w a [c2] ∧ (fun s : ByteArray => s.size ≤ maxLen) a := by
    have h1 : DataW.trod enc Try.prog w 0 (fun _ => true) true n 9 (([c0, c1, c2].drop 2).take (Try.prog.cellsOf 9)) = xs[2]? := hf 2 _ rfl
    have hlt : 2 < xs.length := by omega
    rw [List.getElem?_eq_getElem hlt] at h1
    simp only [hc9_, List.drop_zero, List.drop_succ_cons, List.take_succ_cons, List.take_zero] at h1
    exact (Op.opens_string Try.underlying9) n [c2] _ h1
  exact ⟨⟨a0, a1, a2⟩, ⟨[c0], [c1, c2], rfl, k0_, ⟨[c1], [c2], rfl, k1_, k2_⟩⟩, ⟨g0_, g1_, g2_⟩⟩
end Go.Proofs.Ytigoeooelfeopaa.Q

/- Small lemmas for plain laws over rounds: indices as lengths of what was passed, bytes' equality. No condition. -/
set_option linter.unusedSimpArgs false
set_option linter.unusedVariables false
namespace Go.Proofs.Ytigoeooelfeopaa.L
open Go.RowKit Go.Proofs.YtigoeooelfeopaaW.PrintWords Go.Proofs.YtigoeooelfeopaaW.PrintLast

theorem ba_toList (s : ByteArray) : s.toList = s.data.toList := ByteArray.toList_eq s
theorem ba_inj {a b : ByteArray} (h : a.toList = b.toList) : a = b := by
  rw [ba_toList, ba_toList] at h
  cases a with | mk x => cases b with | mk y => congr 1; exact Array.toList_inj.1 h
theorem ba_eq {a b : ByteArray} : (a.toList = b.toList) = (a = b) := propext ⟨ba_inj, fun h => by rw [h]⟩
theorem maxLen_eq : maxLen = 9223372036854775807 := by decide
theorem wrap_id {x : Int} (h0 : -9223372036854775808 ≤ x) (h1 : x < 9223372036854775808) : wrap64 x = x := by
  unfold wrap64
  omega

section
variable {α : Type} {l pre suf : List α} {a : α}
theorem lt_at (h : l = pre ++ a :: suf) : ((pre.length : Nat) : Int) < (l.length : Int) := by subst h; simp; omega
theorem getD_at (d : α) (h : l = pre ++ a :: suf) : l.getD ((pre.length : Nat) : Int).toNat d = a := by subst h; simp [List.getD_eq_getElem?_getD]
theorem next_at (h : l = pre ++ a :: suf) (hl : l.length ≤ maxLen) : wrap64 ((pre.length : Int) + 1) = ((pre ++ [a]).length : Int) := by
  have : l.length = pre.length + 1 + suf.length := by subst h; simp; omega
  rw [maxLen_eq] at hl
  rw [wrap_id (by omega) (by omega)]
  simp
theorem snoc_at (h : l = pre ++ a :: suf) : l = (pre ++ [a]) ++ suf := by subst h; simp
theorem end_at (h : l = pre ++ []) : ¬ ((pre.length : Nat) : Int) < (l.length : Int) := by subst h; simp
theorem set_at {b : α} (h : l = pre ++ a :: suf) : l.set ((pre.length : Nat) : Int).toNat b = (pre ++ [b]) ++ suf := by subst h; simp
theorem nonneg_at (n : Nat) : (0 : Int) ≤ (n : Int) := Int.natCast_nonneg n
end

/-- How a size comes out: too great (-1), or what is left (m of n), and then P holds. -/
def Sz (g : Nat → Option Int) (n : Int) (P : Prop) : Prop := Ev g (-1) ∨ ∃ m : Int, 0 ≤ m ∧ m ≤ n ∧ Ev g m ∧ P
theorem Sz.bind {g : Nat → Option Int} {f : Nat → Int → Option Int} {n : Int} {P Q : Prop} (h : Sz g n P) (hk : ∀ m, 0 ≤ m → m ≤ n → P → Sz (fun k => f k m) m Q) (hneg : Ev (fun k => f k (-1)) (-1)) : Sz (fun k => (g k).bind (f k)) n Q := by
  rcases h with h | ⟨m, h0, h1, h, hP⟩
  · exact .inl (Ev.bind h hneg)
  · rcases hk m h0 h1 hP with h2 | ⟨m', h0', h1', h2, hQ⟩
    · exact .inl (Ev.bind h h2)
    · exact .inr ⟨m', h0', by omega, Ev.bind h h2, hQ⟩
theorem Sz.sub {f : Nat → Option Int} {n c : Int} {Q : Prop} (hc : 0 ≤ c) (hk : c ≤ n → Sz f (n - c) Q) : Sz (fun k => if n - c < 0 then some (-1) else f k) n Q := by
  by_cases h : n - c < 0
  · simp only [if_pos h]; exact .inl (Ev.now _)
  · simp only [if_neg h]
    rcases hk (by omega) with h2 | ⟨m, h0, h1, h2, hQ⟩
    · exact .inl h2
    · exact .inr ⟨m, h0, by omega, h2, hQ⟩
theorem Sz.ev {α : Type} {g : Nat → Option Int} {f : Nat → Int → Option α} {n : Int} {P : Prop} {r : α} (h : Sz g n P) (hneg : Ev (fun k => f k (-1)) r) (hk : ∀ m, 0 ≤ m → m ≤ n → P → Ev (fun k => f k m) r) : Ev (fun k => (g k).bind (f k)) r := by
  rcases h with h | ⟨m, h0, h1, h, hP⟩
  · exact Ev.bind h hneg
  · exact Ev.bind h (hk m h0 h1 hP)
def IntOk (x : Int) : Prop := -9223372036854775808 ≤ x ∧ x < 9223372036854775808
theorem wf_int {x : Int} (h : (Lit.int .i64 x).wf = true) : IntOk x := by
  unfold Lit.wf at h
  rw [Bool.and_eq_true, decide_eq_true_eq, decide_eq_true_eq] at h
  have h1 : IntKind.i64.min = -9223372036854775808 := by decide
  have h2 : IntKind.i64.max = 9223372036854775807 := by decide
  rw [h1, h2] at h
  exact ⟨h.1, by omega⟩
/-- A loop that takes sizes off. -/
theorem sz_loop {α : Type} {l : List α} {P : α → Prop} (g : Nat → Int → Int → Option Int)
    (hend : ∀ n, Ev (fun k => g k n l.length) n)
    (hstep : ∀ pre a suf n, l = pre ++ a :: suf → 0 ≤ n → n ≤ 1048576 → Ev (fun k => g k n (pre.length : Int)) (-1) ∨ ∃ m, 0 ≤ m ∧ m ≤ n ∧ P a ∧ ∀ r, Ev (fun k => g k m ((pre ++ [a]).length : Int)) r → Ev (fun k => g k n (pre.length : Int)) r) :
    ∀ (suf pre : List α) (n : Int), l = pre ++ suf → 0 ≤ n → n ≤ 1048576 → Sz (fun k => g k n (pre.length : Int)) n (∀ a ∈ suf, P a) := by
  intro suf
  induction suf with
  | nil =>
    intro pre n h h0 h1
    have := hend n
    rw [h, List.append_nil] at this
    exact .inr ⟨n, h0, Int.le_refl _, this, by simp⟩
  | cons a suf ih =>
    intro pre n h h0 h1
    rcases hstep pre a suf n h h0 h1 with h2 | ⟨m, hm0, hm1, hP, hr⟩
    · exact .inl h2
    · rcases ih (pre ++ [a]) m (snoc_at h) hm0 (by omega) with h3 | ⟨m', hm0', hm1', h3, h4⟩
      · exact .inl (hr _ h3)
      · exact .inr ⟨m', hm0', by omega, hr _ h3, fun x hx => by
          rcases List.mem_cons.1 hx with rfl | hx
          · exact hP
          · exact h4 x hx⟩
/-- A loop that fills a list, element by element. -/
theorem to_loop {α β : Type} {l : List α} {f : α → β} (g : Nat → List β → Int → Option (List β))
    (hend : ∀ out, Ev (fun k => g k out l.length) out)
    (hstep : ∀ pre a suf (out : List β), l = pre ++ a :: suf → ((pre.length : Nat) : Int) < (out.length : Int) → ∀ r, Ev (fun k => g k (out.set ((pre.length : Nat) : Int).toNat (f a)) ((pre ++ [a]).length : Int)) r → Ev (fun k => g k out (pre.length : Int)) r) :
    ∀ (suf pre : List α) (out rest : List β), l = pre ++ suf → out = pre.map f ++ rest → rest.length = suf.length → Ev (fun k => g k out (pre.length : Int)) (l.map f) := by
  intro suf
  induction suf with
  | nil =>
    intro pre out rest h ho hr
    obtain rfl : rest = [] := by simpa using hr
    have := hend out
    rw [h, List.append_nil] at this ⊢
    rw [ho, List.append_nil] at this ⊢
    exact this
  | cons a suf ih =>
    intro pre out rest h ho hr
    obtain ⟨b, rest, rfl⟩ : ∃ b r, rest = b :: r := by
      cases rest with
      | nil => simp at hr
      | cons b r => exact ⟨b, r, rfl⟩
    have hlen : ((pre.length : Nat) : Int) < (out.length : Int) := by rw [ho]; simp; omega
    refine hstep pre a suf out h hlen _ (ih (pre ++ [a]) _ rest (snoc_at h) ?_ (by simpa using hr))
    rw [ho]
    simp [List.set_append]
/-- A loop that compares two lists of one length. -/
theorem eq_loop {α : Type} [DecidableEq α] {a b : List α} (g : Nat → Int → Option Bool)
    (hend : Ev (fun k => g k a.length) true)
    (hstep : ∀ pre x su pre' y sv, a = pre ++ x :: su → b = pre' ++ y :: sv → pre.length = pre'.length → (x ≠ y → Ev (fun k => g k (pre.length : Int)) false) ∧ (x = y → ∀ r, Ev (fun k => g k ((pre ++ [x]).length : Int)) r → Ev (fun k => g k (pre.length : Int)) r)) :
    ∀ (su sv pu pv : List α), a = pu ++ su → b = pv ++ sv → pu.length = pv.length → su.length = sv.length → Ev (fun k => g k (pu.length : Int)) (decide (su = sv)) := by
  intro su
  induction su with
  | nil =>
    intro sv pu pv h h' hp hs
    obtain rfl : sv = [] := by simpa using hs.symm
    rw [h, List.append_nil] at hend
    exact hend
  | cons x su ih =>
    intro sv pu pv h h' hp hs
    cases sv with
    | nil => simp at hs
    | cons y sv =>
      obtain ⟨h1, h2⟩ := hstep pu x su pv y sv h h' hp
      by_cases e : x = y
      · have h3 := h2 e _ (ih sv (pu ++ [x]) (pv ++ [y]) (snoc_at h) (snoc_at h') (by simp [hp]) (by simpa using hs))
        simp only [e, List.cons.injEq, true_and]
        exact h3
      · rw [show decide (x :: su = y :: sv) = false from decide_eq_false (fun h => e (List.cons.inj h).1)]
        exact h1 e
theorem ev_cast {α : Type} {g : Nat → Option α} {r s : α} (h : Ev g r) (e : r = s) : Ev g s := e ▸ h
end Go.Proofs.Ytigoeooelfeopaa.L

/- The laws' own functions over a mirrored struct (Cond): size, copy, equality. No condition. -/
set_option linter.unusedSimpArgs false
set_option linter.unusedVariables false
namespace Go.Proofs.Ytigoeooelfeopaa.L
open Go.RowKit Go.Proofs.YtigoeooelfeopaaW.PrintWords Go.Proofs.YtigoeooelfeopaaW.PrintLast Go.Proofs.Ytigoeooelfeopaa.Q
/-! ### Cond -/
instance : DecidableEq S58 := fun a b => if h : a.f0 = b.f0 ∧ a.f1 = b.f1 ∧ a.f2 = b.f2 then .isTrue (by cases a; cases b; simp_all) else .isFalse (fun e => h (by rw [e]; exact ⟨rfl, rfl, rfl⟩))
theorem rd_lawsCond {l pre suf : List S72} {a : S72} (h : l = pre ++ a :: suf) : rd_T72 l (pre.length : Int) = a := getD_at _ h
theorem rd_implCond {l pre suf : List S58} {a : S58} (h : l = pre ++ a :: suf) : rd_T58 l (pre.length : Int) = a := getD_at _ h
def toCond (p : S72) : S58 := ⟨p.f0, p.f1, p.f2⟩
def SmCond (p : S58) : Prop := True ∧ IntOk p.f1 ∧ p.f2.size ≤ 1048576
def GGCond (x : S72) : Prop := True ∧ (Lit.int .i64 x.f1).wf = true ∧ x.f2.size ≤ maxLen
theorem szCond {p : S72} (hp : GGCond p) {n : Int} (h0 : 0 ≤ n) (h1 : n ≤ 1048576) : Sz (fun k => laws_szCond.f p.f0 p.f1 p.f2 n) n (SmCond (toCond p)) := by
  obtain ⟨g0, g1, g2⟩ := hp
  unfold laws_szCond.f
  have e2 := wrap_id (x := n - (p.f2.size : Int)) (by rw [maxLen_eq] at g2; omega) (by omega)
  simp only [e2]
  refine Sz.sub (by omega) (fun c2 => ?_)
  obtain ⟨n2, hn2⟩ : ∃ m, m = n - (p.f2.size : Int) := ⟨_, rfl⟩
  simp only [← hn2]
  exact .inr ⟨n2, by omega, by omega, Ev.now _, trivial, wf_int g1, by show p.f2.size ≤ 1048576; omega⟩
theorem toCond1 {p : S72} (hp : SmCond (toCond p)) : Ev (fun k => laws_toCond.f p.f0 p.f1 p.f2) (p.f0, p.f1, p.f2) := by
  obtain ⟨g0, g1, g2⟩ := hp
  unfold laws_toCond.f
  exact Ev.now _
theorem eqCond1 {p q : S58} (hp : SmCond p) : Ev (fun k => laws_eqCond.f p.f0 p.f1 p.f2 q.f0 q.f1 q.f2) (decide (p = q)) := by
  obtain ⟨g0, g1, g2⟩ := hp
  unfold laws_eqCond.f
  by_cases e0 : p.f0 = q.f0
  rotate_left
  · rw [show decide (p = q) = false from decide_eq_false (fun h => e0 (by rw [h]))]
    simp only [ba_eq, e0, bne_iff_ne, ne_eq, not_false_eq_true, not_true_eq_false, if_true, if_false]
    exact Ev.now _
  simp only [ba_eq, e0, bne_self_eq_false, Bool.false_eq_true, if_true, if_false]
  by_cases e1 : p.f1 = q.f1
  rotate_left
  · rw [show decide (p = q) = false from decide_eq_false (fun h => e1 (by rw [h]))]
    simp only [ba_eq, e1, bne_iff_ne, ne_eq, not_false_eq_true, not_true_eq_false, if_true, if_false]
    exact Ev.now _
  simp only [ba_eq, e1, bne_self_eq_false, Bool.false_eq_true, if_true, if_false]
  by_cases e2 : p.f2 = q.f2
  rotate_left
  · rw [show decide (p = q) = false from decide_eq_false (fun h => e2 (by rw [h]))]
    simp only [ba_eq, e2, bne_iff_ne, ne_eq, not_false_eq_true, not_true_eq_false, if_true, if_false]
    exact Ev.now _
  simp only [ba_eq, e2, bne_self_eq_false, Bool.false_eq_true, if_true, if_false]
  rw [show decide (p = q) = true from decide_eq_true (by cases p; cases q; simp_all)]
  exact Ev.now _
def SmConds (l : List S58) : Prop := l.length ≤ 1048576 ∧ ∀ p ∈ l, SmCond p
theorem toCondS {p : List S72} (hp : SmConds (p.map toCond)) : Ev (fun k => laws_toCondS.f k p) (p.map toCond) := by
  obtain ⟨hl0, hs⟩ := hp
  rw [List.length_map] at hl0
  have hl2 : p.length ≤ maxLen := by rw [maxLen_eq]; omega
  unfold laws_toCondS.f
  simp only [if_pos (nonneg_at _), Int.toNat_natCast, if_pos (show p.length ≤ 8796093022208 by omega)]
  refine to_loop (l := p) (f := toCond) (fun k out i => laws_toCondS.l0 k p out i) ?_ ?_ p [] _ (List.replicate p.length z58) rfl rfl (by simp)
  · intro out
    refine Ev.step (fun k => laws_toCondS.l0.eq_2 ..) ?_
    simp only [Int.lt_irrefl, if_false]
    exact Ev.now _
  · intro pre a suf out h ho r hr
    refine Ev.step (fun k => laws_toCondS.l0.eq_2 ..) ?_
    simp only [if_pos (lt_at h), if_pos (nonneg_at _), rd_lawsCond h]
    refine Ev.bind (toCond1 (hs _ (List.mem_map.2 ⟨a, by rw [h]; simp, rfl⟩))) ?_
    simp only [if_pos ho, next_at h hl2]
    exact hr
theorem eqCondS {a b : List S58} (ha : SmConds a) : Ev (fun k => laws_eqCondS.f k a b) (decide (a = b)) := by
  have hl : a.length ≤ maxLen := by have := ha.1; rw [maxLen_eq]; omega
  unfold laws_eqCondS.f
  by_cases e : (a.length : Int) = (b.length : Int)
  · simp only [if_pos e]
    refine eq_loop (a := a) (b := b) (fun k i => laws_eqCondS.l0 k a b i) ?_ ?_ a b [] [] rfl rfl rfl (by omega)
    · refine Ev.step (fun k => laws_eqCondS.l0.eq_2 ..) ?_
      simp only [Int.lt_irrefl, if_false]
      exact Ev.now _
    · intro pre x su pre' y sv h h' hp
      have h3 := rd_implCond h'
      have h4 := lt_at h'
      rw [← hp] at h3 h4
      have h5 := eqCond1 (q := y) (ha.2 x (by rw [h]; simp))
      refine ⟨fun hne => ?_, fun heq r hr => ?_⟩
      · refine Ev.step (fun k => laws_eqCondS.l0.eq_2 ..) ?_
        simp only [if_pos (lt_at h), if_pos (nonneg_at _), if_pos h4, rd_implCond h, h3]
        refine Ev.bind h5 ?_
        simp only [hne, decide_false, Bool.false_eq_true, if_false]
        exact Ev.now _
      · refine Ev.step (fun k => laws_eqCondS.l0.eq_2 ..) ?_
        simp only [if_pos (lt_at h), if_pos (nonneg_at _), if_pos h4, rd_implCond h, h3]
        refine Ev.bind h5 ?_
        simp only [heq, decide_true, if_true, next_at h hl]
        rw [heq] at hr
        exact hr
  · simp only [if_neg e]
    rw [show decide (a = b) = false from decide_eq_false (fun h => e (by rw [h]))]
    exact Ev.now _
end Go.Proofs.Ytigoeooelfeopaa.L

/- The laws' own functions over lists of lists of conditions: size, copy, equality. No condition. -/
set_option linter.unusedSimpArgs false
set_option linter.unusedVariables false
namespace Go.Proofs.Ytigoeooelfeopaa.L
open Go.RowKit Go.Proofs.YtigoeooelfeopaaW.PrintWords Go.Proofs.YtigoeooelfeopaaW.PrintLast Go.Proofs.Ytigoeooelfeopaa.Q
theorem rd_lawsCondL {l pre suf : List (List S72)} {a : List S72} (h : l = pre ++ a :: suf) : rd_L4 l (pre.length : Int) = a := getD_at _ h
theorem rd_implCondL {l pre suf : List (List S58)} {a : List S58} (h : l = pre ++ a :: suf) : rd_L6 l (pre.length : Int) = a := getD_at _ h
def SmCondss (l : List (List S58)) : Prop := l.length ≤ 1048576 ∧ ∀ s ∈ l, SmConds s
theorem toCondSS {p : List (List S72)} (hp : SmCondss (p.map (List.map toCond))) : Ev (fun k => laws_toCondSS.f k p) (p.map (List.map toCond)) := by
  obtain ⟨hl0, hs⟩ := hp
  rw [List.length_map] at hl0
  have hl2 : p.length ≤ maxLen := by rw [maxLen_eq]; omega
  unfold laws_toCondSS.f
  simp only [if_pos (nonneg_at _), Int.toNat_natCast, if_pos (show p.length ≤ 11728124029610 by omega)]
  refine to_loop (l := p) (f := List.map toCond) (fun k out i => laws_toCondSS.l0 k p out i) ?_ ?_ p [] _ (List.replicate p.length []) rfl rfl (by simp)
  · intro out
    refine Ev.step (fun k => laws_toCondSS.l0.eq_2 ..) ?_
    simp only [Int.lt_irrefl, if_false]
    exact Ev.now _
  · intro pre a suf out h ho r hr
    refine Ev.step (fun k => laws_toCondSS.l0.eq_2 ..) ?_
    simp only [if_pos (lt_at h), if_pos (nonneg_at _), rd_lawsCondL h, next_at h hl2]
    refine Ev.bind (toCondS (hs _ (List.mem_map.2 ⟨a, by rw [h]; simp, rfl⟩))) ?_
    simp only [if_pos ho]
    exact hr
theorem eqCondSS {a b : List (List S58)} (ha : SmCondss a) : Ev (fun k => laws_eqCondSS.f k a b) (decide (a = b)) := by
  have hl : a.length ≤ maxLen := by have := ha.1; rw [maxLen_eq]; omega
  unfold laws_eqCondSS.f
  by_cases e : (a.length : Int) = (b.length : Int)
  · simp only [if_pos e]
    refine eq_loop (a := a) (b := b) (fun k i => laws_eqCondSS.l0 k a b i) ?_ ?_ a b [] [] rfl rfl rfl (by omega)
    · refine Ev.step (fun k => laws_eqCondSS.l0.eq_2 ..) ?_
      simp only [Int.lt_irrefl, if_false]
      exact Ev.now _
    · intro pre x su pre' y sv h h' hp
      have h3 := rd_implCondL h'
      have h4 := lt_at h'
      rw [← hp] at h3 h4
      have hx := ha.2 x (by rw [h]; simp)
      refine ⟨fun hne => ?_, fun heq r hr => ?_⟩
      · refine Ev.step (fun k => laws_eqCondSS.l0.eq_2 ..) ?_
        simp only [if_pos (lt_at h), if_pos (nonneg_at _), if_pos h4, rd_implCondL h, h3]
        refine Ev.bind (eqCondS hx) ?_
        simp only [hne, decide_false, Bool.false_eq_true, if_false]
        exact Ev.now _
      · refine Ev.step (fun k => laws_eqCondSS.l0.eq_2 ..) ?_
        simp only [if_pos (lt_at h), if_pos (nonneg_at _), if_pos h4, rd_implCondL h, h3]
        refine Ev.bind (eqCondS hx) ?_
        simp only [heq, decide_true, if_true, next_at h hl]
        rw [heq] at hr
        exact hr
  · simp only [if_neg e]
    rw [show decide (a = b) = false from decide_eq_false (fun h => e (by rw [h]))]
    exact Ev.now _
end Go.Proofs.Ytigoeooelfeopaa.L

/- The laws' own functions over lists of numbers: size, copy, equality. No condition. -/
set_option linter.unusedSimpArgs false
set_option linter.unusedVariables false
namespace Go.Proofs.Ytigoeooelfeopaa.L
open Go.RowKit Go.Proofs.YtigoeooelfeopaaW.PrintWords Go.Proofs.YtigoeooelfeopaaW.PrintLast Go.Proofs.Ytigoeooelfeopaa.Q
theorem rd_int {l pre suf : List Int} {a : Int} (h : l = pre ++ a :: suf) : rd l (pre.length : Int) = a := getD_at _ h
theorem eqInts {a b : List Int} (hl : a.length ≤ maxLen) : Ev (fun k => laws_eqIntS.f k a b) (decide (a = b)) := by
  unfold laws_eqIntS.f
  by_cases e : (a.length : Int) = (b.length : Int)
  · simp only [if_pos e]
    refine eq_loop (a := a) (b := b) (fun k i => laws_eqIntS.l0 k a b i) ?_ ?_ a b [] [] rfl rfl rfl (by omega)
    · refine Ev.step (fun k => laws_eqIntS.l0.eq_2 ..) ?_
      simp only [Int.lt_irrefl, if_false]
      exact Ev.now _
    · intro pre x su pre' y sv h h' hp
      have h3 := rd_int h'
      have h4 := lt_at h'
      rw [← hp] at h3 h4
      refine ⟨fun hne => ?_, fun heq r hr => ?_⟩
      · refine Ev.step (fun k => laws_eqIntS.l0.eq_2 ..) ?_
        simp only [if_pos (lt_at h), if_pos (nonneg_at _), if_pos h4, rd_int h, h3, if_neg hne]
        exact Ev.now _
      · refine Ev.step (fun k => laws_eqIntS.l0.eq_2 ..) ?_
        simp only [if_pos (lt_at h), if_pos (nonneg_at _), if_pos h4, rd_int h, h3, heq, if_true, next_at h hl]
        rw [heq] at hr
        exact hr
  · simp only [if_neg e]
    rw [show decide (a = b) = false from decide_eq_false (fun h => e (by rw [h]))]
    exact Ev.now _
end Go.Proofs.Ytigoeooelfeopaa.L

/- The tokens that are told; as the program and the reference have it. No condition. -/
set_option linter.unusedSimpArgs false
set_option linter.unusedVariables false
namespace Go.Proofs.Ytigoeooelfeopaa.L
open Go.RowKit Go.Proofs.YtigoeooelfeopaaW.PrintWords Go.Proofs.YtigoeooelfeopaaW.PrintLast Go.Proofs.Ytigoeooelfeopaa.Q
def toldL (s : List S58) : List Int := (s.filter (fun c => !(decide (c.f1 = 0)) && !c.f0)).map (fun c => c.f1)
def submitted (t : List (List S58)) : List Int := t.flatMap toldL
theorem told_cons (c : S58) (s : List S58) : toldL (c :: s) = if c.f1 = 0 then toldL s else if c.f0 = true then toldL s else c.f1 :: toldL s := by
  unfold toldL
  by_cases h : c.f1 = 0 <;> cases h2 : c.f0 <;> simp [List.filter_cons, h, h2]
theorem told_length (s : List S58) : (toldL s).length ≤ s.length := by
  unfold toldL; rw [List.length_map]; exact List.length_filter_le _ _
def total (t : List (List S58)) : Nat := (t.map List.length).sum
theorem submitted_length (t : List (List S58)) : (submitted t).length ≤ total t := by
  induction t with
  | nil => exact Nat.le_refl _
  | cons s t ih =>
    have := told_length s
    simp only [submitted, List.flatMap_cons, List.length_append, total, List.map_cons, List.sum_cons] at ih ⊢
    omega
/-- The size of a list of lists: too great, or all of it is small, and there are not many in all. -/
theorem szCondSt {l : List (List S72)} (hl : l.length ≤ maxLen) (hs : ∀ s ∈ l, s.length ≤ maxLen ∧ ∀ y ∈ s, GGCond y) {n : Int} (h0 : 0 ≤ n) (h1 : n ≤ 1048576) : Sz (fun k => laws_szCondSS.f k l n) n (SmCondss (l.map (List.map toCond)) ∧ total (l.map (List.map toCond)) ≤ 1048576) := by
  have hl' := hl
  rw [maxLen_eq] at hl'
  unfold laws_szCondSS.f
  simp only [wrap_id (x := n - (l.length : Int)) (by omega) (by omega)]
  refine Sz.sub (by omega) (fun hlt => ?_)
  have one : ∀ (s : List S72), s ∈ l → ∀ n : Int, 0 ≤ n → n ≤ 1048576 → Ev (fun k => laws_szCondS.f k s n) (-1) ∨ ∃ m : Int, 0 ≤ m ∧ m + s.length ≤ n ∧ Ev (fun k => laws_szCondS.f k s n) m ∧ SmConds (s.map toCond) := by
    intro s hsl n h0 h1
    obtain ⟨g, gg⟩ := hs s hsl
    have g' := g
    rw [maxLen_eq] at g'
    by_cases c : n - (s.length : Int) < 0
    · left
      unfold laws_szCondS.f
      simp only [wrap_id (x := n - (s.length : Int)) (by omega) (by omega), if_pos c]
      exact Ev.now _
    · have key : Sz (fun k => laws_szCondS.l0 k s (n - s.length) 0) (n - s.length) (∀ p ∈ s, SmCond (toCond p)) := by
        refine sz_loop (l := s) (P := fun p => SmCond (toCond p)) (fun k n i => laws_szCondS.l0 k s n i) ?_ ?_ s [] (n - s.length) rfl (by omega) (by omega)
        · intro n
          refine Ev.step (fun k => laws_szCondS.l0.eq_2 ..) ?_
          simp only [Int.lt_irrefl, if_false]
          exact Ev.now _
        · intro pre a suf n h h0 h1
          rcases szCond (gg a (by rw [h]; simp)) h0 h1 with h2 | ⟨m, hm0, hm1, h2, h3⟩
          · left
            refine Ev.step (fun k => laws_szCondS.l0.eq_2 ..) ?_
            simp only [if_pos (lt_at h), if_pos (nonneg_at _), rd_lawsCond h]
            refine Ev.bind h2 ?_
            simp only [show (-1 : Int) < 0 by omega, if_true]
            exact Ev.now _
          · refine .inr ⟨m, hm0, hm1, h3, fun r hr => ?_⟩
            refine Ev.step (fun k => laws_szCondS.l0.eq_2 ..) ?_
            simp only [if_pos (lt_at h), if_pos (nonneg_at _), rd_lawsCond h]
            refine Ev.bind h2 ?_
            simp only [if_neg (show ¬ m < 0 by omega), next_at h g]
            exact hr
      unfold laws_szCondS.f
      simp only [wrap_id (x := n - (s.length : Int)) (by omega) (by omega), if_neg c]
      rcases key with h | ⟨m, hm0, hm1, h2, h3⟩
      · exact .inl h
      · refine .inr ⟨m, hm0, by omega, h2, by simp; omega, fun p hp => ?_⟩
        obtain ⟨q, hq, rfl⟩ := List.mem_map.1 hp
        exact h3 q hq
  have key : ∀ (suf pre : List (List S72)) (n : Int), l = pre ++ suf → 0 ≤ n → n ≤ 1048576 → Sz (fun k => laws_szCondSS.l0 k l n pre.length) n ((∀ p ∈ suf, SmConds (p.map toCond)) ∧ ((suf.map List.length).sum : Int) ≤ n) := by
    intro suf
    induction suf with
    | nil =>
      intro pre n h h0 h1
      refine .inr ⟨n, h0, Int.le_refl _, ?_, by simp, by simpa using h0⟩
      refine Ev.step (fun k => laws_szCondSS.l0.eq_2 ..) ?_
      simp only [if_neg (end_at h)]
      exact Ev.now _
    | cons a suf ih =>
      intro pre n h h0 h1
      rcases one a (by rw [h]; simp) n h0 h1 with h2 | ⟨m, hm0, hm1, h2, h3⟩
      · left
        refine Ev.step (fun k => laws_szCondSS.l0.eq_2 ..) ?_
        simp only [if_pos (lt_at h), if_pos (nonneg_at _), rd_lawsCondL h]
        refine Ev.bind h2 ?_
        simp only [show (-1 : Int) < 0 by omega, if_true]
        exact Ev.now _
      · have st : ∀ r, Ev (fun k => laws_szCondSS.l0 k l m (pre ++ [a]).length) r → Ev (fun k => laws_szCondSS.l0 k l n pre.length) r := fun r hr => by
          refine Ev.step (fun k => laws_szCondSS.l0.eq_2 ..) ?_
          simp only [if_pos (lt_at h), if_pos (nonneg_at _), rd_lawsCondL h, next_at h hl]
          refine Ev.bind h2 ?_
          simp only [if_neg (show ¬ m < 0 by omega)]
          exact hr
        rcases ih (pre ++ [a]) m (snoc_at h) hm0 (by omega) with h4 | ⟨m', hm0', hm1', h4, h5, h6⟩
        · exact .inl (st _ h4)
        · refine .inr ⟨m', hm0', by omega, st _ h4, fun p hp => ?_, ?_⟩
          · rcases List.mem_cons.1 hp with rfl | hp
            · exact h3
            · exact h5 p hp
          · simp only [List.map_cons, List.sum_cons, Int.natCast_add]; omega
  rcases key l [] (n - l.length) rfl (by omega) (by omega) with h | ⟨m, hm0, hm1, h2, h3, h4⟩
  · exact .inl h
  · refine .inr ⟨m, hm0, hm1, h2, ⟨by simp; omega, fun p hp => ?_⟩, ?_⟩
    · obtain ⟨q, hq, rfl⟩ := List.mem_map.1 hp
      exact h3 q hq
    · have : ((l.map (List.map toCond)).map List.length) = l.map List.length := by simp [List.map_map, Function.comp_def]
      unfold total; rw [this]; omega
theorem specSubmitted {t : List (List S58)} (ht : SmCondss t) (htt : total t ≤ 1048576) : Ev (fun k => spec_Submitted.f k t) (submitted t) := by
  have hl : t.length ≤ maxLen := by have := ht.1; rw [maxLen_eq]; omega
  have inner : ∀ (a : List S58) (suf pre : List (List S58)) (R : List Int → List Int) (N : Nat), t = pre ++ a :: suf → (∀ out, out.length ≤ N → Ev (fun k => spec_Submitted.l0 k t out (wrap64 ((pre.length : Int) + 1))) (R out)) → N ≤ 1048576 → ∀ (su pr : List S58) (out : List Int), a = pr ++ su → out.length + su.length ≤ N → Ev (fun k => spec_Submitted.l1 k t out pre.length pr.length) (R (out ++ toldL su)) := by
    intro a suf pre R N h hR hN su
    have hal : a.length ≤ maxLen := by have := (ht.2 a (by rw [h]; simp)).1; rw [maxLen_eq]; omega
    induction su with
    | nil =>
      intro pr out hp ho
      refine Ev.step (fun k => spec_Submitted.l1.eq_2 ..) ?_
      simp only [if_pos (lt_at h), if_pos (nonneg_at _), rd_implCondL h, if_neg (end_at hp)]
      exact ev_cast (hR out (by simpa using ho)) (by simp [toldL])
    | cons c su ih =>
      intro pr out hp ho
      rw [List.length_cons] at ho
      refine Ev.step (fun k => spec_Submitted.l1.eq_2 ..) ?_
      simp only [if_pos (lt_at h), if_pos (nonneg_at _), rd_implCondL h, if_pos (lt_at hp), rd_implCond hp, told_cons, next_at hp hal]
      by_cases c0 : c.f1 = 0
      · simp only [if_pos c0]; exact ih (pr ++ [c]) out (snoc_at hp) (by omega)
      · simp only [if_neg c0]
        by_cases c1 : c.f0 = true
        · simp only [if_pos c1]; exact ih (pr ++ [c]) out (snoc_at hp) (by omega)
        · simp only [if_neg c1, show out.length < 17592186044416 by omega, if_true]
          exact ev_cast (ih (pr ++ [c]) (out ++ [c.f1]) (snoc_at hp) (by simp; omega)) (by simp)
  have key : ∀ (suf pre : List (List S58)) (out : List Int), t = pre ++ suf → out.length + total suf ≤ 1048576 → Ev (fun k => spec_Submitted.l0 k t out pre.length) (out ++ submitted suf) := by
    intro suf
    induction suf with
    | nil =>
      intro pre out h ho
      refine Ev.step (fun k => spec_Submitted.l0.eq_2 ..) ?_
      simp only [if_neg (end_at h), submitted, List.flatMap_nil, List.append_nil]
      exact Ev.now _
    | cons a suf ih =>
      intro pre out h ho
      simp only [total, List.map_cons, List.sum_cons] at ho
      refine Ev.step (fun k => spec_Submitted.l0.eq_2 ..) ?_
      simp only [if_pos (lt_at h)]
      refine ev_cast (inner a suf pre (fun o => o ++ submitted suf) (1048576 - total suf) h (fun o hO => ?_) (by omega) a [] out rfl (by simp only [total]; omega)) (by simp [submitted])
      have := ih (pre ++ [a]) o (snoc_at h) (by simp only [total] at hO ⊢; omega)
      rwa [← next_at h hl] at this
  exact key t [] [] rfl (by simpa using htt)
theorem implSubmitted {t : List (List S58)} (ht : SmCondss t) (htt : total t ≤ 1048576) : Ev (fun k => impl_Submitted.f k t) (submitted t) := by
  have hl : t.length ≤ maxLen := by have := ht.1; rw [maxLen_eq]; omega
  have inner : ∀ (a : List S58) (suf pre : List (List S58)) (R : List Int → List Int) (N : Nat), t = pre ++ a :: suf → (∀ out, out.length ≤ N → Ev (fun k => impl_Submitted.l0 k out t (t.length : Int) (wrap64 ((pre.length : Int) + 1))) (R out)) → N ≤ 1048576 → ∀ (su pr : List S58) (out : List Int), a = pr ++ su → out.length + su.length ≤ N → Ev (fun k => impl_Submitted.l1 k out t (t.length : Int) pre.length a (a.length : Int) pr.length) (R (out ++ toldL su)) := by
    intro a suf pre R N h hR hN su
    have hal : a.length ≤ maxLen := by have := (ht.2 a (by rw [h]; simp)).1; rw [maxLen_eq]; omega
    induction su with
    | nil =>
      intro pr out hp ho
      refine Ev.step (fun k => impl_Submitted.l1.eq_2 ..) ?_
      simp only [if_neg (end_at hp)]
      exact ev_cast (hR out (by simpa using ho)) (by simp [toldL])
    | cons c su ih =>
      intro pr out hp ho
      rw [List.length_cons] at ho
      refine Ev.step (fun k => impl_Submitted.l1.eq_2 ..) ?_
      simp only [if_pos (nonneg_at _), if_pos (lt_at hp), rd_implCond hp, told_cons, next_at hp hal]
      by_cases c0 : c.f1 = 0
      · simp only [if_pos c0]; exact ih (pr ++ [c]) out (snoc_at hp) (by omega)
      · simp only [if_neg c0]
        by_cases c1 : c.f0 = true
        · simp only [if_pos c1]; exact ih (pr ++ [c]) out (snoc_at hp) (by omega)
        · simp only [if_neg c1, show out.length < 17592186044416 by omega, if_true]
          exact ev_cast (ih (pr ++ [c]) (out ++ [c.f1]) (snoc_at hp) (by simp; omega)) (by simp)
  have key : ∀ (suf pre : List (List S58)) (out : List Int), t = pre ++ suf → out.length + total suf ≤ 1048576 → Ev (fun k => impl_Submitted.l0 k out t (t.length : Int) pre.length) (out ++ submitted suf) := by
    intro suf
    induction suf with
    | nil =>
      intro pre out h ho
      refine Ev.step (fun k => impl_Submitted.l0.eq_2 ..) ?_
      simp only [if_neg (end_at h), submitted, List.flatMap_nil, List.append_nil]
      exact Ev.now _
    | cons a suf ih =>
      intro pre out h ho
      simp only [total, List.map_cons, List.sum_cons] at ho
      refine Ev.step (fun k => impl_Submitted.l0.eq_2 ..) ?_
      simp only [if_pos (lt_at h), if_pos (nonneg_at _), rd_implCondL h]
      refine ev_cast (inner a suf pre (fun o => o ++ submitted suf) (1048576 - total suf) h (fun o hO => ?_) (by omega) a [] out rfl (by simp only [total]; omega)) (by simp [submitted])
      have := ih (pre ++ [a]) o (snoc_at h) (by simp only [total] at hO ⊢; omega)
      rwa [← next_at h hl] at this
  exact key t [] [] rfl (by simpa using htt)
end Go.Proofs.Ytigoeooelfeopaa.L

/- The laws' marks on lists of texts: what they write, and that it is found again. No condition. -/
set_option linter.unusedSimpArgs false
set_option linter.unusedVariables false
namespace Go.Proofs.Ytigoeooelfeopaa.L
open Go.RowKit Go.Proofs.YtigoeooelfeopaaW.PrintWords Go.Proofs.YtigoeooelfeopaaW.PrintLast Go.Proofs.Ytigoeooelfeopaa.Q
theorem strOfNums_size (n : Int) : (strOfNums [n]).size = 1 := rfl
theorem mark_loop : ∀ (d : Nat) (k : Nat) (i : Int) (s : ByteArray), 0 ≤ i → i < 10 ^ d → i < 9223372036854775808 → d < k → s.size + d + 1 ≤ 9223372036854775807 → ∃ t, laws_markText.l0 k i s = some t := by
  intro d
  induction d with
  | zero =>
    intro k i s h0 h1 hb hk hs
    obtain ⟨k, rfl⟩ : ∃ m, k = m + 1 := ⟨k - 1, by omega⟩
    simp only [laws_markText.l0]
    rw [if_neg (by simp at h1; omega), if_pos (by omega)]
    exact ⟨_, rfl⟩
  | succ d ih =>
    intro k i s h0 h1 hb hk hs
    obtain ⟨k, rfl⟩ : ∃ m, k = m + 1 := ⟨k - 1, by omega⟩
    simp only [laws_markText.l0, Option.bind_some]
    by_cases hi : i > 0
    · rw [if_pos hi, if_pos (by rw [strOfNums_size]; omega)]
      have hd : Int.tdiv i 10 = i / 10 := Int.tdiv_eq_ediv_of_nonneg h0
      have hq : 0 ≤ i / 10 ∧ i / 10 ≤ i := ⟨by omega, by omega⟩
      rw [hd, wrap_id (by omega) (by omega)]
      refine ih k _ _ hq.1 ?_ (by omega) (by omega) ?_
      · rw [Int.pow_succ] at h1; omega
      · rw [ByteArray.size_append, strOfNums_size]; omega
    · rw [if_neg hi, if_pos (by omega)]
      exact ⟨_, rfl⟩
/-- The mark of a number: there is one from 32 rounds on, and it is one and the same. -/
theorem mark_some {i : Int} (h0 : 0 ≤ i) (h1 : i < 1152921504606846976) : ∃ t, ∀ k, 32 ≤ k → laws_markText.f k i = some t := by
  have h : ∃ t, laws_markText.f 32 i = some t := by
    unfold laws_markText.f
    by_cases e : i ≤ 0
    · rw [if_pos e]; exact ⟨_, rfl⟩
    · rw [if_neg e]
      exact mark_loop 19 32 i _ h0 (by omega) (by omega) (by omega) (by show 0 + 19 + 1 ≤ _; omega)
  obtain ⟨t, ht⟩ := h
  exact ⟨t, fun k hk => at_rounds (fun k => laws_markText.mono i k) hk ht⟩
/-- The marks, as a function. -/
noncomputable def mt (i : Int) : ByteArray := by
  classical
  exact if h : 0 ≤ i ∧ i < 1152921504606846976 then Classical.choose (mark_some h.1 h.2) else ⟨#[]⟩
theorem mt_spec {i : Int} (h0 : 0 ≤ i) (h1 : i < 1152921504606846976) {k : Nat} (hk : 32 ≤ k) : laws_markText.f k i = some (mt i) := by
  unfold mt
  rw [dif_pos ⟨h0, h1⟩]
  exact Classical.choose_spec (mark_some h0 h1) k hk
theorem mt_ev {i : Int} (h0 : 0 ≤ i) (h1 : i < 1152921504606846976) : Ev (fun k => laws_markText.f k i) (mt i) := ⟨32, fun _ hk => mt_spec h0 h1 hk⟩
/-- n marks from i on. -/
noncomputable def marks : Nat → Int → List ByteArray
  | 0, _ => []
  | n + 1, i => mt i :: marks n (i + 1)
end Go.Proofs.Ytigoeooelfeopaa.L

/- Marks: a loop that marks. No condition. -/
set_option linter.unusedSimpArgs false
set_option linter.unusedVariables false
namespace Go.Proofs.Ytigoeooelfeopaa.L
open Go.RowKit Go.Proofs.YtigoeooelfeopaaW.PrintWords Go.Proofs.YtigoeooelfeopaaW.PrintLast Go.Proofs.Ytigoeooelfeopaa.Q
/-- What marks a list from a number on. -/
def MK {α : Type} (mk : Nat → List α → Int → Option (Int × List α)) (l : List α) (i C : Int) : Prop :=
  ∃ n l', l'.length = l.length ∧ i ≤ n ∧ n ≤ i + C ∧ Ev (fun k => mk k l i) (n, l') ∧ True
theorem mk_loop {α : Type} (mk : Nat → List α → Int → Int → Option (Int × List α)) (P : α → Prop) (C : Int) (hC : 0 ≤ C)
    (me : ∀ (x : List α) i, Ev (fun k => mk k x i x.length) (i, x))
    (st : ∀ a i, P a → 0 ≤ i → i + C ≤ 70368744177664 → ∃ n a', i ≤ n ∧ n ≤ i + C ∧
      (∀ x pre suf, x = pre ++ a :: suf → x.length ≤ 1048576 → ∀ r, Ev (fun k => mk k (pre ++ a' :: suf) n ((pre ++ [a']).length : Int)) r → Ev (fun k => mk k x i (pre.length : Int)) r)) :
    ∀ (suf : List α) (i : Int), (∀ a ∈ suf, P a) → 0 ≤ i → i + C * suf.length ≤ 70368744177664 → ∃ n suf', suf'.length = suf.length ∧ i ≤ n ∧ n ≤ i + C * suf.length ∧
      (∀ pre : List α, (pre ++ suf).length ≤ 1048576 → Ev (fun k => mk k (pre ++ suf) i pre.length) (n, pre ++ suf')) := by
  intro suf
  induction suf with
  | nil =>
    intro i _ h0 h1
    refine ⟨i, [], rfl, Int.le_refl _, by simp, fun pre _ => ?_⟩
    have := me pre i; simpa using this
  | cons a suf ih =>
    intro i hP h0 h1
    have hm : C * ((a :: suf).length : Int) = C * suf.length + C := by rw [List.length_cons, Int.natCast_add, Int.mul_add]; simp
    have hp : 0 ≤ C * (suf.length : Int) := Int.mul_nonneg hC (Int.natCast_nonneg _)
    rw [hm] at h1 ⊢
    obtain ⟨n, a', hn0, hn1, hmk⟩ := st a i (hP a (by simp)) h0 (by omega)
    obtain ⟨n2, suf', hl, hn2, hn3, hmk2⟩ := ih n (fun x hx => hP x (by simp [hx])) (by omega) (by omega)
    refine ⟨n2, a' :: suf', by simp [hl], by omega, by omega, fun pre hpre => ?_⟩
    refine hmk _ pre suf rfl hpre _ ?_
    have := hmk2 (pre ++ [a']) (by simp at hpre ⊢; omega)
    simpa using this
end Go.Proofs.Ytigoeooelfeopaa.L

/- Marks on conditions. No condition. -/
set_option linter.unusedSimpArgs false
set_option linter.unusedVariables false
namespace Go.Proofs.Ytigoeooelfeopaa.L
open Go.RowKit Go.Proofs.YtigoeooelfeopaaW.PrintWords Go.Proofs.YtigoeooelfeopaaW.PrintLast Go.Proofs.Ytigoeooelfeopaa.Q
theorem mkCond {l : List S58} (hl : l.length ≤ 1048576) {i : Int} (h0 : 0 ≤ i) (h1 : i + 3145728 ≤ 70368744177664) : MK laws_markCondS.f l i 3145728 := by
  obtain ⟨n, l', e0, e1, e2, e3⟩ := mk_loop (fun k x i j => laws_markCondS.l0 k x i j) (fun _ => True) 3 (by omega)
    (fun x i => by
      refine Ev.step (fun k => laws_markCondS.l0.eq_2 ..) ?_
      simp only [Int.lt_irrefl, if_false]; exact Ev.now _)
    (fun a i _ h0 h1 => by
      have w1 : wrap64 (i + 1) = i + 1 := wrap_id (by omega) (by omega)
      have w2 : wrap64 (i + 1 + 1) = i + 1 + 1 := wrap_id (by omega) (by omega)
      have w3 : wrap64 (i + 1 + 1 + 1) = i + 1 + 1 + 1 := wrap_id (by omega) (by omega)
      refine ⟨i + 1 + 1 + 1, ⟨(Int.tmod i 3 == 0), i + 1, mt (i + 1 + 1)⟩, by omega, by omega, fun x pre suf h hx r hr => ?_⟩
      have hx2 : x.length ≤ maxLen := by rw [maxLen_eq]; omega
      have h2 : pre ++ [⟨(Int.tmod i 3 == 0), a.f1, a.f2⟩] ++ suf = pre ++ (⟨(Int.tmod i 3 == 0), a.f1, a.f2⟩ : S58) :: suf := by simp
      have h3 : pre ++ [⟨(Int.tmod i 3 == 0), i + 1, a.f2⟩] ++ suf = pre ++ (⟨(Int.tmod i 3 == 0), i + 1, a.f2⟩ : S58) :: suf := by simp
      refine Ev.step (fun k => laws_markCondS.l0.eq_2 ..) ?_
      simp only [if_pos (lt_at h), if_pos (nonneg_at _), Option.bind_some, set_at h, rd_implCond h, w1, set_at h2, rd_implCond h2, w2]
      refine Ev.bind (mt_ev (by omega) (by omega)) ?_
      simp only [set_at h3, rd_implCond h3, w3, next_at h hx2]
      simpa using hr) l i (fun _ _ => trivial) h0 (by omega)
  refine ⟨n, l', e0, e1, by omega, ?_, trivial⟩
  exact e3 [] (by simpa using hl)
theorem rdmark_at {l pre suf : List (List S58)} {a : List S58} (h : l = pre ++ a :: suf) : rdmarkCondSS l (pre.length : Int) = a := getD_at _ h
theorem mkCondSS {l : List (List S58)} (hl : SmCondss l) {i : Int} (h0 : 0 ≤ i) (h1 : i + 3298534883328 ≤ 70368744177664) : MK laws_markCondSS.f l i 3298534883328 := by
  have hl0 := hl.1
  obtain ⟨n, l', e0, e1, e2, e3⟩ := mk_loop (fun k x i j => laws_markCondSS.l0 k x i j) (fun s => s.length ≤ 1048576) 3145728 (by omega)
    (fun x i => by
      refine Ev.step (fun k => laws_markCondSS.l0.eq_2 ..) ?_
      simp only [Int.lt_irrefl, if_false]; exact Ev.now _)
    (fun a i ha h0 h1 => by
      obtain ⟨n1, p', _, a1, a2, a3, _⟩ := mkCond ha h0 h1
      refine ⟨n1, p', by omega, by omega, fun x pre suf h hx r hr => ?_⟩
      have hx2 : x.length ≤ maxLen := by rw [maxLen_eq]; omega
      refine Ev.step (fun k => laws_markCondSS.l0.eq_2 ..) ?_
      simp only [if_pos (lt_at h), if_pos (nonneg_at _), rdmark_at h]
      refine Ev.bind a3 ?_
      have hs := set_at (b := p') h
      simp only [Int.toNat_natCast] at hs
      simp only [Int.toNat_natCast, hs, next_at h hx2]
      simpa using hr) l i (fun s hs => (hl.2 s hs).1) h0 (by omega)
  refine ⟨n, l', e0, e1, by omega, ?_, trivial⟩
  exact e3 [] (by simpa using hl.1)
end Go.Proofs.Ytigoeooelfeopaa.L

/- Marks that are found again: a loop that marks, a loop that looks. No condition. -/
set_option linter.unusedSimpArgs false
set_option linter.unusedVariables false
namespace Go.Proofs.Ytigoeooelfeopaa.L
open Go.RowKit Go.Proofs.YtigoeooelfeopaaW.PrintWords Go.Proofs.YtigoeooelfeopaaW.PrintLast Go.Proofs.Ytigoeooelfeopaa.Q
/-- What marks a list from a number on, and what finds the marks again. -/
def MH {α : Type} (mk : Nat → List α → Int → Option (Int × List α)) (hd : Nat → List α → Int → Option Int) (l : List α) (i C : Int) : Prop :=
  ∃ n l', l'.length = l.length ∧ i ≤ n ∧ n ≤ i + C ∧ Ev (fun k => mk k l i) (n, l') ∧ Ev (fun k => hd k l' i) n
theorem mh_loop {α : Type} (mk : Nat → List α → Int → Int → Option (Int × List α)) (hd : Nat → List α → Int → Int → Option Int) (P : α → Prop) (C : Int) (hC : 0 ≤ C)
    (me : ∀ (x : List α) i, Ev (fun k => mk k x i x.length) (i, x)) (he : ∀ (y : List α) i, Ev (fun k => hd k y i y.length) i)
    (st : ∀ a i, P a → 0 ≤ i → i + C ≤ 70368744177664 → ∃ n a', i ≤ n ∧ n ≤ i + C ∧
      (∀ x pre suf, x = pre ++ a :: suf → x.length ≤ 1048576 → ∀ r, Ev (fun k => mk k (pre ++ a' :: suf) n ((pre ++ [a']).length : Int)) r → Ev (fun k => mk k x i (pre.length : Int)) r) ∧
      (∀ y pre suf, y = pre ++ a' :: suf → y.length ≤ 1048576 → ∀ r, Ev (fun k => hd k y n ((pre ++ [a']).length : Int)) r → Ev (fun k => hd k y i (pre.length : Int)) r)) :
    ∀ (suf : List α) (i : Int), (∀ a ∈ suf, P a) → 0 ≤ i → i + C * suf.length ≤ 70368744177664 → ∃ n suf', suf'.length = suf.length ∧ i ≤ n ∧ n ≤ i + C * suf.length ∧
      (∀ pre : List α, (pre ++ suf).length ≤ 1048576 → Ev (fun k => mk k (pre ++ suf) i pre.length) (n, pre ++ suf')) ∧ (∀ pre : List α, (pre ++ suf').length ≤ 1048576 → Ev (fun k => hd k (pre ++ suf') i pre.length) n) := by
  intro suf
  induction suf with
  | nil =>
    intro i _ h0 h1
    refine ⟨i, [], rfl, Int.le_refl _, by simp, fun pre _ => ?_, fun pre _ => ?_⟩
    · have := me pre i; simpa using this
    · have := he pre i; simpa using this
  | cons a suf ih =>
    intro i hP h0 h1
    have hm : C * ((a :: suf).length : Int) = C * suf.length + C := by rw [List.length_cons, Int.natCast_add, Int.mul_add]; simp
    have hp : 0 ≤ C * (suf.length : Int) := Int.mul_nonneg hC (Int.natCast_nonneg _)
    rw [hm] at h1 ⊢
    obtain ⟨n, a', hn0, hn1, hmk, hhd⟩ := st a i (hP a (by simp)) h0 (by omega)
    obtain ⟨n2, suf', hl, hn2, hn3, hmk2, hhd2⟩ := ih n (fun x hx => hP x (by simp [hx])) (by omega) (by omega)
    refine ⟨n2, a' :: suf', by simp [hl], by omega, by omega, fun pre hpre => ?_, fun pre hpre => ?_⟩
    · refine hmk _ pre suf rfl hpre _ ?_
      have := hmk2 (pre ++ [a']) (by simp at hpre ⊢; omega)
      simpa using this
    · refine hhd _ pre suf' rfl hpre _ ?_
      have := hhd2 (pre ++ [a']) (by simp at hpre ⊢; omega)
      simpa using this
end Go.Proofs.Ytigoeooelfeopaa.L

/- Marks on numbers, found again. No condition. -/
set_option linter.unusedSimpArgs false
set_option linter.unusedVariables false
namespace Go.Proofs.Ytigoeooelfeopaa.L
open Go.RowKit Go.Proofs.YtigoeooelfeopaaW.PrintWords Go.Proofs.YtigoeooelfeopaaW.PrintLast Go.Proofs.Ytigoeooelfeopaa.Q
theorem mhInts {l : List Int} (hl : l.length ≤ 1048576) {i : Int} (h0 : 0 ≤ i) (h1 : i + 1048576 ≤ 70368744177664) : MH laws_markIntS.f laws_heldIntS.f l i 1048576 := by
  obtain ⟨n, l', e0, e1, e2, e3, e4⟩ := mh_loop (fun k x i j => laws_markIntS.l0 k x i j) (fun k x i j => laws_heldIntS.l0 k x i j) (fun _ => True) 1 (by omega)
    (fun x i => by
      refine Ev.step (fun k => laws_markIntS.l0.eq_2 ..) ?_
      simp only [Int.lt_irrefl, if_false]; exact Ev.now _)
    (fun x i => by
      refine Ev.step (fun k => laws_heldIntS.l0.eq_2 ..) ?_
      simp only [Int.lt_irrefl, if_false]; exact Ev.now _)
    (fun a i _ h0 h1 => by
      have w1 : wrap64 (i + 1) = i + 1 := wrap_id (by omega) (by omega)
      refine ⟨i + 1, i, by omega, by omega, fun x pre suf h hx r hr => ?_, fun y pre suf h hy r hr => ?_⟩
      · have hx2 : x.length ≤ maxLen := by rw [maxLen_eq]; omega
        refine Ev.step (fun k => laws_markIntS.l0.eq_2 ..) ?_
        simp only [if_pos (lt_at h), if_pos (nonneg_at _), set_at h, w1, next_at h hx2]
        simpa using hr
      · have hy2 : y.length ≤ maxLen := by rw [maxLen_eq]; omega
        refine Ev.step (fun k => laws_heldIntS.l0.eq_2 ..) ?_
        simp only [if_pos (lt_at h), if_pos (nonneg_at _), rd_int h, w1, if_true, next_at h hy2]
        simpa using hr) l i (fun _ _ => trivial) h0 (by omega)
  refine ⟨n, l', e0, e1, by omega, ?_, ?_⟩
  · exact e3 [] (by simpa using hl)
  · exact e4 [] (by simp; omega)
end Go.Proofs.Ytigoeooelfeopaa.L

/- The law FnExactSubmitted computes true: the program and the reference say the same, the arguments stay, and nothing is shared. No condition. -/
set_option linter.unusedSimpArgs false
set_option linter.unusedVariables false
namespace Go.Proofs.Ytigoeooelfeopaa.Pure
open Go.RowKit Go.Proofs.YtigoeooelfeopaaW.PrintWords Go.Proofs.YtigoeooelfeopaaW.PrintLast Go.Proofs.Ytigoeooelfeopaa.Q Go.Proofs.Ytigoeooelfeopaa.L
theorem FnExactSubmitted : ∀ (x0 : List (List (S72))), (fun l : List (List (S72)) => l.length ≤ maxLen ∧ ∀ a ∈ l, (fun l : List (S72) => l.length ≤ maxLen ∧ ∀ a ∈ l, G72 a) a) x0 → ∃ k, laws_FnExactSubmitted.f k x0 = some true := by
  intro x0 g0
  apply Ev.rounds
  unfold laws_FnExactSubmitted.f
  have hm : ∀ m : Nat, m ≤ 1048576 → m ≤ maxLen := fun m h => by rw [maxLen_eq]; omega
  refine Sz.ev (szCondSt g0.1 g0.2 (n := 1048576) (by omega) (by omega)) (by simp only [show (-1 : Int) < 0 by omega, if_true]; exact Ev.now _) (fun m0 a0 b0 s0 => ?_)
  simp only [if_neg (show ¬ m0 < 0 by omega)]
  have hk : (submitted (x0.map (List.map toCond))).length ≤ 1048576 := Nat.le_trans (submitted_length _) s0.2
  refine Ev.bind (toCondSS s0.1) ?_
  refine Ev.bind (specSubmitted s0.1 s0.2) ?_
  refine Ev.bind (toCondSS s0.1) ?_
  refine Ev.bind (implSubmitted s0.1 s0.2) ?_
  refine Ev.bind (eqInts (hm _ hk)) ?_
  simp only [eq_self, if_true, bne_self_eq_false, Bool.false_eq_true, if_false, decide_true, Bool.not_true]
  refine Ev.bind (toCondSS s0.1) ?_
  refine Ev.bind (eqCondSS s0.1) ?_
  simp only [eq_self, if_true, bne_self_eq_false, Bool.false_eq_true, if_false, decide_true, Bool.not_true]
  obtain ⟨n0, l0, _, u0, v0, w0, _⟩ := mkCondSS s0.1 (i := 1) (by omega) (by omega)
  refine Ev.bind w0 ?_
  simp only [if_neg (show ¬ n0 < 0 by omega)]
  refine Ev.bind (eqInts (hm _ hk)) ?_
  simp only [eq_self, if_true, bne_self_eq_false, Bool.false_eq_true, if_false, decide_true, Bool.not_true]
  obtain ⟨n1, l1, _, u1, v1, w1, z1⟩ := mhInts hk (i := 1) (by omega) (by omega)
  refine Ev.bind w1 ?_
  refine Ev.bind z1 ?_
  simp only [if_neg (show ¬ n1 < 0 by omega)]
  simp only [eq_self, if_true, bne_self_eq_false, Bool.false_eq_true, if_false, decide_true, Bool.not_true]
  refine Ev.bind (toCondSS s0.1) ?_
  refine Ev.bind (implSubmitted s0.1 s0.2) ?_
  refine Ev.bind (eqInts (hm _ hk)) ?_
  simp only [eq_self, if_true, bne_self_eq_false, Bool.false_eq_true, if_false, decide_true, Bool.not_true]
  refine Ev.bind z1 ?_
  simp only [if_neg (show ¬ n1 < 0 by omega)]
  simp only [eq_self, if_true, bne_self_eq_false, Bool.false_eq_true, if_false, decide_true, Bool.not_true]
  exact Ev.now _
end Go.Proofs.Ytigoeooelfeopaa.Pure
