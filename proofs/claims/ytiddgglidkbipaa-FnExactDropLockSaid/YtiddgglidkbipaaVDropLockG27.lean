/- The law FnExactDropLock: its way to 'true', and the walk over it. No condition. -/
import Derived.Test.YtiddgglidkbipaaVDropLockG23
import Derived.Test.YtiddgglidkbipaaVDropLockG24
import Derived.Test.YtiddgglidkbipaaVDropLockG25
import Derived.Test.YtiddgglidkbipaaVDropLockG26
import Derived.Test.YtiddgglidkbipaaVDropLockG22
import Derived.Test.YtiddgglidkbipaaVDropLockWWords
import Derived.Test.YtiddgglidkbipaaVDropLockWApart
import Derived.Deep.Slices
import Derived.WideShapes
import Derived.Laws.Strings
import Derived.Test.YtiddgglidkbipaaVDropLockWLast
import Derived.Test.YtiddgglidkbipaaVDropLockWMore
set_option linter.unusedVariables false
set_option linter.unusedSimpArgs false
namespace Go.Proofs.Ytiddgglidkbipaa.Q
open Go.RowKit Go.Proofs.YtiddgglidkbipaaW.PrintWords Go.Proofs.YtiddgglidkbipaaW.PrintLast
def laws_FnExactDropLock.f (k : Nat) (l0 : List (S24)) (a1 : Int) : Option Bool := ((laws_szLockS.f k l0 1048576).bind fun t1 => (if t1 < 0 then (some true) else ((laws_toLockS.f k l0).bind fun t3 => ((spec_DropLock.f k t3 a1).bind fun bt6 => ((laws_toLockS.f k l0).bind fun t10 => ((impl_DropLockX.f k t10 a1).bind fun bt13 => ((laws_eqLockS.f k bt13.1 bt6.1).bind fun t17 => (if t17 = true then (if bt13.2 = bt6.2 then ((laws_toLockS.f k l0).bind fun t19 => ((laws_eqLockS.f k t10 t19).bind fun t22 => (if t22 = true then ((laws_markLockS.f k t10 1).bind fun bt24 => (if bt24.1 < 0 then none else ((laws_eqLockS.f k bt13.1 bt6.1).bind fun t28 => (if t28 = true then (if bt13.2 = bt6.2 then ((laws_markLockS.f k bt13.1 1).bind fun bt30 => ((laws_heldLockS.f k bt30.2 1).bind fun t34 => (if t34 < 0 then none else (if t34 = bt30.1 then ((laws_toLockS.f k l0).bind fun t36 => ((impl_DropLockX.f k t36 a1).bind fun bt39 => ((laws_eqLockS.f k bt39.1 bt6.1).bind fun t43 => (if t43 = true then (if bt39.2 = bt6.2 then ((laws_heldLockS.f k bt30.2 1).bind fun t45 => (if t45 < 0 then none else (if t45 = bt30.1 then (some true) else none))) else none) else none)))) else none)))) else none) else none)))) else none))) else none) else none))))))))
set_option maxHeartbeats 16000000 in
set_option maxRecDepth 100000 in
theorem laws_FnExactDropLock.calls (k : Nat) (A0 : Option Addr) (c0 : Nat) (l0 : List (S24)) (a1 : Int) (r : Bool) (w : World) (hr0 : Kd.C k24 w A0 l0.length l0) (hc0 : l0.length ≤ c0) (h : laws_FnExactDropLock.f k l0 a1 = some r) :
    Calls Try.prog 6 #[.slice A0 l0.length c0, .int .i64 a1] w fun e w' => e = .returned (.bool r) ∧ Below w.heap.size w w' := by
  have HR0 := Aside0.mk hr0
  have HC0 := Aside0.mk hc0
  clear hr0 hc0
  have HB := Aside0.mk (Below.refl w.heap.size w)
  have H : ((laws_szLockS.f k l0 1048576).bind fun t1 => (if t1 < 0 then (some true) else ((laws_toLockS.f k l0).bind fun t3 => ((spec_DropLock.f k t3 a1).bind fun bt6 => ((laws_toLockS.f k l0).bind fun t10 => ((impl_DropLockX.f k t10 a1).bind fun bt13 => ((laws_eqLockS.f k bt13.1 bt6.1).bind fun t17 => (if t17 = true then (if bt13.2 = bt6.2 then ((laws_toLockS.f k l0).bind fun t19 => ((laws_eqLockS.f k t10 t19).bind fun t22 => (if t22 = true then ((laws_markLockS.f k t10 1).bind fun bt24 => (if bt24.1 < 0 then none else ((laws_eqLockS.f k bt13.1 bt6.1).bind fun t28 => (if t28 = true then (if bt13.2 = bt6.2 then ((laws_markLockS.f k bt13.1 1).bind fun bt30 => ((laws_heldLockS.f k bt30.2 1).bind fun t34 => (if t34 < 0 then none else (if t34 = bt30.1 then ((laws_toLockS.f k l0).bind fun t36 => ((impl_DropLockX.f k t36 a1).bind fun bt39 => ((laws_eqLockS.f k bt39.1 bt6.1).bind fun t43 => (if t43 = true then (if bt39.2 = bt6.2 then ((laws_heldLockS.f k bt30.2 1).bind fun t45 => (if t45 < 0 then none else (if t45 = bt30.1 then (some true) else none))) else none) else none)))) else none)))) else none) else none)))) else none))) else none) else none)))))))) = some r := h
  clear h
  replace H := Option.bind_eq_some_iff.mp H
  obtain ⟨t1, A0_, H⟩ := H
  replace H : (if t1 < 0 then (some true) else ((laws_toLockS.f k l0).bind fun t3 => ((spec_DropLock.f k t3 a1).bind fun bt6 => ((laws_toLockS.f k l0).bind fun t10 => ((impl_DropLockX.f k t10 a1).bind fun bt13 => ((laws_eqLockS.f k bt13.1 bt6.1).bind fun t17 => (if t17 = true then (if bt13.2 = bt6.2 then ((laws_toLockS.f k l0).bind fun t19 => ((laws_eqLockS.f k t10 t19).bind fun t22 => (if t22 = true then ((laws_markLockS.f k t10 1).bind fun bt24 => (if bt24.1 < 0 then none else ((laws_eqLockS.f k bt13.1 bt6.1).bind fun t28 => (if t28 = true then (if bt13.2 = bt6.2 then ((laws_markLockS.f k bt13.1 1).bind fun bt30 => ((laws_heldLockS.f k bt30.2 1).bind fun t34 => (if t34 < 0 then none else (if t34 = bt30.1 then ((laws_toLockS.f k l0).bind fun t36 => ((impl_DropLockX.f k t36 a1).bind fun bt39 => ((laws_eqLockS.f k bt39.1 bt6.1).bind fun t43 => (if t43 = true then (if bt39.2 = bt6.2 then ((laws_heldLockS.f k bt30.2 1).bind fun t45 => (if t45 < 0 then none else (if t45 = bt30.1 then (some true) else none))) else none) else none)))) else none)))) else none) else none)))) else none))) else none) else none))))))) = some r := H
  have A2 := Aside0.mk A0_
  clear A0_
  by_cases c47 : t1 < 0
  · rw [if_pos c47] at H
    have c47b0 : decide (t1 < 0) = true := decide_eq_true c47
    clear c47
    obtain rfl := Option.some.inj H
    go_enter Try.func6, Try.ntmps6
    go_wp2_with (first | ((with_reducible refine gate_callee (f := 25) rfl ?_); refine goesL_ (some 18) rfl rfl Try.func25 (by kernel_rfl) rfl #[.slice A0 l0.length c0, .int .i64 1048576] rfl (by (try simp only [List.map_toArray, List.map_cons, List.map_nil]); first | done | rfl) ?_; (with_reducible refine (laws_szLockS.calls k A0 c0 l0 1048576 t1 _ ?side1 ?side2 A2.out).mono ?_); (case side1 => repeat (first | exact (Kd.C_below HR0.out HB.out) | (with_reducible refine Kd.C_alloc ?_ _) | (with_reducible refine Kd.C_drewN ?_ _) | (with_reducible refine Kd.C_drew ?_))); (case side2 => exact HC0.out); rintro e w_1 ⟨rfl, hb_⟩; refine ⟨_, rfl, ?_⟩; have n0_ : Aside0 (w.heap.size ≤ w_1.heap.size) := ⟨Nat.le_trans (below_size (by repeat (first | (with_reducible first | exact Below.refl _ _ | apply below_alloc | apply pw_below_drewN | apply below_drew1) | exact Below.refl _ _))) (below_size hb_)⟩; have m0_ := Aside0.mk (below_step (by repeat (first | (with_reducible first | exact HB.out | apply below_alloc | apply pw_below_drewN | apply below_drew1) | exact HB.out)) hb_); clear HB; have HZ1 := n0_; have HB := m0_; clear n0_ m0_; (try clear hb_); (try clear hk_); (try clear hw_); (try clear hg_); (try clear hbox_); (try clear ho0_)))
    go_ret
    exact ⟨rfl, (by repeat (first | (with_reducible first | exact HB.out | apply below_alloc | apply pw_below_drewN | apply below_drew1) | exact HB.out))⟩
  rw [if_neg c47] at H
  have c47b0 : decide (t1 < 0) = false := decide_eq_false c47
  clear c47
  replace H := Option.bind_eq_some_iff.mp H
  obtain ⟨t3, A0_, H⟩ := H
  replace H : ((spec_DropLock.f k t3 a1).bind fun bt6 => ((laws_toLockS.f k l0).bind fun t10 => ((impl_DropLockX.f k t10 a1).bind fun bt13 => ((laws_eqLockS.f k bt13.1 bt6.1).bind fun t17 => (if t17 = true then (if bt13.2 = bt6.2 then ((laws_toLockS.f k l0).bind fun t19 => ((laws_eqLockS.f k t10 t19).bind fun t22 => (if t22 = true then ((laws_markLockS.f k t10 1).bind fun bt24 => (if bt24.1 < 0 then none else ((laws_eqLockS.f k bt13.1 bt6.1).bind fun t28 => (if t28 = true then (if bt13.2 = bt6.2 then ((laws_markLockS.f k bt13.1 1).bind fun bt30 => ((laws_heldLockS.f k bt30.2 1).bind fun t34 => (if t34 < 0 then none else (if t34 = bt30.1 then ((laws_toLockS.f k l0).bind fun t36 => ((impl_DropLockX.f k t36 a1).bind fun bt39 => ((laws_eqLockS.f k bt39.1 bt6.1).bind fun t43 => (if t43 = true then (if bt39.2 = bt6.2 then ((laws_heldLockS.f k bt30.2 1).bind fun t45 => (if t45 < 0 then none else (if t45 = bt30.1 then (some true) else none))) else none) else none)))) else none)))) else none) else none)))) else none))) else none) else none))))) = some r := H
  have A4 := Aside0.mk A0_
  clear A0_
  replace H := Option.bind_eq_some_iff.mp H
  obtain ⟨⟨t6, t7⟩, A0_, H⟩ := H
  replace H : ((laws_toLockS.f k l0).bind fun t10 => ((impl_DropLockX.f k t10 a1).bind fun bt13 => ((laws_eqLockS.f k bt13.1 t6).bind fun t17 => (if t17 = true then (if bt13.2 = t7 then ((laws_toLockS.f k l0).bind fun t19 => ((laws_eqLockS.f k t10 t19).bind fun t22 => (if t22 = true then ((laws_markLockS.f k t10 1).bind fun bt24 => (if bt24.1 < 0 then none else ((laws_eqLockS.f k bt13.1 t6).bind fun t28 => (if t28 = true then (if bt13.2 = t7 then ((laws_markLockS.f k bt13.1 1).bind fun bt30 => ((laws_heldLockS.f k bt30.2 1).bind fun t34 => (if t34 < 0 then none else (if t34 = bt30.1 then ((laws_toLockS.f k l0).bind fun t36 => ((impl_DropLockX.f k t36 a1).bind fun bt39 => ((laws_eqLockS.f k bt39.1 t6).bind fun t43 => (if t43 = true then (if bt39.2 = t7 then ((laws_heldLockS.f k bt30.2 1).bind fun t45 => (if t45 < 0 then none else (if t45 = bt30.1 then (some true) else none))) else none) else none)))) else none)))) else none) else none)))) else none))) else none) else none)))) = some r := H
  have A8 := Aside0.mk A0_
  clear A0_
  replace H := Option.bind_eq_some_iff.mp H
  obtain ⟨t10, A0_, H⟩ := H
  replace H : ((impl_DropLockX.f k t10 a1).bind fun bt13 => ((laws_eqLockS.f k bt13.1 t6).bind fun t17 => (if t17 = true then (if bt13.2 = t7 then ((laws_toLockS.f k l0).bind fun t19 => ((laws_eqLockS.f k t10 t19).bind fun t22 => (if t22 = true then ((laws_markLockS.f k t10 1).bind fun bt24 => (if bt24.1 < 0 then none else ((laws_eqLockS.f k bt13.1 t6).bind fun t28 => (if t28 = true then (if bt13.2 = t7 then ((laws_markLockS.f k bt13.1 1).bind fun bt30 => ((laws_heldLockS.f k bt30.2 1).bind fun t34 => (if t34 < 0 then none else (if t34 = bt30.1 then ((laws_toLockS.f k l0).bind fun t36 => ((impl_DropLockX.f k t36 a1).bind fun bt39 => ((laws_eqLockS.f k bt39.1 t6).bind fun t43 => (if t43 = true then (if bt39.2 = t7 then ((laws_heldLockS.f k bt30.2 1).bind fun t45 => (if t45 < 0 then none else (if t45 = bt30.1 then (some true) else none))) else none) else none)))) else none)))) else none) else none)))) else none))) else none) else none))) = some r := H
  have A11 := Aside0.mk A0_
  clear A0_
  replace H := Option.bind_eq_some_iff.mp H
  obtain ⟨⟨t13, t14⟩, A0_, H⟩ := H
  replace H : ((laws_eqLockS.f k t13 t6).bind fun t17 => (if t17 = true then (if t14 = t7 then ((laws_toLockS.f k l0).bind fun t19 => ((laws_eqLockS.f k t10 t19).bind fun t22 => (if t22 = true then ((laws_markLockS.f k t10 1).bind fun bt24 => (if bt24.1 < 0 then none else ((laws_eqLockS.f k t13 t6).bind fun t28 => (if t28 = true then (if t14 = t7 then ((laws_markLockS.f k t13 1).bind fun bt30 => ((laws_heldLockS.f k bt30.2 1).bind fun t34 => (if t34 < 0 then none else (if t34 = bt30.1 then ((laws_toLockS.f k l0).bind fun t36 => ((impl_DropLockX.f k t36 a1).bind fun bt39 => ((laws_eqLockS.f k bt39.1 t6).bind fun t43 => (if t43 = true then (if bt39.2 = t7 then ((laws_heldLockS.f k bt30.2 1).bind fun t45 => (if t45 < 0 then none else (if t45 = bt30.1 then (some true) else none))) else none) else none)))) else none)))) else none) else none)))) else none))) else none) else none)) = some r := H
  have A15 := Aside0.mk A0_
  clear A0_
  replace H := Option.bind_eq_some_iff.mp H
  obtain ⟨t17, A0_, H⟩ := H
  replace H : (if t17 = true then (if t14 = t7 then ((laws_toLockS.f k l0).bind fun t19 => ((laws_eqLockS.f k t10 t19).bind fun t22 => (if t22 = true then ((laws_markLockS.f k t10 1).bind fun bt24 => (if bt24.1 < 0 then none else ((laws_eqLockS.f k t13 t6).bind fun t28 => (if t28 = true then (if t14 = t7 then ((laws_markLockS.f k t13 1).bind fun bt30 => ((laws_heldLockS.f k bt30.2 1).bind fun t34 => (if t34 < 0 then none else (if t34 = bt30.1 then ((laws_toLockS.f k l0).bind fun t36 => ((impl_DropLockX.f k t36 a1).bind fun bt39 => ((laws_eqLockS.f k bt39.1 t6).bind fun t43 => (if t43 = true then (if bt39.2 = t7 then ((laws_heldLockS.f k bt30.2 1).bind fun t45 => (if t45 < 0 then none else (if t45 = bt30.1 then (some true) else none))) else none) else none)))) else none)))) else none) else none)))) else none))) else none) else none) = some r := H
  have A18 := Aside0.mk A0_
  clear A0_
  by_cases c48 : t17 = true
  rotate_left
  · rw [if_neg c48] at H
    exact absurd H (by simp)
  subst c48
  rw [if_pos rfl] at H
  by_cases c49 : t14 = t7
  rotate_left
  · rw [if_neg c49] at H
    exact absurd H (by simp)
  rw [if_pos c49] at H
  have c49b0 : (t14 == t7) = true := beq_iff_eq.mpr c49
  have c49b1 : (t14 != t7) = false := bne_eq_false_iff_eq.mpr c49
  clear c49
  replace H := Option.bind_eq_some_iff.mp H
  obtain ⟨t19, A0_, H⟩ := H
  replace H : ((laws_eqLockS.f k t10 t19).bind fun t22 => (if t22 = true then ((laws_markLockS.f k t10 1).bind fun bt24 => (if bt24.1 < 0 then none else ((laws_eqLockS.f k t13 t6).bind fun t28 => (if t28 = true then (if t14 = t7 then ((laws_markLockS.f k t13 1).bind fun bt30 => ((laws_heldLockS.f k bt30.2 1).bind fun t34 => (if t34 < 0 then none else (if t34 = bt30.1 then ((laws_toLockS.f k l0).bind fun t36 => ((impl_DropLockX.f k t36 a1).bind fun bt39 => ((laws_eqLockS.f k bt39.1 t6).bind fun t43 => (if t43 = true then (if bt39.2 = t7 then ((laws_heldLockS.f k bt30.2 1).bind fun t45 => (if t45 < 0 then none else (if t45 = bt30.1 then (some true) else none))) else none) else none)))) else none)))) else none) else none)))) else none)) = some r := H
  have A20 := Aside0.mk A0_
  clear A0_
  replace H := Option.bind_eq_some_iff.mp H
  obtain ⟨t22, A0_, H⟩ := H
  replace H : (if t22 = true then ((laws_markLockS.f k t10 1).bind fun bt24 => (if bt24.1 < 0 then none else ((laws_eqLockS.f k t13 t6).bind fun t28 => (if t28 = true then (if t14 = t7 then ((laws_markLockS.f k t13 1).bind fun bt30 => ((laws_heldLockS.f k bt30.2 1).bind fun t34 => (if t34 < 0 then none else (if t34 = bt30.1 then ((laws_toLockS.f k l0).bind fun t36 => ((impl_DropLockX.f k t36 a1).bind fun bt39 => ((laws_eqLockS.f k bt39.1 t6).bind fun t43 => (if t43 = true then (if bt39.2 = t7 then ((laws_heldLockS.f k bt30.2 1).bind fun t45 => (if t45 < 0 then none else (if t45 = bt30.1 then (some true) else none))) else none) else none)))) else none)))) else none) else none)))) else none) = some r := H
  have A23 := Aside0.mk A0_
  clear A0_
  by_cases c50 : t22 = true
  rotate_left
  · rw [if_neg c50] at H
    exact absurd H (by simp)
  subst c50
  rw [if_pos rfl] at H
  replace H := Option.bind_eq_some_iff.mp H
  obtain ⟨⟨t24, t25⟩, A0_, H⟩ := H
  replace H : (if t24 < 0 then none else ((laws_eqLockS.f k t13 t6).bind fun t28 => (if t28 = true then (if t14 = t7 then ((laws_markLockS.f k t13 1).bind fun bt30 => ((laws_heldLockS.f k bt30.2 1).bind fun t34 => (if t34 < 0 then none else (if t34 = bt30.1 then ((laws_toLockS.f k l0).bind fun t36 => ((impl_DropLockX.f k t36 a1).bind fun bt39 => ((laws_eqLockS.f k bt39.1 t6).bind fun t43 => (if t43 = true then (if bt39.2 = t7 then ((laws_heldLockS.f k bt30.2 1).bind fun t45 => (if t45 < 0 then none else (if t45 = bt30.1 then (some true) else none))) else none) else none)))) else none)))) else none) else none))) = some r := H
  have A26 := Aside0.mk A0_
  clear A0_
  by_cases c51 : t24 < 0
  · rw [if_pos c51] at H
    exact absurd H (by simp)
  rw [if_neg c51] at H
  have c51b0 : decide (t24 < 0) = false := decide_eq_false c51
  clear c51
  replace H := Option.bind_eq_some_iff.mp H
  obtain ⟨t28, A0_, H⟩ := H
  replace H : (if t28 = true then (if t14 = t7 then ((laws_markLockS.f k t13 1).bind fun bt30 => ((laws_heldLockS.f k bt30.2 1).bind fun t34 => (if t34 < 0 then none else (if t34 = bt30.1 then ((laws_toLockS.f k l0).bind fun t36 => ((impl_DropLockX.f k t36 a1).bind fun bt39 => ((laws_eqLockS.f k bt39.1 t6).bind fun t43 => (if t43 = true then (if bt39.2 = t7 then ((laws_heldLockS.f k bt30.2 1).bind fun t45 => (if t45 < 0 then none else (if t45 = bt30.1 then (some true) else none))) else none) else none)))) else none)))) else none) else none) = some r := H
  have A29 := Aside0.mk A0_
  clear A0_
  by_cases c52 : t28 = true
  rotate_left
  · rw [if_neg c52] at H
    exact absurd H (by simp)
  subst c52
  rw [if_pos rfl] at H
  by_cases c53 : t14 = t7
  rotate_left
  · rw [if_neg c53] at H
    exact absurd H (by simp)
  rw [if_pos c53] at H
  have c53b0 : (t14 == t7) = true := beq_iff_eq.mpr c53
  have c53b1 : (t14 != t7) = false := bne_eq_false_iff_eq.mpr c53
  clear c53
  replace H := Option.bind_eq_some_iff.mp H
  obtain ⟨⟨t30, t31⟩, A0_, H⟩ := H
  replace H : ((laws_heldLockS.f k t31 1).bind fun t34 => (if t34 < 0 then none else (if t34 = t30 then ((laws_toLockS.f k l0).bind fun t36 => ((impl_DropLockX.f k t36 a1).bind fun bt39 => ((laws_eqLockS.f k bt39.1 t6).bind fun t43 => (if t43 = true then (if bt39.2 = t7 then ((laws_heldLockS.f k t31 1).bind fun t45 => (if t45 < 0 then none else (if t45 = t30 then (some true) else none))) else none) else none)))) else none))) = some r := H
  have A32 := Aside0.mk A0_
  clear A0_
  replace H := Option.bind_eq_some_iff.mp H
  obtain ⟨t34, A0_, H⟩ := H
  replace H : (if t34 < 0 then none else (if t34 = t30 then ((laws_toLockS.f k l0).bind fun t36 => ((impl_DropLockX.f k t36 a1).bind fun bt39 => ((laws_eqLockS.f k bt39.1 t6).bind fun t43 => (if t43 = true then (if bt39.2 = t7 then ((laws_heldLockS.f k t31 1).bind fun t45 => (if t45 < 0 then none else (if t45 = t30 then (some true) else none))) else none) else none)))) else none)) = some r := H
  have A35 := Aside0.mk A0_
  clear A0_
  by_cases c54 : t34 < 0
  · rw [if_pos c54] at H
    exact absurd H (by simp)
  rw [if_neg c54] at H
  have c54b0 : decide (t34 < 0) = false := decide_eq_false c54
  clear c54
  by_cases c55 : t34 = t30
  rotate_left
  · rw [if_neg c55] at H
    exact absurd H (by simp)
  rw [if_pos c55] at H
  have c55b0 : (t34 == t30) = true := beq_iff_eq.mpr c55
  have c55b1 : (t34 != t30) = false := bne_eq_false_iff_eq.mpr c55
  clear c55
  replace H := Option.bind_eq_some_iff.mp H
  obtain ⟨t36, A0_, H⟩ := H
  replace H : ((impl_DropLockX.f k t36 a1).bind fun bt39 => ((laws_eqLockS.f k bt39.1 t6).bind fun t43 => (if t43 = true then (if bt39.2 = t7 then ((laws_heldLockS.f k t31 1).bind fun t45 => (if t45 < 0 then none else (if t45 = t30 then (some true) else none))) else none) else none))) = some r := H
  have A37 := Aside0.mk A0_
  clear A0_
  replace H := Option.bind_eq_some_iff.mp H
  obtain ⟨⟨t39, t40⟩, A0_, H⟩ := H
  replace H : ((laws_eqLockS.f k t39 t6).bind fun t43 => (if t43 = true then (if t40 = t7 then ((laws_heldLockS.f k t31 1).bind fun t45 => (if t45 < 0 then none else (if t45 = t30 then (some true) else none))) else none) else none)) = some r := H
  have A41 := Aside0.mk A0_
  clear A0_
  replace H := Option.bind_eq_some_iff.mp H
  obtain ⟨t43, A0_, H⟩ := H
  replace H : (if t43 = true then (if t40 = t7 then ((laws_heldLockS.f k t31 1).bind fun t45 => (if t45 < 0 then none else (if t45 = t30 then (some true) else none))) else none) else none) = some r := H
  have A44 := Aside0.mk A0_
  clear A0_
  by_cases c56 : t43 = true
  rotate_left
  · rw [if_neg c56] at H
    exact absurd H (by simp)
  subst c56
  rw [if_pos rfl] at H
  by_cases c57 : t40 = t7
  rotate_left
  · rw [if_neg c57] at H
    exact absurd H (by simp)
  rw [if_pos c57] at H
  have c57b0 : (t40 == t7) = true := beq_iff_eq.mpr c57
  have c57b1 : (t40 != t7) = false := bne_eq_false_iff_eq.mpr c57
  clear c57
  replace H := Option.bind_eq_some_iff.mp H
  obtain ⟨t45, A0_, H⟩ := H
  replace H : (if t45 < 0 then none else (if t45 = t30 then (some true) else none)) = some r := H
  have A46 := Aside0.mk A0_
  clear A0_
  by_cases c58 : t45 < 0
  · rw [if_pos c58] at H
    exact absurd H (by simp)
  rw [if_neg c58] at H
  have c58b0 : decide (t45 < 0) = false := decide_eq_false c58
  clear c58
  by_cases c59 : t45 = t30
  rotate_left
  · rw [if_neg c59] at H
    exact absurd H (by simp)
  rw [if_pos c59] at H
  have c59b0 : (t45 == t30) = true := beq_iff_eq.mpr c59
  have c59b1 : (t45 != t30) = false := bne_eq_false_iff_eq.mpr c59
  clear c59
  obtain rfl := Option.some.inj H
  go_enter Try.func6, Try.ntmps6
  go_wp2_with (first | ((with_reducible refine gate_callee (f := 25) rfl ?_); refine goesL_ (some 18) rfl rfl Try.func25 (by kernel_rfl) rfl #[.slice A0 l0.length c0, .int .i64 1048576] rfl (by (try simp only [List.map_toArray, List.map_cons, List.map_nil]); first | done | rfl) ?_; (with_reducible refine (laws_szLockS.calls k A0 c0 l0 1048576 t1 _ ?side1 ?side2 A2.out).mono ?_); (case side1 => repeat (first | exact (Kd.C_below HR0.out HB.out) | (with_reducible refine Kd.C_alloc ?_ _) | (with_reducible refine Kd.C_drewN ?_ _) | (with_reducible refine Kd.C_drew ?_))); (case side2 => exact HC0.out); rintro e w_1 ⟨rfl, hb_⟩; refine ⟨_, rfl, ?_⟩; have n0_ : Aside0 (w.heap.size ≤ w_1.heap.size) := ⟨Nat.le_trans (below_size (by repeat (first | (with_reducible first | exact Below.refl _ _ | apply below_alloc | apply pw_below_drewN | apply below_drew1) | exact Below.refl _ _))) (below_size hb_)⟩; have m0_ := Aside0.mk (below_step (by repeat (first | (with_reducible first | exact HB.out | apply below_alloc | apply pw_below_drewN | apply below_drew1) | exact HB.out)) hb_); clear HB; have HZ1 := n0_; have HB := m0_; clear n0_ m0_; (try clear hb_); (try clear hk_); (try clear hw_); (try clear hg_); (try clear hbox_); (try clear ho0_)) | ((with_reducible refine gate_callee (f := 27) rfl ?_); refine goesL_ (some 23) rfl rfl Try.func27 (by kernel_rfl) rfl #[.slice A0 l0.length c0] rfl (by (try simp only [List.map_toArray, List.map_cons, List.map_nil]); first | done | rfl) ?_; (with_reducible refine (laws_toLockS.calls k A0 c0 l0 t3 _ ?side1 ?side2 A4.out).mono ?_); (case side1 => repeat (first | exact (Kd.C_below HR0.out HB.out) | (with_reducible refine Kd.C_alloc ?_ _) | (with_reducible refine Kd.C_drewN ?_ _) | (with_reducible refine Kd.C_drew ?_))); (case side2 => exact HC0.out); rintro e w_2 ⟨v60, rfl, ho0_, hb_⟩; refine ⟨_, rfl, ?_⟩; have n0_ : Aside0 (w_1.heap.size ≤ w_2.heap.size) := ⟨Nat.le_trans (below_size (by repeat (first | (with_reducible first | exact Below.refl _ _ | apply below_alloc | apply pw_below_drewN | apply below_drew1) | exact Below.refl _ _))) (below_size hb_)⟩; have m0_ := Aside0.mk (below_step (by repeat (first | (with_reducible first | exact HB.out | apply below_alloc | apply pw_below_drewN | apply below_drew1) | exact HB.out)) hb_); have m1_ := Aside0.mk (show Kd.S k28 28 w_2 w.heap.size (fun k_ => w_1.heap.size ≤ k_ ∧ k_ < w_2.heap.size) v60 t3 from Kd.S_mono (Kd.S_lower (Kd.S_bound ho0_) (below_size (by repeat (first | (with_reducible first | exact HB.out | apply below_alloc | apply pw_below_drewN | apply below_drew1) | exact HB.out)))) (fun k_ h_ => ⟨Nat.le_trans (below_size (by repeat (first | (with_reducible first | exact Below.refl _ _ | apply below_alloc | apply pw_below_drewN | apply below_drew1) | exact Below.refl _ _))) h_.2.1, h_.2.2.1⟩)); clear HB; have HZ2 := n0_; have HB := m0_; have HO5 := m1_; clear n0_ m0_ m1_; (try clear hb_); (try clear hk_); (try clear hw_); (try clear hg_); (try clear hbox_); (try clear ho0_); (try clear ho1_); obtain ⟨Ao5, co5, eo_⟩ := Kd.S_slice HO5.out; subst eo_) | ((with_reducible refine gate_callee (f := 32) rfl ?_); refine goesL_ (some 25) rfl rfl Try.func32 (by kernel_rfl) rfl #[.slice Ao5 t3.length co5, .int .i64 a1] rfl (by (try simp only [List.map_toArray, List.map_cons, List.map_nil]); first | done | rfl) ?_; (with_reducible refine (spec_DropLock.calls k Ao5 co5 t3 a1 t6 t7 _ ?side1 ?side2 A8.out).mono ?_); (case side1 => repeat (first | exact (Kd.S_reads' HO5.out).2.2 | (with_reducible refine Kd.C_alloc ?_ _) | (with_reducible refine Kd.C_drewN ?_ _) | (with_reducible refine Kd.C_drew ?_))); (case side2 => exact (Kd.S_reads' HO5.out).2.1); rintro e w_3 ⟨v61, rfl, ho0_, hb_⟩; refine ⟨_, rfl, ?_⟩; have n0_ : Aside0 (w_2.heap.size ≤ w_3.heap.size) := ⟨Nat.le_trans (below_size (by repeat (first | (with_reducible first | exact Below.refl _ _ | apply below_alloc | apply pw_below_drewN | apply below_drew1) | exact Below.refl _ _))) (below_size hb_)⟩; have m0_ := Aside0.mk (Kd.S_below (by (with_reducible repeat (first | apply Kd.S_alloc | apply Kd.S_drewN | apply Kd.S_drew)); exact HO5.out) hb_); have m1_ := Aside0.mk (below_step (by repeat (first | (with_reducible first | exact HB.out | apply below_alloc | apply pw_below_drewN | apply below_drew1) | exact HB.out)) hb_); have m2_ := Aside0.mk (show Kd.N k28 28 w_3 w.heap.size (fun k_ => w_2.heap.size ≤ k_ ∧ k_ < w_3.heap.size) v61 t6 from Kd.N_mono (Kd.N_lower (Kd.N_bound ho0_) (below_size (by repeat (first | (with_reducible first | exact HB.out | apply below_alloc | apply pw_below_drewN | apply below_drew1) | exact HB.out)))) (fun k_ h_ => ⟨Nat.le_trans (below_size (by repeat (first | (with_reducible first | exact Below.refl _ _ | apply below_alloc | apply pw_below_drewN | apply below_drew1) | exact Below.refl _ _))) h_.1, h_.2⟩)); clear HO5 HB; have HZ3 := n0_; have HO5 := m0_; have HB := m1_; have HO9 := m2_; clear n0_ m0_ m1_ m2_; (try clear hb_); (try clear hk_); (try clear hw_); (try clear hg_); (try clear hbox_); (try clear ho0_); (try clear ho1_); obtain ⟨Ao9, co9, eo_⟩ := Kd.N_slice HO9.out; subst eo_) | ((with_reducible refine gate_callee (f := 27) rfl ?_); refine goesL_ (some 29) rfl rfl Try.func27 (by kernel_rfl) rfl #[.slice A0 l0.length c0] rfl (by (try simp only [List.map_toArray, List.map_cons, List.map_nil]); first | done | rfl) ?_; (with_reducible refine (laws_toLockS.calls k A0 c0 l0 t10 _ ?side1 ?side2 A11.out).mono ?_); (case side1 => repeat (first | exact (Kd.C_below HR0.out HB.out) | (with_reducible refine Kd.C_alloc ?_ _) | (with_reducible refine Kd.C_drewN ?_ _) | (with_reducible refine Kd.C_drew ?_))); (case side2 => exact HC0.out); rintro e w_4 ⟨v62, rfl, ho0_, hb_⟩; refine ⟨_, rfl, ?_⟩; have n0_ : Aside0 (w_3.heap.size ≤ w_4.heap.size) := ⟨Nat.le_trans (below_size (by repeat (first | (with_reducible first | exact Below.refl _ _ | apply below_alloc | apply pw_below_drewN | apply below_drew1) | exact Below.refl _ _))) (below_size hb_)⟩; have m0_ := Aside0.mk (Kd.S_below (by (with_reducible repeat (first | apply Kd.S_alloc | apply Kd.S_drewN | apply Kd.S_drew)); exact HO5.out) hb_); have m1_ := Aside0.mk (Kd.N_below (by (with_reducible repeat (first | apply Kd.N_alloc | apply Kd.N_drewN | apply Kd.N_drew)); exact HO9.out) hb_); have m2_ := Aside0.mk (below_step (by repeat (first | (with_reducible first | exact HB.out | apply below_alloc | apply pw_below_drewN | apply below_drew1) | exact HB.out)) hb_); have m3_ := Aside0.mk (show Kd.S k28 28 w_4 w.heap.size (fun k_ => w_3.heap.size ≤ k_ ∧ k_ < w_4.heap.size) v62 t10 from Kd.S_mono (Kd.S_lower (Kd.S_bound ho0_) (below_size (by repeat (first | (with_reducible first | exact HB.out | apply below_alloc | apply pw_below_drewN | apply below_drew1) | exact HB.out)))) (fun k_ h_ => ⟨Nat.le_trans (below_size (by repeat (first | (with_reducible first | exact Below.refl _ _ | apply below_alloc | apply pw_below_drewN | apply below_drew1) | exact Below.refl _ _))) h_.2.1, h_.2.2.1⟩)); clear HO5 HO9 HB; have HZ4 := n0_; have HO5 := m0_; have HO9 := m1_; have HB := m2_; have HO12 := m3_; clear n0_ m0_ m1_ m2_ m3_; (try clear hb_); (try clear hk_); (try clear hw_); (try clear hg_); (try clear hbox_); (try clear ho0_); (try clear ho1_); obtain ⟨Ao12, co12, eo_⟩ := Kd.S_slice HO12.out; subst eo_) | ((with_reducible refine gate_callee (f := 33) rfl ?_); refine goesL_ (some 33) rfl rfl Try.func33 (by kernel_rfl) rfl #[.slice Ao12 t10.length co12, .int .i64 a1] rfl (by (try simp only [List.map_toArray, List.map_cons, List.map_nil]); first | done | rfl) ?_; (with_reducible refine (impl_DropLockX.calls k Ao12 co12 t10 a1 t13 t14 _ ?side1 ?side2 A15.out).mono ?_); (case side1 => repeat (first | exact (Kd.S_reads' HO12.out).2.2 | (with_reducible refine Kd.C_alloc ?_ _) | (with_reducible refine Kd.C_drewN ?_ _) | (with_reducible refine Kd.C_drew ?_))); (case side2 => exact (Kd.S_reads' HO12.out).2.1); rintro e w_5 ⟨v63, rfl, ho0_, hb_⟩; refine ⟨_, rfl, ?_⟩; have n0_ : Aside0 (w_4.heap.size ≤ w_5.heap.size) := ⟨Nat.le_trans (below_size (by repeat (first | (with_reducible first | exact Below.refl _ _ | apply below_alloc | apply pw_below_drewN | apply below_drew1) | exact Below.refl _ _))) (below_size hb_)⟩; have m0_ := Aside0.mk (Kd.S_below (by (with_reducible repeat (first | apply Kd.S_alloc | apply Kd.S_drewN | apply Kd.S_drew)); exact HO5.out) hb_); have m1_ := Aside0.mk (Kd.N_below (by (with_reducible repeat (first | apply Kd.N_alloc | apply Kd.N_drewN | apply Kd.N_drew)); exact HO9.out) hb_); have m2_ := Aside0.mk (Kd.S_below (by (with_reducible repeat (first | apply Kd.S_alloc | apply Kd.S_drewN | apply Kd.S_drew)); exact HO12.out) hb_); have m3_ := Aside0.mk (below_step (by repeat (first | (with_reducible first | exact HB.out | apply below_alloc | apply pw_below_drewN | apply below_drew1) | exact HB.out)) hb_); have m4_ := Aside0.mk (show Kd.S k28 28 w_5 w.heap.size (fun k_ => w_4.heap.size ≤ k_ ∧ k_ < w_5.heap.size) v63 t13 from Kd.S_mono (Kd.S_lower (Kd.S_bound ho0_) (below_size (by repeat (first | (with_reducible first | exact HB.out | apply below_alloc | apply pw_below_drewN | apply below_drew1) | exact HB.out)))) (fun k_ h_ => ⟨Nat.le_trans (below_size (by repeat (first | (with_reducible first | exact Below.refl _ _ | apply below_alloc | apply pw_below_drewN | apply below_drew1) | exact Below.refl _ _))) h_.2.1, h_.2.2.1⟩)); clear HO5 HO9 HO12 HB; have HZ5 := n0_; have HO5 := m0_; have HO9 := m1_; have HO12 := m2_; have HB := m3_; have HO16 := m4_; clear n0_ m0_ m1_ m2_ m3_ m4_; (try clear hb_); (try clear hk_); (try clear hw_); (try clear hg_); (try clear hbox_); (try clear ho0_); (try clear ho1_); obtain ⟨Ao16, co16, eo_⟩ := Kd.S_slice HO16.out; subst eo_) | ((with_reducible refine gate_callee (f := 30) rfl ?_); refine goesL_ (some 38) rfl rfl Try.func30 (by kernel_rfl) rfl #[.slice Ao16 t13.length co16, .slice Ao9 t6.length co9] rfl (by (try simp only [List.map_toArray, List.map_cons, List.map_nil]); first | done | rfl) ?_; (with_reducible refine (laws_eqLockS.calls k Ao16 co16 t13 Ao9 co9 t6 true _ ?side1 ?side2 ?side3 ?side4 A18.out).mono ?_); (case side1 => repeat (first | exact (Kd.S_reads' HO16.out).2.2 | (with_reducible refine Kd.C_alloc ?_ _) | (with_reducible refine Kd.C_drewN ?_ _) | (with_reducible refine Kd.C_drew ?_))); (case side2 => exact (Kd.S_reads' HO16.out).2.1); (case side3 => repeat (first | exact (Kd.N_reads' HO9.out).2.2 | (with_reducible refine Kd.C_alloc ?_ _) | (with_reducible refine Kd.C_drewN ?_ _) | (with_reducible refine Kd.C_drew ?_))); (case side4 => exact (Kd.N_reads' HO9.out).2.1); rintro e w_6 ⟨rfl, hb_⟩; refine ⟨_, rfl, ?_⟩; have n0_ : Aside0 (w_5.heap.size ≤ w_6.heap.size) := ⟨Nat.le_trans (below_size (by repeat (first | (with_reducible first | exact Below.refl _ _ | apply below_alloc | apply pw_below_drewN | apply below_drew1) | exact Below.refl _ _))) (below_size hb_)⟩; have m0_ := Aside0.mk (Kd.S_below (by (with_reducible repeat (first | apply Kd.S_alloc | apply Kd.S_drewN | apply Kd.S_drew)); exact HO5.out) hb_); have m1_ := Aside0.mk (Kd.N_below (by (with_reducible repeat (first | apply Kd.N_alloc | apply Kd.N_drewN | apply Kd.N_drew)); exact HO9.out) hb_); have m2_ := Aside0.mk (Kd.S_below (by (with_reducible repeat (first | apply Kd.S_alloc | apply Kd.S_drewN | apply Kd.S_drew)); exact HO12.out) hb_); have m3_ := Aside0.mk (Kd.S_below (by (with_reducible repeat (first | apply Kd.S_alloc | apply Kd.S_drewN | apply Kd.S_drew)); exact HO16.out) hb_); have m4_ := Aside0.mk (below_step (by repeat (first | (with_reducible first | exact HB.out | apply below_alloc | apply pw_below_drewN | apply below_drew1) | exact HB.out)) hb_); clear HO5 HO9 HO12 HO16 HB; have HZ6 := n0_; have HO5 := m0_; have HO9 := m1_; have HO12 := m2_; have HO16 := m3_; have HB := m4_; clear n0_ m0_ m1_ m2_ m3_ m4_; (try clear hb_); (try clear hk_); (try clear hw_); (try clear hg_); (try clear hbox_); (try clear ho0_)) | ((with_reducible refine gate_callee (f := 27) rfl ?_); refine goesL_ (some 47) rfl rfl Try.func27 (by kernel_rfl) rfl #[.slice A0 l0.length c0] rfl (by (try simp only [List.map_toArray, List.map_cons, List.map_nil]); first | done | rfl) ?_; (with_reducible refine (laws_toLockS.calls k A0 c0 l0 t19 _ ?side1 ?side2 A20.out).mono ?_); (case side1 => repeat (first | exact (Kd.C_below HR0.out HB.out) | (with_reducible refine Kd.C_alloc ?_ _) | (with_reducible refine Kd.C_drewN ?_ _) | (with_reducible refine Kd.C_drew ?_))); (case side2 => exact HC0.out); rintro e w_7 ⟨v64, rfl, ho0_, hb_⟩; refine ⟨_, rfl, ?_⟩; have n0_ : Aside0 (w_6.heap.size ≤ w_7.heap.size) := ⟨Nat.le_trans (below_size (by repeat (first | (with_reducible first | exact Below.refl _ _ | apply below_alloc | apply pw_below_drewN | apply below_drew1) | exact Below.refl _ _))) (below_size hb_)⟩; have m0_ := Aside0.mk (Kd.S_below (by (with_reducible repeat (first | apply Kd.S_alloc | apply Kd.S_drewN | apply Kd.S_drew)); exact HO5.out) hb_); have m1_ := Aside0.mk (Kd.N_below (by (with_reducible repeat (first | apply Kd.N_alloc | apply Kd.N_drewN | apply Kd.N_drew)); exact HO9.out) hb_); have m2_ := Aside0.mk (Kd.S_below (by (with_reducible repeat (first | apply Kd.S_alloc | apply Kd.S_drewN | apply Kd.S_drew)); exact HO12.out) hb_); have m3_ := Aside0.mk (Kd.S_below (by (with_reducible repeat (first | apply Kd.S_alloc | apply Kd.S_drewN | apply Kd.S_drew)); exact HO16.out) hb_); have m4_ := Aside0.mk (below_step (by repeat (first | (with_reducible first | exact HB.out | apply below_alloc | apply pw_below_drewN | apply below_drew1) | exact HB.out)) hb_); have m5_ := Aside0.mk (show Kd.S k28 28 w_7 w.heap.size (fun k_ => w_6.heap.size ≤ k_ ∧ k_ < w_7.heap.size) v64 t19 from Kd.S_mono (Kd.S_lower (Kd.S_bound ho0_) (below_size (by repeat (first | (with_reducible first | exact HB.out | apply below_alloc | apply pw_below_drewN | apply below_drew1) | exact HB.out)))) (fun k_ h_ => ⟨Nat.le_trans (below_size (by repeat (first | (with_reducible first | exact Below.refl _ _ | apply below_alloc | apply pw_below_drewN | apply below_drew1) | exact Below.refl _ _))) h_.2.1, h_.2.2.1⟩)); clear HO5 HO9 HO12 HO16 HB; have HZ7 := n0_; have HO5 := m0_; have HO9 := m1_; have HO12 := m2_; have HO16 := m3_; have HB := m4_; have HO21 := m5_; clear n0_ m0_ m1_ m2_ m3_ m4_ m5_; (try clear hb_); (try clear hk_); (try clear hw_); (try clear hg_); (try clear hbox_); (try clear ho0_); (try clear ho1_); obtain ⟨Ao21, co21, eo_⟩ := Kd.S_slice HO21.out; subst eo_) | ((with_reducible refine gate_callee (f := 30) rfl ?_); refine goesL_ (some 48) rfl rfl Try.func30 (by kernel_rfl) rfl #[.slice Ao12 t10.length co12, .slice Ao21 t19.length co21] rfl (by (try simp only [List.map_toArray, List.map_cons, List.map_nil]); first | done | rfl) ?_; (with_reducible refine (laws_eqLockS.calls k Ao12 co12 t10 Ao21 co21 t19 true _ ?side1 ?side2 ?side3 ?side4 A23.out).mono ?_); (case side1 => repeat (first | exact (Kd.S_reads' HO12.out).2.2 | (with_reducible refine Kd.C_alloc ?_ _) | (with_reducible refine Kd.C_drewN ?_ _) | (with_reducible refine Kd.C_drew ?_))); (case side2 => exact (Kd.S_reads' HO12.out).2.1); (case side3 => repeat (first | exact (Kd.S_reads' HO21.out).2.2 | (with_reducible refine Kd.C_alloc ?_ _) | (with_reducible refine Kd.C_drewN ?_ _) | (with_reducible refine Kd.C_drew ?_))); (case side4 => exact (Kd.S_reads' HO21.out).2.1); rintro e w_8 ⟨rfl, hb_⟩; refine ⟨_, rfl, ?_⟩; have n0_ : Aside0 (w_7.heap.size ≤ w_8.heap.size) := ⟨Nat.le_trans (below_size (by repeat (first | (with_reducible first | exact Below.refl _ _ | apply below_alloc | apply pw_below_drewN | apply below_drew1) | exact Below.refl _ _))) (below_size hb_)⟩; have m0_ := Aside0.mk (Kd.S_below (by (with_reducible repeat (first | apply Kd.S_alloc | apply Kd.S_drewN | apply Kd.S_drew)); exact HO5.out) hb_); have m1_ := Aside0.mk (Kd.N_below (by (with_reducible repeat (first | apply Kd.N_alloc | apply Kd.N_drewN | apply Kd.N_drew)); exact HO9.out) hb_); have m2_ := Aside0.mk (Kd.S_below (by (with_reducible repeat (first | apply Kd.S_alloc | apply Kd.S_drewN | apply Kd.S_drew)); exact HO12.out) hb_); have m3_ := Aside0.mk (Kd.S_below (by (with_reducible repeat (first | apply Kd.S_alloc | apply Kd.S_drewN | apply Kd.S_drew)); exact HO16.out) hb_); have m4_ := Aside0.mk (Kd.S_below (by (with_reducible repeat (first | apply Kd.S_alloc | apply Kd.S_drewN | apply Kd.S_drew)); exact HO21.out) hb_); have m5_ := Aside0.mk (below_step (by repeat (first | (with_reducible first | exact HB.out | apply below_alloc | apply pw_below_drewN | apply below_drew1) | exact HB.out)) hb_); clear HO5 HO9 HO12 HO16 HO21 HB; have HZ8 := n0_; have HO5 := m0_; have HO9 := m1_; have HO12 := m2_; have HO16 := m3_; have HO21 := m4_; have HB := m5_; clear n0_ m0_ m1_ m2_ m3_ m4_ m5_; (try clear hb_); (try clear hk_); (try clear hw_); (try clear hg_); (try clear hbox_); (try clear ho0_)) | ((with_reducible refine gate_callee (f := 34) rfl ?_); refine goesL_ (some 52) rfl rfl Try.func34 (by kernel_rfl) rfl #[(.slice Ao12 t10.length co12), .int .i64 1] rfl (by (try simp only [List.map_toArray, List.map_cons, List.map_nil]); first | done | rfl) ?_; (with_reducible refine (laws_markLockS.calls k (fun k_ => w_3.heap.size ≤ k_ ∧ k_ < w_4.heap.size) (.slice Ao12 t10.length co12) t10 1 t24 t25 w _ ?side1 ?side2 A26.out).mono ?_); (case side1 => exact (by repeat (first | (with_reducible first | exact HB.out | apply below_alloc | apply pw_below_drewN | apply below_drew1) | exact HB.out))); (case side2 => exact (by (with_reducible repeat (first | apply Kd.S_alloc | apply Kd.S_drewN | apply Kd.S_drew)); exact HO12.out)); rintro e w_9 ⟨rfl, ho0_, hb_, hk_⟩; refine ⟨_, rfl, ?_⟩; have n0_ : Aside0 (w_8.heap.size ≤ w_9.heap.size) := ⟨Nat.le_trans (below_size (by repeat (first | (with_reducible first | exact Below.refl _ _ | apply below_alloc | apply pw_below_drewN | apply below_drew1) | exact Below.refl _ _))) (hk_.1)⟩; have m0_ := Aside0.mk (Kd.S_step (by (with_reducible repeat (first | apply Kd.S_alloc | apply Kd.S_drewN | apply Kd.S_drew)); exact HO5.out) (fun k_ h1_ h2_ => hk_.2 k_ h2_ (fun h3_ => by have := HZ1.out; have := HZ2.out; have := HZ3.out; have := HZ4.out; have := HZ5.out; have := HZ6.out; have := HZ7.out; have := HZ8.out; omega))); have m1_ := Aside0.mk (Kd.N_step (by (with_reducible repeat (first | apply Kd.N_alloc | apply Kd.N_drewN | apply Kd.N_drew)); exact HO9.out) (fun k_ h1_ h2_ => hk_.2 k_ h2_ (fun h3_ => by have := HZ1.out; have := HZ2.out; have := HZ3.out; have := HZ4.out; have := HZ5.out; have := HZ6.out; have := HZ7.out; have := HZ8.out; omega))); have m2_ := Aside0.mk (Kd.S_step (by (with_reducible repeat (first | apply Kd.S_alloc | apply Kd.S_drewN | apply Kd.S_drew)); exact HO16.out) (fun k_ h1_ h2_ => hk_.2 k_ h2_ (fun h3_ => by have := HZ1.out; have := HZ2.out; have := HZ3.out; have := HZ4.out; have := HZ5.out; have := HZ6.out; have := HZ7.out; have := HZ8.out; omega))); have m3_ := Aside0.mk (Kd.S_step (by (with_reducible repeat (first | apply Kd.S_alloc | apply Kd.S_drewN | apply Kd.S_drew)); exact HO21.out) (fun k_ h1_ h2_ => hk_.2 k_ h2_ (fun h3_ => by have := HZ1.out; have := HZ2.out; have := HZ3.out; have := HZ4.out; have := HZ5.out; have := HZ6.out; have := HZ7.out; have := HZ8.out; omega))); have m4_ := Aside0.mk (Kd.S_mono ho0_ (fun _ h_ => h_)); have m5_ := Aside0.mk hb_; have m6_ := Aside0.mk (Kd.S_reads' ho0_).1; clear HO5 HO9 HO16 HO21 HO12 HB; have HZ9 := n0_; have HO5 := m0_; have HO9 := m1_; have HO16 := m2_; have HO21 := m3_; have HO12 := m4_; have HB := m5_; have HE27 := m6_; clear n0_ m0_ m1_ m2_ m3_ m4_ m5_ m6_; (try clear hb_); (try clear hk_); (try clear hw_); (try clear hg_); (try clear hbox_); (try clear ho0_); (try clear ho1_); (try clear ho2_)) | (go_at_call 30; (with_reducible refine (laws_eqLockS.calls k Ao16 co16 t13 Ao9 co9 t6 true _ ?side1 ?side2 ?side3 ?side4 A29.out).mono ?_); (case side1 => repeat (first | exact (Kd.S_reads' HO16.out).2.2 | (with_reducible refine Kd.C_alloc ?_ _) | (with_reducible refine Kd.C_drewN ?_ _) | (with_reducible refine Kd.C_drew ?_))); (case side2 => exact (Kd.S_reads' HO16.out).2.1); (case side3 => repeat (first | exact (Kd.N_reads' HO9.out).2.2 | (with_reducible refine Kd.C_alloc ?_ _) | (with_reducible refine Kd.C_drewN ?_ _) | (with_reducible refine Kd.C_drew ?_))); (case side4 => exact (Kd.N_reads' HO9.out).2.1); rintro e w_10 ⟨rfl, hb_⟩; have n0_ : Aside0 (w_9.heap.size ≤ w_10.heap.size) := ⟨Nat.le_trans (below_size (by repeat (first | (with_reducible first | exact Below.refl _ _ | apply below_alloc | apply pw_below_drewN | apply below_drew1) | exact Below.refl _ _))) (below_size hb_)⟩; have m0_ := Aside0.mk (Kd.S_below (by (with_reducible repeat (first | apply Kd.S_alloc | apply Kd.S_drewN | apply Kd.S_drew)); exact HO5.out) hb_); have m1_ := Aside0.mk (Kd.N_below (by (with_reducible repeat (first | apply Kd.N_alloc | apply Kd.N_drewN | apply Kd.N_drew)); exact HO9.out) hb_); have m2_ := Aside0.mk (Kd.S_below (by (with_reducible repeat (first | apply Kd.S_alloc | apply Kd.S_drewN | apply Kd.S_drew)); exact HO12.out) hb_); have m3_ := Aside0.mk (Kd.S_below (by (with_reducible repeat (first | apply Kd.S_alloc | apply Kd.S_drewN | apply Kd.S_drew)); exact HO16.out) hb_); have m4_ := Aside0.mk (Kd.S_below (by (with_reducible repeat (first | apply Kd.S_alloc | apply Kd.S_drewN | apply Kd.S_drew)); exact HO21.out) hb_); have m5_ := Aside0.mk (below_step (by repeat (first | (with_reducible first | exact HB.out | apply below_alloc | apply pw_below_drewN | apply below_drew1) | exact HB.out)) hb_); clear HO5 HO9 HO12 HO16 HO21 HB; have HZ10 := n0_; have HO5 := m0_; have HO9 := m1_; have HO12 := m2_; have HO16 := m3_; have HO21 := m4_; have HB := m5_; clear n0_ m0_ m1_ m2_ m3_ m4_ m5_; (try clear hb_); (try clear hk_); (try clear hw_); (try clear hg_); (try clear hbox_); (try clear ho0_)) | ((with_reducible refine gate_callee (f := 34) rfl ?_); refine goesL_ (some 68) rfl rfl Try.func34 (by kernel_rfl) rfl #[(.slice Ao16 t13.length co16), .int .i64 1] rfl (by (try simp only [List.map_toArray, List.map_cons, List.map_nil]); first | done | rfl) ?_; (with_reducible refine (laws_markLockS.calls k (fun k_ => w_4.heap.size ≤ k_ ∧ k_ < w_5.heap.size) (.slice Ao16 t13.length co16) t13 1 t30 t31 w _ ?side1 ?side2 A32.out).mono ?_); (case side1 => exact (by repeat (first | (with_reducible first | exact HB.out | apply below_alloc | apply pw_below_drewN | apply below_drew1) | exact HB.out))); (case side2 => exact (by (with_reducible repeat (first | apply Kd.S_alloc | apply Kd.S_drewN | apply Kd.S_drew)); exact HO16.out)); rintro e w_11 ⟨rfl, ho0_, hb_, hk_⟩; refine ⟨_, rfl, ?_⟩; have n0_ : Aside0 (w_10.heap.size ≤ w_11.heap.size) := ⟨Nat.le_trans (below_size (by repeat (first | (with_reducible first | exact Below.refl _ _ | apply below_alloc | apply pw_below_drewN | apply below_drew1) | exact Below.refl _ _))) (hk_.1)⟩; have m0_ := Aside0.mk (Kd.S_step (by (with_reducible repeat (first | apply Kd.S_alloc | apply Kd.S_drewN | apply Kd.S_drew)); exact HO5.out) (fun k_ h1_ h2_ => hk_.2 k_ h2_ (fun h3_ => by have := HZ1.out; have := HZ2.out; have := HZ3.out; have := HZ4.out; have := HZ5.out; have := HZ6.out; have := HZ7.out; have := HZ8.out; have := HZ9.out; have := HZ10.out; omega))); have m1_ := Aside0.mk (Kd.N_step (by (with_reducible repeat (first | apply Kd.N_alloc | apply Kd.N_drewN | apply Kd.N_drew)); exact HO9.out) (fun k_ h1_ h2_ => hk_.2 k_ h2_ (fun h3_ => by have := HZ1.out; have := HZ2.out; have := HZ3.out; have := HZ4.out; have := HZ5.out; have := HZ6.out; have := HZ7.out; have := HZ8.out; have := HZ9.out; have := HZ10.out; omega))); have m2_ := Aside0.mk (Kd.S_step (by (with_reducible repeat (first | apply Kd.S_alloc | apply Kd.S_drewN | apply Kd.S_drew)); exact HO12.out) (fun k_ h1_ h2_ => hk_.2 k_ h2_ (fun h3_ => by have := HZ1.out; have := HZ2.out; have := HZ3.out; have := HZ4.out; have := HZ5.out; have := HZ6.out; have := HZ7.out; have := HZ8.out; have := HZ9.out; have := HZ10.out; omega))); have m3_ := Aside0.mk (Kd.S_step (by (with_reducible repeat (first | apply Kd.S_alloc | apply Kd.S_drewN | apply Kd.S_drew)); exact HO21.out) (fun k_ h1_ h2_ => hk_.2 k_ h2_ (fun h3_ => by have := HZ1.out; have := HZ2.out; have := HZ3.out; have := HZ4.out; have := HZ5.out; have := HZ6.out; have := HZ7.out; have := HZ8.out; have := HZ9.out; have := HZ10.out; omega))); have m4_ := Aside0.mk (Kd.S_mono ho0_ (fun _ h_ => h_)); have m5_ := Aside0.mk hb_; have m6_ := Aside0.mk (Kd.S_reads' ho0_).1; clear HO5 HO9 HO12 HO21 HO16 HB; have HZ11 := n0_; have HO5 := m0_; have HO9 := m1_; have HO12 := m2_; have HO21 := m3_; have HO16 := m4_; have HB := m5_; have HE33 := m6_; clear n0_ m0_ m1_ m2_ m3_ m4_ m5_ m6_; (try clear hb_); (try clear hk_); (try clear hw_); (try clear hg_); (try clear hbox_); (try clear ho0_); (try clear ho1_); (try clear ho2_)) | ((with_reducible refine gate_callee (f := 35) rfl ?_); refine goesL_ (some 71) rfl rfl Try.func35 (by kernel_rfl) rfl #[.slice Ao16 t13.length co16, .int .i64 1] rfl (by (try simp only [List.map_toArray, List.map_cons, List.map_nil]); first | done | rfl) ?_; refine calls_of_args (args' := #[.slice Ao16 t31.length co16, .int .i64 1]) (by simp only [HE33.out]) ?_; (with_reducible refine (laws_heldLockS.calls k Ao16 co16 t31 1 t34 _ ?side1 ?side2 A35.out).mono ?_); (case side1 => repeat (first | (have h_ := Kd.S_reads' HO16.out; rw [HE33.out] at h_; exact h_.2.2) | (with_reducible refine Kd.C_alloc ?_ _) | (with_reducible refine Kd.C_drewN ?_ _) | (with_reducible refine Kd.C_drew ?_))); (case side2 => have h_ := Kd.S_reads' HO16.out; rw [HE33.out] at h_; exact h_.2.1); rintro e w_12 ⟨rfl, hb_⟩; refine ⟨_, rfl, ?_⟩; have n0_ : Aside0 (w_11.heap.size ≤ w_12.heap.size) := ⟨Nat.le_trans (below_size (by repeat (first | (with_reducible first | exact Below.refl _ _ | apply below_alloc | apply pw_below_drewN | apply below_drew1) | exact Below.refl _ _))) (below_size hb_)⟩; have m0_ := Aside0.mk (Kd.S_below (by (with_reducible repeat (first | apply Kd.S_alloc | apply Kd.S_drewN | apply Kd.S_drew)); exact HO5.out) hb_); have m1_ := Aside0.mk (Kd.N_below (by (with_reducible repeat (first | apply Kd.N_alloc | apply Kd.N_drewN | apply Kd.N_drew)); exact HO9.out) hb_); have m2_ := Aside0.mk (Kd.S_below (by (with_reducible repeat (first | apply Kd.S_alloc | apply Kd.S_drewN | apply Kd.S_drew)); exact HO12.out) hb_); have m3_ := Aside0.mk (Kd.S_below (by (with_reducible repeat (first | apply Kd.S_alloc | apply Kd.S_drewN | apply Kd.S_drew)); exact HO16.out) hb_); have m4_ := Aside0.mk (Kd.S_below (by (with_reducible repeat (first | apply Kd.S_alloc | apply Kd.S_drewN | apply Kd.S_drew)); exact HO21.out) hb_); have m5_ := Aside0.mk (below_step (by repeat (first | (with_reducible first | exact HB.out | apply below_alloc | apply pw_below_drewN | apply below_drew1) | exact HB.out)) hb_); clear HO5 HO9 HO12 HO16 HO21 HB; have HZ12 := n0_; have HO5 := m0_; have HO9 := m1_; have HO12 := m2_; have HO16 := m3_; have HO21 := m4_; have HB := m5_; clear n0_ m0_ m1_ m2_ m3_ m4_ m5_; (try clear hb_); (try clear hk_); (try clear hw_); (try clear hg_); (try clear hbox_); (try clear ho0_)) | ((with_reducible refine gate_callee (f := 27) rfl ?_); refine goesL_ (some 79) rfl rfl Try.func27 (by kernel_rfl) rfl #[.slice A0 l0.length c0] rfl (by (try simp only [List.map_toArray, List.map_cons, List.map_nil]); first | done | rfl) ?_; (with_reducible refine (laws_toLockS.calls k A0 c0 l0 t36 _ ?side1 ?side2 A37.out).mono ?_); (case side1 => repeat (first | exact (Kd.C_below HR0.out HB.out) | (with_reducible refine Kd.C_alloc ?_ _) | (with_reducible refine Kd.C_drewN ?_ _) | (with_reducible refine Kd.C_drew ?_))); (case side2 => exact HC0.out); rintro e w_13 ⟨v65, rfl, ho0_, hb_⟩; refine ⟨_, rfl, ?_⟩; have n0_ : Aside0 (w_12.heap.size ≤ w_13.heap.size) := ⟨Nat.le_trans (below_size (by repeat (first | (with_reducible first | exact Below.refl _ _ | apply below_alloc | apply pw_below_drewN | apply below_drew1) | exact Below.refl _ _))) (below_size hb_)⟩; have m0_ := Aside0.mk (Kd.S_below (by (with_reducible repeat (first | apply Kd.S_alloc | apply Kd.S_drewN | apply Kd.S_drew)); exact HO5.out) hb_); have m1_ := Aside0.mk (Kd.N_below (by (with_reducible repeat (first | apply Kd.N_alloc | apply Kd.N_drewN | apply Kd.N_drew)); exact HO9.out) hb_); have m2_ := Aside0.mk (Kd.S_below (by (with_reducible repeat (first | apply Kd.S_alloc | apply Kd.S_drewN | apply Kd.S_drew)); exact HO12.out) hb_); have m3_ := Aside0.mk (Kd.S_below (by (with_reducible repeat (first | apply Kd.S_alloc | apply Kd.S_drewN | apply Kd.S_drew)); exact HO16.out) hb_); have m4_ := Aside0.mk (Kd.S_below (by (with_reducible repeat (first | apply Kd.S_alloc | apply Kd.S_drewN | apply Kd.S_drew)); exact HO21.out) hb_); have m5_ := Aside0.mk (below_step (by repeat (first | (with_reducible first | exact HB.out | apply below_alloc | apply pw_below_drewN | apply below_drew1) | exact HB.out)) hb_); have m6_ := Aside0.mk (show Kd.S k28 28 w_13 w.heap.size (fun k_ => w_12.heap.size ≤ k_ ∧ k_ < w_13.heap.size) v65 t36 from Kd.S_mono (Kd.S_lower (Kd.S_bound ho0_) (below_size (by repeat (first | (with_reducible first | exact HB.out | apply below_alloc | apply pw_below_drewN | apply below_drew1) | exact HB.out)))) (fun k_ h_ => ⟨Nat.le_trans (below_size (by repeat (first | (with_reducible first | exact Below.refl _ _ | apply below_alloc | apply pw_below_drewN | apply below_drew1) | exact Below.refl _ _))) h_.2.1, h_.2.2.1⟩)); clear HO5 HO9 HO12 HO16 HO21 HB; have HZ13 := n0_; have HO5 := m0_; have HO9 := m1_; have HO12 := m2_; have HO16 := m3_; have HO21 := m4_; have HB := m5_; have HO38 := m6_; clear n0_ m0_ m1_ m2_ m3_ m4_ m5_ m6_; (try clear hb_); (try clear hk_); (try clear hw_); (try clear hg_); (try clear hbox_); (try clear ho0_); (try clear ho1_); obtain ⟨Ao38, co38, eo_⟩ := Kd.S_slice HO38.out; subst eo_) | ((with_reducible refine gate_callee (f := 33) rfl ?_); refine goesL_ (some 81) rfl rfl Try.func33 (by kernel_rfl) rfl #[.slice Ao38 t36.length co38, .int .i64 a1] rfl (by (try simp only [List.map_toArray, List.map_cons, List.map_nil]); first | done | rfl) ?_; (with_reducible refine (impl_DropLockX.calls k Ao38 co38 t36 a1 t39 t40 _ ?side1 ?side2 A41.out).mono ?_); (case side1 => repeat (first | exact (Kd.S_reads' HO38.out).2.2 | (with_reducible refine Kd.C_alloc ?_ _) | (with_reducible refine Kd.C_drewN ?_ _) | (with_reducible refine Kd.C_drew ?_))); (case side2 => exact (Kd.S_reads' HO38.out).2.1); rintro e w_14 ⟨v66, rfl, ho0_, hb_⟩; refine ⟨_, rfl, ?_⟩; have n0_ : Aside0 (w_13.heap.size ≤ w_14.heap.size) := ⟨Nat.le_trans (below_size (by repeat (first | (with_reducible first | exact Below.refl _ _ | apply below_alloc | apply pw_below_drewN | apply below_drew1) | exact Below.refl _ _))) (below_size hb_)⟩; have m0_ := Aside0.mk (Kd.S_below (by (with_reducible repeat (first | apply Kd.S_alloc | apply Kd.S_drewN | apply Kd.S_drew)); exact HO5.out) hb_); have m1_ := Aside0.mk (Kd.N_below (by (with_reducible repeat (first | apply Kd.N_alloc | apply Kd.N_drewN | apply Kd.N_drew)); exact HO9.out) hb_); have m2_ := Aside0.mk (Kd.S_below (by (with_reducible repeat (first | apply Kd.S_alloc | apply Kd.S_drewN | apply Kd.S_drew)); exact HO12.out) hb_); have m3_ := Aside0.mk (Kd.S_below (by (with_reducible repeat (first | apply Kd.S_alloc | apply Kd.S_drewN | apply Kd.S_drew)); exact HO16.out) hb_); have m4_ := Aside0.mk (Kd.S_below (by (with_reducible repeat (first | apply Kd.S_alloc | apply Kd.S_drewN | apply Kd.S_drew)); exact HO21.out) hb_); have m5_ := Aside0.mk (Kd.S_below (by (with_reducible repeat (first | apply Kd.S_alloc | apply Kd.S_drewN | apply Kd.S_drew)); exact HO38.out) hb_); have m6_ := Aside0.mk (below_step (by repeat (first | (with_reducible first | exact HB.out | apply below_alloc | apply pw_below_drewN | apply below_drew1) | exact HB.out)) hb_); have m7_ := Aside0.mk (show Kd.S k28 28 w_14 w.heap.size (fun k_ => w_13.heap.size ≤ k_ ∧ k_ < w_14.heap.size) v66 t39 from Kd.S_mono (Kd.S_lower (Kd.S_bound ho0_) (below_size (by repeat (first | (with_reducible first | exact HB.out | apply below_alloc | apply pw_below_drewN | apply below_drew1) | exact HB.out)))) (fun k_ h_ => ⟨Nat.le_trans (below_size (by repeat (first | (with_reducible first | exact Below.refl _ _ | apply below_alloc | apply pw_below_drewN | apply below_drew1) | exact Below.refl _ _))) h_.2.1, h_.2.2.1⟩)); clear HO5 HO9 HO12 HO16 HO21 HO38 HB; have HZ14 := n0_; have HO5 := m0_; have HO9 := m1_; have HO12 := m2_; have HO16 := m3_; have HO21 := m4_; have HO38 := m5_; have HB := m6_; have HO42 := m7_; clear n0_ m0_ m1_ m2_ m3_ m4_ m5_ m6_ m7_; (try clear hb_); (try clear hk_); (try clear hw_); (try clear hg_); (try clear hbox_); (try clear ho0_); (try clear ho1_); obtain ⟨Ao42, co42, eo_⟩ := Kd.S_slice HO42.out; subst eo_) | ((with_reducible refine gate_callee (f := 30) rfl ?_); refine goesL_ (some 86) rfl rfl Try.func30 (by kernel_rfl) rfl #[.slice Ao42 t39.length co42, .slice Ao9 t6.length co9] rfl (by (try simp only [List.map_toArray, List.map_cons, List.map_nil]); first | done | rfl) ?_; (with_reducible refine (laws_eqLockS.calls k Ao42 co42 t39 Ao9 co9 t6 true _ ?side1 ?side2 ?side3 ?side4 A44.out).mono ?_); (case side1 => repeat (first | exact (Kd.S_reads' HO42.out).2.2 | (with_reducible refine Kd.C_alloc ?_ _) | (with_reducible refine Kd.C_drewN ?_ _) | (with_reducible refine Kd.C_drew ?_))); (case side2 => exact (Kd.S_reads' HO42.out).2.1); (case side3 => repeat (first | exact (Kd.N_reads' HO9.out).2.2 | (with_reducible refine Kd.C_alloc ?_ _) | (with_reducible refine Kd.C_drewN ?_ _) | (with_reducible refine Kd.C_drew ?_))); (case side4 => exact (Kd.N_reads' HO9.out).2.1); rintro e w_15 ⟨rfl, hb_⟩; refine ⟨_, rfl, ?_⟩; have n0_ : Aside0 (w_14.heap.size ≤ w_15.heap.size) := ⟨Nat.le_trans (below_size (by repeat (first | (with_reducible first | exact Below.refl _ _ | apply below_alloc | apply pw_below_drewN | apply below_drew1) | exact Below.refl _ _))) (below_size hb_)⟩; have m0_ := Aside0.mk (Kd.S_below (by (with_reducible repeat (first | apply Kd.S_alloc | apply Kd.S_drewN | apply Kd.S_drew)); exact HO5.out) hb_); have m1_ := Aside0.mk (Kd.N_below (by (with_reducible repeat (first | apply Kd.N_alloc | apply Kd.N_drewN | apply Kd.N_drew)); exact HO9.out) hb_); have m2_ := Aside0.mk (Kd.S_below (by (with_reducible repeat (first | apply Kd.S_alloc | apply Kd.S_drewN | apply Kd.S_drew)); exact HO12.out) hb_); have m3_ := Aside0.mk (Kd.S_below (by (with_reducible repeat (first | apply Kd.S_alloc | apply Kd.S_drewN | apply Kd.S_drew)); exact HO16.out) hb_); have m4_ := Aside0.mk (Kd.S_below (by (with_reducible repeat (first | apply Kd.S_alloc | apply Kd.S_drewN | apply Kd.S_drew)); exact HO21.out) hb_); have m5_ := Aside0.mk (Kd.S_below (by (with_reducible repeat (first | apply Kd.S_alloc | apply Kd.S_drewN | apply Kd.S_drew)); exact HO38.out) hb_); have m6_ := Aside0.mk (Kd.S_below (by (with_reducible repeat (first | apply Kd.S_alloc | apply Kd.S_drewN | apply Kd.S_drew)); exact HO42.out) hb_); have m7_ := Aside0.mk (below_step (by repeat (first | (with_reducible first | exact HB.out | apply below_alloc | apply pw_below_drewN | apply below_drew1) | exact HB.out)) hb_); clear HO5 HO9 HO12 HO16 HO21 HO38 HO42 HB; have HZ15 := n0_; have HO5 := m0_; have HO9 := m1_; have HO12 := m2_; have HO16 := m3_; have HO21 := m4_; have HO38 := m5_; have HO42 := m6_; have HB := m7_; clear n0_ m0_ m1_ m2_ m3_ m4_ m5_ m6_ m7_; (try clear hb_); (try clear hk_); (try clear hw_); (try clear hg_); (try clear hbox_); (try clear ho0_)) | ((with_reducible refine gate_callee (f := 35) rfl ?_); refine goesL_ (some 95) rfl rfl Try.func35 (by kernel_rfl) rfl #[.slice Ao16 t13.length co16, .int .i64 1] rfl (by (try simp only [List.map_toArray, List.map_cons, List.map_nil]); first | done | rfl) ?_; refine calls_of_args (args' := #[.slice Ao16 t31.length co16, .int .i64 1]) (by simp only [HE33.out]) ?_; (with_reducible refine (laws_heldLockS.calls k Ao16 co16 t31 1 t45 _ ?side1 ?side2 A46.out).mono ?_); (case side1 => repeat (first | (have h_ := Kd.S_reads' HO16.out; rw [HE33.out] at h_; exact h_.2.2) | (with_reducible refine Kd.C_alloc ?_ _) | (with_reducible refine Kd.C_drewN ?_ _) | (with_reducible refine Kd.C_drew ?_))); (case side2 => have h_ := Kd.S_reads' HO16.out; rw [HE33.out] at h_; exact h_.2.1); rintro e w_16 ⟨rfl, hb_⟩; refine ⟨_, rfl, ?_⟩; have n0_ : Aside0 (w_15.heap.size ≤ w_16.heap.size) := ⟨Nat.le_trans (below_size (by repeat (first | (with_reducible first | exact Below.refl _ _ | apply below_alloc | apply pw_below_drewN | apply below_drew1) | exact Below.refl _ _))) (below_size hb_)⟩; have m0_ := Aside0.mk (Kd.S_below (by (with_reducible repeat (first | apply Kd.S_alloc | apply Kd.S_drewN | apply Kd.S_drew)); exact HO5.out) hb_); have m1_ := Aside0.mk (Kd.N_below (by (with_reducible repeat (first | apply Kd.N_alloc | apply Kd.N_drewN | apply Kd.N_drew)); exact HO9.out) hb_); have m2_ := Aside0.mk (Kd.S_below (by (with_reducible repeat (first | apply Kd.S_alloc | apply Kd.S_drewN | apply Kd.S_drew)); exact HO12.out) hb_); have m3_ := Aside0.mk (Kd.S_below (by (with_reducible repeat (first | apply Kd.S_alloc | apply Kd.S_drewN | apply Kd.S_drew)); exact HO16.out) hb_); have m4_ := Aside0.mk (Kd.S_below (by (with_reducible repeat (first | apply Kd.S_alloc | apply Kd.S_drewN | apply Kd.S_drew)); exact HO21.out) hb_); have m5_ := Aside0.mk (Kd.S_below (by (with_reducible repeat (first | apply Kd.S_alloc | apply Kd.S_drewN | apply Kd.S_drew)); exact HO38.out) hb_); have m6_ := Aside0.mk (Kd.S_below (by (with_reducible repeat (first | apply Kd.S_alloc | apply Kd.S_drewN | apply Kd.S_drew)); exact HO42.out) hb_); have m7_ := Aside0.mk (below_step (by repeat (first | (with_reducible first | exact HB.out | apply below_alloc | apply pw_below_drewN | apply below_drew1) | exact HB.out)) hb_); clear HO5 HO9 HO12 HO16 HO21 HO38 HO42 HB; have HZ16 := n0_; have HO5 := m0_; have HO9 := m1_; have HO12 := m2_; have HO16 := m3_; have HO21 := m4_; have HO38 := m5_; have HO42 := m6_; have HB := m7_; clear n0_ m0_ m1_ m2_ m3_ m4_ m5_ m6_ m7_; (try clear hb_); (try clear hk_); (try clear hw_); (try clear hg_); (try clear hbox_); (try clear ho0_)))
  go_ret
  exact ⟨rfl, (by repeat (first | (with_reducible first | exact HB.out | apply below_alloc | apply pw_below_drewN | apply below_drew1) | exact HB.out))⟩
end Go.Proofs.Ytiddgglidkbipaa.Q

/- What a reading of a parameter says of its cells, kind by kind: for the rows of laws whose parameters are slices and structs. No condition. -/
namespace Go.Proofs.Ytiddgglidkbipaa.Op
open Go.RowKit Go.ChangeShapes Go.WideShapes Go.Proofs.YtiddgglidkbipaaW.PrintWords
def Opens {α H : Type} (enc : TypeId × Value → H) (P : Program) (w : World) (t : TypeId) (d : Kd α) (G : α → Prop) : Prop :=
  ∀ fuel cs x, DataW.trod enc P w 0 (fun _ => true) true fuel t cs = some x → ∃ a, d.K w a cs ∧ G a
section
variable {H : Type} {enc : TypeId × Value → H} {P : Program} {w : World} {t : TypeId}
theorem opens_string (ht : P.underlying t = some .string) : Opens enc P w t Kd.string (fun s => s.size ≤ maxLen) := by
  intro fuel cs x h
  obtain ⟨s, rfl, _, hs⟩ := DataW.trod_string ht h
  exact ⟨s, rfl, hs⟩
theorem opens_bool (ht : P.underlying t = some .bool) : Opens enc P w t Kd.bool (fun _ => True) := by
  intro fuel cs x h
  obtain ⟨s, rfl, _⟩ := DataW.trod_bool ht h
  exact ⟨s, rfl, trivial⟩
theorem opens_int {k : IntKind} (ht : P.underlying t = some (.int k)) : Opens enc P w t (Kd.int k) (fun n => (Lit.int k n).wf = true) := by
  intro fuel cs x h
  obtain ⟨n, rfl, _, hn⟩ := DataW.trod_int ht h
  exact ⟨n, rfl, hn⟩
theorem opens_slice {α : Type} [Inhabited α] {e : TypeId} {d : Kd α} {G : α → Prop} (ht : P.underlying t = some (.slice e)) (hc : P.cellsOf e = d.sz) (he : Opens enc P w e d G) :
    Opens enc P w t (Kd.slice e d) (fun l => l.length ≤ maxLen ∧ ∀ a ∈ l, G a) := by
  intro fuel cs x h
  rcases Go.Deep.open_slice ht h with ⟨rfl, _⟩ | ⟨a, len, cap, m, n, D, Pl, rfl, _, hl, hm, hmm, _, hx⟩
  · exact ⟨[], ⟨none, 0, rfl, Nat.le_refl _, Kd.C_nil d w⟩, by simp, by simp⟩
  · have hm' : m = cap := by simpa using hmm
    have each : ∀ i, i < len → ∃ y : α, G y ∧ ∃ c, d.K w y c ∧ ∀ j u, c[j]? = some u → w.cell? (a.add (i * d.sz + j)) = some u := fun i hi => by
      obtain ⟨cs', h1, h2⟩ := hx i (by omega)
      obtain ⟨y, hK, hG⟩ := he _ _ _ h2
      obtain ⟨_, h3, h4⟩ := World.cells?_some h1
      refine ⟨y, hG, cs', hK, fun j u hu => ?_⟩
      have hj : j < P.cellsOf e := by
        have := (List.getElem?_eq_some_iff.1 hu).1
        omega
      have h5 := h4 j hj
      rw [Go.Deep.add_add, hc, hu] at h5
      exact h5
    obtain ⟨f, hf⟩ := Go.Deep.choose_lt each
    have hmax : maxLen = 9223372036854775807 := by decide
    refine ⟨(List.range len).map f, ⟨some a, cap, by simp, by simpa using hl, ?_⟩, by simp; omega, ?_⟩
    · refine ⟨rfl, by simp; omega, fun _ => ⟨a, rfl, fun j p hj => ?_⟩⟩
      have hjl : j < len := by
        have := (List.getElem?_eq_some_iff.1 hj).1
        simpa using this
      have hp : f j = p := by
        rw [List.getElem?_map, List.getElem?_range hjl] at hj
        simpa using hj
      obtain ⟨_, c, hK, hcell⟩ := hf j hjl
      exact ⟨c, d.K_len hK, hp ▸ hK, hcell⟩
    · intro y hy
      obtain ⟨j, hj, rfl⟩ := List.mem_map.1 hy
      exact (hf j (List.mem_range.1 hj)).1
end
end Go.Proofs.Ytiddgglidkbipaa.Op

/- What a reading of a struct says of its cells. No condition. -/
namespace Go.Proofs.Ytiddgglidkbipaa.Q
open Go.RowKit Go.ChangeShapes Go.WideShapes Go.Proofs.YtiddgglidkbipaaW.PrintWords Go.Proofs.Ytiddgglidkbipaa
set_option linter.unusedVariables false
set_option linter.unusedSimpArgs false
theorem len5 {α : Type} {cs : List α} (h : cs.length = 5) : ∃ c0 c1 c2 c3 c4, cs = [c0, c1, c2, c3, c4] := by
  match cs, h with
  | [c0, c1, c2, c3, c4], _ => exact ⟨_, _, _, _, _, rfl⟩
instance : Inhabited S24 := ⟨z24⟩
def G24 (x : S24) : Prop := (fun x : Int => (Lit.int .i64 x).wf = true) x.f0 ∧ (fun l : List ByteArray => l.length ≤ maxLen ∧ ∀ a ∈ l, (fun s : ByteArray => s.size ≤ maxLen) a) x.f1 ∧ (fun _ : Bool => True) x.f2 ∧ (fun _ : Bool => True) x.f3 ∧ (fun x : Int => (Lit.int .i64 x).wf = true) x.f4
theorem opens24 {H : Type} {enc : TypeId × Value → H} {w : World} : Op.Opens enc Try.prog w 24 k24 G24 := by
  intro fuel cs x h
  obtain ⟨xs, n, _, _, hl, hlen, hf⟩ := DataW.trod_struct Try.underlying24 h
  replace hl : cs.length = 5 := hl.trans (by kernel_rfl)
  replace hlen : xs.length = 5 := hlen.trans (by kernel_rfl)
  obtain ⟨c0, c1, c2, c3, c4, rfl⟩ := len5 hl
  have hc3_ : Try.prog.cellsOf 3 = 1 := by kernel_rfl
  have hc22_ : Try.prog.cellsOf 22 = 1 := by kernel_rfl
  have hc4_ : Try.prog.cellsOf 4 = 1 := by kernel_rfl
  obtain ⟨a0, k0_, g0_⟩ : ∃ a, (Kd.int .i64).K w a [c0] ∧ (fun x : Int => (Lit.int .i64 x).wf = true) a := by
    have h1 : DataW.trod enc Try.prog w 0 (fun _ => true) true n 3 (([c0, c1, c2, c3, c4].drop 0).take (Try.prog.cellsOf 3)) = xs[0]? := hf 0 _ rfl
    have hlt : 0 < xs.length := by omega
    rw [List.getElem?_eq_getElem hlt] at h1
    simp only [hc3_, List.drop_zero, List.drop_succ_cons, List.take_succ_cons, List.take_zero] at h1
    exact (Op.opens_int Try.underlying3) n [c0] _ h1
  obtain ⟨a1, k1_, g1_⟩ : ∃ a, (Kd.slice 9 Kd.string).K w a [c1] ∧ (fun l : List ByteArray => l.length ≤ maxLen ∧ ∀ a ∈ l, (fun s : ByteArray => s.size ≤ maxLen) a) a := by
    have h1 : DataW.trod enc Try.prog w 0 (fun _ => true) true n 22 (([c0, c1, c2, c3, c4].drop 1).take (Try.prog.cellsOf 22)) = xs[1]? := hf 1 _ rfl
    have hlt : 1 < xs.length := by omega
    rw [List.getElem?_eq_getElem hlt] at h1
    simp only [hc22_, List.drop_zero, List.drop_succ_cons, List.take_succ_cons, List.take_zero] at h1
    exact (Op.opens_slice Try.underlying22 (by kernel_rfl) (Op.opens_string Try.underlying9)) n [c1] _ h1
  obtain ⟨a2, k2_, g2_⟩ : ∃ a, Kd.bool.K w a [c2] ∧ (fun _ : Bool => True) a := by
    have h1 : DataW.trod enc Try.prog w 0 (fun _ => true) true n 4 (([c0, c1, c2, c3, c4].drop 2).take (Try.prog.cellsOf 4)) = xs[2]? := hf 2 _ rfl
    have hlt : 2 < xs.length := by omega
    rw [List.getElem?_eq_getElem hlt] at h1
    simp only [hc4_, List.drop_zero, List.drop_succ_cons, List.take_succ_cons, List.take_zero] at h1
    exact (Op.opens_bool Try.underlying4) n [c2] _ h1
  obtain ⟨a3, k3_, g3_⟩ : ∃ a, Kd.bool.K w a [c3] ∧ (fun _ : Bool => True) a := by
    have h1 : DataW.trod enc Try.prog w 0 (fun _ => true) true n 4 (([c0, c1, c2, c3, c4].drop 3).take (Try.prog.cellsOf 4)) = xs[3]? := hf 3 _ rfl
    have hlt : 3 < xs.length := by omega
    rw [List.getElem?_eq_getElem hlt] at h1
    simp only [hc4_, List.drop_zero, List.drop_succ_cons, List.take_succ_cons, List.take_zero] at h1
    exact (Op.opens_bool Try.underlying4) n [c3] _ h1
  obtain ⟨a4, k4_, g4_⟩ : ∃ a, (Kd.int .i64).K w a [c4] ∧ (fun x : Int => (Lit.int .i64 x).wf = true) a := by
    have h1 : DataW.trod enc Try.prog w 0 (fun _ => true) true n 3 (([c0, c1, c2, c3, c4].drop 4).take (Try.prog.cellsOf 3)) = xs[4]? := hf 4 _ rfl
    have hlt : 4 < xs.length := by omega
    rw [List.getElem?_eq_getElem hlt] at h1
    simp only [hc3_, List.drop_zero, List.drop_succ_cons, List.take_succ_cons, List.take_zero] at h1
    exact (Op.opens_int Try.underlying3) n [c4] _ h1
  exact ⟨⟨a0, a1, a2, a3, a4⟩, ⟨[c0], [c1, c2, c3, c4], rfl, k0_, ⟨[c1], [c2, c3, c4], rfl, k1_, ⟨[c2], [c3, c4], rfl, k2_, ⟨[c3], [c4], rfl, k3_, k4_⟩⟩⟩⟩, ⟨g0_, g1_, g2_, g3_, g4_⟩⟩
end Go.Proofs.Ytiddgglidkbipaa.Q

/- Small lemmas for plain laws over rounds: indices as lengths of what was passed, bytes' equality. No condition. -/
set_option linter.unusedSimpArgs false
set_option linter.unusedVariables false
namespace Go.Proofs.Ytiddgglidkbipaa.L
open Go.RowKit Go.Proofs.YtiddgglidkbipaaW.PrintWords Go.Proofs.YtiddgglidkbipaaW.PrintLast
theorem ba_toList (s : ByteArray) : s.toList = s.data.toList := ByteArray.toList_eq s
theorem ba_inj {a b : ByteArray} (h : a.toList = b.toList) : a = b := by
  rw [ba_toList, ba_toList] at h
  cases a with | mk x => cases b with | mk y => congr 1; exact Array.toList_inj.1 h
theorem ba_eq {a b : ByteArray} : (a.toList = b.toList) = (a = b) := propext ⟨ba_inj, fun h => by rw [h]⟩
theorem maxLen_eq : maxLen = 9223372036854775807 := by decide
theorem wrap_id {x : Int} (h0 : -9223372036854775808 ≤ x) (h1 : x < 9223372036854775808) : wrap64 x = x := by
  unfold wrap64
  omega
section
variable {α : Type} {l pre suf : List α} {a : α}
theorem lt_at (h : l = pre ++ a :: suf) : ((pre.length : Nat) : Int) < (l.length : Int) := by subst h; simp; omega
theorem rd_at (d : α) (h : l = pre ++ a :: suf) : rdOf d l (pre.length : Int) = a := by subst h; simp [rdOf, List.getD_eq_getElem?_getD]
theorem getD_at (d : α) (h : l = pre ++ a :: suf) : l.getD ((pre.length : Nat) : Int).toNat d = a := by subst h; simp [List.getD_eq_getElem?_getD]
theorem next_at (h : l = pre ++ a :: suf) (hl : l.length ≤ maxLen) : wrap64 ((pre.length : Int) + 1) = ((pre ++ [a]).length : Int) := by
  have : l.length = pre.length + 1 + suf.length := by subst h; simp; omega
  rw [maxLen_eq] at hl
  rw [wrap_id (by omega) (by omega)]
  simp
theorem snoc_at (h : l = pre ++ a :: suf) : l = (pre ++ [a]) ++ suf := by subst h; simp
theorem end_at (h : l = pre ++ []) : ¬ ((pre.length : Nat) : Int) < (l.length : Int) := by subst h; simp
theorem set_at {b : α} (h : l = pre ++ a :: suf) : l.set ((pre.length : Nat) : Int).toNat b = (pre ++ [b]) ++ suf := by subst h; simp
theorem nonneg_at (n : Nat) : (0 : Int) ≤ (n : Int) := Int.natCast_nonneg n
end
def Sz (g : Nat → Option Int) (n : Int) (P : Prop) : Prop := Ev g (-1) ∨ ∃ m : Int, 0 ≤ m ∧ m ≤ n ∧ Ev g m ∧ P
theorem Sz.bind {g : Nat → Option Int} {f : Nat → Int → Option Int} {n : Int} {P Q : Prop} (h : Sz g n P) (hk : ∀ m, 0 ≤ m → m ≤ n → P → Sz (fun k => f k m) m Q) (hneg : Ev (fun k => f k (-1)) (-1)) : Sz (fun k => (g k).bind (f k)) n Q := by
  rcases h with h | ⟨m, h0, h1, h, hP⟩
  · exact .inl (Ev.bind h hneg)
  · rcases hk m h0 h1 hP with h2 | ⟨m', h0', h1', h2, hQ⟩
    · exact .inl (Ev.bind h h2)
    · exact .inr ⟨m', h0', by omega, Ev.bind h h2, hQ⟩
theorem Sz.sub {f : Nat → Option Int} {n c : Int} {Q : Prop} (hc : 0 ≤ c) (hk : c ≤ n → Sz f (n - c) Q) : Sz (fun k => if n - c < 0 then some (-1) else f k) n Q := by
  by_cases h : n - c < 0
  · simp only [if_pos h]; exact .inl (Ev.now _)
  · simp only [if_neg h]
    rcases hk (by omega) with h2 | ⟨m, h0, h1, h2, hQ⟩
    · exact .inl h2
    · exact .inr ⟨m, h0, by omega, h2, hQ⟩
theorem Sz.ev {α : Type} {g : Nat → Option Int} {f : Nat → Int → Option α} {n : Int} {P : Prop} {r : α} (h : Sz g n P) (hneg : Ev (fun k => f k (-1)) r) (hk : ∀ m, 0 ≤ m → m ≤ n → P → Ev (fun k => f k m) r) : Ev (fun k => (g k).bind (f k)) r := by
  rcases h with h | ⟨m, h0, h1, h, hP⟩
  · exact Ev.bind h hneg
  · exact Ev.bind h (hk m h0 h1 hP)
def IntOk (x : Int) : Prop := -9223372036854775808 ≤ x ∧ x < 9223372036854775808
theorem wf_int {x : Int} (h : (Lit.int .i64 x).wf = true) : IntOk x := by
  unfold Lit.wf at h
  rw [Bool.and_eq_true, decide_eq_true_eq, decide_eq_true_eq] at h
  have h1 : IntKind.i64.min = -9223372036854775808 := by decide
  have h2 : IntKind.i64.max = 9223372036854775807 := by decide
  rw [h1, h2] at h
  exact ⟨h.1, by omega⟩
def SmS (l : List ByteArray) : Prop := l.length ≤ 1048576 ∧ ∀ s ∈ l, s.size ≤ 1048576
theorem sz_loop {α : Type} {l : List α} {P : α → Prop} (g : Nat → Int → Int → Option Int)
    (hend : ∀ n, Ev (fun k => g k n l.length) n)
    (hstep : ∀ pre a suf n, l = pre ++ a :: suf → 0 ≤ n → n ≤ 1048576 → Ev (fun k => g k n (pre.length : Int)) (-1) ∨ ∃ m, 0 ≤ m ∧ m ≤ n ∧ P a ∧ ∀ r, Ev (fun k => g k m ((pre ++ [a]).length : Int)) r → Ev (fun k => g k n (pre.length : Int)) r) :
    ∀ (suf pre : List α) (n : Int), l = pre ++ suf → 0 ≤ n → n ≤ 1048576 → Sz (fun k => g k n (pre.length : Int)) n (∀ a ∈ suf, P a) := by
  intro suf
  induction suf with
  | nil =>
    intro pre n h h0 h1
    have := hend n
    rw [h, List.append_nil] at this
    exact .inr ⟨n, h0, Int.le_refl _, this, by simp⟩
  | cons a suf ih =>
    intro pre n h h0 h1
    rcases hstep pre a suf n h h0 h1 with h2 | ⟨m, hm0, hm1, hP, hr⟩
    · exact .inl h2
    · rcases ih (pre ++ [a]) m (snoc_at h) hm0 (by omega) with h3 | ⟨m', hm0', hm1', h3, h4⟩
      · exact .inl (hr _ h3)
      · exact .inr ⟨m', hm0', by omega, hr _ h3, fun x hx => by
          rcases List.mem_cons.1 hx with rfl | hx
          · exact hP
          · exact h4 x hx⟩
theorem to_loop {α β : Type} {l : List α} {f : α → β} (g : Nat → List β → Int → Option (List β))
    (hend : ∀ out, Ev (fun k => g k out l.length) out)
    (hstep : ∀ pre a suf (out : List β), l = pre ++ a :: suf → ((pre.length : Nat) : Int) < (out.length : Int) → ∀ r, Ev (fun k => g k (out.set ((pre.length : Nat) : Int).toNat (f a)) ((pre ++ [a]).length : Int)) r → Ev (fun k => g k out (pre.length : Int)) r) :
    ∀ (suf pre : List α) (out rest : List β), l = pre ++ suf → out = pre.map f ++ rest → rest.length = suf.length → Ev (fun k => g k out (pre.length : Int)) (l.map f) := by
  intro suf
  induction suf with
  | nil =>
    intro pre out rest h ho hr
    obtain rfl : rest = [] := by simpa using hr
    have := hend out
    rw [h, List.append_nil] at this ⊢
    rw [ho, List.append_nil] at this ⊢
    exact this
  | cons a suf ih =>
    intro pre out rest h ho hr
    obtain ⟨b, rest, rfl⟩ : ∃ b r, rest = b :: r := by
      cases rest with
      | nil => simp at hr
      | cons b r => exact ⟨b, r, rfl⟩
    have hlen : ((pre.length : Nat) : Int) < (out.length : Int) := by rw [ho]; simp; omega
    refine hstep pre a suf out h hlen _ (ih (pre ++ [a]) _ rest (snoc_at h) ?_ (by simpa using hr))
    rw [ho]
    simp [List.set_append]
theorem eq_loop {α : Type} [DecidableEq α] {a b : List α} (g : Nat → Int → Option Bool)
    (hend : Ev (fun k => g k a.length) true)
    (hstep : ∀ pre x su pre' y sv, a = pre ++ x :: su → b = pre' ++ y :: sv → pre.length = pre'.length → (x ≠ y → Ev (fun k => g k (pre.length : Int)) false) ∧ (x = y → ∀ r, Ev (fun k => g k ((pre ++ [x]).length : Int)) r → Ev (fun k => g k (pre.length : Int)) r)) :
    ∀ (su sv pu pv : List α), a = pu ++ su → b = pv ++ sv → pu.length = pv.length → su.length = sv.length → Ev (fun k => g k (pu.length : Int)) (decide (su = sv)) := by
  intro su
  induction su with
  | nil =>
    intro sv pu pv h h' hp hs
    obtain rfl : sv = [] := by simpa using hs.symm
    rw [h, List.append_nil] at hend
    exact hend
  | cons x su ih =>
    intro sv pu pv h h' hp hs
    cases sv with
    | nil => simp at hs
    | cons y sv =>
      obtain ⟨h1, h2⟩ := hstep pu x su pv y sv h h' hp
      by_cases e : x = y
      · have h3 := h2 e _ (ih sv (pu ++ [x]) (pv ++ [y]) (snoc_at h) (snoc_at h') (by simp [hp]) (by simpa using hs))
        simp only [e, List.cons.injEq, true_and]
        exact h3
      · rw [show decide (x :: su = y :: sv) = false from decide_eq_false (fun h => e (List.cons.inj h).1)]
        exact h1 e
theorem ev_cast {α : Type} {g : Nat → Option α} {r s : α} (h : Ev g r) (e : r = s) : Ev g s := e ▸ h
end Go.Proofs.Ytiddgglidkbipaa.L

/- The laws' own functions over lists of texts: their size, their copy, their equality. No condition. -/
set_option linter.unusedSimpArgs false
set_option linter.unusedVariables false
namespace Go.Proofs.Ytiddgglidkbipaa.L
open Go.RowKit Go.Proofs.YtiddgglidkbipaaW.PrintWords Go.Proofs.YtiddgglidkbipaaW.PrintLast Go.Proofs.Ytiddgglidkbipaa.Q
theorem szS_loop {l : List ByteArray} (hl : l.length ≤ maxLen) (hs : ∀ s ∈ l, s.size ≤ maxLen) : ∀ (suf pre : List ByteArray) (n : Int), l = pre ++ suf → 0 ≤ n → n ≤ 1048576 →
    Ev (fun k => laws_szStringS.l0 k l n pre.length) (-1) ∨ ∃ m : Int, 0 ≤ m ∧ m ≤ n ∧ Ev (fun k => laws_szStringS.l0 k l n pre.length) m ∧ ∀ s ∈ suf, (s.size : Int) ≤ n := by
  intro suf
  induction suf with
  | nil =>
    intro pre n h h0 h1
    refine .inr ⟨n, h0, Int.le_refl _, Ev.step (fun k => laws_szStringS.l0.eq_2 ..) ?_, by simp⟩
    simp only [if_neg (end_at h)]
    exact Ev.now _
  | cons a suf ih =>
    intro pre n h h0 h1
    have ha : a.size ≤ maxLen := hs a (by rw [h]; simp)
    rw [maxLen_eq] at ha
    have hw : wrap64 (n - (a.size : Int)) = n - a.size := wrap_id (by omega) (by omega)
    by_cases hlt : n - (a.size : Int) < 0
    · left
      refine Ev.step (fun k => laws_szStringS.l0.eq_2 ..) ?_
      simp only [if_pos (lt_at h), if_pos (nonneg_at _), rd_at _ h, hw, if_pos hlt]
      exact Ev.now _
    · have st : ∀ r, Ev (fun k => laws_szStringS.l0 k l (n - a.size) (pre ++ [a]).length) r → Ev (fun k => laws_szStringS.l0 k l n pre.length) r := fun r hr => by
        refine Ev.step (fun k => laws_szStringS.l0.eq_2 ..) ?_
        simp only [if_pos (lt_at h), if_pos (nonneg_at _), rd_at _ h, hw, if_neg hlt, next_at h hl]
        exact hr
      rcases ih (pre ++ [a]) (n - a.size) (snoc_at h) (by omega) (by omega) with h2 | ⟨m, hm0, hm1, h2, h3⟩
      · exact .inl (st _ h2)
      · refine .inr ⟨m, hm0, by omega, st _ h2, fun s hs' => ?_⟩
        rcases List.mem_cons.1 hs' with rfl | hs'
        · omega
        · have := h3 s hs'
          omega
theorem szS {l : List ByteArray} (hl : l.length ≤ maxLen) (hs : ∀ s ∈ l, s.size ≤ maxLen) {n : Int} (h0 : 0 ≤ n) (h1 : n ≤ 1048576) : Sz (fun k => laws_szStringS.f k l n) n (SmS l) := by
  have hl' := hl
  rw [maxLen_eq] at hl'
  unfold laws_szStringS.f
  simp only [wrap_id (x := n - (l.length : Int)) (by omega) (by omega)]
  refine Sz.sub (by omega) (fun hlt => ?_)
  rcases szS_loop hl hs l [] (n - l.length) rfl (by omega) (by omega) with h | ⟨m, hm0, hm1, h2, h3⟩
  · exact .inl h
  · exact .inr ⟨m, hm0, hm1, h2, by omega, fun s hs' => by have := h3 s hs'; omega⟩
theorem toS_loop {l : List ByteArray} (hl : l.length ≤ maxLen) : ∀ (suf pre rest : List ByteArray), l = pre ++ suf → rest.length = suf.length → Ev (fun k => laws_toStringS.l0 k l (pre ++ rest) pre.length) l := by
  intro suf
  induction suf with
  | nil =>
    intro pre rest h hr
    refine Ev.step (fun k => laws_toStringS.l0.eq_2 ..) ?_
    simp only [if_neg (end_at h)]
    obtain rfl : rest = [] := by simpa using hr
    rw [← h]
    exact Ev.now _
  | cons a suf ih =>
    intro pre rest h hr
    obtain ⟨b, rest, rfl⟩ : ∃ b r, rest = b :: r := by
      cases rest with
      | nil => simp at hr
      | cons b r => exact ⟨b, r, rfl⟩
    refine Ev.step (fun k => laws_toStringS.l0.eq_2 ..) ?_
    have h2 : pre ++ b :: rest = pre ++ b :: rest := rfl
    simp only [if_pos (lt_at h), if_pos (nonneg_at _), rd_at _ h, if_pos (lt_at h2), next_at h hl, set_at h2]
    exact ih (pre ++ [a]) rest (snoc_at h) (by simpa using hr)
theorem toS {l : List ByteArray} (hl : (l.length : Int) ≤ 1048576) : Ev (fun k => laws_toStringS.f k l) l := by
  unfold laws_toStringS.f
  simp only [if_pos (nonneg_at _), Int.toNat_natCast, if_pos (show l.length ≤ 17592186044416 by omega)]
  have := toS_loop (l := l) (by rw [maxLen_eq]; omega) l [] (List.replicate l.length (⟨#[]⟩ : ByteArray)) rfl (by simp)
  simpa using this
theorem eqS_loop {a b : List ByteArray} (hl : a.length ≤ maxLen) : ∀ (su sv pu pv : List ByteArray), a = pu ++ su → b = pv ++ sv → pu.length = pv.length → su.length = sv.length →
    Ev (fun k => laws_eqStringS.l0 k a b pu.length) (decide (su = sv)) := by
  intro su
  induction su with
  | nil =>
    intro sv pu pv h h' hp hs
    obtain rfl : sv = [] := by simpa using hs.symm
    refine Ev.step (fun k => laws_eqStringS.l0.eq_2 ..) ?_
    simp only [if_neg (end_at h)]
    exact Ev.now _
  | cons x su ih =>
    intro sv pu pv h h' hp hs
    cases sv with
    | nil => simp at hs
    | cons y sv =>
      refine Ev.step (fun k => laws_eqStringS.l0.eq_2 ..) ?_
      have h3 := rd_at ByteArray.empty h'
      have h4 := lt_at h'
      rw [← hp] at h3 h4
      by_cases e : x = y
      · subst e
        simp only [if_pos (lt_at h), if_pos (nonneg_at _), if_pos h4, rd_at _ h, h3, if_true, next_at h hl, List.cons.injEq, true_and]
        exact ih sv (pu ++ [x]) (pv ++ [x]) (snoc_at h) (snoc_at h') (by simp [hp]) (by simpa using hs)
      · simp only [if_pos (lt_at h), if_pos (nonneg_at _), if_pos h4, rd_at _ h, h3, ba_eq, if_neg e, List.cons.injEq, e, false_and, decide_false]
        exact Ev.now _
theorem eqS {a b : List ByteArray} (hl : a.length ≤ maxLen) : Ev (fun k => laws_eqStringS.f k a b) (decide (a = b)) := by
  unfold laws_eqStringS.f
  by_cases e : (a.length : Int) = (b.length : Int)
  · simp only [if_pos e]
    exact eqS_loop hl a b [] [] rfl rfl rfl (by omega)
  · simp only [if_neg e]
    rw [show decide (a = b) = false from decide_eq_false (fun h => e (by rw [h]))]
    exact Ev.now _
end Go.Proofs.Ytiddgglidkbipaa.L

/- The laws' own functions over a mirrored struct (Lock): size, copy, equality. No condition. -/
set_option linter.unusedSimpArgs false
set_option linter.unusedVariables false
namespace Go.Proofs.Ytiddgglidkbipaa.L
open Go.RowKit Go.Proofs.YtiddgglidkbipaaW.PrintWords Go.Proofs.YtiddgglidkbipaaW.PrintLast Go.Proofs.Ytiddgglidkbipaa.Q
instance : DecidableEq S28 := fun a b => if h : a.f0 = b.f0 ∧ a.f1 = b.f1 ∧ a.f2 = b.f2 ∧ a.f3 = b.f3 ∧ a.f4 = b.f4 then .isTrue (by cases a; cases b; simp_all) else .isFalse (fun e => h (by rw [e]; exact ⟨rfl, rfl, rfl, rfl, rfl⟩))
theorem rd_lawsLock {l pre suf : List S24} {a : S24} (h : l = pre ++ a :: suf) : rd_T24 l (pre.length : Int) = a := getD_at _ h
theorem rd_implLock {l pre suf : List S28} {a : S28} (h : l = pre ++ a :: suf) : rd_T28 l (pre.length : Int) = a := getD_at _ h
def toLock (p : S24) : S28 := ⟨p.f0, p.f1, p.f2, p.f3, p.f4⟩
def SmLock (p : S28) : Prop := IntOk p.f0 ∧ SmS p.f1 ∧ True ∧ True ∧ IntOk p.f4
def GGLock (x : S24) : Prop := (Lit.int .i64 x.f0).wf = true ∧ (x.f1.length ≤ maxLen ∧ ∀ s ∈ x.f1, s.size ≤ maxLen) ∧ True ∧ True ∧ (Lit.int .i64 x.f4).wf = true
theorem szLock {p : S24} (hp : GGLock p) {n : Int} (h0 : 0 ≤ n) (h1 : n ≤ 1048576) : Sz (fun k => laws_szLock.f k p.f0 p.f1 p.f2 p.f3 p.f4 n) n (SmLock (toLock p)) := by
  obtain ⟨g0, g1, g2, g3, g4⟩ := hp
  unfold laws_szLock.f
  refine Sz.bind (szS g1.1 g1.2 (by omega) (by omega)) (fun n1 a1 b1 s1 => ?_) (by simp only [show (-1 : Int) < 0 by omega, if_true]; exact Ev.now _)
  simp only [if_neg (show ¬ n1 < 0 by omega)]
  exact .inr ⟨n1, by omega, by omega, Ev.now _, wf_int g0, s1, trivial, trivial, wf_int g4⟩
theorem toLock1 {p : S24} (hp : SmLock (toLock p)) : Ev (fun k => laws_toLock.f k p.f0 p.f1 p.f2 p.f3 p.f4) (p.f0, p.f1, p.f2, p.f3, p.f4) := by
  obtain ⟨g0, g1, g2, g3, g4⟩ := hp
  unfold laws_toLock.f
  refine Ev.bind (toS (by have := g1.1; simp only [toLock] at this; omega)) ?_
  exact Ev.now _
theorem eqLock1 {p q : S28} (hp : SmLock p) : Ev (fun k => laws_eqLock.f k p.f0 p.f1 p.f2 p.f3 p.f4 q.f0 q.f1 q.f2 q.f3 q.f4) (decide (p = q)) := by
  obtain ⟨g0, g1, g2, g3, g4⟩ := hp
  unfold laws_eqLock.f
  by_cases e0 : p.f0 = q.f0
  rotate_left
  · rw [show decide (p = q) = false from decide_eq_false (fun h => e0 (by rw [h]))]
    simp only [ba_eq, e0, bne_iff_ne, ne_eq, not_false_eq_true, not_true_eq_false, if_true, if_false]
    exact Ev.now _
  simp only [ba_eq, e0, bne_self_eq_false, Bool.false_eq_true, if_true, if_false]
  refine Ev.bind (eqS (by have := g1.1; rw [maxLen_eq]; omega)) ?_
  by_cases e1 : p.f1 = q.f1
  rotate_left
  · rw [show decide (p = q) = false from decide_eq_false (fun h => e1 (by rw [h]))]
    simp only [e1, decide_false, Bool.false_eq_true, if_false]
    exact Ev.now _
  simp only [e1, decide_true, if_true]
  by_cases e2 : p.f2 = q.f2
  rotate_left
  · rw [show decide (p = q) = false from decide_eq_false (fun h => e2 (by rw [h]))]
    simp only [ba_eq, e2, bne_iff_ne, ne_eq, not_false_eq_true, not_true_eq_false, if_true, if_false]
    exact Ev.now _
  simp only [ba_eq, e2, bne_self_eq_false, Bool.false_eq_true, if_true, if_false]
  by_cases e3 : p.f3 = q.f3
  rotate_left
  · rw [show decide (p = q) = false from decide_eq_false (fun h => e3 (by rw [h]))]
    simp only [ba_eq, e3, bne_iff_ne, ne_eq, not_false_eq_true, not_true_eq_false, if_true, if_false]
    exact Ev.now _
  simp only [ba_eq, e3, bne_self_eq_false, Bool.false_eq_true, if_true, if_false]
  by_cases e4 : p.f4 = q.f4
  rotate_left
  · rw [show decide (p = q) = false from decide_eq_false (fun h => e4 (by rw [h]))]
    simp only [ba_eq, e4, bne_iff_ne, ne_eq, not_false_eq_true, not_true_eq_false, if_true, if_false]
    exact Ev.now _
  simp only [ba_eq, e4, bne_self_eq_false, Bool.false_eq_true, if_true, if_false]
  rw [show decide (p = q) = true from decide_eq_true (by cases p; cases q; simp_all)]
  exact Ev.now _
def SmLocks (l : List S28) : Prop := l.length ≤ 1048576 ∧ ∀ p ∈ l, SmLock p
theorem szLockS {l : List S24} (hl : l.length ≤ maxLen) (hs : ∀ s ∈ l, GGLock s) {n : Int} (h0 : 0 ≤ n) (h1 : n ≤ 1048576) : Sz (fun k => laws_szLockS.f k l n) n (SmLocks (l.map toLock)) := by
  have hl' := hl
  rw [maxLen_eq] at hl'
  unfold laws_szLockS.f
  simp only [wrap_id (x := n - (l.length : Int)) (by omega) (by omega)]
  refine Sz.sub (by omega) (fun hlt => ?_)
  have key : Sz (fun k => laws_szLockS.l0 k l (n - l.length) 0) (n - l.length) (∀ p ∈ l, SmLock (toLock p)) := by
    refine sz_loop (l := l) (P := fun p => SmLock (toLock p)) (fun k n i => laws_szLockS.l0 k l n i) ?_ ?_ l [] (n - l.length) rfl (by omega) (by omega)
    · intro n
      refine Ev.step (fun k => laws_szLockS.l0.eq_2 ..) ?_
      simp only [Int.lt_irrefl, if_false]
      exact Ev.now _
    · intro pre a suf n h h0 h1
      rcases szLock (hs a (by rw [h]; simp)) h0 h1 with h2 | ⟨m, hm0, hm1, h2, h3⟩
      · left
        refine Ev.step (fun k => laws_szLockS.l0.eq_2 ..) ?_
        simp only [if_pos (lt_at h), if_pos (nonneg_at _), rd_lawsLock h]
        refine Ev.bind h2 ?_
        simp only [show (-1 : Int) < 0 by omega, if_true]
        exact Ev.now _
      · refine .inr ⟨m, hm0, hm1, h3, fun r hr => ?_⟩
        refine Ev.step (fun k => laws_szLockS.l0.eq_2 ..) ?_
        simp only [if_pos (lt_at h), if_pos (nonneg_at _), rd_lawsLock h]
        refine Ev.bind h2 ?_
        simp only [if_neg (show ¬ m < 0 by omega), next_at h hl]
        exact hr
  rcases key with h | ⟨m, hm0, hm1, h2, h3⟩
  · exact .inl h
  · refine .inr ⟨m, hm0, hm1, h2, by simp; omega, fun p hp => ?_⟩
    obtain ⟨q, hq, rfl⟩ := List.mem_map.1 hp
    exact h3 q hq
theorem toLockS {p : List S24} (hp : SmLocks (p.map toLock)) : Ev (fun k => laws_toLockS.f k p) (p.map toLock) := by
  obtain ⟨hl0, hs⟩ := hp
  rw [List.length_map] at hl0
  have hl2 : p.length ≤ maxLen := by rw [maxLen_eq]; omega
  unfold laws_toLockS.f
  simp only [if_pos (nonneg_at _), Int.toNat_natCast, if_pos (show p.length ≤ 5864062014805 by omega)]
  refine to_loop (l := p) (f := toLock) (fun k out i => laws_toLockS.l0 k p out i) ?_ ?_ p [] _ (List.replicate p.length z28) rfl rfl (by simp)
  · intro out
    refine Ev.step (fun k => laws_toLockS.l0.eq_2 ..) ?_
    simp only [Int.lt_irrefl, if_false]
    exact Ev.now _
  · intro pre a suf out h ho r hr
    refine Ev.step (fun k => laws_toLockS.l0.eq_2 ..) ?_
    simp only [if_pos (lt_at h), if_pos (nonneg_at _), rd_lawsLock h]
    refine Ev.bind (toLock1 (hs _ (List.mem_map.2 ⟨a, by rw [h]; simp, rfl⟩))) ?_
    simp only [if_pos ho, next_at h hl2]
    exact hr
theorem eqLockS {a b : List S28} (ha : SmLocks a) : Ev (fun k => laws_eqLockS.f k a b) (decide (a = b)) := by
  have hl : a.length ≤ maxLen := by have := ha.1; rw [maxLen_eq]; omega
  unfold laws_eqLockS.f
  by_cases e : (a.length : Int) = (b.length : Int)
  · simp only [if_pos e]
    refine eq_loop (a := a) (b := b) (fun k i => laws_eqLockS.l0 k a b i) ?_ ?_ a b [] [] rfl rfl rfl (by omega)
    · refine Ev.step (fun k => laws_eqLockS.l0.eq_2 ..) ?_
      simp only [Int.lt_irrefl, if_false]
      exact Ev.now _
    · intro pre x su pre' y sv h h' hp
      have h3 := rd_implLock h'
      have h4 := lt_at h'
      rw [← hp] at h3 h4
      have h5 := eqLock1 (q := y) (ha.2 x (by rw [h]; simp))
      refine ⟨fun hne => ?_, fun heq r hr => ?_⟩
      · refine Ev.step (fun k => laws_eqLockS.l0.eq_2 ..) ?_
        simp only [if_pos (lt_at h), if_pos (nonneg_at _), if_pos h4, rd_implLock h, h3]
        refine Ev.bind h5 ?_
        simp only [hne, decide_false, Bool.false_eq_true, if_false]
        exact Ev.now _
      · refine Ev.step (fun k => laws_eqLockS.l0.eq_2 ..) ?_
        simp only [if_pos (lt_at h), if_pos (nonneg_at _), if_pos h4, rd_implLock h, h3]
        refine Ev.bind h5 ?_
        simp only [heq, decide_true, if_true, next_at h hl]
        rw [heq] at hr
        exact hr
  · simp only [if_neg e]
    rw [show decide (a = b) = false from decide_eq_false (fun h => e (by rw [h]))]
    exact Ev.now _
end Go.Proofs.Ytiddgglidkbipaa.L

/- Is a path under another one; as the program and the reference have it. No condition. -/
set_option linter.unusedSimpArgs false
set_option linter.unusedVariables false
namespace Go.Proofs.Ytiddgglidkbipaa.L
open Go.RowKit Go.Proofs.YtiddgglidkbipaaW.PrintWords Go.Proofs.YtiddgglidkbipaaW.PrintLast Go.Proofs.Ytiddgglidkbipaa.Q
def under (p head : List ByteArray) : Bool := decide (head.length < p.length) && decide (p.take head.length = head)
end Go.Proofs.Ytiddgglidkbipaa.L

/- What a lock covers, whether two clash; as the program and the reference have it. No condition. -/
set_option linter.unusedSimpArgs false
set_option linter.unusedVariables false
namespace Go.Proofs.Ytiddgglidkbipaa.L
open Go.RowKit Go.Proofs.YtiddgglidkbipaaW.PrintWords Go.Proofs.YtiddgglidkbipaaW.PrintLast Go.Proofs.Ytiddgglidkbipaa.Q
def covers (x : S28) (p : List ByteArray) : Bool := decide (x.f1 = p) || (x.f2 && under p x.f1)
def clash (a b : S28) : Bool := !(a.f3 && b.f3) && (covers a b.f1 || covers b a.f1)
end Go.Proofs.Ytiddgglidkbipaa.L

/- Locks copied, one dropped, one added; as the program and the reference have it. No condition. -/
set_option linter.unusedSimpArgs false
set_option linter.unusedVariables false
namespace Go.Proofs.Ytiddgglidkbipaa.L
open Go.RowKit Go.Proofs.YtiddgglidkbipaaW.PrintWords Go.Proofs.YtiddgglidkbipaaW.PrintLast Go.Proofs.Ytiddgglidkbipaa.Q
theorem specCopyLocks {t : List S28} (hl0 : t.length ≤ 1048577) (ht : ∀ a ∈ t, a.f1.length ≤ 1048576) : Ev (fun k => spec_l13Copy.f k t) t := by
  have hl : t.length ≤ maxLen := by rw [maxLen_eq]; omega
  have key : ∀ (suf pre out : List S28), t = pre ++ suf → out.length ≤ pre.length → Ev (fun k => spec_l13Copy.l0 k t out pre.length) (out ++ suf) := by
    intro suf
    induction suf with
    | nil =>
      intro pre out h ho
      refine Ev.step (fun k => spec_l13Copy.l0.eq_2 ..) ?_
      simp only [if_neg (end_at h), List.append_nil]
      exact Ev.now _
    | cons a suf ih =>
      intro pre out h ho
      have hpl : pre.length ≤ 1048577 := by have : t.length = pre.length + (suf.length + 1) := by rw [h]; simp
                                            omega
      have ha := ht a (by rw [h]; simp)
      refine Ev.step (fun k => spec_l13Copy.l0.eq_2 ..) ?_
      simp only [if_pos (lt_at h), if_pos (nonneg_at _), rd_implLock h, next_at h hl, Option.bind_some, List.length_nil, Nat.zero_add, List.nil_append, show a.f1.length < 8796093022208 by omega, show out.length < 2932031007402 by omega, if_true]
      exact ev_cast (ih (pre ++ [a]) _ (snoc_at h) (by simp; omega)) (by simp)
  exact key t [] [] rfl (by simp)
theorem implCopyLocks {t : List S28} (hl0 : t.length ≤ 1048577) (ht : ∀ a ∈ t, a.f1.length ≤ 1048576) : Ev (fun k => impl_copyLocks.f k t) t := by
  have hl : t.length ≤ maxLen := by rw [maxLen_eq]; omega
  have key : ∀ (suf pre out : List S28), t = pre ++ suf → out.length ≤ pre.length → Ev (fun k => impl_copyLocks.l0 k out t (t.length : Int) pre.length) (out ++ suf) := by
    intro suf
    induction suf with
    | nil =>
      intro pre out h ho
      refine Ev.step (fun k => impl_copyLocks.l0.eq_2 ..) ?_
      simp only [if_neg (end_at h), List.append_nil]
      exact Ev.now _
    | cons a suf ih =>
      intro pre out h ho
      have hpl : pre.length ≤ 1048577 := by have : t.length = pre.length + (suf.length + 1) := by rw [h]; simp
                                            omega
      have ha := ht a (by rw [h]; simp)
      refine Ev.step (fun k => impl_copyLocks.l0.eq_2 ..) ?_
      simp only [if_pos (lt_at h), if_pos (nonneg_at _), rd_implLock h, next_at h hl, impl_copyPath.f, Option.bind_some, List.length_nil, Nat.zero_add, List.nil_append, show a.f1.length < 8796093022208 by omega, show out.length < 2932031007402 by omega, if_true]
      exact ev_cast (ih (pre ++ [a]) _ (snoc_at h) (by simp; omega)) (by simp)
  exact key t [] [] rfl (by simp)
def dropL (n : Int) : List S28 → List S28
  | [] => []
  | a :: t => if a.f0 = n then t else a :: dropL n t
def hasL (n : Int) (t : List S28) : Bool := t.any (fun a => decide (a.f0 = n))
theorem drop_sub (n : Int) : ∀ t : List S28, (dropL n t).length ≤ t.length ∧ ∀ a ∈ dropL n t, a ∈ t
  | [] => ⟨Nat.le_refl _, fun _ h => h⟩
  | a :: t => by
    have ih := drop_sub n t
    unfold dropL
    by_cases c : a.f0 = n
    · simp only [if_pos c]; exact ⟨by simp, fun b hb => by simp [hb]⟩
    · simp only [if_neg c]
      refine ⟨by simpa using ih.1, fun b hb => ?_⟩
      rcases List.mem_cons.1 hb with rfl | hb
      · simp
      · exact List.mem_cons_of_mem _ (ih.2 b hb)
theorem drop_sm {n : Int} {t : List S28} (ht : SmLocks t) : SmLocks (dropL n t) := ⟨Nat.le_trans (drop_sub n t).1 ht.1, fun a ha => ht.2 a ((drop_sub n t).2 a ha)⟩
theorem sm_path {t : List S28} (ht : SmLocks t) : ∀ a ∈ t, a.f1.length ≤ 1048576 := fun a ha => by have := (ht.2 a ha).2.1.1; omega
theorem specDrop {t : List S28} {n : Int} (ht : SmLocks t) : Ev (fun k => spec_DropLock.f k t n) (dropL n t, hasL n t) := by
  have hl0 := ht.1
  have hl : t.length ≤ maxLen := by rw [maxLen_eq]; omega
  unfold spec_DropLock.f
  refine Ev.bind (specCopyLocks (by omega) (sm_path ht)) ?_
  have key1 : ∀ (suf pre out : List S28), t = pre ++ suf → out.length ≤ pre.length → Ev (fun k => spec_DropLock.l0 k n out t true pre.length) (out ++ suf, true) := by
    intro suf
    induction suf with
    | nil =>
      intro pre out h ho
      refine Ev.step (fun k => spec_DropLock.l0.eq_2 ..) ?_
      simp only [if_neg (end_at h), List.append_nil]
      exact Ev.now _
    | cons a suf ih =>
      intro pre out h ho
      have hpl : pre.length ≤ 1048576 := by have : t.length = pre.length + (suf.length + 1) := by rw [h]; simp
                                            omega
      refine Ev.step (fun k => spec_DropLock.l0.eq_2 ..) ?_
      simp only [if_pos (lt_at h), if_pos (nonneg_at _), rd_implLock h, next_at h hl, if_true, show out.length < 2932031007402 by omega]
      exact ev_cast (ih (pre ++ [a]) _ (snoc_at h) (by simp; omega)) (by simp)
  have key : ∀ (suf pre out : List S28), t = pre ++ suf → out.length ≤ pre.length → Ev (fun k => spec_DropLock.l0 k n out t false pre.length) (out ++ dropL n suf, hasL n suf) := by
    intro suf
    induction suf with
    | nil =>
      intro pre out h ho
      refine Ev.step (fun k => spec_DropLock.l0.eq_2 ..) ?_
      simp only [if_neg (end_at h), dropL, hasL, List.any_nil, List.append_nil]
      exact Ev.now _
    | cons a suf ih =>
      intro pre out h ho
      have hpl : pre.length ≤ 1048576 := by have : t.length = pre.length + (suf.length + 1) := by rw [h]; simp
                                            omega
      refine Ev.step (fun k => spec_DropLock.l0.eq_2 ..) ?_
      simp only [if_pos (lt_at h), if_pos (nonneg_at _), rd_implLock h, next_at h hl, Bool.false_eq_true, if_false, dropL, hasL, List.any_cons]
      by_cases c : a.f0 = n
      · simp only [if_pos c, c, decide_true, Bool.true_or]
        exact key1 suf (pre ++ [a]) out (snoc_at h) (by simp; omega)
      · simp only [if_neg c, c, decide_false, Bool.false_or, show out.length < 2932031007402 by omega, if_true]
        exact ev_cast (ih (pre ++ [a]) _ (snoc_at h) (by simp; omega)) (by simp [hasL])
  exact key t [] [] rfl (by simp)
theorem implDrop {t : List S28} {n : Int} (ht : SmLocks t) : Ev (fun k => impl_DropLockX.f k t n) (dropL n t, hasL n t) := by
  have hl0 := ht.1
  have hl : t.length ≤ maxLen := by rw [maxLen_eq]; omega
  have hsp := sm_path ht
  show Ev (fun k => impl_DropLock.l0 k t n t (t.length : Int) 0) _
  have key : ∀ (suf pre : List S28), t = pre ++ suf → hasL n pre = false → Ev (fun k => impl_DropLock.l0 k t n t (t.length : Int) pre.length) (pre ++ dropL n suf, hasL n suf) := by
    intro suf
    induction suf with
    | nil =>
      intro pre h ho
      refine Ev.step (fun k => impl_DropLock.l0.eq_2 ..) ?_
      simp only [if_neg (end_at h), dropL, hasL, List.any_nil, List.append_nil]
      refine Ev.bind (implCopyLocks (by omega) hsp) ?_
      exact ev_cast (Ev.now _) (by rw [h]; simp)
    | cons a suf ih =>
      intro pre h ho
      have hpl : t.length = pre.length + (suf.length + 1) := by rw [h]; simp
      have hn := next_at h hl
      refine Ev.step (fun k => impl_DropLock.l0.eq_2 ..) ?_
      simp only [if_pos (lt_at h), if_pos (nonneg_at _), rd_implLock h, hn, dropL, hasL, List.any_cons]
      by_cases c : a.f0 = n
      · have h1 : t.take ((pre.length : Nat) : Int).toNat = pre := by rw [h]; simp
        have h2 : t.drop (((pre ++ [a]).length : Nat) : Int).toNat = suf := by rw [h]; simp
        simp only [if_pos c, c, decide_true, Bool.true_or, if_pos (Int.le_of_lt (lt_at h)), h1, h2]
        refine Ev.bind (implCopyLocks (by omega) (fun b hb => hsp b (by rw [h]; simp [hb]))) ?_
        simp only [if_pos (nonneg_at _), show (((pre ++ [a]).length : Nat) : Int) ≤ (t.length : Int) by rw [hpl]; simp; omega, if_true]
        refine Ev.bind (implCopyLocks (by omega) (fun b hb => hsp b (by rw [h]; simp [hb]))) ?_
        simp only [show pre.length + suf.length < 2932031007402 by omega, if_true]
        exact Ev.now _
      · simp only [if_neg c, c, decide_false, Bool.false_or]
        refine ev_cast (ih (pre ++ [a]) (snoc_at h) (by simp [hasL] at ho ⊢; exact ⟨ho, c⟩)) (by simp [hasL])
  exact key t [] rfl rfl
end Go.Proofs.Ytiddgglidkbipaa.L

/- The laws' marks on lists of texts: what they write, and that it is found again. No condition. -/
set_option linter.unusedSimpArgs false
set_option linter.unusedVariables false
namespace Go.Proofs.Ytiddgglidkbipaa.L
open Go.RowKit Go.Proofs.YtiddgglidkbipaaW.PrintWords Go.Proofs.YtiddgglidkbipaaW.PrintLast Go.Proofs.Ytiddgglidkbipaa.Q
theorem strOfNums_size (n : Int) : (strOfNums [n]).size = 1 := rfl
theorem mark_loop : ∀ (d : Nat) (k : Nat) (i : Int) (s : ByteArray), 0 ≤ i → i < 10 ^ d → i < 9223372036854775808 → d < k → s.size + d + 1 ≤ 9223372036854775807 → ∃ t, laws_markText.l0 k i s = some t := by
  intro d
  induction d with
  | zero =>
    intro k i s h0 h1 hb hk hs
    obtain ⟨k, rfl⟩ : ∃ m, k = m + 1 := ⟨k - 1, by omega⟩
    simp only [laws_markText.l0]
    rw [if_neg (by simp at h1; omega), if_pos (by omega)]
    exact ⟨_, rfl⟩
  | succ d ih =>
    intro k i s h0 h1 hb hk hs
    obtain ⟨k, rfl⟩ : ∃ m, k = m + 1 := ⟨k - 1, by omega⟩
    simp only [laws_markText.l0, Option.bind_some]
    by_cases hi : i > 0
    · rw [if_pos hi, if_pos (by rw [strOfNums_size]; omega)]
      have hd : Int.tdiv i 10 = i / 10 := Int.tdiv_eq_ediv_of_nonneg h0
      have hq : 0 ≤ i / 10 ∧ i / 10 ≤ i := ⟨by omega, by omega⟩
      rw [hd, wrap_id (by omega) (by omega)]
      refine ih k _ _ hq.1 ?_ (by omega) (by omega) ?_
      · rw [Int.pow_succ] at h1; omega
      · rw [ByteArray.size_append, strOfNums_size]; omega
    · rw [if_neg hi, if_pos (by omega)]
      exact ⟨_, rfl⟩
theorem mark_some {i : Int} (h0 : 0 ≤ i) (h1 : i < 1152921504606846976) : ∃ t, ∀ k, 32 ≤ k → laws_markText.f k i = some t := by
  have h : ∃ t, laws_markText.f 32 i = some t := by
    unfold laws_markText.f
    by_cases e : i ≤ 0
    · rw [if_pos e]; exact ⟨_, rfl⟩
    · rw [if_neg e]
      exact mark_loop 19 32 i _ h0 (by omega) (by omega) (by omega) (by show 0 + 19 + 1 ≤ _; omega)
  obtain ⟨t, ht⟩ := h
  exact ⟨t, fun k hk => at_rounds (fun k => laws_markText.mono i k) hk ht⟩
noncomputable def mt (i : Int) : ByteArray := by
  classical
  exact if h : 0 ≤ i ∧ i < 1152921504606846976 then Classical.choose (mark_some h.1 h.2) else ⟨#[]⟩
theorem mt_spec {i : Int} (h0 : 0 ≤ i) (h1 : i < 1152921504606846976) {k : Nat} (hk : 32 ≤ k) : laws_markText.f k i = some (mt i) := by
  unfold mt
  rw [dif_pos ⟨h0, h1⟩]
  exact Classical.choose_spec (mark_some h0 h1) k hk
theorem mt_ev {i : Int} (h0 : 0 ≤ i) (h1 : i < 1152921504606846976) : Ev (fun k => laws_markText.f k i) (mt i) := ⟨32, fun _ hk => mt_spec h0 h1 hk⟩
noncomputable def marks : Nat → Int → List ByteArray
  | 0, _ => []
  | n + 1, i => mt i :: marks n (i + 1)
theorem marks_length (n : Nat) (i : Int) : (marks n i).length = n := by
  induction n generalizing i with
  | zero => rfl
  | succ n ih => simp [marks, ih]
theorem markS {l : List ByteArray} (hl : l.length ≤ 1048576) {a : Int} (h0 : 0 ≤ a) (h1 : a ≤ 70368744177664) : Ev (fun k => laws_markStringS.f k l a) (a + l.length, marks l.length a) := by
  have key : ∀ (suf pre : List ByteArray) (x : List ByteArray) (i : Int), x = pre ++ suf → x.length ≤ 1048576 → 0 ≤ i → i + suf.length ≤ 70368745226240 → Ev (fun k => laws_markStringS.l0 k x i pre.length) (i + suf.length, pre ++ marks suf.length i) := by
    intro suf
    induction suf with
    | nil =>
      intro pre x i h hx h0 h1
      refine Ev.step (fun k => laws_markStringS.l0.eq_2 ..) ?_
      simp only [if_neg (end_at h)]
      rw [List.append_nil] at h
      rw [h]
      simp only [List.length_nil, Int.natCast_zero, Int.add_zero, marks, List.append_nil]
      exact Ev.now _
    | cons b suf ih =>
      intro pre x i h hx h0 h1
      rw [List.length_cons] at h1
      refine Ev.step (fun k => laws_markStringS.l0.eq_2 ..) ?_
      simp only [if_pos (lt_at h)]
      refine Ev.bind (mt_ev h0 (by omega)) ?_
      simp only [if_pos (nonneg_at _), set_at h, next_at h (show x.length ≤ maxLen by rw [maxLen_eq]; omega), wrap_id (x := i + 1) (by omega) (by omega)]
      have := ih (pre ++ [mt i]) (pre ++ [mt i] ++ suf) (i + 1) rfl (by rw [h] at hx; simpa using hx) (by omega) (by omega)
      rw [show (pre ++ [b]).length = (pre ++ [mt i]).length by simp]
      refine ev_cast this ?_
      simp only [List.length_cons, marks, Prod.mk.injEq]
      exact ⟨by omega, by simp⟩
  have := key l [] l a rfl hl h0 (by omega)
  simpa [laws_markStringS.f] using this
theorem heldS {n : Nat} (hn : n ≤ 1048576) {a : Int} (h0 : 0 ≤ a) (h1 : a ≤ 70368744177664) : Ev (fun k => laws_heldStringS.f k (marks n a) a) (a + n) := by
  have key : ∀ (m : Nat) (pre x : List ByteArray) (i : Int), x = pre ++ marks m i → x.length ≤ 1048576 → 0 ≤ i → i + m ≤ 70368745226240 → Ev (fun k => laws_heldStringS.l0 k x i pre.length) (i + m) := by
    intro m
    induction m with
    | zero =>
      intro pre x i h hx h0 h1
      refine Ev.step (fun k => laws_heldStringS.l0.eq_2 ..) ?_
      simp only [if_neg (end_at h)]
      exact ev_cast (Ev.now _) (by simp)
    | succ m ih =>
      intro pre x i h hx h0 h1
      simp only [marks] at h
      refine Ev.step (fun k => laws_heldStringS.l0.eq_2 ..) ?_
      simp only [if_pos (lt_at h), if_pos (nonneg_at _)]
      refine Ev.bind (mt_ev h0 (by omega)) ?_
      simp only [rd_at _ h, if_true, next_at h (show x.length ≤ maxLen by rw [maxLen_eq]; omega), wrap_id (x := i + 1) (by omega) (by omega)]
      refine ev_cast (ih (pre ++ [mt i]) x (i + 1) (snoc_at h) hx (by omega) (by omega)) ?_
      omega
  exact key n [] _ a rfl (by rw [marks_length]; exact hn) h0 (by omega)
end Go.Proofs.Ytiddgglidkbipaa.L

/- Marks that are found again: a loop that marks, a loop that looks. No condition. -/
set_option linter.unusedSimpArgs false
set_option linter.unusedVariables false
namespace Go.Proofs.Ytiddgglidkbipaa.L
open Go.RowKit Go.Proofs.YtiddgglidkbipaaW.PrintWords Go.Proofs.YtiddgglidkbipaaW.PrintLast Go.Proofs.Ytiddgglidkbipaa.Q
def MH {α : Type} (mk : Nat → List α → Int → Option (Int × List α)) (hd : Nat → List α → Int → Option Int) (l : List α) (i C : Int) : Prop :=
  ∃ n l', l'.length = l.length ∧ i ≤ n ∧ n ≤ i + C ∧ Ev (fun k => mk k l i) (n, l') ∧ Ev (fun k => hd k l' i) n
theorem mh_loop {α : Type} (mk : Nat → List α → Int → Int → Option (Int × List α)) (hd : Nat → List α → Int → Int → Option Int) (P : α → Prop) (C : Int) (hC : 0 ≤ C)
    (me : ∀ (x : List α) i, Ev (fun k => mk k x i x.length) (i, x)) (he : ∀ (y : List α) i, Ev (fun k => hd k y i y.length) i)
    (st : ∀ a i, P a → 0 ≤ i → i + C ≤ 70368744177664 → ∃ n a', i ≤ n ∧ n ≤ i + C ∧
      (∀ x pre suf, x = pre ++ a :: suf → x.length ≤ 1048576 → ∀ r, Ev (fun k => mk k (pre ++ a' :: suf) n ((pre ++ [a']).length : Int)) r → Ev (fun k => mk k x i (pre.length : Int)) r) ∧
      (∀ y pre suf, y = pre ++ a' :: suf → y.length ≤ 1048576 → ∀ r, Ev (fun k => hd k y n ((pre ++ [a']).length : Int)) r → Ev (fun k => hd k y i (pre.length : Int)) r)) :
    ∀ (suf : List α) (i : Int), (∀ a ∈ suf, P a) → 0 ≤ i → i + C * suf.length ≤ 70368744177664 → ∃ n suf', suf'.length = suf.length ∧ i ≤ n ∧ n ≤ i + C * suf.length ∧
      (∀ pre : List α, (pre ++ suf).length ≤ 1048576 → Ev (fun k => mk k (pre ++ suf) i pre.length) (n, pre ++ suf')) ∧ (∀ pre : List α, (pre ++ suf').length ≤ 1048576 → Ev (fun k => hd k (pre ++ suf') i pre.length) n) := by
  intro suf
  induction suf with
  | nil =>
    intro i _ h0 h1
    refine ⟨i, [], rfl, Int.le_refl _, by simp, fun pre _ => ?_, fun pre _ => ?_⟩
    · have := me pre i; simpa using this
    · have := he pre i; simpa using this
  | cons a suf ih =>
    intro i hP h0 h1
    have hm : C * ((a :: suf).length : Int) = C * suf.length + C := by rw [List.length_cons, Int.natCast_add, Int.mul_add]; simp
    have hp : 0 ≤ C * (suf.length : Int) := Int.mul_nonneg hC (Int.natCast_nonneg _)
    rw [hm] at h1 ⊢
    obtain ⟨n, a', hn0, hn1, hmk, hhd⟩ := st a i (hP a (by simp)) h0 (by omega)
    obtain ⟨n2, suf', hl, hn2, hn3, hmk2, hhd2⟩ := ih n (fun x hx => hP x (by simp [hx])) (by omega) (by omega)
    refine ⟨n2, a' :: suf', by simp [hl], by omega, by omega, fun pre hpre => ?_, fun pre hpre => ?_⟩
    · refine hmk _ pre suf rfl hpre _ ?_
      have := hmk2 (pre ++ [a']) (by simp at hpre ⊢; omega)
      simpa using this
    · refine hhd _ pre suf' rfl hpre _ ?_
      have := hhd2 (pre ++ [a']) (by simp at hpre ⊢; omega)
      simpa using this
theorem mhS {l : List ByteArray} (hl : l.length ≤ 1048576) {i : Int} (h0 : 0 ≤ i) (h1 : i + 1048576 ≤ 70368744177664) : MH laws_markStringS.f laws_heldStringS.f l i 1048576 := by
  refine ⟨i + l.length, marks l.length i, marks_length _ _, by omega, by omega, ?_, ?_⟩
  · exact markS hl h0 (by omega)
  · exact heldS hl h0 (by omega)
end Go.Proofs.Ytiddgglidkbipaa.L
