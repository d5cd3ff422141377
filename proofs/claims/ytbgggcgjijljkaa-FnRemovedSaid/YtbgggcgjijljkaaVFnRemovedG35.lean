/- Printed walks. No condition. -/
import Derived.Test.YtbgggcgjijljkaaVFnRemovedG12
import Derived.Test.YtbgggcgjijljkaaVFnRemovedG34
import Derived.Test.YtbgggcgjijljkaaVFnRemovedG22
import Derived.Test.YtbgggcgjijljkaaVFnRemovedG24
import Derived.Test.YtbgggcgjijljkaaVFnRemovedG26
import Derived.Test.YtbgggcgjijljkaaVFnRemovedG27
import Derived.Test.YtbgggcgjijljkaaVFnRemovedG28
import Derived.Test.YtbgggcgjijljkaaVFnRemovedG31
import Derived.Test.YtbgggcgjijljkaaVFnRemovedG32
namespace Go.Proofs.Ytbgggcgjijljkaa.Q
open Go.RowKit Go.Proofs.YtbgggcgjijljkaaW.PrintWords Go.Proofs.YtbgggcgjijljkaaW.PrintLast Go.Proofs.YtbgggcgjijljkaaW.PrintMore
attribute [local go_sem] max2_int min2_int max_two min_two max_three min_three max_four min_four
set_option linter.unusedVariables false
set_option linter.unusedSimpArgs false
set_option maxHeartbeats 16000000 in
set_option maxRecDepth 100000 in
theorem laws_FnRemoved.calls (k : Nat) (A0 : Option Addr) (c0 : Nat) (l0 : List Int) (r : Bool) (w : World) (hr0 : Kd.C (Kd.int .u8) w A0 l0.length l0) (hc0 : l0.length ≤ c0) (h : laws_FnRemoved.f k l0 = some r) :
 Calls Try.prog 10 #[.slice A0 l0.length c0] w fun e w' => e = .returned (.bool r) ∧ Below w.heap.size w w' := by
 have HR0 := Aside0.mk hr0
 have HC0 := Aside0.mk hc0
 clear hr0 hc0
 have HB := Aside0.mk (Below.refl w.heap.size w)
 have H : ((laws_big.f l0).bind fun t1284 => (if t1284 = true then (some true) else ((spec_DrawShelves.f k l0).bind fun bt1285 => ((impl_Remove.f k bt1285.1 bt1285.2.1).bind fun bt1294 => (if bt1294.2 = 204 then (laws_FnRemoved.l0 k bt1285.1 bt1285.2.1 bt1294.1 0) else ((laws_sameTree.f k bt1294.1 bt1285.1).bind fun t1298 => (if t1298 = true then (if ((bt1294.2 == 403) == ((bt1285.2.1.length : Int) == 0)) = true then (if bt1294.2 = 404 then (if (bt1285.2.1.length : Int) > 0 then ((impl_FindRes.f k bt1285.1 bt1285.2.1).bind fun t1299 => (some (true == (decide (t1299 < 0))))) else (some (true == false))) else (if (bt1285.2.1.length : Int) > 0 then ((impl_FindRes.f k bt1285.1 bt1285.2.1).bind fun t1300 => (some ((bt1294.2 == 400) == (decide (t1300 < 0))))) else (some ((bt1294.2 == 400) == false)))) else (some false)) else (some false)))))))) = some r := h
 clear h
 obtain ⟨t1284, A2, H⟩ := bo_ H
 (try dsimp only at H)
 by_cases c3 : t1284 = true
 · subst c3
   rw [if_pos rfl] at H
   obtain rfl := Option.some.inj H
   go_enter Try.func10, Try.ntmps10
   go_wp2_with (first | ((with_reducible refine gate_callee (f := 38) rfl ?_); refine gL_ (some 11) Try.func38 #[.slice A0 l0.length c0] ?_; (with_reducible refine (laws_big.calls _ _ l0 true _ ?side1 ?side2 A2.out).mono ?_); (case side1 => exact cC_ HR0.out); (case side2 => exact HC0.out); rintro e w' ⟨rfl, ⟨nd, rfl⟩⟩; refine ⟨_, rfl, ?_⟩))
   go_ret
   exact ⟨rr_, bB_⟩
 · replace c3 := Bool.eq_false_iff.mpr c3
   subst c3
   rw [if_neg (show ¬ (false = true) by decide)] at H
   obtain ⟨⟨t1285, t1286, t1287⟩, A4, H⟩ := bo_ H
   (try dsimp only at H)
   obtain ⟨⟨t1294, t1297⟩, A5, H⟩ := bo_ H
   (try dsimp only at H)
   by_cases c6 : t1297 = 204
   rotate_left
   · rw [if_neg c6] at H
     have c6b0 : (t1297 == 204) = false := beq_eq_false_iff_ne.mpr c6
     have c6b1 : (t1297 != 204) = true := bne_iff_ne.mpr c6
     obtain ⟨t1298, A45, H⟩ := bo_ H
     (try dsimp only at H)
     by_cases c46 : t1298 = true
     · subst c46
       rw [if_pos rfl] at H
       by_cases c47 : ((t1297 == 403) == ((t1286.length : Int) == 0)) = true
       rotate_left
       · rw [if_neg c47] at H
         have c47b0 : ((t1297 == 403) == ((t1286.length : Int) == 0)) = false := by simpa using c47
         (try (have c47b1 : decide ((t1297 == 403) = ((t1286.length : Int) == 0)) = false := by simpa using c47))
         (try (have c47b2 : ((t1297 == 403) == ((t1286.length : Int) == 0)) = false := by simpa using c47))
         (try (have c47b3 : ¬ ((t1297 == 403) = ((t1286.length : Int) == 0)) := by simpa using c47))
         clear c47
         obtain rfl := Option.some.inj H
         go_enter Try.func10, Try.ntmps10
         go_wp2_with (first | ((with_reducible refine gate_callee (f := 38) rfl ?_); refine gL_ (some 11) Try.func38 #[.slice A0 l0.length c0] ?_; (with_reducible refine (laws_big.calls _ _ l0 false _ ?side1 ?side2 A2.out).mono ?_); (case side1 => exact cC_ HR0.out); (case side2 => exact HC0.out); rintro e w' ⟨rfl, ⟨nd, rfl⟩⟩; refine ⟨_, rfl, ?_⟩) | ((with_reducible refine gate_callee (f := 39) rfl ?_); refine gL_ (some 14) Try.func39 #[.slice A0 l0.length c0] ?_; (with_reducible refine (spec_DrawShelves.calls k _ _ l0 t1285 t1286 t1287 _ ?side1 ?side2 A4.out).mono ?_); (case side1 => exact cC_ HR0.out); (case side2 => exact HC0.out); rintro e w79 ⟨v1288, v1290, v1292, rfl, ho0, ho1, ho2, hb⟩; refine ⟨_, rfl, ?_⟩; have n0_ := Aside0.mk (Kd.S_lower ho0 (below_size bB_)); have n1_ := Aside0.mk (Kd.R_lower ho1 (below_size bB_)); have n2_ := Aside0.mk (Kd.R_lower ho2 (below_size bB_)); have n3_ := Aside0.mk (below_step bB_ hb); clear HB; have HO1289 := n0_; have HO1291 := n1_; have HO1293 := n2_; have HB := n3_; clear n0_ n1_ n2_ n3_; (try clear hb); (try clear ho0); (try clear ho1); (try clear ho2); obtain ⟨Ao80, co80, eo80⟩ := Kd.S_slice HO1289.out; subst eo80; obtain ⟨Ao81, co81, eo81⟩ := Kd.R_slice HO1291.out; subst eo81) | ((with_reducible refine gate_callee (f := 18) rfl ?_); refine gL_ (some 21) Try.func18 #[.slice Ao80 t1285.length co80, .slice Ao81 t1286.length co81] ?_; (with_reducible refine (impl_Remove.calls k _ _ t1285 (fun k_ => some k_ = (.slice Ao81 t1286.length co81 : Value).ownBlock) _ _ t1286 t1294 t1297 _ ?side1 ?side2 ?side3 A5.out).mono ?_); (case side1 => exact cC_ (Kd.S_reads' HO1289.out).2.2); (case side2 => exact (Kd.S_reads' HO1289.out).2.1); (case side3 => exact Kd.R_V (Kd.R_tight rfl (Kd.R_apart' (HO1291.out) (Kd.S_typed HO1289.out) (by decide)))); rintro e w82 ⟨v1295, rfl, ho0, hb⟩; refine ⟨_, rfl, ?_⟩; have n0_ := Aside0.mk (Kd.S_elder' (vS_ HO1289.out) (by first | exact Kd.S_base ho0 | exact Kd.S_base ho0) hb); have n1_ := Aside0.mk (Kd.R_below (vR_ HO1291.out) hb); have n2_ := Aside0.mk (Kd.R_below (vR_ HO1293.out) hb); have n3_ := Aside0.mk (Kd.S_lower (Kd.S_new' (Kd.S_new' (Kd.S_new' (Kd.S_mono (ok' := fun k_ => True) ho0 (fun _ hk_ => trivial)) (Kd.S_lt (vS_ HO1289.out))) (Kd.R_lt (vR_ HO1291.out))) (Kd.R_lt (vR_ HO1293.out))) (below_size bB_)); have n4_ := Aside0.mk (below_step bB_ hb); clear HO1289; clear HO1291; clear HO1293; clear HB; have HO1289 := n0_; have HO1291 := n1_; have HO1293 := n2_; have HO1296 := n3_; have HB := n4_; clear n0_ n1_ n2_ n3_ n4_; (try clear hb); (try clear ho0); obtain ⟨Ao83, co83, eo83⟩ := Kd.S_slice HO1296.out; subst eo83) | ((with_reducible refine gate_callee (f := 41) rfl ?_); refine gL_ (some 28) Try.func41 #[.slice Ao83 t1294.length co83, .slice Ao80 t1285.length co80] ?_; (with_reducible refine (laws_sameTree.calls k _ _ t1294 _ _ t1285 true _ ?side1 ?side2 ?side3 ?side4 A45.out).mono ?_); (case side1 => exact cC_ (Kd.S_reads' HO1296.out).2.2); (case side2 => exact (Kd.S_reads' HO1296.out).2.1); (case side3 => exact cC_ (Kd.S_reads' HO1289.out).2.2); (case side4 => exact (Kd.S_reads' HO1289.out).2.1); rintro e w84 ⟨rfl, hb⟩; refine ⟨_, rfl, ?_⟩; have n0_ := Aside0.mk (Kd.S_below (vS_ HO1289.out) hb); have n1_ := Aside0.mk (Kd.R_below (vR_ HO1291.out) hb); have n2_ := Aside0.mk (Kd.R_below (vR_ HO1293.out) hb); have n3_ := Aside0.mk (Kd.S_below (vS_ HO1296.out) hb); have n4_ := Aside0.mk (below_step bB_ hb); clear HO1289; clear HO1291; clear HO1293; clear HO1296; clear HB; have HO1289 := n0_; have HO1291 := n1_; have HO1293 := n2_; have HO1296 := n3_; have HB := n4_; clear n0_ n1_ n2_ n3_ n4_; (try clear hb)))
         go_ret
         exact ⟨rr_, bB_⟩
       rw [if_pos c47] at H
       have c47b0 : ((t1297 == 403) == ((t1286.length : Int) == 0)) = true := c47
       (try (have c47b1 : decide ((t1297 == 403) = ((t1286.length : Int) == 0)) = true := by simpa using c47))
       (try (have c47b2 : ((t1297 == 403) == ((t1286.length : Int) == 0)) = true := by simpa using c47))
       clear c47
       by_cases c48 : t1297 = 404
       rotate_left
       · rw [if_neg c48] at H
         have c48b0 : (t1297 == 404) = false := beq_eq_false_iff_ne.mpr c48
         have c48b1 : (t1297 != 404) = true := bne_iff_ne.mpr c48
         by_cases c64 : (t1286.length : Int) > 0
         rotate_left
         · rw [if_neg c64] at H
           have c64b0 : decide (0 < (t1286.length : Int)) = false := decide_eq_false c64
           have c64b1 : decide (0 < t1286.length) = false := decide_eq_false (by omega)
           clear c64
           obtain rfl := Option.some.inj H
           go_enter Try.func10, Try.ntmps10
           go_wp2_with (first | ((with_reducible refine gate_callee (f := 38) rfl ?_); refine gL_ (some 11) Try.func38 #[.slice A0 l0.length c0] ?_; (with_reducible refine (laws_big.calls _ _ l0 false _ ?side1 ?side2 A2.out).mono ?_); (case side1 => exact cC_ HR0.out); (case side2 => exact HC0.out); rintro e w' ⟨rfl, ⟨nd, rfl⟩⟩; refine ⟨_, rfl, ?_⟩) | ((with_reducible refine gate_callee (f := 39) rfl ?_); refine gL_ (some 14) Try.func39 #[.slice A0 l0.length c0] ?_; (with_reducible refine (spec_DrawShelves.calls k _ _ l0 t1285 t1286 t1287 _ ?side1 ?side2 A4.out).mono ?_); (case side1 => exact cC_ HR0.out); (case side2 => exact HC0.out); rintro e w73 ⟨v1288, v1290, v1292, rfl, ho0, ho1, ho2, hb⟩; refine ⟨_, rfl, ?_⟩; have n0_ := Aside0.mk (Kd.S_lower ho0 (below_size bB_)); have n1_ := Aside0.mk (Kd.R_lower ho1 (below_size bB_)); have n2_ := Aside0.mk (Kd.R_lower ho2 (below_size bB_)); have n3_ := Aside0.mk (below_step bB_ hb); clear HB; have HO1289 := n0_; have HO1291 := n1_; have HO1293 := n2_; have HB := n3_; clear n0_ n1_ n2_ n3_; (try clear hb); (try clear ho0); (try clear ho1); (try clear ho2); obtain ⟨Ao74, co74, eo74⟩ := Kd.S_slice HO1289.out; subst eo74; obtain ⟨Ao75, co75, eo75⟩ := Kd.R_slice HO1291.out; subst eo75) | ((with_reducible refine gate_callee (f := 18) rfl ?_); refine gL_ (some 21) Try.func18 #[.slice Ao74 t1285.length co74, .slice Ao75 t1286.length co75] ?_; (with_reducible refine (impl_Remove.calls k _ _ t1285 (fun k_ => some k_ = (.slice Ao75 t1286.length co75 : Value).ownBlock) _ _ t1286 t1294 t1297 _ ?side1 ?side2 ?side3 A5.out).mono ?_); (case side1 => exact cC_ (Kd.S_reads' HO1289.out).2.2); (case side2 => exact (Kd.S_reads' HO1289.out).2.1); (case side3 => exact Kd.R_V (Kd.R_tight rfl (Kd.R_apart' (HO1291.out) (Kd.S_typed HO1289.out) (by decide)))); rintro e w76 ⟨v1295, rfl, ho0, hb⟩; refine ⟨_, rfl, ?_⟩; have n0_ := Aside0.mk (Kd.S_elder' (vS_ HO1289.out) (by first | exact Kd.S_base ho0 | exact Kd.S_base ho0) hb); have n1_ := Aside0.mk (Kd.R_below (vR_ HO1291.out) hb); have n2_ := Aside0.mk (Kd.R_below (vR_ HO1293.out) hb); have n3_ := Aside0.mk (Kd.S_lower (Kd.S_new' (Kd.S_new' (Kd.S_new' (Kd.S_mono (ok' := fun k_ => True) ho0 (fun _ hk_ => trivial)) (Kd.S_lt (vS_ HO1289.out))) (Kd.R_lt (vR_ HO1291.out))) (Kd.R_lt (vR_ HO1293.out))) (below_size bB_)); have n4_ := Aside0.mk (below_step bB_ hb); clear HO1289; clear HO1291; clear HO1293; clear HB; have HO1289 := n0_; have HO1291 := n1_; have HO1293 := n2_; have HO1296 := n3_; have HB := n4_; clear n0_ n1_ n2_ n3_ n4_; (try clear hb); (try clear ho0); obtain ⟨Ao77, co77, eo77⟩ := Kd.S_slice HO1296.out; subst eo77) | ((with_reducible refine gate_callee (f := 41) rfl ?_); refine gL_ (some 28) Try.func41 #[.slice Ao77 t1294.length co77, .slice Ao74 t1285.length co74] ?_; (with_reducible refine (laws_sameTree.calls k _ _ t1294 _ _ t1285 true _ ?side1 ?side2 ?side3 ?side4 A45.out).mono ?_); (case side1 => exact cC_ (Kd.S_reads' HO1296.out).2.2); (case side2 => exact (Kd.S_reads' HO1296.out).2.1); (case side3 => exact cC_ (Kd.S_reads' HO1289.out).2.2); (case side4 => exact (Kd.S_reads' HO1289.out).2.1); rintro e w78 ⟨rfl, hb⟩; refine ⟨_, rfl, ?_⟩; have n0_ := Aside0.mk (Kd.S_below (vS_ HO1289.out) hb); have n1_ := Aside0.mk (Kd.R_below (vR_ HO1291.out) hb); have n2_ := Aside0.mk (Kd.R_below (vR_ HO1293.out) hb); have n3_ := Aside0.mk (Kd.S_below (vS_ HO1296.out) hb); have n4_ := Aside0.mk (below_step bB_ hb); clear HO1289; clear HO1291; clear HO1293; clear HO1296; clear HB; have HO1289 := n0_; have HO1291 := n1_; have HO1293 := n2_; have HO1296 := n3_; have HB := n4_; clear n0_ n1_ n2_ n3_ n4_; (try clear hb)))
           go_ret
           exact ⟨rr_, bB_⟩
         rw [if_pos c64] at H
         have c64b0 : decide (0 < (t1286.length : Int)) = true := decide_eq_true c64
         have c64b1 : decide (0 < t1286.length) = true := decide_eq_true (by omega)
         clear c64
         obtain ⟨t1300, A65, H⟩ := bo_ H
         (try dsimp only at H)
         obtain rfl := Option.some.inj H
         go_enter Try.func10, Try.ntmps10
         go_wp2_with (first | ((with_reducible refine gate_callee (f := 38) rfl ?_); refine gL_ (some 11) Try.func38 #[.slice A0 l0.length c0] ?_; (with_reducible refine (laws_big.calls _ _ l0 false _ ?side1 ?side2 A2.out).mono ?_); (case side1 => exact cC_ HR0.out); (case side2 => exact HC0.out); rintro e w' ⟨rfl, ⟨nd, rfl⟩⟩; refine ⟨_, rfl, ?_⟩) | ((with_reducible refine gate_callee (f := 39) rfl ?_); refine gL_ (some 14) Try.func39 #[.slice A0 l0.length c0] ?_; (with_reducible refine (spec_DrawShelves.calls k _ _ l0 t1285 t1286 t1287 _ ?side1 ?side2 A4.out).mono ?_); (case side1 => exact cC_ HR0.out); (case side2 => exact HC0.out); rintro e w66 ⟨v1288, v1290, v1292, rfl, ho0, ho1, ho2, hb⟩; refine ⟨_, rfl, ?_⟩; have n0_ := Aside0.mk (Kd.S_lower ho0 (below_size bB_)); have n1_ := Aside0.mk (Kd.R_lower ho1 (below_size bB_)); have n2_ := Aside0.mk (Kd.R_lower ho2 (below_size bB_)); have n3_ := Aside0.mk (below_step bB_ hb); clear HB; have HO1289 := n0_; have HO1291 := n1_; have HO1293 := n2_; have HB := n3_; clear n0_ n1_ n2_ n3_; (try clear hb); (try clear ho0); (try clear ho1); (try clear ho2); obtain ⟨Ao67, co67, eo67⟩ := Kd.S_slice HO1289.out; subst eo67; obtain ⟨Ao68, co68, eo68⟩ := Kd.R_slice HO1291.out; subst eo68) | ((with_reducible refine gate_callee (f := 18) rfl ?_); refine gL_ (some 21) Try.func18 #[.slice Ao67 t1285.length co67, .slice Ao68 t1286.length co68] ?_; (with_reducible refine (impl_Remove.calls k _ _ t1285 (fun k_ => some k_ = (.slice Ao68 t1286.length co68 : Value).ownBlock) _ _ t1286 t1294 t1297 _ ?side1 ?side2 ?side3 A5.out).mono ?_); (case side1 => exact cC_ (Kd.S_reads' HO1289.out).2.2); (case side2 => exact (Kd.S_reads' HO1289.out).2.1); (case side3 => exact Kd.R_V (Kd.R_tight rfl (Kd.R_apart' (HO1291.out) (Kd.S_typed HO1289.out) (by decide)))); rintro e w69 ⟨v1295, rfl, ho0, hb⟩; refine ⟨_, rfl, ?_⟩; have n0_ := Aside0.mk (Kd.S_elder' (vS_ HO1289.out) (by first | exact Kd.S_base ho0 | exact Kd.S_base ho0) hb); have n1_ := Aside0.mk (Kd.R_below (vR_ HO1291.out) hb); have n2_ := Aside0.mk (Kd.R_below (vR_ HO1293.out) hb); have n3_ := Aside0.mk (Kd.S_lower (Kd.S_new' (Kd.S_new' (Kd.S_new' (Kd.S_mono (ok' := fun k_ => True) ho0 (fun _ hk_ => trivial)) (Kd.S_lt (vS_ HO1289.out))) (Kd.R_lt (vR_ HO1291.out))) (Kd.R_lt (vR_ HO1293.out))) (below_size bB_)); have n4_ := Aside0.mk (below_step bB_ hb); clear HO1289; clear HO1291; clear HO1293; clear HB; have HO1289 := n0_; have HO1291 := n1_; have HO1293 := n2_; have HO1296 := n3_; have HB := n4_; clear n0_ n1_ n2_ n3_ n4_; (try clear hb); (try clear ho0); obtain ⟨Ao70, co70, eo70⟩ := Kd.S_slice HO1296.out; subst eo70) | ((with_reducible refine gate_callee (f := 41) rfl ?_); refine gL_ (some 28) Try.func41 #[.slice Ao70 t1294.length co70, .slice Ao67 t1285.length co67] ?_; (with_reducible refine (laws_sameTree.calls k _ _ t1294 _ _ t1285 true _ ?side1 ?side2 ?side3 ?side4 A45.out).mono ?_); (case side1 => exact cC_ (Kd.S_reads' HO1296.out).2.2); (case side2 => exact (Kd.S_reads' HO1296.out).2.1); (case side3 => exact cC_ (Kd.S_reads' HO1289.out).2.2); (case side4 => exact (Kd.S_reads' HO1289.out).2.1); rintro e w71 ⟨rfl, hb⟩; refine ⟨_, rfl, ?_⟩; have n0_ := Aside0.mk (Kd.S_below (vS_ HO1289.out) hb); have n1_ := Aside0.mk (Kd.R_below (vR_ HO1291.out) hb); have n2_ := Aside0.mk (Kd.R_below (vR_ HO1293.out) hb); have n3_ := Aside0.mk (Kd.S_below (vS_ HO1296.out) hb); have n4_ := Aside0.mk (below_step bB_ hb); clear HO1289; clear HO1291; clear HO1293; clear HO1296; clear HB; have HO1289 := n0_; have HO1291 := n1_; have HO1293 := n2_; have HO1296 := n3_; have HB := n4_; clear n0_ n1_ n2_ n3_ n4_; (try clear hb)) | (go_at_call 42; (with_reducible refine (impl_FindRes.calls k _ _ t1285 _ _ t1286 t1300 _ ?side1 ?side2 ?side3 ?side4 A65.out).mono ?_); (case side1 => exact cC_ (Kd.S_reads' HO1289.out).2.2); (case side2 => exact (Kd.S_reads' HO1289.out).2.1); (case side3 => exact cC_ (Kd.R_reads' HO1291.out).2.2); (case side4 => exact (Kd.R_reads' HO1291.out).2.1); rintro e w72 ⟨rfl, hb⟩; have n0_ := Aside0.mk (Kd.S_below (vS_ HO1289.out) hb); have n1_ := Aside0.mk (Kd.R_below (vR_ HO1291.out) hb); have n2_ := Aside0.mk (Kd.R_below (vR_ HO1293.out) hb); have n3_ := Aside0.mk (Kd.S_below (vS_ HO1296.out) hb); have n4_ := Aside0.mk (below_step bB_ hb); clear HO1289; clear HO1291; clear HO1293; clear HO1296; clear HB; have HO1289 := n0_; have HO1291 := n1_; have HO1293 := n2_; have HO1296 := n3_; have HB := n4_; clear n0_ n1_ n2_ n3_ n4_; (try clear hb)))
         go_ret
         exact ⟨rr_, bB_⟩
       rw [if_pos c48] at H
       have c48b0 : (t1297 == 404) = true := beq_iff_eq.mpr c48
       have c48b1 : (t1297 != 404) = false := bne_eq_false_iff_eq.mpr c48
       clear c48
       by_cases c49 : (t1286.length : Int) > 0
       rotate_left
       · rw [if_neg c49] at H
         have c49b0 : decide (0 < (t1286.length : Int)) = false := decide_eq_false c49
         have c49b1 : decide (0 < t1286.length) = false := decide_eq_false (by omega)
         clear c49
         obtain rfl := Option.some.inj H
         go_enter Try.func10, Try.ntmps10
         go_wp2_with (first | ((with_reducible refine gate_callee (f := 38) rfl ?_); refine gL_ (some 11) Try.func38 #[.slice A0 l0.length c0] ?_; (with_reducible refine (laws_big.calls _ _ l0 false _ ?side1 ?side2 A2.out).mono ?_); (case side1 => exact cC_ HR0.out); (case side2 => exact HC0.out); rintro e w' ⟨rfl, ⟨nd, rfl⟩⟩; refine ⟨_, rfl, ?_⟩) | ((with_reducible refine gate_callee (f := 39) rfl ?_); refine gL_ (some 14) Try.func39 #[.slice A0 l0.length c0] ?_; (with_reducible refine (spec_DrawShelves.calls k _ _ l0 t1285 t1286 t1287 _ ?side1 ?side2 A4.out).mono ?_); (case side1 => exact cC_ HR0.out); (case side2 => exact HC0.out); rintro e w58 ⟨v1288, v1290, v1292, rfl, ho0, ho1, ho2, hb⟩; refine ⟨_, rfl, ?_⟩; have n0_ := Aside0.mk (Kd.S_lower ho0 (below_size bB_)); have n1_ := Aside0.mk (Kd.R_lower ho1 (below_size bB_)); have n2_ := Aside0.mk (Kd.R_lower ho2 (below_size bB_)); have n3_ := Aside0.mk (below_step bB_ hb); clear HB; have HO1289 := n0_; have HO1291 := n1_; have HO1293 := n2_; have HB := n3_; clear n0_ n1_ n2_ n3_; (try clear hb); (try clear ho0); (try clear ho1); (try clear ho2); obtain ⟨Ao59, co59, eo59⟩ := Kd.S_slice HO1289.out; subst eo59; obtain ⟨Ao60, co60, eo60⟩ := Kd.R_slice HO1291.out; subst eo60) | ((with_reducible refine gate_callee (f := 18) rfl ?_); refine gL_ (some 21) Try.func18 #[.slice Ao59 t1285.length co59, .slice Ao60 t1286.length co60] ?_; (with_reducible refine (impl_Remove.calls k _ _ t1285 (fun k_ => some k_ = (.slice Ao60 t1286.length co60 : Value).ownBlock) _ _ t1286 t1294 t1297 _ ?side1 ?side2 ?side3 A5.out).mono ?_); (case side1 => exact cC_ (Kd.S_reads' HO1289.out).2.2); (case side2 => exact (Kd.S_reads' HO1289.out).2.1); (case side3 => exact Kd.R_V (Kd.R_tight rfl (Kd.R_apart' (HO1291.out) (Kd.S_typed HO1289.out) (by decide)))); rintro e w61 ⟨v1295, rfl, ho0, hb⟩; refine ⟨_, rfl, ?_⟩; have n0_ := Aside0.mk (Kd.S_elder' (vS_ HO1289.out) (by first | exact Kd.S_base ho0 | exact Kd.S_base ho0) hb); have n1_ := Aside0.mk (Kd.R_below (vR_ HO1291.out) hb); have n2_ := Aside0.mk (Kd.R_below (vR_ HO1293.out) hb); have n3_ := Aside0.mk (Kd.S_lower (Kd.S_new' (Kd.S_new' (Kd.S_new' (Kd.S_mono (ok' := fun k_ => True) ho0 (fun _ hk_ => trivial)) (Kd.S_lt (vS_ HO1289.out))) (Kd.R_lt (vR_ HO1291.out))) (Kd.R_lt (vR_ HO1293.out))) (below_size bB_)); have n4_ := Aside0.mk (below_step bB_ hb); clear HO1289; clear HO1291; clear HO1293; clear HB; have HO1289 := n0_; have HO1291 := n1_; have HO1293 := n2_; have HO1296 := n3_; have HB := n4_; clear n0_ n1_ n2_ n3_ n4_; (try clear hb); (try clear ho0); obtain ⟨Ao62, co62, eo62⟩ := Kd.S_slice HO1296.out; subst eo62) | ((with_reducible refine gate_callee (f := 41) rfl ?_); refine gL_ (some 28) Try.func41 #[.slice Ao62 t1294.length co62, .slice Ao59 t1285.length co59] ?_; (with_reducible refine (laws_sameTree.calls k _ _ t1294 _ _ t1285 true _ ?side1 ?side2 ?side3 ?side4 A45.out).mono ?_); (case side1 => exact cC_ (Kd.S_reads' HO1296.out).2.2); (case side2 => exact (Kd.S_reads' HO1296.out).2.1); (case side3 => exact cC_ (Kd.S_reads' HO1289.out).2.2); (case side4 => exact (Kd.S_reads' HO1289.out).2.1); rintro e w63 ⟨rfl, hb⟩; refine ⟨_, rfl, ?_⟩; have n0_ := Aside0.mk (Kd.S_below (vS_ HO1289.out) hb); have n1_ := Aside0.mk (Kd.R_below (vR_ HO1291.out) hb); have n2_ := Aside0.mk (Kd.R_below (vR_ HO1293.out) hb); have n3_ := Aside0.mk (Kd.S_below (vS_ HO1296.out) hb); have n4_ := Aside0.mk (below_step bB_ hb); clear HO1289; clear HO1291; clear HO1293; clear HO1296; clear HB; have HO1289 := n0_; have HO1291 := n1_; have HO1293 := n2_; have HO1296 := n3_; have HB := n4_; clear n0_ n1_ n2_ n3_ n4_; (try clear hb)))
         go_ret
         exact ⟨rr_, bB_⟩
       rw [if_pos c49] at H
       have c49b0 : decide (0 < (t1286.length : Int)) = true := decide_eq_true c49
       have c49b1 : decide (0 < t1286.length) = true := decide_eq_true (by omega)
       clear c49
       obtain ⟨t1299, A50, H⟩ := bo_ H
       (try dsimp only at H)
       obtain rfl := Option.some.inj H
       go_enter Try.func10, Try.ntmps10
       go_wp2_with (first | ((with_reducible refine gate_callee (f := 38) rfl ?_); refine gL_ (some 11) Try.func38 #[.slice A0 l0.length c0] ?_; (with_reducible refine (laws_big.calls _ _ l0 false _ ?side1 ?side2 A2.out).mono ?_); (case side1 => exact cC_ HR0.out); (case side2 => exact HC0.out); rintro e w' ⟨rfl, ⟨nd, rfl⟩⟩; refine ⟨_, rfl, ?_⟩) | ((with_reducible refine gate_callee (f := 39) rfl ?_); refine gL_ (some 14) Try.func39 #[.slice A0 l0.length c0] ?_; (with_reducible refine (spec_DrawShelves.calls k _ _ l0 t1285 t1286 t1287 _ ?side1 ?side2 A4.out).mono ?_); (case side1 => exact cC_ HR0.out); (case side2 => exact HC0.out); rintro e w51 ⟨v1288, v1290, v1292, rfl, ho0, ho1, ho2, hb⟩; refine ⟨_, rfl, ?_⟩; have n0_ := Aside0.mk (Kd.S_lower ho0 (below_size bB_)); have n1_ := Aside0.mk (Kd.R_lower ho1 (below_size bB_)); have n2_ := Aside0.mk (Kd.R_lower ho2 (below_size bB_)); have n3_ := Aside0.mk (below_step bB_ hb); clear HB; have HO1289 := n0_; have HO1291 := n1_; have HO1293 := n2_; have HB := n3_; clear n0_ n1_ n2_ n3_; (try clear hb); (try clear ho0); (try clear ho1); (try clear ho2); obtain ⟨Ao52, co52, eo52⟩ := Kd.S_slice HO1289.out; subst eo52; obtain ⟨Ao53, co53, eo53⟩ := Kd.R_slice HO1291.out; subst eo53) | ((with_reducible refine gate_callee (f := 18) rfl ?_); refine gL_ (some 21) Try.func18 #[.slice Ao52 t1285.length co52, .slice Ao53 t1286.length co53] ?_; (with_reducible refine (impl_Remove.calls k _ _ t1285 (fun k_ => some k_ = (.slice Ao53 t1286.length co53 : Value).ownBlock) _ _ t1286 t1294 t1297 _ ?side1 ?side2 ?side3 A5.out).mono ?_); (case side1 => exact cC_ (Kd.S_reads' HO1289.out).2.2); (case side2 => exact (Kd.S_reads' HO1289.out).2.1); (case side3 => exact Kd.R_V (Kd.R_tight rfl (Kd.R_apart' (HO1291.out) (Kd.S_typed HO1289.out) (by decide)))); rintro e w54 ⟨v1295, rfl, ho0, hb⟩; refine ⟨_, rfl, ?_⟩; have n0_ := Aside0.mk (Kd.S_elder' (vS_ HO1289.out) (by first | exact Kd.S_base ho0 | exact Kd.S_base ho0) hb); have n1_ := Aside0.mk (Kd.R_below (vR_ HO1291.out) hb); have n2_ := Aside0.mk (Kd.R_below (vR_ HO1293.out) hb); have n3_ := Aside0.mk (Kd.S_lower (Kd.S_new' (Kd.S_new' (Kd.S_new' (Kd.S_mono (ok' := fun k_ => True) ho0 (fun _ hk_ => trivial)) (Kd.S_lt (vS_ HO1289.out))) (Kd.R_lt (vR_ HO1291.out))) (Kd.R_lt (vR_ HO1293.out))) (below_size bB_)); have n4_ := Aside0.mk (below_step bB_ hb); clear HO1289; clear HO1291; clear HO1293; clear HB; have HO1289 := n0_; have HO1291 := n1_; have HO1293 := n2_; have HO1296 := n3_; have HB := n4_; clear n0_ n1_ n2_ n3_ n4_; (try clear hb); (try clear ho0); obtain ⟨Ao55, co55, eo55⟩ := Kd.S_slice HO1296.out; subst eo55) | ((with_reducible refine gate_callee (f := 41) rfl ?_); refine gL_ (some 28) Try.func41 #[.slice Ao55 t1294.length co55, .slice Ao52 t1285.length co52] ?_; (with_reducible refine (laws_sameTree.calls k _ _ t1294 _ _ t1285 true _ ?side1 ?side2 ?side3 ?side4 A45.out).mono ?_); (case side1 => exact cC_ (Kd.S_reads' HO1296.out).2.2); (case side2 => exact (Kd.S_reads' HO1296.out).2.1); (case side3 => exact cC_ (Kd.S_reads' HO1289.out).2.2); (case side4 => exact (Kd.S_reads' HO1289.out).2.1); rintro e w56 ⟨rfl, hb⟩; refine ⟨_, rfl, ?_⟩; have n0_ := Aside0.mk (Kd.S_below (vS_ HO1289.out) hb); have n1_ := Aside0.mk (Kd.R_below (vR_ HO1291.out) hb); have n2_ := Aside0.mk (Kd.R_below (vR_ HO1293.out) hb); have n3_ := Aside0.mk (Kd.S_below (vS_ HO1296.out) hb); have n4_ := Aside0.mk (below_step bB_ hb); clear HO1289; clear HO1291; clear HO1293; clear HO1296; clear HB; have HO1289 := n0_; have HO1291 := n1_; have HO1293 := n2_; have HO1296 := n3_; have HB := n4_; clear n0_ n1_ n2_ n3_ n4_; (try clear hb)) | (go_at_call 42; (with_reducible refine (impl_FindRes.calls k _ _ t1285 _ _ t1286 t1299 _ ?side1 ?side2 ?side3 ?side4 A50.out).mono ?_); (case side1 => exact cC_ (Kd.S_reads' HO1289.out).2.2); (case side2 => exact (Kd.S_reads' HO1289.out).2.1); (case side3 => exact cC_ (Kd.R_reads' HO1291.out).2.2); (case side4 => exact (Kd.R_reads' HO1291.out).2.1); rintro e w57 ⟨rfl, hb⟩; have n0_ := Aside0.mk (Kd.S_below (vS_ HO1289.out) hb); have n1_ := Aside0.mk (Kd.R_below (vR_ HO1291.out) hb); have n2_ := Aside0.mk (Kd.R_below (vR_ HO1293.out) hb); have n3_ := Aside0.mk (Kd.S_below (vS_ HO1296.out) hb); have n4_ := Aside0.mk (below_step bB_ hb); clear HO1289; clear HO1291; clear HO1293; clear HO1296; clear HB; have HO1289 := n0_; have HO1291 := n1_; have HO1293 := n2_; have HO1296 := n3_; have HB := n4_; clear n0_ n1_ n2_ n3_ n4_; (try clear hb)))
       go_ret
       exact ⟨rr_, bB_⟩
     · replace c46 := Bool.eq_false_iff.mpr c46
       subst c46
       rw [if_neg (show ¬ (false = true) by decide)] at H
       obtain rfl := Option.some.inj H
       go_enter Try.func10, Try.ntmps10
       go_wp2_with (first | ((with_reducible refine gate_callee (f := 38) rfl ?_); refine gL_ (some 11) Try.func38 #[.slice A0 l0.length c0] ?_; (with_reducible refine (laws_big.calls _ _ l0 false _ ?side1 ?side2 A2.out).mono ?_); (case side1 => exact cC_ HR0.out); (case side2 => exact HC0.out); rintro e w' ⟨rfl, ⟨nd, rfl⟩⟩; refine ⟨_, rfl, ?_⟩) | ((with_reducible refine gate_callee (f := 39) rfl ?_); refine gL_ (some 14) Try.func39 #[.slice A0 l0.length c0] ?_; (with_reducible refine (spec_DrawShelves.calls k _ _ l0 t1285 t1286 t1287 _ ?side1 ?side2 A4.out).mono ?_); (case side1 => exact cC_ HR0.out); (case side2 => exact HC0.out); rintro e w85 ⟨v1288, v1290, v1292, rfl, ho0, ho1, ho2, hb⟩; refine ⟨_, rfl, ?_⟩; have n0_ := Aside0.mk (Kd.S_lower ho0 (below_size bB_)); have n1_ := Aside0.mk (Kd.R_lower ho1 (below_size bB_)); have n2_ := Aside0.mk (Kd.R_lower ho2 (below_size bB_)); have n3_ := Aside0.mk (below_step bB_ hb); clear HB; have HO1289 := n0_; have HO1291 := n1_; have HO1293 := n2_; have HB := n3_; clear n0_ n1_ n2_ n3_; (try clear hb); (try clear ho0); (try clear ho1); (try clear ho2); obtain ⟨Ao86, co86, eo86⟩ := Kd.S_slice HO1289.out; subst eo86; obtain ⟨Ao87, co87, eo87⟩ := Kd.R_slice HO1291.out; subst eo87) | ((with_reducible refine gate_callee (f := 18) rfl ?_); refine gL_ (some 21) Try.func18 #[.slice Ao86 t1285.length co86, .slice Ao87 t1286.length co87] ?_; (with_reducible refine (impl_Remove.calls k _ _ t1285 (fun k_ => some k_ = (.slice Ao87 t1286.length co87 : Value).ownBlock) _ _ t1286 t1294 t1297 _ ?side1 ?side2 ?side3 A5.out).mono ?_); (case side1 => exact cC_ (Kd.S_reads' HO1289.out).2.2); (case side2 => exact (Kd.S_reads' HO1289.out).2.1); (case side3 => exact Kd.R_V (Kd.R_tight rfl (Kd.R_apart' (HO1291.out) (Kd.S_typed HO1289.out) (by decide)))); rintro e w88 ⟨v1295, rfl, ho0, hb⟩; refine ⟨_, rfl, ?_⟩; have n0_ := Aside0.mk (Kd.S_elder' (vS_ HO1289.out) (by first | exact Kd.S_base ho0 | exact Kd.S_base ho0) hb); have n1_ := Aside0.mk (Kd.R_below (vR_ HO1291.out) hb); have n2_ := Aside0.mk (Kd.R_below (vR_ HO1293.out) hb); have n3_ := Aside0.mk (Kd.S_lower (Kd.S_new' (Kd.S_new' (Kd.S_new' (Kd.S_mono (ok' := fun k_ => True) ho0 (fun _ hk_ => trivial)) (Kd.S_lt (vS_ HO1289.out))) (Kd.R_lt (vR_ HO1291.out))) (Kd.R_lt (vR_ HO1293.out))) (below_size bB_)); have n4_ := Aside0.mk (below_step bB_ hb); clear HO1289; clear HO1291; clear HO1293; clear HB; have HO1289 := n0_; have HO1291 := n1_; have HO1293 := n2_; have HO1296 := n3_; have HB := n4_; clear n0_ n1_ n2_ n3_ n4_; (try clear hb); (try clear ho0); obtain ⟨Ao89, co89, eo89⟩ := Kd.S_slice HO1296.out; subst eo89) | ((with_reducible refine gate_callee (f := 41) rfl ?_); refine gL_ (some 28) Try.func41 #[.slice Ao89 t1294.length co89, .slice Ao86 t1285.length co86] ?_; (with_reducible refine (laws_sameTree.calls k _ _ t1294 _ _ t1285 false _ ?side1 ?side2 ?side3 ?side4 A45.out).mono ?_); (case side1 => exact cC_ (Kd.S_reads' HO1296.out).2.2); (case side2 => exact (Kd.S_reads' HO1296.out).2.1); (case side3 => exact cC_ (Kd.S_reads' HO1289.out).2.2); (case side4 => exact (Kd.S_reads' HO1289.out).2.1); rintro e w90 ⟨rfl, hb⟩; refine ⟨_, rfl, ?_⟩; have n0_ := Aside0.mk (Kd.S_below (vS_ HO1289.out) hb); have n1_ := Aside0.mk (Kd.R_below (vR_ HO1291.out) hb); have n2_ := Aside0.mk (Kd.R_below (vR_ HO1293.out) hb); have n3_ := Aside0.mk (Kd.S_below (vS_ HO1296.out) hb); have n4_ := Aside0.mk (below_step bB_ hb); clear HO1289; clear HO1291; clear HO1293; clear HO1296; clear HB; have HO1289 := n0_; have HO1291 := n1_; have HO1293 := n2_; have HO1296 := n3_; have HB := n4_; clear n0_ n1_ n2_ n3_ n4_; (try clear hb)))
       go_ret
       exact ⟨rr_, bB_⟩
   rw [if_pos c6] at H
   have c6b0 : (t1297 == 204) = true := beq_iff_eq.mpr c6
   have c6b1 : (t1297 != 204) = false := bne_eq_false_iff_eq.mpr c6
   clear c6
   have H' := Aside0.mk H
   clear H
   go_enter Try.func10, Try.ntmps10
   go_wp2_with (first | ((with_reducible refine gate_callee (f := 38) rfl ?_); refine gL_ (some 11) Try.func38 #[.slice A0 l0.length c0] ?_; (with_reducible refine (laws_big.calls _ _ l0 false _ ?side1 ?side2 A2.out).mono ?_); (case side1 => exact cC_ HR0.out); (case side2 => exact HC0.out); rintro e w' ⟨rfl, ⟨nd, rfl⟩⟩; refine ⟨_, rfl, ?_⟩) | ((with_reducible refine gate_callee (f := 39) rfl ?_); refine gL_ (some 14) Try.func39 #[.slice A0 l0.length c0] ?_; (with_reducible refine (spec_DrawShelves.calls k _ _ l0 t1285 t1286 t1287 _ ?side1 ?side2 A4.out).mono ?_); (case side1 => exact cC_ HR0.out); (case side2 => exact HC0.out); rintro e w7 ⟨v1288, v1290, v1292, rfl, ho0, ho1, ho2, hb⟩; refine ⟨_, rfl, ?_⟩; have n0_ := Aside0.mk (Kd.S_lower ho0 (below_size bB_)); have n1_ := Aside0.mk (Kd.R_lower ho1 (below_size bB_)); have n2_ := Aside0.mk (Kd.R_lower ho2 (below_size bB_)); have n3_ := Aside0.mk (below_step bB_ hb); clear HB; have HO1289 := n0_; have HO1291 := n1_; have HO1293 := n2_; have HB := n3_; clear n0_ n1_ n2_ n3_; (try clear hb); (try clear ho0); (try clear ho1); (try clear ho2); obtain ⟨Ao8, co8, eo8⟩ := Kd.S_slice HO1289.out; subst eo8; obtain ⟨Ao9, co9, eo9⟩ := Kd.R_slice HO1291.out; subst eo9) | ((with_reducible refine gate_callee (f := 18) rfl ?_); refine gL_ (some 21) Try.func18 #[.slice Ao8 t1285.length co8, .slice Ao9 t1286.length co9] ?_; (with_reducible refine (impl_Remove.calls k _ _ t1285 (fun k_ => some k_ = (.slice Ao9 t1286.length co9 : Value).ownBlock) _ _ t1286 t1294 t1297 _ ?side1 ?side2 ?side3 A5.out).mono ?_); (case side1 => exact cC_ (Kd.S_reads' HO1289.out).2.2); (case side2 => exact (Kd.S_reads' HO1289.out).2.1); (case side3 => exact Kd.R_V (Kd.R_tight rfl (Kd.R_apart' (HO1291.out) (Kd.S_typed HO1289.out) (by decide)))); rintro e w10 ⟨v1295, rfl, ho0, hb⟩; refine ⟨_, rfl, ?_⟩; have n0_ := Aside0.mk (Kd.S_elder' (vS_ HO1289.out) (by first | exact Kd.S_base ho0 | exact Kd.S_base ho0) hb); have n1_ := Aside0.mk (Kd.R_below (vR_ HO1291.out) hb); have n2_ := Aside0.mk (Kd.R_below (vR_ HO1293.out) hb); have n3_ := Aside0.mk (Kd.S_lower (Kd.S_new' (Kd.S_new' (Kd.S_new' (Kd.S_mono (ok' := fun k_ => True) ho0 (fun _ hk_ => trivial)) (Kd.S_lt (vS_ HO1289.out))) (Kd.R_lt (vR_ HO1291.out))) (Kd.R_lt (vR_ HO1293.out))) (below_size bB_)); have n4_ := Aside0.mk (below_step bB_ hb); clear HO1289; clear HO1291; clear HO1293; clear HB; have HO1289 := n0_; have HO1291 := n1_; have HO1293 := n2_; have HO1296 := n3_; have HB := n4_; clear n0_ n1_ n2_ n3_ n4_; (try clear hb); (try clear ho0)))
   go_loopg [8] k (fun kq v8 w' => ∃ (x8_1 : Int), v8 = .int .i64 x8_1 ∧ Aside0 (laws_FnRemoved.l0 kq t1285 t1286 t1294 x8_1 = some r) ∧ Aside0 (kq ≤ k) ∧ Aside0 (Kd.S k57 57 w' w.heap.size (fun k_ => some k_ ≠ ((.slice Ao9 t1286.length co9) : Value).ownBlock ∧ some k_ ≠ (v1295 : Value).ownBlock) (.slice Ao8 t1285.length co8) t1285) ∧ Aside0 (Kd.R Kd.string 9 w' w.heap.size (fun _ => True) (.slice Ao9 t1286.length co9) t1286) ∧ Aside0 (Kd.S k57 57 w' w.heap.size (fun k_ => some k_ ≠ ((.slice Ao8 t1285.length co8) : Value).ownBlock ∧ some k_ ≠ ((.slice Ao9 t1286.length co9) : Value).ownBlock) v1295 t1294) ∧ Aside0 (Below w.heap.size w w'))
   case atStart => exact ⟨(0), rs_, H', ⟨Nat.le_refl _⟩, ⟨by (with_reducible repeat (first | apply Kd.S_alloc | apply Kd.S_drewN | apply Kd.S_drew)); exact Kd.S_mono HO1289.out (fun _ hk => ⟨hk.1.1, hk.2⟩)⟩, ⟨by (with_reducible repeat (first | apply Kd.R_alloc | apply Kd.R_drewN | apply Kd.R_drew)); exact Kd.R_mono HO1291.out (fun _ hk => trivial)⟩, ⟨by (with_reducible repeat (first | apply Kd.S_alloc | apply Kd.S_drewN | apply Kd.S_drew)); exact Kd.S_mono HO1296.out (fun _ hk => ⟨hk.1.1.2, hk.1.2⟩)⟩, ⟨bB_⟩⟩
   case round =>
    clear H'
    try clear c1
    try clear p2
    try clear c3
    try clear c6
    try clear c6b0
    try clear c6b1
    try clear c10
    obtain ⟨x8_1, rfl, HA, HK1, HO_3, HO_4, HO_6, HB⟩ := hrel
    cases gk with
    | zero => exact absurd HA.out (by simp [laws_FnRemoved.l0])
    | succ k1 =>
     have H := HA.out
     clear HA
     simp only [laws_FnRemoved.l0] at H
     by_cases c11 : x8_1 < (t1285.length : Int)
     rotate_left
     · rw [if_neg c11] at H
       have c11b0 : decide (x8_1 < (t1285.length : Int)) = false := decide_eq_false c11
       clear c11
       obtain ⟨t1301, A28, H⟩ := bo_ H
       (try dsimp only at H)
       by_cases c29 : t1301 = true
       · subst c29
         rw [if_pos rfl] at H
         obtain ⟨t1302, A30, H⟩ := bo_ H
         (try dsimp only at H)
         by_cases c31 : (t1294.length : Int) = (wrap64 ((t1285.length : Int) - (t1302.length : Int)))
         rotate_left
         · rw [if_neg c31] at H
           have c31b0 : ((t1294.length : Int) == (wrap64 ((t1285.length : Int) - (t1302.length : Int)))) = false := beq_eq_false_iff_ne.mpr c31
           have c31b1 : ((t1294.length : Int) != (wrap64 ((t1285.length : Int) - (t1302.length : Int)))) = true := bne_iff_ne.mpr c31
           obtain rfl := Option.some.inj H
           obtain ⟨Ao39, co39, eo39⟩ := Kd.S_slice HO_6.out
           subst eo39
           go_wp2_with (first | ((with_reducible refine gate_callee (f := 40) rfl ?_); refine gL_ (some 88) Try.func40 #[.slice Ao39 t1294.length co39] ?_; (with_reducible refine (impl_TreeOk.calls k1 _ _ t1294 true _ ?side1 ?side2 A28.out).mono ?_); (case side1 => exact cC_ (Kd.S_reads' HO_6.out).2.2); (case side2 => exact (Kd.S_reads' HO_6.out).2.1); rintro e w40 ⟨rfl, hb⟩; refine ⟨_, rfl, ?_⟩; have n0_ := Aside0.mk (Kd.S_below (vS_ HO_3.out) hb); have n1_ := Aside0.mk (Kd.R_below (vR_ HO_4.out) hb); have n2_ := Aside0.mk (Kd.S_below (vS_ HO_6.out) hb); have n3_ := Aside0.mk (below_step bB_ hb); clear HO_3; clear HO_4; clear HO_6; clear HB; have HO_3 := n0_; have HO_4 := n1_; have HO_6 := n2_; have HB := n3_; clear n0_ n1_ n2_ n3_; (try clear hb)) | (go_at_call 49; (with_reducible refine (impl_DeepOf.calls k1 _ _ t1285 _ _ t1286 t1302 _ ?side1 ?side2 ?side3 ?side4 A30.out).mono ?_); (case side1 => exact cC_ (Kd.S_reads' HO_3.out).2.2); (case side2 => exact (Kd.S_reads' HO_3.out).2.1); (case side3 => exact cC_ (Kd.R_reads' HO_4.out).2.2); (case side4 => exact (Kd.R_reads' HO_4.out).2.1); rintro e w41 ⟨v1303, rfl, ho0, hb⟩; have n0_ := Aside0.mk (Kd.S_elder' (vS_ HO_3.out) (by first | exact Kd.S_base ho0 | exact Kd.S_base ho0) hb); have n1_ := Aside0.mk (Kd.R_below (vR_ HO_4.out) hb); have n2_ := Aside0.mk (Kd.S_elder' (vS_ HO_6.out) (by first | exact Kd.S_base ho0 | exact Kd.S_base ho0) hb); have n3_ := Aside0.mk (Kd.S_lower (Kd.S_new' (Kd.S_new' (Kd.S_new' ho0 (Kd.S_lt (vS_ HO_3.out))) (Kd.R_lt (vR_ HO_4.out))) (Kd.S_lt (vS_ HO_6.out))) (below_size bB_)); have n4_ := Aside0.mk (below_step bB_ hb); clear HO_3; clear HO_4; clear HO_6; clear HB; have HO_3 := n0_; have HO_4 := n1_; have HO_6 := n2_; have HO1304 := n3_; have HB := n4_; clear n0_ n1_ n2_ n3_ n4_; (try clear hb); (try clear ho0); obtain ⟨Ao42, co42, eo42⟩ := Kd.S_slice HO1304.out; subst eo42))
           go_ret
           exact ⟨rr_, bB_⟩
         rw [if_pos c31] at H
         have c31b0 : ((t1294.length : Int) == (wrap64 ((t1285.length : Int) - (t1302.length : Int)))) = true := beq_iff_eq.mpr c31
         have c31b1 : ((t1294.length : Int) != (wrap64 ((t1285.length : Int) - (t1302.length : Int)))) = false := bne_eq_false_iff_eq.mpr c31
         clear c31
         obtain ⟨t1305, A32, H⟩ := bo_ H
         (try dsimp only at H)
         obtain rfl := Option.some.inj H
         obtain ⟨Ao33, co33, eo33⟩ := Kd.S_slice HO_6.out
         subst eo33
         go_wp2_with (first | ((with_reducible refine gate_callee (f := 40) rfl ?_); refine gL_ (some 88) Try.func40 #[.slice Ao33 t1294.length co33] ?_; (with_reducible refine (impl_TreeOk.calls k1 _ _ t1294 true _ ?side1 ?side2 A28.out).mono ?_); (case side1 => exact cC_ (Kd.S_reads' HO_6.out).2.2); (case side2 => exact (Kd.S_reads' HO_6.out).2.1); rintro e w34 ⟨rfl, hb⟩; refine ⟨_, rfl, ?_⟩; have n0_ := Aside0.mk (Kd.S_below (vS_ HO_3.out) hb); have n1_ := Aside0.mk (Kd.R_below (vR_ HO_4.out) hb); have n2_ := Aside0.mk (Kd.S_below (vS_ HO_6.out) hb); have n3_ := Aside0.mk (below_step bB_ hb); clear HO_3; clear HO_4; clear HO_6; clear HB; have HO_3 := n0_; have HO_4 := n1_; have HO_6 := n2_; have HB := n3_; clear n0_ n1_ n2_ n3_; (try clear hb)) | (go_at_call 49; (with_reducible refine (impl_DeepOf.calls k1 _ _ t1285 _ _ t1286 t1302 _ ?side1 ?side2 ?side3 ?side4 A30.out).mono ?_); (case side1 => exact cC_ (Kd.S_reads' HO_3.out).2.2); (case side2 => exact (Kd.S_reads' HO_3.out).2.1); (case side3 => exact cC_ (Kd.R_reads' HO_4.out).2.2); (case side4 => exact (Kd.R_reads' HO_4.out).2.1); rintro e w35 ⟨v1303, rfl, ho0, hb⟩; have n0_ := Aside0.mk (Kd.S_elder' (vS_ HO_3.out) (by first | exact Kd.S_base ho0 | exact Kd.S_base ho0) hb); have n1_ := Aside0.mk (Kd.R_below (vR_ HO_4.out) hb); have n2_ := Aside0.mk (Kd.S_elder' (vS_ HO_6.out) (by first | exact Kd.S_base ho0 | exact Kd.S_base ho0) hb); have n3_ := Aside0.mk (Kd.S_lower (Kd.S_new' (Kd.S_new' (Kd.S_new' ho0 (Kd.S_lt (vS_ HO_3.out))) (Kd.R_lt (vR_ HO_4.out))) (Kd.S_lt (vS_ HO_6.out))) (below_size bB_)); have n4_ := Aside0.mk (below_step bB_ hb); clear HO_3; clear HO_4; clear HO_6; clear HB; have HO_3 := n0_; have HO_4 := n1_; have HO_6 := n2_; have HO1304 := n3_; have HB := n4_; clear n0_ n1_ n2_ n3_ n4_; (try clear hb); (try clear ho0); obtain ⟨Ao36, co36, eo36⟩ := Kd.S_slice HO1304.out; subst eo36) | (go_at_call 49; (with_reducible refine (impl_DeepOf.calls k1 _ _ t1294 _ _ t1286 t1305 _ ?side1 ?side2 ?side3 ?side4 A32.out).mono ?_); (case side1 => exact cC_ (Kd.S_reads' HO_6.out).2.2); (case side2 => exact (Kd.S_reads' HO_6.out).2.1); (case side3 => exact cC_ (Kd.R_reads' HO_4.out).2.2); (case side4 => exact (Kd.R_reads' HO_4.out).2.1); rintro e w37 ⟨v1306, rfl, ho0, hb⟩; have n0_ := Aside0.mk (Kd.S_elder' (vS_ HO_3.out) (by first | exact Kd.S_base ho0 | exact Kd.S_base ho0) hb); have n1_ := Aside0.mk (Kd.R_below (vR_ HO_4.out) hb); have n2_ := Aside0.mk (Kd.S_elder' (vS_ HO_6.out) (by first | exact Kd.S_base ho0 | exact Kd.S_base ho0) hb); have n3_ := Aside0.mk (Kd.S_elder' (vS_ HO1304.out) (by first | exact Kd.S_base ho0 | exact Kd.S_base ho0) hb); have n4_ := Aside0.mk (Kd.S_lower (Kd.S_new' (Kd.S_new' (Kd.S_new' (Kd.S_new' ho0 (Kd.S_lt (vS_ HO_3.out))) (Kd.R_lt (vR_ HO_4.out))) (Kd.S_lt (vS_ HO_6.out))) (Kd.S_lt (vS_ HO1304.out))) (below_size bB_)); have n5_ := Aside0.mk (below_step bB_ hb); clear HO_3; clear HO_4; clear HO_6; clear HO1304; clear HB; have HO_3 := n0_; have HO_4 := n1_; have HO_6 := n2_; have HO1304 := n3_; have HO1307 := n4_; have HB := n5_; clear n0_ n1_ n2_ n3_ n4_ n5_; (try clear hb); (try clear ho0); obtain ⟨Ao38, co38, eo38⟩ := Kd.S_slice HO1307.out; subst eo38))
         go_ret
         exact ⟨rr_, bB_⟩
       · replace c29 := Bool.eq_false_iff.mpr c29
         subst c29
         rw [if_neg (show ¬ (false = true) by decide)] at H
         obtain rfl := Option.some.inj H
         obtain ⟨Ao43, co43, eo43⟩ := Kd.S_slice HO_6.out
         subst eo43
         go_wp2_with (first | ((with_reducible refine gate_callee (f := 40) rfl ?_); refine gL_ (some 88) Try.func40 #[.slice Ao43 t1294.length co43] ?_; (with_reducible refine (impl_TreeOk.calls k1 _ _ t1294 false _ ?side1 ?side2 A28.out).mono ?_); (case side1 => exact cC_ (Kd.S_reads' HO_6.out).2.2); (case side2 => exact (Kd.S_reads' HO_6.out).2.1); rintro e w44 ⟨rfl, hb⟩; refine ⟨_, rfl, ?_⟩; have n0_ := Aside0.mk (Kd.S_below (vS_ HO_3.out) hb); have n1_ := Aside0.mk (Kd.R_below (vR_ HO_4.out) hb); have n2_ := Aside0.mk (Kd.S_below (vS_ HO_6.out) hb); have n3_ := Aside0.mk (below_step bB_ hb); clear HO_3; clear HO_4; clear HO_6; clear HB; have HO_3 := n0_; have HO_4 := n1_; have HO_6 := n2_; have HB := n3_; clear n0_ n1_ n2_ n3_; (try clear hb)))
         go_ret
         exact ⟨rr_, bB_⟩
     rw [if_pos c11] at H
     have c11b0 : decide (x8_1 < (t1285.length : Int)) = true := decide_eq_true c11
     clear c11
     by_cases c12 : 0 ≤ x8_1
     rotate_left
     · exact absurd H (by rw [if_neg c12]; simp)
     rw [if_pos c12] at H
     have c12b0 : decide (0 ≤ x8_1) = true := decide_eq_true c12
     clear c12
     obtain ⟨t1309, A13, H⟩ := bo_ H
     (try dsimp only at H)
     by_cases c14 : t1309 = true
     · subst c14
       rw [if_pos rfl] at H
       obtain ⟨t1311, A15, H⟩ := bo_ H
       (try dsimp only at H)
       by_cases c16 : ((decide (t1311 < 0)) != true) = true
       · rw [if_pos c16] at H
         have c16b0 : ((decide (t1311 < 0)) != true) = true := c16
         (try (have c16b1 : decide ((decide (t1311 < 0)) = true) = false := by simpa using c16))
         (try (have c16b2 : ((decide (t1311 < 0)) == true) = false := by simpa using c16))
         (try (have c16b3 : ¬ ((decide (t1311 < 0)) = true) := by simpa using c16))
         clear c16
         obtain rfl := Option.some.inj H
         have p1308 : 0 ≤ (x8_1 : Int) := of_decide_eq_true as_
         have q1308 : x8_1 < (t1285.length : Int) := of_decide_eq_true as_
         obtain ⟨ad1308, A1308_0, c1308_0, A1308_4, c1308_4, e1308, hx1308_0, hx1308_1, hx1308_2, hx1308_3, hx1308_4, hl1308_0, hi1308_0, hl1308_4, hi1308_4⟩ := at_T57 (Kd.S_reads' HO_3.out).2.2 x8_1 p1308 q1308
         cases e1308
         obtain ⟨ce1308, hce1308, hMe1308, hcc1308⟩ := Kd.S_get HO_3.out z57 x8_1 p1308 (by first | exact q1308 | exact of_decide_eq_true as_ | (have e_ := (Kd.S_reads' HO_3.out).1; omega))
         obtain ⟨ve1308_0, ve1308_4, rfl, ge1308_0, ge1308_4⟩ := k57_openM hMe1308
         have hv1308_0 := hcc1308 0 _ rfl
         rw [Nat.add_zero] at hv1308_0
         replace hv1308_0 := Option.some.inj (hv1308_0.symm.trans hx1308_0)
         rw [hv1308_0] at ge1308_0
         have HL1308_0 := Aside0.mk (show Kd.R Kd.string 9 _ _ _ _ ((rd_T57 t1285 x8_1).f0) from ge1308_0)
         clear hv1308_0 ge1308_0
         have hv1308_4 := hcc1308 4 _ rfl
         rw [add_field _ _ 4 (by omega)] at hv1308_4
         replace hv1308_4 := Option.some.inj (hv1308_4.symm.trans hx1308_4)
         rw [hv1308_4] at ge1308_4
         have HL1308_4 := Aside0.mk (show Kd.R k72 72 _ _ _ _ ((rd_T57 t1285 x8_1).f4) from ge1308_4)
         clear hv1308_4 ge1308_4
         clear hcc1308 hce1308
         have HR1308_0 := Aside0.mk hi1308_0
         have HC1308_0 := Aside0.mk hl1308_0
         clear hi1308_0 hl1308_0
         have HR1308_4 := Aside0.mk hi1308_4
         have HC1308_4 := Aside0.mk hl1308_4
         clear hi1308_4 hl1308_4
         replace p1308 := eq_true p1308
         replace q1308 := eq_true q1308
         go_wp2_with (first | ((with_reducible refine gate_callee (f := 47) rfl ?_); refine gL_ (some 67) Try.func47 #[.slice A1308_0 ((rd_T57 t1285 x8_1).f0).length c1308_0, .slice Ao9 t1286.length co9] ?_; (with_reducible refine (impl_SamePath.calls k1 _ _ ((rd_T57 t1285 x8_1).f0) _ _ t1286 true _ ?side1 ?side2 ?side3 ?side4 A13.out).mono ?_); (case side1 => repeat (first | exact (by repeat (first | (with_reducible exact HR1308_0.out) | (with_reducible refine Kd.C_alloc ?_ _) | (with_reducible refine Kd.C_drewN ?_ _) | (with_reducible refine Kd.C_drew ?_) | exact HR1308_0.out)) | (with_reducible refine Kd.C_alloc ?_ _) | (with_reducible refine Kd.C_drewN ?_ _) | (with_reducible refine Kd.C_drew ?_))); (case side2 => exact HC1308_0.out); (case side3 => exact cC_ (Kd.R_reads' HO_4.out).2.2); (case side4 => exact (Kd.R_reads' HO_4.out).2.1); rintro e w' ⟨rfl, ⟨nd, rfl⟩⟩; refine ⟨_, rfl, ?_⟩; have p1310 : 0 ≤ (x8_1 : Int) := of_decide_eq_true as_; have q1310 : x8_1 < (t1285.length : Int) := of_decide_eq_true as_; obtain ⟨ad1310, A1310_0, c1310_0, A1310_4, c1310_4, e1310, hx1310_0, hx1310_1, hx1310_2, hx1310_3, hx1310_4, hl1310_0, hi1310_0, hl1310_4, hi1310_4⟩ := at_T57 (Kd.S_reads' HO_3.out).2.2 x8_1 p1310 q1310; obtain rfl : ad1308 = ad1310 := (by injection e1310); obtain ⟨ce1310, hce1310, hMe1310, hcc1310⟩ := Kd.S_get HO_3.out z57 x8_1 p1310 (by first | exact q1310 | exact of_decide_eq_true as_ | (have e_ := (Kd.S_reads' HO_3.out).1; omega)); obtain ⟨ve1310_0, ve1310_4, rfl, ge1310_0, ge1310_4⟩ := k57_openM hMe1310; have hv1310_0 := hcc1310 0 _ rfl; rw [Nat.add_zero] at hv1310_0; replace hv1310_0 := Option.some.inj (hv1310_0.symm.trans hx1310_0); rw [hv1310_0] at ge1310_0; have HL1310_0 := Aside0.mk (show Kd.R Kd.string 9 _ _ _ _ ((rd_T57 t1285 x8_1).f0) from ge1310_0); clear hv1310_0 ge1310_0; have hv1310_4 := hcc1310 4 _ rfl; rw [add_field _ _ 4 (by omega)] at hv1310_4; replace hv1310_4 := Option.some.inj (hv1310_4.symm.trans hx1310_4); rw [hv1310_4] at ge1310_4; have HL1310_4 := Aside0.mk (show Kd.R k72 72 _ _ _ _ ((rd_T57 t1285 x8_1).f4) from ge1310_4); clear hv1310_4 ge1310_4; clear hcc1310 hce1310; have HR1310_0 := Aside0.mk hi1310_0; have HC1310_0 := Aside0.mk hl1310_0; clear hi1310_0 hl1310_0; have HR1310_4 := Aside0.mk hi1310_4; have HC1310_4 := Aside0.mk hl1310_4; clear hi1310_4 hl1310_4; replace p1310 := eq_true p1310; replace q1310 := eq_true q1310; have ea_ := Option.some.inj (hx1308_0.symm.trans hx1310_0); injection ea_ with ea_ en_ ec_; subst ea_; subst ec_; clear en_; have ea_ := Option.some.inj (hx1308_4.symm.trans hx1310_4); injection ea_ with ea_ en_ ec_; subst ea_; subst ec_; clear en_; obtain ⟨Ao17, co17, eo17⟩ := Kd.S_slice HO_6.out; subst eo17) | ((with_reducible refine gate_callee (f := 42) rfl ?_); refine gL_ (some 83) Try.func42 #[.slice Ao17 t1294.length co17, .slice A1308_0 ((rd_T57 t1285 x8_1).f0).length c1308_0] ?_; (with_reducible refine (impl_FindRes.calls k1 _ _ t1294 _ _ ((rd_T57 t1285 x8_1).f0) t1311 _ ?side1 ?side2 ?side3 ?side4 A15.out).mono ?_); (case side1 => exact cC_ (Kd.S_reads' HO_6.out).2.2); (case side2 => exact (Kd.S_reads' HO_6.out).2.1); (case side3 => repeat (first | exact (by repeat (first | (with_reducible exact HR1310_0.out) | (with_reducible refine Kd.C_alloc ?_ _) | (with_reducible refine Kd.C_drewN ?_ _) | (with_reducible refine Kd.C_drew ?_) | exact HR1310_0.out)) | (with_reducible refine Kd.C_alloc ?_ _) | (with_reducible refine Kd.C_drewN ?_ _) | (with_reducible refine Kd.C_drew ?_))); (case side4 => exact HC1310_0.out); rintro e w18 ⟨rfl, hb⟩; refine ⟨_, rfl, ?_⟩; have n0_ := Aside0.mk (Kd.S_below (vS_ HO_3.out) hb); have n1_ := Aside0.mk (Kd.R_below (vR_ HO_4.out) hb); have n2_ := Aside0.mk (Kd.S_below (vS_ HO_6.out) hb); have n3_ := Aside0.mk (Kd.R_below (vR_ HL1308_0.out) hb); have n4_ := Aside0.mk (Kd.R_below (vR_ HL1308_4.out) hb); have n5_ := Aside0.mk (Kd.R_below (vR_ HL1310_0.out) hb); have n6_ := Aside0.mk (Kd.R_below (vR_ HL1310_4.out) hb); have n7_ := Aside0.mk (Kd.C_below (by repeat (first | (with_reducible exact HR1308_0.out) | (with_reducible refine Kd.C_alloc ?_ _) | (with_reducible refine Kd.C_drewN ?_ _) | (with_reducible refine Kd.C_drew ?_) | exact HR1308_0.out)) hb); have n8_ := Aside0.mk (Kd.C_below (by repeat (first | (with_reducible exact HR1308_4.out) | (with_reducible refine Kd.C_alloc ?_ _) | (with_reducible refine Kd.C_drewN ?_ _) | (with_reducible refine Kd.C_drew ?_) | exact HR1308_4.out)) hb); have n9_ := Aside0.mk (Kd.C_below (by repeat (first | (with_reducible exact HR1310_0.out) | (with_reducible refine Kd.C_alloc ?_ _) | (with_reducible refine Kd.C_drewN ?_ _) | (with_reducible refine Kd.C_drew ?_) | exact HR1310_0.out)) hb); have n10_ := Aside0.mk (Kd.C_below (by repeat (first | (with_reducible exact HR1310_4.out) | (with_reducible refine Kd.C_alloc ?_ _) | (with_reducible refine Kd.C_drewN ?_ _) | (with_reducible refine Kd.C_drew ?_) | exact HR1310_4.out)) hb); have n11_ := Aside0.mk (below_step bB_ hb); clear HO_3; clear HO_4; clear HO_6; clear HL1308_0; clear HL1308_4; clear HL1310_0; clear HL1310_4; clear HR1308_0; clear HR1308_4; clear HR1310_0; clear HR1310_4; clear HB; have HO_3 := n0_; have HO_4 := n1_; have HO_6 := n2_; have HL1308_0 := n3_; have HL1308_4 := n4_; have HL1310_0 := n5_; have HL1310_4 := n6_; have HR1308_0 := n7_; have HR1308_4 := n8_; have HR1310_0 := n9_; have HR1310_4 := n10_; have HB := n11_; clear n0_ n1_ n2_ n3_ n4_ n5_ n6_ n7_ n8_ n9_ n10_ n11_; (try clear hb)))
         go_ret
         exact ⟨rr_, bB_⟩
       rw [if_neg c16] at H
       have c16b0 : ((decide (t1311 < 0)) != true) = false := by simpa using c16
       (try (have c16b1 : decide ((decide (t1311 < 0)) = true) = true := by simpa using c16))
       (try (have c16b2 : ((decide (t1311 < 0)) == true) = true := by simpa using c16))
       clear c16
       have H' := Aside0.mk H
       clear H
       have p1308 : 0 ≤ (x8_1 : Int) := of_decide_eq_true as_
       have q1308 : x8_1 < (t1285.length : Int) := of_decide_eq_true as_
       obtain ⟨ad1308, A1308_0, c1308_0, A1308_4, c1308_4, e1308, hx1308_0, hx1308_1, hx1308_2, hx1308_3, hx1308_4, hl1308_0, hi1308_0, hl1308_4, hi1308_4⟩ := at_T57 (Kd.S_reads' HO_3.out).2.2 x8_1 p1308 q1308
       cases e1308
       obtain ⟨ce1308, hce1308, hMe1308, hcc1308⟩ := Kd.S_get HO_3.out z57 x8_1 p1308 (by first | exact q1308 | exact of_decide_eq_true as_ | (have e_ := (Kd.S_reads' HO_3.out).1; omega))
       obtain ⟨ve1308_0, ve1308_4, rfl, ge1308_0, ge1308_4⟩ := k57_openM hMe1308
       have hv1308_0 := hcc1308 0 _ rfl
       rw [Nat.add_zero] at hv1308_0
       replace hv1308_0 := Option.some.inj (hv1308_0.symm.trans hx1308_0)
       rw [hv1308_0] at ge1308_0
       have HL1308_0 := Aside0.mk (show Kd.R Kd.string 9 _ _ _ _ ((rd_T57 t1285 x8_1).f0) from ge1308_0)
       clear hv1308_0 ge1308_0
       have hv1308_4 := hcc1308 4 _ rfl
       rw [add_field _ _ 4 (by omega)] at hv1308_4
       replace hv1308_4 := Option.some.inj (hv1308_4.symm.trans hx1308_4)
       rw [hv1308_4] at ge1308_4
       have HL1308_4 := Aside0.mk (show Kd.R k72 72 _ _ _ _ ((rd_T57 t1285 x8_1).f4) from ge1308_4)
       clear hv1308_4 ge1308_4
       clear hcc1308 hce1308
       have HR1308_0 := Aside0.mk hi1308_0
       have HC1308_0 := Aside0.mk hl1308_0
       clear hi1308_0 hl1308_0
       have HR1308_4 := Aside0.mk hi1308_4
       have HC1308_4 := Aside0.mk hl1308_4
       clear hi1308_4 hl1308_4
       replace p1308 := eq_true p1308
       replace q1308 := eq_true q1308
       go_wp2_with (first | ((with_reducible refine gate_callee (f := 47) rfl ?_); refine gL_ (some 67) Try.func47 #[.slice A1308_0 ((rd_T57 t1285 x8_1).f0).length c1308_0, .slice Ao9 t1286.length co9] ?_; (with_reducible refine (impl_SamePath.calls k1 _ _ ((rd_T57 t1285 x8_1).f0) _ _ t1286 true _ ?side1 ?side2 ?side3 ?side4 A13.out).mono ?_); (case side1 => repeat (first | exact (by repeat (first | (with_reducible exact HR1308_0.out) | (with_reducible refine Kd.C_alloc ?_ _) | (with_reducible refine Kd.C_drewN ?_ _) | (with_reducible refine Kd.C_drew ?_) | exact HR1308_0.out)) | (with_reducible refine Kd.C_alloc ?_ _) | (with_reducible refine Kd.C_drewN ?_ _) | (with_reducible refine Kd.C_drew ?_))); (case side2 => exact HC1308_0.out); (case side3 => exact cC_ (Kd.R_reads' HO_4.out).2.2); (case side4 => exact (Kd.R_reads' HO_4.out).2.1); rintro e w' ⟨rfl, ⟨nd, rfl⟩⟩; refine ⟨_, rfl, ?_⟩; have p1310 : 0 ≤ (x8_1 : Int) := of_decide_eq_true as_; have q1310 : x8_1 < (t1285.length : Int) := of_decide_eq_true as_; obtain ⟨ad1310, A1310_0, c1310_0, A1310_4, c1310_4, e1310, hx1310_0, hx1310_1, hx1310_2, hx1310_3, hx1310_4, hl1310_0, hi1310_0, hl1310_4, hi1310_4⟩ := at_T57 (Kd.S_reads' HO_3.out).2.2 x8_1 p1310 q1310; obtain rfl : ad1308 = ad1310 := (by injection e1310); obtain ⟨ce1310, hce1310, hMe1310, hcc1310⟩ := Kd.S_get HO_3.out z57 x8_1 p1310 (by first | exact q1310 | exact of_decide_eq_true as_ | (have e_ := (Kd.S_reads' HO_3.out).1; omega)); obtain ⟨ve1310_0, ve1310_4, rfl, ge1310_0, ge1310_4⟩ := k57_openM hMe1310; have hv1310_0 := hcc1310 0 _ rfl; rw [Nat.add_zero] at hv1310_0; replace hv1310_0 := Option.some.inj (hv1310_0.symm.trans hx1310_0); rw [hv1310_0] at ge1310_0; have HL1310_0 := Aside0.mk (show Kd.R Kd.string 9 _ _ _ _ ((rd_T57 t1285 x8_1).f0) from ge1310_0); clear hv1310_0 ge1310_0; have hv1310_4 := hcc1310 4 _ rfl; rw [add_field _ _ 4 (by omega)] at hv1310_4; replace hv1310_4 := Option.some.inj (hv1310_4.symm.trans hx1310_4); rw [hv1310_4] at ge1310_4; have HL1310_4 := Aside0.mk (show Kd.R k72 72 _ _ _ _ ((rd_T57 t1285 x8_1).f4) from ge1310_4); clear hv1310_4 ge1310_4; clear hcc1310 hce1310; have HR1310_0 := Aside0.mk hi1310_0; have HC1310_0 := Aside0.mk hl1310_0; clear hi1310_0 hl1310_0; have HR1310_4 := Aside0.mk hi1310_4; have HC1310_4 := Aside0.mk hl1310_4; clear hi1310_4 hl1310_4; replace p1310 := eq_true p1310; replace q1310 := eq_true q1310; have ea_ := Option.some.inj (hx1308_0.symm.trans hx1310_0); injection ea_ with ea_ en_ ec_; subst ea_; subst ec_; clear en_; have ea_ := Option.some.inj (hx1308_4.symm.trans hx1310_4); injection ea_ with ea_ en_ ec_; subst ea_; subst ec_; clear en_; obtain ⟨Ao19, co19, eo19⟩ := Kd.S_slice HO_6.out; subst eo19) | ((with_reducible refine gate_callee (f := 42) rfl ?_); refine gL_ (some 83) Try.func42 #[.slice Ao19 t1294.length co19, .slice A1308_0 ((rd_T57 t1285 x8_1).f0).length c1308_0] ?_; (with_reducible refine (impl_FindRes.calls k1 _ _ t1294 _ _ ((rd_T57 t1285 x8_1).f0) t1311 _ ?side1 ?side2 ?side3 ?side4 A15.out).mono ?_); (case side1 => exact cC_ (Kd.S_reads' HO_6.out).2.2); (case side2 => exact (Kd.S_reads' HO_6.out).2.1); (case side3 => repeat (first | exact (by repeat (first | (with_reducible exact HR1310_0.out) | (with_reducible refine Kd.C_alloc ?_ _) | (with_reducible refine Kd.C_drewN ?_ _) | (with_reducible refine Kd.C_drew ?_) | exact HR1310_0.out)) | (with_reducible refine Kd.C_alloc ?_ _) | (with_reducible refine Kd.C_drewN ?_ _) | (with_reducible refine Kd.C_drew ?_))); (case side4 => exact HC1310_0.out); rintro e w20 ⟨rfl, hb⟩; refine ⟨_, rfl, ?_⟩; have n0_ := Aside0.mk (Kd.S_below (vS_ HO_3.out) hb); have n1_ := Aside0.mk (Kd.R_below (vR_ HO_4.out) hb); have n2_ := Aside0.mk (Kd.S_below (vS_ HO_6.out) hb); have n3_ := Aside0.mk (Kd.R_below (vR_ HL1308_0.out) hb); have n4_ := Aside0.mk (Kd.R_below (vR_ HL1308_4.out) hb); have n5_ := Aside0.mk (Kd.R_below (vR_ HL1310_0.out) hb); have n6_ := Aside0.mk (Kd.R_below (vR_ HL1310_4.out) hb); have n7_ := Aside0.mk (Kd.C_below (by repeat (first | (with_reducible exact HR1308_0.out) | (with_reducible refine Kd.C_alloc ?_ _) | (with_reducible refine Kd.C_drewN ?_ _) | (with_reducible refine Kd.C_drew ?_) | exact HR1308_0.out)) hb); have n8_ := Aside0.mk (Kd.C_below (by repeat (first | (with_reducible exact HR1308_4.out) | (with_reducible refine Kd.C_alloc ?_ _) | (with_reducible refine Kd.C_drewN ?_ _) | (with_reducible refine Kd.C_drew ?_) | exact HR1308_4.out)) hb); have n9_ := Aside0.mk (Kd.C_below (by repeat (first | (with_reducible exact HR1310_0.out) | (with_reducible refine Kd.C_alloc ?_ _) | (with_reducible refine Kd.C_drewN ?_ _) | (with_reducible refine Kd.C_drew ?_) | exact HR1310_0.out)) hb); have n10_ := Aside0.mk (Kd.C_below (by repeat (first | (with_reducible exact HR1310_4.out) | (with_reducible refine Kd.C_alloc ?_ _) | (with_reducible refine Kd.C_drewN ?_ _) | (with_reducible refine Kd.C_drew ?_) | exact HR1310_4.out)) hb); have n11_ := Aside0.mk (below_step bB_ hb); clear HO_3; clear HO_4; clear HO_6; clear HL1308_0; clear HL1308_4; clear HL1310_0; clear HL1310_4; clear HR1308_0; clear HR1308_4; clear HR1310_0; clear HR1310_4; clear HB; have HO_3 := n0_; have HO_4 := n1_; have HO_6 := n2_; have HL1308_0 := n3_; have HL1308_4 := n4_; have HL1310_0 := n5_; have HL1310_4 := n6_; have HR1308_0 := n7_; have HR1308_4 := n8_; have HR1310_0 := n9_; have HR1310_4 := n10_; have HB := n11_; clear n0_ n1_ n2_ n3_ n4_ n5_ n6_ n7_ n8_ n9_ n10_ n11_; (try clear hb)))
       go_roundg k1
       case measure => have := HK1.out; omega
       case rel => exact ⟨(wrap64 (x8_1 + 1)), rs_, H', ⟨by have := HK1.out; omega⟩, ⟨by (with_reducible repeat (first | apply Kd.S_alloc | apply Kd.S_drewN | apply Kd.S_drew)); exact HO_3.out⟩, ⟨by (with_reducible repeat (first | apply Kd.R_alloc | apply Kd.R_drewN | apply Kd.R_drew)); exact HO_4.out⟩, ⟨by (with_reducible repeat (first | apply Kd.S_alloc | apply Kd.S_drewN | apply Kd.S_drew)); exact HO_6.out⟩, ⟨bB_⟩⟩
     · replace c14 := Bool.eq_false_iff.mpr c14
       subst c14
       rw [if_neg (show ¬ (false = true) by decide)] at H
       obtain ⟨t1313, A21, H⟩ := bo_ H
       (try dsimp only at H)
       obtain ⟨t1315, A22, H⟩ := bo_ H
       (try dsimp only at H)
       by_cases c23 : ((decide (t1315 < 0)) != t1313) = true
       · rw [if_pos c23] at H
         have c23b0 : ((decide (t1315 < 0)) != t1313) = true := c23
         (try (have c23b1 : decide ((decide (t1315 < 0)) = t1313) = false := by simpa using c23))
         (try (have c23b2 : ((decide (t1315 < 0)) == t1313) = false := by simpa using c23))
         (try (have c23b3 : ¬ ((decide (t1315 < 0)) = t1313) := by simpa using c23))
         clear c23
         obtain rfl := Option.some.inj H
         have p1308 : 0 ≤ (x8_1 : Int) := of_decide_eq_true as_
         have q1308 : x8_1 < (t1285.length : Int) := of_decide_eq_true as_
         obtain ⟨ad1308, A1308_0, c1308_0, A1308_4, c1308_4, e1308, hx1308_0, hx1308_1, hx1308_2, hx1308_3, hx1308_4, hl1308_0, hi1308_0, hl1308_4, hi1308_4⟩ := at_T57 (Kd.S_reads' HO_3.out).2.2 x8_1 p1308 q1308
         cases e1308
         obtain ⟨ce1308, hce1308, hMe1308, hcc1308⟩ := Kd.S_get HO_3.out z57 x8_1 p1308 (by first | exact q1308 | exact of_decide_eq_true as_ | (have e_ := (Kd.S_reads' HO_3.out).1; omega))
         obtain ⟨ve1308_0, ve1308_4, rfl, ge1308_0, ge1308_4⟩ := k57_openM hMe1308
         have hv1308_0 := hcc1308 0 _ rfl
         rw [Nat.add_zero] at hv1308_0
         replace hv1308_0 := Option.some.inj (hv1308_0.symm.trans hx1308_0)
         rw [hv1308_0] at ge1308_0
         have HL1308_0 := Aside0.mk (show Kd.R Kd.string 9 _ _ _ _ ((rd_T57 t1285 x8_1).f0) from ge1308_0)
         clear hv1308_0 ge1308_0
         have hv1308_4 := hcc1308 4 _ rfl
         rw [add_field _ _ 4 (by omega)] at hv1308_4
         replace hv1308_4 := Option.some.inj (hv1308_4.symm.trans hx1308_4)
         rw [hv1308_4] at ge1308_4
         have HL1308_4 := Aside0.mk (show Kd.R k72 72 _ _ _ _ ((rd_T57 t1285 x8_1).f4) from ge1308_4)
         clear hv1308_4 ge1308_4
         clear hcc1308 hce1308
         have HR1308_0 := Aside0.mk hi1308_0
         have HC1308_0 := Aside0.mk hl1308_0
         clear hi1308_0 hl1308_0
         have HR1308_4 := Aside0.mk hi1308_4
         have HC1308_4 := Aside0.mk hl1308_4
         clear hi1308_4 hl1308_4
         replace p1308 := eq_true p1308
         replace q1308 := eq_true q1308
         go_wp2_with (first | ((with_reducible refine gate_callee (f := 47) rfl ?_); refine gL_ (some 67) Try.func47 #[.slice A1308_0 ((rd_T57 t1285 x8_1).f0).length c1308_0, .slice Ao9 t1286.length co9] ?_; (with_reducible refine (impl_SamePath.calls k1 _ _ ((rd_T57 t1285 x8_1).f0) _ _ t1286 false _ ?side1 ?side2 ?side3 ?side4 A13.out).mono ?_); (case side1 => repeat (first | exact (by repeat (first | (with_reducible exact HR1308_0.out) | (with_reducible refine Kd.C_alloc ?_ _) | (with_reducible refine Kd.C_drewN ?_ _) | (with_reducible refine Kd.C_drew ?_) | exact HR1308_0.out)) | (with_reducible refine Kd.C_alloc ?_ _) | (with_reducible refine Kd.C_drewN ?_ _) | (with_reducible refine Kd.C_drew ?_))); (case side2 => exact HC1308_0.out); (case side3 => exact cC_ (Kd.R_reads' HO_4.out).2.2); (case side4 => exact (Kd.R_reads' HO_4.out).2.1); rintro e w' ⟨rfl, ⟨nd, rfl⟩⟩; refine ⟨_, rfl, ?_⟩; have p1312 : 0 ≤ (x8_1 : Int) := of_decide_eq_true as_; have q1312 : x8_1 < (t1285.length : Int) := of_decide_eq_true as_; obtain ⟨ad1312, A1312_0, c1312_0, A1312_4, c1312_4, e1312, hx1312_0, hx1312_1, hx1312_2, hx1312_3, hx1312_4, hl1312_0, hi1312_0, hl1312_4, hi1312_4⟩ := at_T57 (Kd.S_reads' HO_3.out).2.2 x8_1 p1312 q1312; obtain rfl : ad1308 = ad1312 := (by injection e1312); obtain ⟨ce1312, hce1312, hMe1312, hcc1312⟩ := Kd.S_get HO_3.out z57 x8_1 p1312 (by first | exact q1312 | exact of_decide_eq_true as_ | (have e_ := (Kd.S_reads' HO_3.out).1; omega)); obtain ⟨ve1312_0, ve1312_4, rfl, ge1312_0, ge1312_4⟩ := k57_openM hMe1312; have hv1312_0 := hcc1312 0 _ rfl; rw [Nat.add_zero] at hv1312_0; replace hv1312_0 := Option.some.inj (hv1312_0.symm.trans hx1312_0); rw [hv1312_0] at ge1312_0; have HL1312_0 := Aside0.mk (show Kd.R Kd.string 9 _ _ _ _ ((rd_T57 t1285 x8_1).f0) from ge1312_0); clear hv1312_0 ge1312_0; have hv1312_4 := hcc1312 4 _ rfl; rw [add_field _ _ 4 (by omega)] at hv1312_4; replace hv1312_4 := Option.some.inj (hv1312_4.symm.trans hx1312_4); rw [hv1312_4] at ge1312_4; have HL1312_4 := Aside0.mk (show Kd.R k72 72 _ _ _ _ ((rd_T57 t1285 x8_1).f4) from ge1312_4); clear hv1312_4 ge1312_4; clear hcc1312 hce1312; have HR1312_0 := Aside0.mk hi1312_0; have HC1312_0 := Aside0.mk hl1312_0; clear hi1312_0 hl1312_0; have HR1312_4 := Aside0.mk hi1312_4; have HC1312_4 := Aside0.mk hl1312_4; clear hi1312_4 hl1312_4; replace p1312 := eq_true p1312; replace q1312 := eq_true q1312; have ea_ := Option.some.inj (hx1308_0.symm.trans hx1312_0); injection ea_ with ea_ en_ ec_; subst ea_; subst ec_; clear en_; have ea_ := Option.some.inj (hx1308_4.symm.trans hx1312_4); injection ea_ with ea_ en_ ec_; subst ea_; subst ec_; clear en_) | (go_at_call 48; (with_reducible refine (impl_Under.calls k1 _ _ ((rd_T57 t1285 x8_1).f0) _ _ t1286 t1313 _ ?side1 ?side2 ?side3 ?side4 A21.out).mono ?_); (case side1 => repeat (first | exact (by repeat (first | (with_reducible exact HR1312_0.out) | (with_reducible refine Kd.C_alloc ?_ _) | (with_reducible refine Kd.C_drewN ?_ _) | (with_reducible refine Kd.C_drew ?_) | exact HR1312_0.out)) | (with_reducible refine Kd.C_alloc ?_ _) | (with_reducible refine Kd.C_drewN ?_ _) | (with_reducible refine Kd.C_drew ?_))); (case side2 => exact HC1312_0.out); (case side3 => exact cC_ (Kd.R_reads' HO_4.out).2.2); (case side4 => exact (Kd.R_reads' HO_4.out).2.1); rintro e w' ⟨rfl, ⟨nd, rfl⟩⟩; have p1314 : 0 ≤ (x8_1 : Int) := of_decide_eq_true as_; have q1314 : x8_1 < (t1285.length : Int) := of_decide_eq_true as_; obtain ⟨ad1314, A1314_0, c1314_0, A1314_4, c1314_4, e1314, hx1314_0, hx1314_1, hx1314_2, hx1314_3, hx1314_4, hl1314_0, hi1314_0, hl1314_4, hi1314_4⟩ := at_T57 (Kd.S_reads' HO_3.out).2.2 x8_1 p1314 q1314; obtain rfl : ad1308 = ad1314 := (by injection e1314); obtain ⟨ce1314, hce1314, hMe1314, hcc1314⟩ := Kd.S_get HO_3.out z57 x8_1 p1314 (by first | exact q1314 | exact of_decide_eq_true as_ | (have e_ := (Kd.S_reads' HO_3.out).1; omega)); obtain ⟨ve1314_0, ve1314_4, rfl, ge1314_0, ge1314_4⟩ := k57_openM hMe1314; have hv1314_0 := hcc1314 0 _ rfl; rw [Nat.add_zero] at hv1314_0; replace hv1314_0 := Option.some.inj (hv1314_0.symm.trans hx1314_0); rw [hv1314_0] at ge1314_0; have HL1314_0 := Aside0.mk (show Kd.R Kd.string 9 _ _ _ _ ((rd_T57 t1285 x8_1).f0) from ge1314_0); clear hv1314_0 ge1314_0; have hv1314_4 := hcc1314 4 _ rfl; rw [add_field _ _ 4 (by omega)] at hv1314_4; replace hv1314_4 := Option.some.inj (hv1314_4.symm.trans hx1314_4); rw [hv1314_4] at ge1314_4; have HL1314_4 := Aside0.mk (show Kd.R k72 72 _ _ _ _ ((rd_T57 t1285 x8_1).f4) from ge1314_4); clear hv1314_4 ge1314_4; clear hcc1314 hce1314; have HR1314_0 := Aside0.mk hi1314_0; have HC1314_0 := Aside0.mk hl1314_0; clear hi1314_0 hl1314_0; have HR1314_4 := Aside0.mk hi1314_4; have HC1314_4 := Aside0.mk hl1314_4; clear hi1314_4 hl1314_4; replace p1314 := eq_true p1314; replace q1314 := eq_true q1314; have ea_ := Option.some.inj (hx1308_0.symm.trans hx1314_0); injection ea_ with ea_ en_ ec_; subst ea_; subst ec_; clear en_; have ea_ := Option.some.inj (hx1308_4.symm.trans hx1314_4); injection ea_ with ea_ en_ ec_; subst ea_; subst ec_; clear en_; obtain ⟨Ao24, co24, eo24⟩ := Kd.S_slice HO_6.out; subst eo24) | ((with_reducible refine gate_callee (f := 42) rfl ?_); refine gL_ (some 83) Try.func42 #[.slice Ao24 t1294.length co24, .slice A1308_0 ((rd_T57 t1285 x8_1).f0).length c1308_0] ?_; (with_reducible refine (impl_FindRes.calls k1 _ _ t1294 _ _ ((rd_T57 t1285 x8_1).f0) t1315 _ ?side1 ?side2 ?side3 ?side4 A22.out).mono ?_); (case side1 => exact cC_ (Kd.S_reads' HO_6.out).2.2); (case side2 => exact (Kd.S_reads' HO_6.out).2.1); (case side3 => repeat (first | exact (by repeat (first | (with_reducible exact HR1314_0.out) | (with_reducible refine Kd.C_alloc ?_ _) | (with_reducible refine Kd.C_drewN ?_ _) | (with_reducible refine Kd.C_drew ?_) | exact HR1314_0.out)) | (with_reducible refine Kd.C_alloc ?_ _) | (with_reducible refine Kd.C_drewN ?_ _) | (with_reducible refine Kd.C_drew ?_))); (case side4 => exact HC1314_0.out); rintro e w25 ⟨rfl, hb⟩; refine ⟨_, rfl, ?_⟩; have n0_ := Aside0.mk (Kd.S_below (vS_ HO_3.out) hb); have n1_ := Aside0.mk (Kd.R_below (vR_ HO_4.out) hb); have n2_ := Aside0.mk (Kd.S_below (vS_ HO_6.out) hb); have n3_ := Aside0.mk (Kd.R_below (vR_ HL1308_0.out) hb); have n4_ := Aside0.mk (Kd.R_below (vR_ HL1308_4.out) hb); have n5_ := Aside0.mk (Kd.R_below (vR_ HL1312_0.out) hb); have n6_ := Aside0.mk (Kd.R_below (vR_ HL1312_4.out) hb); have n7_ := Aside0.mk (Kd.R_below (vR_ HL1314_0.out) hb); have n8_ := Aside0.mk (Kd.R_below (vR_ HL1314_4.out) hb); have n9_ := Aside0.mk (Kd.C_below (by repeat (first | (with_reducible exact HR1308_0.out) | (with_reducible refine Kd.C_alloc ?_ _) | (with_reducible refine Kd.C_drewN ?_ _) | (with_reducible refine Kd.C_drew ?_) | exact HR1308_0.out)) hb); have n10_ := Aside0.mk (Kd.C_below (by repeat (first | (with_reducible exact HR1308_4.out) | (with_reducible refine Kd.C_alloc ?_ _) | (with_reducible refine Kd.C_drewN ?_ _) | (with_reducible refine Kd.C_drew ?_) | exact HR1308_4.out)) hb); have n11_ := Aside0.mk (Kd.C_below (by repeat (first | (with_reducible exact HR1312_0.out) | (with_reducible refine Kd.C_alloc ?_ _) | (with_reducible refine Kd.C_drewN ?_ _) | (with_reducible refine Kd.C_drew ?_) | exact HR1312_0.out)) hb); have n12_ := Aside0.mk (Kd.C_below (by repeat (first | (with_reducible exact HR1312_4.out) | (with_reducible refine Kd.C_alloc ?_ _) | (with_reducible refine Kd.C_drewN ?_ _) | (with_reducible refine Kd.C_drew ?_) | exact HR1312_4.out)) hb); have n13_ := Aside0.mk (Kd.C_below (by repeat (first | (with_reducible exact HR1314_0.out) | (with_reducible refine Kd.C_alloc ?_ _) | (with_reducible refine Kd.C_drewN ?_ _) | (with_reducible refine Kd.C_drew ?_) | exact HR1314_0.out)) hb); have n14_ := Aside0.mk (Kd.C_below (by repeat (first | (with_reducible exact HR1314_4.out) | (with_reducible refine Kd.C_alloc ?_ _) | (with_reducible refine Kd.C_drewN ?_ _) | (with_reducible refine Kd.C_drew ?_) | exact HR1314_4.out)) hb); have n15_ := Aside0.mk (below_step bB_ hb); clear HO_3; clear HO_4; clear HO_6; clear HL1308_0; clear HL1308_4; clear HL1312_0; clear HL1312_4; clear HL1314_0; clear HL1314_4; clear HR1308_0; clear HR1308_4; clear HR1312_0; clear HR1312_4; clear HR1314_0; clear HR1314_4; clear HB; have HO_3 := n0_; have HO_4 := n1_; have HO_6 := n2_; have HL1308_0 := n3_; have HL1308_4 := n4_; have HL1312_0 := n5_; have HL1312_4 := n6_; have HL1314_0 := n7_; have HL1314_4 := n8_; have HR1308_0 := n9_; have HR1308_4 := n10_; have HR1312_0 := n11_; have HR1312_4 := n12_; have HR1314_0 := n13_; have HR1314_4 := n14_; have HB := n15_; clear n0_ n1_ n2_ n3_ n4_ n5_ n6_ n7_ n8_ n9_ n10_ n11_ n12_ n13_ n14_ n15_; (try clear hb)))
         go_ret
         exact ⟨rr_, bB_⟩
       rw [if_neg c23] at H
       have c23b0 : ((decide (t1315 < 0)) != t1313) = false := by simpa using c23
       (try (have c23b1 : decide ((decide (t1315 < 0)) = t1313) = true := by simpa using c23))
       (try (have c23b2 : ((decide (t1315 < 0)) == t1313) = true := by simpa using c23))
       clear c23
       have H' := Aside0.mk H
       clear H
       have p1308 : 0 ≤ (x8_1 : Int) := of_decide_eq_true as_
       have q1308 : x8_1 < (t1285.length : Int) := of_decide_eq_true as_
       obtain ⟨ad1308, A1308_0, c1308_0, A1308_4, c1308_4, e1308, hx1308_0, hx1308_1, hx1308_2, hx1308_3, hx1308_4, hl1308_0, hi1308_0, hl1308_4, hi1308_4⟩ := at_T57 (Kd.S_reads' HO_3.out).2.2 x8_1 p1308 q1308
       cases e1308
       obtain ⟨ce1308, hce1308, hMe1308, hcc1308⟩ := Kd.S_get HO_3.out z57 x8_1 p1308 (by first | exact q1308 | exact of_decide_eq_true as_ | (have e_ := (Kd.S_reads' HO_3.out).1; omega))
       obtain ⟨ve1308_0, ve1308_4, rfl, ge1308_0, ge1308_4⟩ := k57_openM hMe1308
       have hv1308_0 := hcc1308 0 _ rfl
       rw [Nat.add_zero] at hv1308_0
       replace hv1308_0 := Option.some.inj (hv1308_0.symm.trans hx1308_0)
       rw [hv1308_0] at ge1308_0
       have HL1308_0 := Aside0.mk (show Kd.R Kd.string 9 _ _ _ _ ((rd_T57 t1285 x8_1).f0) from ge1308_0)
       clear hv1308_0 ge1308_0
       have hv1308_4 := hcc1308 4 _ rfl
       rw [add_field _ _ 4 (by omega)] at hv1308_4
       replace hv1308_4 := Option.some.inj (hv1308_4.symm.trans hx1308_4)
       rw [hv1308_4] at ge1308_4
       have HL1308_4 := Aside0.mk (show Kd.R k72 72 _ _ _ _ ((rd_T57 t1285 x8_1).f4) from ge1308_4)
       clear hv1308_4 ge1308_4
       clear hcc1308 hce1308
       have HR1308_0 := Aside0.mk hi1308_0
       have HC1308_0 := Aside0.mk hl1308_0
       clear hi1308_0 hl1308_0
       have HR1308_4 := Aside0.mk hi1308_4
       have HC1308_4 := Aside0.mk hl1308_4
       clear hi1308_4 hl1308_4
       replace p1308 := eq_true p1308
       replace q1308 := eq_true q1308
       go_wp2_with (first | ((with_reducible refine gate_callee (f := 47) rfl ?_); refine gL_ (some 67) Try.func47 #[.slice A1308_0 ((rd_T57 t1285 x8_1).f0).length c1308_0, .slice Ao9 t1286.length co9] ?_; (with_reducible refine (impl_SamePath.calls k1 _ _ ((rd_T57 t1285 x8_1).f0) _ _ t1286 false _ ?side1 ?side2 ?side3 ?side4 A13.out).mono ?_); (case side1 => repeat (first | exact (by repeat (first | (with_reducible exact HR1308_0.out) | (with_reducible refine Kd.C_alloc ?_ _) | (with_reducible refine Kd.C_drewN ?_ _) | (with_reducible refine Kd.C_drew ?_) | exact HR1308_0.out)) | (with_reducible refine Kd.C_alloc ?_ _) | (with_reducible refine Kd.C_drewN ?_ _) | (with_reducible refine Kd.C_drew ?_))); (case side2 => exact HC1308_0.out); (case side3 => exact cC_ (Kd.R_reads' HO_4.out).2.2); (case side4 => exact (Kd.R_reads' HO_4.out).2.1); rintro e w' ⟨rfl, ⟨nd, rfl⟩⟩; refine ⟨_, rfl, ?_⟩; have p1312 : 0 ≤ (x8_1 : Int) := of_decide_eq_true as_; have q1312 : x8_1 < (t1285.length : Int) := of_decide_eq_true as_; obtain ⟨ad1312, A1312_0, c1312_0, A1312_4, c1312_4, e1312, hx1312_0, hx1312_1, hx1312_2, hx1312_3, hx1312_4, hl1312_0, hi1312_0, hl1312_4, hi1312_4⟩ := at_T57 (Kd.S_reads' HO_3.out).2.2 x8_1 p1312 q1312; obtain rfl : ad1308 = ad1312 := (by injection e1312); obtain ⟨ce1312, hce1312, hMe1312, hcc1312⟩ := Kd.S_get HO_3.out z57 x8_1 p1312 (by first | exact q1312 | exact of_decide_eq_true as_ | (have e_ := (Kd.S_reads' HO_3.out).1; omega)); obtain ⟨ve1312_0, ve1312_4, rfl, ge1312_0, ge1312_4⟩ := k57_openM hMe1312; have hv1312_0 := hcc1312 0 _ rfl; rw [Nat.add_zero] at hv1312_0; replace hv1312_0 := Option.some.inj (hv1312_0.symm.trans hx1312_0); rw [hv1312_0] at ge1312_0; have HL1312_0 := Aside0.mk (show Kd.R Kd.string 9 _ _ _ _ ((rd_T57 t1285 x8_1).f0) from ge1312_0); clear hv1312_0 ge1312_0; have hv1312_4 := hcc1312 4 _ rfl; rw [add_field _ _ 4 (by omega)] at hv1312_4; replace hv1312_4 := Option.some.inj (hv1312_4.symm.trans hx1312_4); rw [hv1312_4] at ge1312_4; have HL1312_4 := Aside0.mk (show Kd.R k72 72 _ _ _ _ ((rd_T57 t1285 x8_1).f4) from ge1312_4); clear hv1312_4 ge1312_4; clear hcc1312 hce1312; have HR1312_0 := Aside0.mk hi1312_0; have HC1312_0 := Aside0.mk hl1312_0; clear hi1312_0 hl1312_0; have HR1312_4 := Aside0.mk hi1312_4; have HC1312_4 := Aside0.mk hl1312_4; clear hi1312_4 hl1312_4; replace p1312 := eq_true p1312; replace q1312 := eq_true q1312; have ea_ := Option.some.inj (hx1308_0.symm.trans hx1312_0); injection ea_ with ea_ en_ ec_; subst ea_; subst ec_; clear en_; have ea_ := Option.some.inj (hx1308_4.symm.trans hx1312_4); injection ea_ with ea_ en_ ec_; subst ea_; subst ec_; clear en_) | (go_at_call 48; (with_reducible refine (impl_Under.calls k1 _ _ ((rd_T57 t1285 x8_1).f0) _ _ t1286 t1313 _ ?side1 ?side2 ?side3 ?side4 A21.out).mono ?_); (case side1 => repeat (first | exact (by repeat (first | (with_reducible exact HR1312_0.out) | (with_reducible refine Kd.C_alloc ?_ _) | (with_reducible refine Kd.C_drewN ?_ _) | (with_reducible refine Kd.C_drew ?_) | exact HR1312_0.out)) | (with_reducible refine Kd.C_alloc ?_ _) | (with_reducible refine Kd.C_drewN ?_ _) | (with_reducible refine Kd.C_drew ?_))); (case side2 => exact HC1312_0.out); (case side3 => exact cC_ (Kd.R_reads' HO_4.out).2.2); (case side4 => exact (Kd.R_reads' HO_4.out).2.1); rintro e w' ⟨rfl, ⟨nd, rfl⟩⟩; have p1314 : 0 ≤ (x8_1 : Int) := of_decide_eq_true as_; have q1314 : x8_1 < (t1285.length : Int) := of_decide_eq_true as_; obtain ⟨ad1314, A1314_0, c1314_0, A1314_4, c1314_4, e1314, hx1314_0, hx1314_1, hx1314_2, hx1314_3, hx1314_4, hl1314_0, hi1314_0, hl1314_4, hi1314_4⟩ := at_T57 (Kd.S_reads' HO_3.out).2.2 x8_1 p1314 q1314; obtain rfl : ad1308 = ad1314 := (by injection e1314); obtain ⟨ce1314, hce1314, hMe1314, hcc1314⟩ := Kd.S_get HO_3.out z57 x8_1 p1314 (by first | exact q1314 | exact of_decide_eq_true as_ | (have e_ := (Kd.S_reads' HO_3.out).1; omega)); obtain ⟨ve1314_0, ve1314_4, rfl, ge1314_0, ge1314_4⟩ := k57_openM hMe1314; have hv1314_0 := hcc1314 0 _ rfl; rw [Nat.add_zero] at hv1314_0; replace hv1314_0 := Option.some.inj (hv1314_0.symm.trans hx1314_0); rw [hv1314_0] at ge1314_0; have HL1314_0 := Aside0.mk (show Kd.R Kd.string 9 _ _ _ _ ((rd_T57 t1285 x8_1).f0) from ge1314_0); clear hv1314_0 ge1314_0; have hv1314_4 := hcc1314 4 _ rfl; rw [add_field _ _ 4 (by omega)] at hv1314_4; replace hv1314_4 := Option.some.inj (hv1314_4.symm.trans hx1314_4); rw [hv1314_4] at ge1314_4; have HL1314_4 := Aside0.mk (show Kd.R k72 72 _ _ _ _ ((rd_T57 t1285 x8_1).f4) from ge1314_4); clear hv1314_4 ge1314_4; clear hcc1314 hce1314; have HR1314_0 := Aside0.mk hi1314_0; have HC1314_0 := Aside0.mk hl1314_0; clear hi1314_0 hl1314_0; have HR1314_4 := Aside0.mk hi1314_4; have HC1314_4 := Aside0.mk hl1314_4; clear hi1314_4 hl1314_4; replace p1314 := eq_true p1314; replace q1314 := eq_true q1314; have ea_ := Option.some.inj (hx1308_0.symm.trans hx1314_0); injection ea_ with ea_ en_ ec_; subst ea_; subst ec_; clear en_; have ea_ := Option.some.inj (hx1308_4.symm.trans hx1314_4); injection ea_ with ea_ en_ ec_; subst ea_; subst ec_; clear en_; obtain ⟨Ao26, co26, eo26⟩ := Kd.S_slice HO_6.out; subst eo26) | ((with_reducible refine gate_callee (f := 42) rfl ?_); refine gL_ (some 83) Try.func42 #[.slice Ao26 t1294.length co26, .slice A1308_0 ((rd_T57 t1285 x8_1).f0).length c1308_0] ?_; (with_reducible refine (impl_FindRes.calls k1 _ _ t1294 _ _ ((rd_T57 t1285 x8_1).f0) t1315 _ ?side1 ?side2 ?side3 ?side4 A22.out).mono ?_); (case side1 => exact cC_ (Kd.S_reads' HO_6.out).2.2); (case side2 => exact (Kd.S_reads' HO_6.out).2.1); (case side3 => repeat (first | exact (by repeat (first | (with_reducible exact HR1314_0.out) | (with_reducible refine Kd.C_alloc ?_ _) | (with_reducible refine Kd.C_drewN ?_ _) | (with_reducible refine Kd.C_drew ?_) | exact HR1314_0.out)) | (with_reducible refine Kd.C_alloc ?_ _) | (with_reducible refine Kd.C_drewN ?_ _) | (with_reducible refine Kd.C_drew ?_))); (case side4 => exact HC1314_0.out); rintro e w27 ⟨rfl, hb⟩; refine ⟨_, rfl, ?_⟩; have n0_ := Aside0.mk (Kd.S_below (vS_ HO_3.out) hb); have n1_ := Aside0.mk (Kd.R_below (vR_ HO_4.out) hb); have n2_ := Aside0.mk (Kd.S_below (vS_ HO_6.out) hb); have n3_ := Aside0.mk (Kd.R_below (vR_ HL1308_0.out) hb); have n4_ := Aside0.mk (Kd.R_below (vR_ HL1308_4.out) hb); have n5_ := Aside0.mk (Kd.R_below (vR_ HL1312_0.out) hb); have n6_ := Aside0.mk (Kd.R_below (vR_ HL1312_4.out) hb); have n7_ := Aside0.mk (Kd.R_below (vR_ HL1314_0.out) hb); have n8_ := Aside0.mk (Kd.R_below (vR_ HL1314_4.out) hb); have n9_ := Aside0.mk (Kd.C_below (by repeat (first | (with_reducible exact HR1308_0.out) | (with_reducible refine Kd.C_alloc ?_ _) | (with_reducible refine Kd.C_drewN ?_ _) | (with_reducible refine Kd.C_drew ?_) | exact HR1308_0.out)) hb); have n10_ := Aside0.mk (Kd.C_below (by repeat (first | (with_reducible exact HR1308_4.out) | (with_reducible refine Kd.C_alloc ?_ _) | (with_reducible refine Kd.C_drewN ?_ _) | (with_reducible refine Kd.C_drew ?_) | exact HR1308_4.out)) hb); have n11_ := Aside0.mk (Kd.C_below (by repeat (first | (with_reducible exact HR1312_0.out) | (with_reducible refine Kd.C_alloc ?_ _) | (with_reducible refine Kd.C_drewN ?_ _) | (with_reducible refine Kd.C_drew ?_) | exact HR1312_0.out)) hb); have n12_ := Aside0.mk (Kd.C_below (by repeat (first | (with_reducible exact HR1312_4.out) | (with_reducible refine Kd.C_alloc ?_ _) | (with_reducible refine Kd.C_drewN ?_ _) | (with_reducible refine Kd.C_drew ?_) | exact HR1312_4.out)) hb); have n13_ := Aside0.mk (Kd.C_below (by repeat (first | (with_reducible exact HR1314_0.out) | (with_reducible refine Kd.C_alloc ?_ _) | (with_reducible refine Kd.C_drewN ?_ _) | (with_reducible refine Kd.C_drew ?_) | exact HR1314_0.out)) hb); have n14_ := Aside0.mk (Kd.C_below (by repeat (first | (with_reducible exact HR1314_4.out) | (with_reducible refine Kd.C_alloc ?_ _) | (with_reducible refine Kd.C_drewN ?_ _) | (with_reducible refine Kd.C_drew ?_) | exact HR1314_4.out)) hb); have n15_ := Aside0.mk (below_step bB_ hb); clear HO_3; clear HO_4; clear HO_6; clear HL1308_0; clear HL1308_4; clear HL1312_0; clear HL1312_4; clear HL1314_0; clear HL1314_4; clear HR1308_0; clear HR1308_4; clear HR1312_0; clear HR1312_4; clear HR1314_0; clear HR1314_4; clear HB; have HO_3 := n0_; have HO_4 := n1_; have HO_6 := n2_; have HL1308_0 := n3_; have HL1308_4 := n4_; have HL1312_0 := n5_; have HL1312_4 := n6_; have HL1314_0 := n7_; have HL1314_4 := n8_; have HR1308_0 := n9_; have HR1308_4 := n10_; have HR1312_0 := n11_; have HR1312_4 := n12_; have HR1314_0 := n13_; have HR1314_4 := n14_; have HB := n15_; clear n0_ n1_ n2_ n3_ n4_ n5_ n6_ n7_ n8_ n9_ n10_ n11_ n12_ n13_ n14_ n15_; (try clear hb)))
       go_roundg k1
       case measure => have := HK1.out; omega
       case rel => exact ⟨(wrap64 (x8_1 + 1)), rs_, H', ⟨by have := HK1.out; omega⟩, ⟨by (with_reducible repeat (first | apply Kd.S_alloc | apply Kd.S_drewN | apply Kd.S_drew)); exact HO_3.out⟩, ⟨by (with_reducible repeat (first | apply Kd.R_alloc | apply Kd.R_drewN | apply Kd.R_drew)); exact HO_4.out⟩, ⟨by (with_reducible repeat (first | apply Kd.S_alloc | apply Kd.S_drewN | apply Kd.S_drew)); exact HO_6.out⟩, ⟨bB_⟩⟩
end Go.Proofs.Ytbgggcgjijljkaa.Q

/- The law FnRemoved computes true: what is taken away is gone, with all under it; nothing else is. No condition. -/
set_option linter.unusedSimpArgs false
set_option linter.unusedVariables false
namespace Go.Proofs.Ytbgggcgjijljkaa.Pure
open Go.RowKit Go.Proofs.YtbgggcgjijljkaaW.PrintWords Go.Proofs.YtbgggcgjijljkaaW.PrintLast Go.Proofs.Ytbgggcgjijljkaa.Q Go.Proofs.Ytbgggcgjijljkaa.L
theorem filter_two {α : Type} (f : α → Bool) : ∀ l : List α, (l.filter fun a => !f a).length + (l.filter f).length = l.length
  | [] => rfl
  | a :: l => by
    have ih := filter_two f l
    cases h : f a
    · simp [h]; omega
    · simp [h]; omega
theorem without_deep (p : List ByteArray) (t : List S57) : (withoutP p t).length + (deepOf p t).length = t.length := filter_two _ t
theorem deep_without (p : List ByteArray) (t : List S57) : deepOf p (withoutP p t) = [] := by
  unfold deepOf withoutP
  rw [List.filter_filter]
  refine List.filter_eq_nil_iff.2 fun a _ h => ?_
  simp only [Bool.and_eq_true, Bool.not_eq_true'] at h
  rw [h.1] at h
  exact absurd h.2 (by simp)
theorem gone_iff {p : List ByteArray} {t : List S57} (h : treeOk t = true) {r : S57} (hr : r ∈ t) : decide (findR (withoutP p t) r.f0 < 0) = (decide (r.f0 = p) || under r.f0 p) := by
  have ho := (treeOk_iff.1 h).2.1
  cases hg : (decide (r.f0 = p) || under r.f0 p) with
  | true =>
    refine decide_eq_true (find_neg.2 fun q hq e => ?_)
    obtain ⟨hm, hk⟩ := List.mem_filter.1 hq
    rw [e, hg] at hk
    cases hk
  | false =>
    refine decide_eq_false fun hn => ?_
    refine find_none hn r (List.mem_filter.2 ⟨hr, ?_⟩) rfl
    rw [hg]
    rfl
theorem FnRemoved : ∀ (x0 : List Int), (fun l : List Int => l.length ≤ maxLen ∧ ∀ a ∈ l, (fun x : Int => (Lit.int .u8 x).wf = true) a) x0 → ∃ k, laws_FnRemoved.f k x0 = some true := by
  intro code h0
  apply Ev.rounds
  unfold laws_FnRemoved.f laws_big.f
  simp only [Option.bind_some]
  by_cases c : ((code.length : Int) > 1048576)
  · simp only [decide_eq_true c, if_true]; exact Ev.now _
  simp only [decide_eq_false c, Bool.false_eq_true, if_false]
  have hc : code.length ≤ 1048576 := by omega
  obtain ⟨t, p, q, e1, ⟨ht, hts⟩, hp, hq⟩ := shelvesD hc
  refine Ev.bind e1 ?_
  refine Ev.bind (implRemove hts hp) ?_
  have hl0 := hts.1
  have hl : t.length ≤ maxLen := by rw [maxLen_eq]; omega
  have hp0 := hp.1
  unfold removeR mayC
  simp only [if_pos ht]
  by_cases c1 : pathOk p = true
  · simp only [List.all_cons, List.all_nil, Bool.and_true, if_pos c1, if_pos (show (0 : Int) ≤ 0 ∧ (0 : Int) ≤ 99999 by omega), if_true]
    by_cases c2 : p = []
    · simp only [if_pos c2, show ¬ (403 : Int) = 204 by decide, if_false]
      refine Ev.bind (sameTreeD hts) ?_
      subst c2
      simp only [if_true, List.length_nil, show (((403 : Int) == 403) == (((0 : Nat) : Int) == 0)) = true by decide, show ¬ (403 : Int) = 404 by decide, if_false, show ¬ ((0 : Nat) : Int) > 0 by decide, show ((403 : Int) == 400) = false by decide, beq_self_eq_true]
      exact Ev.now _
    · have hpl : 0 < p.length := List.length_pos_iff.2 c2
      have h3 : ((p.length : Int) == 0) = false := beq_eq_false_iff_ne.mpr (by omega)
      simp only [if_neg c2]
      by_cases c3 : findR t p < 0
      · simp only [if_pos c3, show ¬ (404 : Int) = 204 by decide, if_false]
        refine Ev.bind (sameTreeD hts) ?_
        simp only [if_true, h3, show (((404 : Int) == 403) == false) = true by decide, if_pos (show (p.length : Int) > 0 by omega)]
        refine Ev.bind (implFind hts) ?_
        simp only [decide_eq_true c3, beq_self_eq_true]
        exact Ev.now _
      · simp only [if_neg c3, if_true]
        have key : ∀ (suf pre : List S57), t = pre ++ suf → Ev (fun k => laws_FnRemoved.l0 k t p (withoutP p t) pre.length) true := by
          have hx := without_ok (p := p) ht c2
          have hxs := without_sm (p := p) hts
          intro suf
          induction suf with
          | nil =>
            intro pre h
            refine Ev.step (fun k => laws_FnRemoved.l0.eq_2 ..) ?_
            simp only [if_neg (end_at h)]
            refine Ev.bind (ev_cast (implTreeOk hxs) hx) ?_
            simp only [if_true]
            refine Ev.bind (implDeep hts hp0) ?_
            have h4 := without_deep p t
            rw [wrap_id (by omega) (by omega)]
            simp only [if_pos (show ((withoutP p t).length : Int) = (t.length : Int) - ((deepOf p t).length : Int) by omega)]
            refine Ev.bind (implDeep hxs hp0) ?_
            rw [deep_without]
            exact Ev.now _
          | cons a suf ih =>
            intro pre h
            have ham : a ∈ t := by rw [h]; simp
            have hg := gone_iff (p := p) ht ham
            have ha0 := (hts.2 a ham).1.1
            refine Ev.step (fun k => laws_FnRemoved.l0.eq_2 ..) ?_
            simp only [if_pos (lt_at h), if_pos (nonneg_at _), rd_implRes h, next_at h hl]
            refine Ev.bind (implSame (by rw [maxLen_eq]; omega)) ?_
            by_cases c4 : a.f0 = p
            · simp only [decide_eq_true c4, if_true]
              refine Ev.bind (implFind hxs) ?_
              rw [decide_eq_true c4, Bool.true_or] at hg
              simp only [hg, bne_self_eq_false, Bool.false_eq_true, if_false]
              exact ih (pre ++ [a]) (snoc_at h)
            · simp only [decide_eq_false c4, Bool.false_eq_true, if_false]
              refine Ev.bind (implUnder ha0) ?_
              refine Ev.bind (implFind hxs) ?_
              rw [decide_eq_false c4, Bool.false_or] at hg
              simp only [hg, bne_self_eq_false, Bool.false_eq_true, if_false]
              exact ih (pre ++ [a]) (snoc_at h)
        exact key t [] rfl
  · have hne : p ≠ [] := fun e => c1 (by rw [e]; decide)
    have hpl : 0 < p.length := List.length_pos_iff.2 hne
    have h3 : ((p.length : Int) == 0) = false := beq_eq_false_iff_ne.mpr (by omega)
    have hf : findR t p < 0 := find_neg.2 (fun r hr e => c1 (by rw [← e]; exact (tree_path ht hr).2))
    rw [Bool.not_eq_true] at c1
    simp only [List.all_cons, List.all_nil, Bool.and_true, c1, Bool.false_eq_true, if_false, show ¬ (400 : Int) = 0 by decide, show ¬ (400 : Int) = 204 by decide]
    refine Ev.bind (sameTreeD hts) ?_
    simp only [if_true, h3, show (((400 : Int) == 403) == false) = true by decide, if_pos (show (p.length : Int) > 0 by omega), show ¬ (400 : Int) = 404 by decide, if_false]
    refine Ev.bind (implFind hts) ?_
    simp only [decide_eq_true hf, beq_self_eq_true]
    exact Ev.now _
end Go.Proofs.Ytbgggcgjijljkaa.Pure
