-- PRINTED by print.py (a twelfth state) out of the translation. Not trusted: Lean checks it.
import Derived.Test.YteabkidfgdmmpaaVFnKidsG12
import Derived.Test.YteabkidfgdmmpaaVFnKidsG22
import Derived.Test.YteabkidfgdmmpaaVFnKidsG23
import Derived.Test.YteabkidfgdmmpaaVFnKidsG24
import Derived.Test.YteabkidfgdmmpaaVFnKidsG26
import Derived.Test.YteabkidfgdmmpaaVFnKidsG29
import Derived.Test.YteabkidfgdmmpaaVFnKidsWWords
import Derived.Test.YteabkidfgdmmpaaVFnKidsWApart
import Derived.Deep.Slices
import Derived.WideShapes
import Derived.Laws.Strings
import Derived.Test.YteabkidfgdmmpaaVFnKidsWLast
import Derived.Test.YteabkidfgdmmpaaVFnKidsWMore
namespace Go.Proofs.Yteabkidfgdmmpaa.Q
open Go.RowKit Go.Proofs.YteabkidfgdmmpaaW.PrintWords Go.Proofs.YteabkidfgdmmpaaW.PrintLast Go.Proofs.YteabkidfgdmmpaaW.PrintMore
attribute [local go_sem] max2_int min2_int max_two min_two max_three min_three max_four min_four   -- for this text's walks alone
set_option linter.unusedVariables false
set_option linter.unusedSimpArgs false
mutual
def laws_FnKids.l0 : Nat → List (S59) → List ByteArray → List (List ByteArray) → Int → List (S59) → Int → Option (Bool)
 | 0, _, _, _, _, _, _ => none
 | k + 1, x3, x4, x6, x7, x8, x9 => if x9 < (x8.length : Int) then (if 0 ≤ x9 then (if (((rd_T59 x8 x9).f0).length : Int) = (wrap64 ((x4.length : Int) + 1)) then (laws_FnKids.l0 k x3 x4 x6 (wrap64 (x7 + 1)) x8 (wrap64 (x9 + 1))) else (laws_FnKids.l0 k x3 x4 x6 x7 x8 (wrap64 (x9 + 1)))) else (none)) else (laws_FnKids.l1 k x3 x4 x6 x7 0)
def laws_FnKids.l1 : Nat → List (S59) → List ByteArray → List (List ByteArray) → Int → Int → Option (Bool)
 | 0, _, _, _, _, _ => none
 | k + 1, x3, x4, x6, x7, x10 => if x10 < (x6.length : Int) then (if 0 ≤ x10 then ((impl_Above.f (rd_L4 x6 x10)).bind fun t982 => ((impl_SamePath.f k t982 x4).bind fun t985 => (if t985 = true then ((impl_FindRes.f k x3 (rd_L4 x6 x10)).bind fun t987 => (if t987 < 0 then (some false) else (if x10 > 0 then (if 0 ≤ (wrap64 (x10 - 1)) then (if (wrap64 (x10 - 1)) < (x6.length : Int) then ((impl_LessPath.f k (rd_L4 x6 (wrap64 (x10 - 1))) (rd_L4 x6 x10)).bind fun t990 => (if t990 = true then (laws_FnKids.l1 k x3 x4 x6 x7 (wrap64 (x10 + 1))) else (some false))) else (none)) else (none)) else (laws_FnKids.l1 k x3 x4 x6 x7 (wrap64 (x10 + 1)))))) else (some false)))) else (none)) else (if (x6.length : Int) = x7 then ((impl_IsColl.f k x3 (([] : List ByteArray))).bind fun t979 => (if t979 = true then (if (x6.length : Int) = 0 then (some true) else ((impl_IsColl.f k x3 x4).bind fun t980 => (some t980))) else (some false))) else (some false))
end
def laws_FnKids.f (k : Nat) (l0 : List Int) : Option (Bool) := (laws_big.f l0).bind fun t959 => (if t959 = true then (some true) else ((spec_DrawShelves.f k l0).bind fun bt960 => ((impl_KidsOf.f k bt960.1 bt960.2.1).bind fun t969 => ((impl_DeepOf.f k bt960.1 bt960.2.1).bind fun t972 => (laws_FnKids.l0 k bt960.1 bt960.2.1 t969 0 t972 0)))))
def laws_FnKids.T15 : Bool × List (List Nat × List Nat) := (true, [([], []), ([], []), ([0, 1], [0, 1]), ([2], [2]), ([3], [3]), ([], []), ([4, 5, 4], [4, 5]), ([6], [6]), ([7, 6], [7]), ([8], [8]), ([8], [8]), ([8], [8]), ([10, 11, 8], [8, 10, 11]), ([12, 8], [8, 12]), ([9, 13, 8, 8], [8, 9, 13]), ([14, 8], [8, 14]), ([8, 15], [8, 15]), ([16, 14], [16]), ([17], [17]), ([18, 17], [17, 18]), ([19, 17, 17], [17, 19]), ([20], [20]), ([20], [20]), ([22, 20], [20, 22]), ([21, 23, 20], [20, 21, 23]), ([24, 20], [20, 24]), ([20], [20]), ([20], [20]), ([26, 27, 20], [20, 26, 27]), ([28, 20], [20, 28]), ([25, 29, 20, 20], [20, 25, 29]), ([30, 20], [20, 30]), ([20, 31, 17], [17, 20, 31]), ([17, 32], [17, 32])])
def laws_FnKids.B15 : List Nat := [0, 0, 3, 7, 15, 0, 63, 127, 255, 511, 511, 511, 3583, 7679, 16383, 32767, 65535, 131071, 262143, 524287, 1048575, 2097151, 2097151, 6291455, 16777215, 33554431, 2097151, 2097151, 203423743, 471859199, 1073741823, 2147483647, 4294967295, 8589934591]
theorem laws_FnKids.tab15 : rtab .any (opsOf Try.f13 15) = laws_FnKids.T15 := by kernel_rfl
theorem laws_FnKids.bits15 : waitsOk laws_FnKids.T15.2 laws_FnKids.B15 = true := by kernel_rfl
set_option maxHeartbeats 8000000 in
set_option maxRecDepth 100000 in
theorem laws_FnKids.calls (k : Nat) (A0 : Option Addr) (c0 : Nat) (l0 : List Int) (r : Bool) (w : World) (hr0 : Kd.C (Kd.int .u8) w A0 l0.length l0) (hc0 : l0.length ≤ c0) (h : laws_FnKids.f k l0 = some r) :
 Calls Try.prog 13 #[.slice A0 l0.length c0] w fun e w' => e = .returned (.bool r) ∧ Below w.heap.size w w' := by
 have HR0 := Aside0.mk hr0
 have HC0 := Aside0.mk hc0
 clear hr0 hc0
 have HB := A_ (Below.refl w.heap.size w)
 have H : ((laws_big.f l0).bind fun t959 => (if t959 = true then (some true) else ((spec_DrawShelves.f k l0).bind fun bt960 => ((impl_KidsOf.f k bt960.1 bt960.2.1).bind fun t969 => ((impl_DeepOf.f k bt960.1 bt960.2.1).bind fun t972 => (laws_FnKids.l0 k bt960.1 bt960.2.1 t969 0 t972 0)))))) = some r := h
 clear h
 obtain ⟨t959, A2, H⟩ := bo_ H
 (try dsimp only at H)
 by_cases c3 : t959 = true
 · subst c3
   rw [if_pos rfl] at H
   obtain rfl := Option.some.inj H
   go_enter Try.func13, Try.ntmps13
   go_wp2_with (first | ((with_reducible refine gate_callee (f := 51) rfl ?_); refine gL_ (some 12) Try.func51 #[.slice A0 l0.length c0] ?_; (with_reducible refine (laws_big.calls _ _ l0 true _ ?s1 ?s2 A2.out).mono ?_); (case s1 => exact cC_ HR0.out); (case s2 => exact HC0.out); rintro e w' ⟨rfl, ⟨nd, rfl⟩⟩; refine ⟨_, rfl, ?_⟩))
   go_ret
   exact ⟨rr_, bB_⟩
 · replace c3 := Bool.eq_false_iff.mpr c3
   subst c3
   rw [if_neg nf_] at H
   obtain ⟨⟨t960, t961, t962⟩, A4, H⟩ := bo_ H
   (try dsimp only at H)
   obtain ⟨t969, A5, H⟩ := bo_ H
   (try dsimp only at H)
   obtain ⟨t972, A6, H⟩ := bo_ H
   (try dsimp only at H)
   have H' := Aside0.mk H
   clear H
   go_enter Try.func13, Try.ntmps13
   go_wp2_with (first | ((with_reducible refine gate_callee (f := 51) rfl ?_); refine gL_ (some 12) Try.func51 #[.slice A0 l0.length c0] ?_; (with_reducible refine (laws_big.calls _ _ l0 false _ ?s1 ?s2 A2.out).mono ?_); (case s1 => exact cC_ HR0.out); (case s2 => exact HC0.out); rintro e w' ⟨rfl, ⟨nd, rfl⟩⟩; refine ⟨_, rfl, ?_⟩) | ((with_reducible refine gate_callee (f := 52) rfl ?_); refine gL_ (some 15) Try.func52 #[.slice A0 l0.length c0] ?_; (with_reducible refine (spec_DrawShelves.calls k _ _ l0 t960 t961 t962 _ ?s1 ?s2 A4.out).mono ?_); (case s1 => exact cC_ HR0.out); (case s2 => exact HC0.out); rintro e w7 ⟨v963, v965, v967, rfl, ho0, ho1, ho2, hb⟩; refine ⟨_, rfl, ?_⟩; have HO964 := A_ (Kd.S_lower ho0 (below_size bB_)); have HO966 := A_ (Kd.R_lower ho1 (below_size bB_)); have HO968 := A_ (Kd.R_lower ho2 (below_size bB_)); replace HB := A_ (below_step bB_ hb); (try clear hb); (try clear ho0); (try clear ho1); (try clear ho2); obtain ⟨Ao8, co8, eo8⟩ := Kd.S_slice HO964.out; subst eo8; obtain ⟨Ao9, co9, eo9⟩ := Kd.R_slice HO966.out; subst eo9) | ((with_reducible refine gate_callee (f := 41) rfl ?_); refine gL_ (some 21) Try.func41 #[.slice Ao8 t960.length co8, .slice Ao9 t961.length co9] ?_; (with_reducible refine (impl_KidsOf.calls k _ _ t960 _ _ t961 t969 _ ?s1 ?s2 ?s3 ?s4 A5.out).mono ?_); (case s1 => exact cC_ (Kd.S_reads' HO964.out).2.2); (case s2 => exact (Kd.S_reads' HO964.out).2.1); (case s3 => exact cC_ (Kd.R_reads' HO966.out).2.2); (case s4 => exact (Kd.R_reads' HO966.out).2.1); rintro e w10 ⟨v970, rfl, ho0, hb⟩; refine ⟨_, rfl, ?_⟩; replace HO964 := A_ (Kd.S_below (vS_ HO964.out) hb); have HO971 := A_ (Kd.S_lower (Kd.S_new' (Kd.S_new' ho0 (Kd.R_lt (vR_ HO966.out))) (Kd.R_lt (vR_ HO968.out))) (below_size bB_)); replace HO966 := A_ (Kd.R_below (vR_ HO966.out) hb); replace HO968 := A_ (Kd.R_below (vR_ HO968.out) hb); replace HB := A_ (below_step bB_ hb); (try clear hb); (try clear ho0)) | ((with_reducible refine gate_callee (f := 47) rfl ?_); refine gL_ (some 24) Try.func47 #[.slice Ao8 t960.length co8, .slice Ao9 t961.length co9] ?_; (with_reducible refine (impl_DeepOf.calls k _ _ t960 _ _ t961 t972 _ ?s1 ?s2 ?s3 ?s4 A6.out).mono ?_); (case s1 => exact cC_ (Kd.S_reads' HO964.out).2.2); (case s2 => exact (Kd.S_reads' HO964.out).2.1); (case s3 => exact cC_ (Kd.R_reads' HO966.out).2.2); (case s4 => exact (Kd.R_reads' HO966.out).2.1); rintro e w11 ⟨v973, rfl, ho0, hb⟩; refine ⟨_, rfl, ?_⟩; replace HO971 := A_ (Kd.S_below (vS_ HO971.out) hb); have HO974 := A_ (Kd.S_lower (Kd.S_new' (Kd.S_new' (Kd.S_new' ho0 (Kd.S_lt (vS_ HO964.out))) (Kd.R_lt (vR_ HO966.out))) (Kd.R_lt (vR_ HO968.out))) (below_size bB_)); replace HO964 := A_ (Kd.S_elder' (vS_ HO964.out) (kb_ ho0) hb); replace HO966 := A_ (Kd.R_below (vR_ HO966.out) hb); replace HO968 := A_ (Kd.R_below (vR_ HO968.out) hb); replace HB := A_ (below_step bB_ hb); (try clear hb); (try clear ho0)))
   go_loopg [7, 9] k (fun kq v7 v9 w' => ∃ (x7_1 : Int) (x9_1 : Int), v7 = .int .i64 x7_1 ∧ v9 = .int .i64 x9_1 ∧ Aside0 (laws_FnKids.l0 kq t960 t961 t969 x7_1 t972 x9_1 = some r) ∧ Aside0 (kq ≤ k) ∧ Aside0 (Kd.S k59 59 w' w.heap.size (fun k_ => some k_ ≠ ((.slice Ao9 t961.length co9) : Value).ownBlock ∧ some k_ ≠ (v973 : Value).ownBlock) (.slice Ao8 t960.length co8) t960) ∧ Aside0 (Kd.R Kd.string 9 w' w.heap.size (fun _ => True) (.slice Ao9 t961.length co9) t961) ∧ Aside0 (Kd.S (Kd.slice 9 Kd.string) 22 w' w.heap.size (fun k_ => some k_ ≠ ((.slice Ao9 t961.length co9) : Value).ownBlock) v970 t969) ∧ Aside0 (Kd.S k59 59 w' w.heap.size (fun k_ => some k_ ≠ ((.slice Ao8 t960.length co8) : Value).ownBlock ∧ some k_ ≠ ((.slice Ao9 t961.length co9) : Value).ownBlock) v973 t972) ∧ Aside0 (Below w.heap.size w w'))
   case atStart => exact ⟨(0), (0), rs_, rs_, H', ⟨Nat.le_refl _⟩, ⟨by (with_reducible repeat (first | apply Kd.S_alloc | apply Kd.S_drewN | apply Kd.S_drew)); exact Kd.S_mono HO964.out (fun _ hk => ⟨hk.1.1, hk.2⟩)⟩, ⟨by (with_reducible repeat (first | apply Kd.R_alloc | apply Kd.R_drewN | apply Kd.R_drew)); exact Kd.R_mono HO966.out (fun _ hk => trivial)⟩, ⟨by (with_reducible repeat (first | apply Kd.S_alloc | apply Kd.S_drewN | apply Kd.S_drew)); exact Kd.S_mono HO971.out (fun _ hk => hk.1.2)⟩, ⟨by (with_reducible repeat (first | apply Kd.S_alloc | apply Kd.S_drewN | apply Kd.S_drew)); exact Kd.S_mono HO974.out (fun _ hk => ⟨hk.1.1.2, hk.1.2⟩)⟩, ⟨bB_⟩⟩
   case round =>
    clear H'
    try clear c1
    try clear p2
    try clear c3
    try clear c4
    try clear c5
    obtain ⟨x7_1, x9_1, rfl, rfl, HA, HK1, HO_3, HO_4, HO_6, HO_8, HB⟩ := hrel
    cases gk with
    | zero => exact absurd HA.out (by simp [laws_FnKids.l0])
    | succ k1 =>
     have H := HA.out
     clear HA
     simp only [laws_FnKids.l0] at H
     by_cases c12 : x9_1 < (t972.length : Int)
     · rw [if_pos c12] at H
       have c12b0 : decide (x9_1 < (t972.length : Int)) = true := decide_eq_true c12
       clear c12
       by_cases c13 : 0 ≤ x9_1
       rotate_left
       · exact absurd H (by rw [if_neg c13]; simp)
       rw [if_pos c13] at H
       have c13b0 : decide (0 ≤ x9_1) = true := decide_eq_true c13
       clear c13
       by_cases c14 : (((rd_T59 t972 x9_1).f0).length : Int) = (wrap64 ((t961.length : Int) + 1))
       rotate_left
       · rw [if_neg c14] at H
         have c14b0 : ((((rd_T59 t972 x9_1).f0).length : Int) == (wrap64 ((t961.length : Int) + 1))) = false := beq_eq_false_iff_ne.mpr c14
         have c14b1 : ((((rd_T59 t972 x9_1).f0).length : Int) != (wrap64 ((t961.length : Int) + 1))) = true := bne_iff_ne.mpr c14
         have H' := Aside0.mk H
         clear H
         obtain ⟨Ao16, co16, eo16⟩ := Kd.S_slice HO_8.out
         subst eo16
         have p975 : 0 ≤ (x9_1 : Int) := of_decide_eq_true as_
         have q975 : x9_1 < (t972.length : Int) := of_decide_eq_true as_
         obtain ⟨ad975, A975_0, c975_0, A975_4, c975_4, e975, hx975_0, hx975_1, hx975_2, hx975_3, hx975_4, hl975_0, hi975_0, hl975_4, hi975_4⟩ := at_T59 (Kd.S_reads' HO_8.out).2.2 x9_1 p975 q975
         cases e975
         obtain ⟨ce975, hce975, hMe975, hcc975⟩ := Kd.S_get HO_8.out z59 x9_1 p975 (by first | exact q975 | exact of_decide_eq_true as_ | (have e_ := (Kd.S_reads' HO_8.out).1; omega))
         obtain ⟨ve975_0, ve975_4, rfl, ge975_0, ge975_4⟩ := k59_openM hMe975
         have hv975_0 := hcc975 0 _ rfl
         rw [Nat.add_zero] at hv975_0
         replace hv975_0 := Option.some.inj (hv975_0.symm.trans hx975_0)
         rw [hv975_0] at ge975_0
         have HL975_0 := A_ (show Kd.R Kd.string 9 _ _ _ _ ((rd_T59 t972 x9_1).f0) from ge975_0)
         clear hv975_0 ge975_0
         have hv975_4 := hcc975 4 _ rfl
         rw [add_field _ _ 4 (by omega)] at hv975_4
         replace hv975_4 := Option.some.inj (hv975_4.symm.trans hx975_4)
         rw [hv975_4] at ge975_4
         have HL975_4 := A_ (show Kd.R k71 71 _ _ _ _ ((rd_T59 t972 x9_1).f4) from ge975_4)
         clear hv975_4 ge975_4
         clear hcc975 hce975
         have HR975_0 := Aside0.mk hi975_0
         have HC975_0 := Aside0.mk hl975_0
         clear hi975_0 hl975_0
         have HR975_4 := Aside0.mk hi975_4
         have HC975_4 := Aside0.mk hl975_4
         clear hi975_4 hl975_4
         replace p975 := eq_true p975
         replace q975 := eq_true q975
         go_wp2
         go_roundg k1
         case measure => have := HK1.out; omega
         case rel => exact ⟨(x7_1), (wrap64 (x9_1 + 1)), rs_, rs_, H', ⟨by have := HK1.out; omega⟩, ⟨vS_ HO_3.out⟩, ⟨vR_ HO_4.out⟩, ⟨vS_ HO_6.out⟩, ⟨vS_ HO_8.out⟩, ⟨bB_⟩⟩
       rw [if_pos c14] at H
       have c14b0 : ((((rd_T59 t972 x9_1).f0).length : Int) == (wrap64 ((t961.length : Int) + 1))) = true := beq_iff_eq.mpr c14
       have c14b1 : ((((rd_T59 t972 x9_1).f0).length : Int) != (wrap64 ((t961.length : Int) + 1))) = false := bne_eq_false_iff_eq.mpr c14
       clear c14
       have H' := Aside0.mk H
       clear H
       obtain ⟨Ao15, co15, eo15⟩ := Kd.S_slice HO_8.out
       subst eo15
       have p975 : 0 ≤ (x9_1 : Int) := of_decide_eq_true as_
       have q975 : x9_1 < (t972.length : Int) := of_decide_eq_true as_
       obtain ⟨ad975, A975_0, c975_0, A975_4, c975_4, e975, hx975_0, hx975_1, hx975_2, hx975_3, hx975_4, hl975_0, hi975_0, hl975_4, hi975_4⟩ := at_T59 (Kd.S_reads' HO_8.out).2.2 x9_1 p975 q975
       cases e975
       obtain ⟨ce975, hce975, hMe975, hcc975⟩ := Kd.S_get HO_8.out z59 x9_1 p975 (by first | exact q975 | exact of_decide_eq_true as_ | (have e_ := (Kd.S_reads' HO_8.out).1; omega))
       obtain ⟨ve975_0, ve975_4, rfl, ge975_0, ge975_4⟩ := k59_openM hMe975
       have hv975_0 := hcc975 0 _ rfl
       rw [Nat.add_zero] at hv975_0
       replace hv975_0 := Option.some.inj (hv975_0.symm.trans hx975_0)
       rw [hv975_0] at ge975_0
       have HL975_0 := A_ (show Kd.R Kd.string 9 _ _ _ _ ((rd_T59 t972 x9_1).f0) from ge975_0)
       clear hv975_0 ge975_0
       have hv975_4 := hcc975 4 _ rfl
       rw [add_field _ _ 4 (by omega)] at hv975_4
       replace hv975_4 := Option.some.inj (hv975_4.symm.trans hx975_4)
       rw [hv975_4] at ge975_4
       have HL975_4 := A_ (show Kd.R k71 71 _ _ _ _ ((rd_T59 t972 x9_1).f4) from ge975_4)
       clear hv975_4 ge975_4
       clear hcc975 hce975
       have HR975_0 := Aside0.mk hi975_0
       have HC975_0 := Aside0.mk hl975_0
       clear hi975_0 hl975_0
       have HR975_4 := Aside0.mk hi975_4
       have HC975_4 := Aside0.mk hl975_4
       clear hi975_4 hl975_4
       replace p975 := eq_true p975
       replace q975 := eq_true q975
       go_wp2
       go_roundg k1
       case measure => have := HK1.out; omega
       case rel => exact ⟨(wrap64 (x7_1 + 1)), (wrap64 (x9_1 + 1)), rs_, rs_, H', ⟨by have := HK1.out; omega⟩, ⟨vS_ HO_3.out⟩, ⟨vR_ HO_4.out⟩, ⟨vS_ HO_6.out⟩, ⟨vS_ HO_8.out⟩, ⟨bB_⟩⟩
     rw [if_neg c12] at H
     have c12b0 : decide (x9_1 < (t972.length : Int)) = false := decide_eq_false c12
     clear c12
     have H' := Aside0.mk H
     clear H
     obtain ⟨Ao17, co17, eo17⟩ := Kd.S_slice HO_8.out
     subst eo17
     go_wp2
     go_loopg [10] k1 (fun kq v10 w' => ∃ (x10_2 : Int), v10 = .int .i64 x10_2 ∧ Aside0 (laws_FnKids.l1 kq t960 t961 t969 x7_1 x10_2 = some r) ∧ Aside0 (kq ≤ k1) ∧ Aside0 (Kd.S k59 59 w' w.heap.size (fun k_ => some k_ ≠ ((.slice Ao9 t961.length co9) : Value).ownBlock) (.slice Ao8 t960.length co8) t960) ∧ Aside0 (Kd.R Kd.string 9 w' w.heap.size (fun _ => True) (.slice Ao9 t961.length co9) t961) ∧ Aside0 (Kd.S (Kd.slice 9 Kd.string) 22 w' w.heap.size (fun k_ => some k_ ≠ ((.slice Ao9 t961.length co9) : Value).ownBlock) v970 t969) ∧ Aside0 (Below w.heap.size w w'))
     case atStart => exact ⟨(0), rs_, H', ⟨Nat.le_refl _⟩, ⟨by (with_reducible repeat (first | apply Kd.S_alloc | apply Kd.S_drewN | apply Kd.S_drew)); exact Kd.S_mono HO_3.out (fun _ hk => hk.1)⟩, ⟨vR_ HO_4.out⟩, ⟨vS_ HO_6.out⟩, ⟨bB_⟩⟩
     case round =>
      clear H'
      try clear c1
      try clear p2
      try clear c3
      try clear c4
      try clear c5
      try clear p6
      try clear c9
      try clear p9
      try clear q9
      try clear hx9
      try clear c12
      try clear c12b0
      try clear c13
      try clear c13b0
      try clear c14
      try clear c14b0
      try clear c14b1
      try clear hx975_0
      try clear hx975_1
      try clear hx975_2
      try clear hx975_3
      try clear hx975_4
      try clear p2
      try clear p975
      try clear q975
      obtain ⟨x10_2, rfl, HA, HK2, HO_3, HO_4, HO_6, HB⟩ := hrel
      cases gk with
      | zero => exact absurd HA.out (by simp [laws_FnKids.l1])
      | succ k2 =>
       have H := HA.out
       clear HA
       simp only [laws_FnKids.l1] at H
       by_cases c18 : x10_2 < (t969.length : Int)
       rotate_left
       · rw [if_neg c18] at H
         have c18b0 : decide (x10_2 < (t969.length : Int)) = false := decide_eq_false c18
         clear c18
         by_cases c55 : (t969.length : Int) = x7_1
         rotate_left
         · rw [if_neg c55] at H
           have c55b0 : ((t969.length : Int) == x7_1) = false := beq_eq_false_iff_ne.mpr c55
           have c55b1 : ((t969.length : Int) != x7_1) = true := bne_iff_ne.mpr c55
           obtain rfl := Option.some.inj H
           obtain ⟨Ao76, co76, eo76⟩ := Kd.S_slice HO_6.out
           subst eo76
           go_wp2
           go_ret
           exact ⟨rr_, bB_⟩
         rw [if_pos c55] at H
         have c55b0 : ((t969.length : Int) == x7_1) = true := beq_iff_eq.mpr c55
         have c55b1 : ((t969.length : Int) != x7_1) = false := bne_eq_false_iff_eq.mpr c55
         clear c55
         obtain ⟨y976, hy976⟩ : ∃ y_ : List ByteArray, y_ = (([] : List ByteArray)) := ⟨_, rfl⟩
         replace H : ((impl_IsColl.f k2 t960 y976).bind fun t979 => (if t979 = true then (if (t969.length : Int) = 0 then (some true) else ((impl_IsColl.f k2 t960 t961).bind fun t980 => (some t980))) else (some false))) = some r := hy_ hy976 H
         have Ny976 := Aside0.mk hy976
         clear hy976
         obtain ⟨t979, A56, H⟩ := bo_ H
         (try dsimp only at H)
         by_cases c57 : t979 = true
         · subst c57
           rw [if_pos rfl] at H
           by_cases c58 : (t969.length : Int) = 0
           · rw [if_pos c58] at H
             have c58b0 : ((t969.length : Int) == 0) = true := beq_iff_eq.mpr c58
             have c58b1 : ((t969.length : Int) != 0) = false := bne_eq_false_iff_eq.mpr c58
             clear c58
             obtain rfl := Option.some.inj H
             obtain ⟨Ao59, co59, eo59⟩ := Kd.S_slice HO_6.out
             subst eo59
             go_wp2_with (first | ((with_reducible refine gate_dst (N := 89) rfl ?_); (try (refine gate_guard (by rfl) ?_; dsimp only)); refine Kd.R_lit Kd.string _ 9 ?hg (N := 89) ?hd (xs := ([] : List ByteArray)) (inner := []) (ok := fun _ => True) (okp := fun _ => True) ?hr ?hp (fun _ hk => hk) trivial (Below.refl _ _) (Nat.le_refl _) (by simp) ?_; (case hd => rfl); (case hg => rfl); (case hr => first | (go_simp; done) | (go_simp; rfl)); (case hp => exact (Reps.none _ _)); intro v977 w60 ho61 hb hg_ hnew_; clear hg_ hnew_; (first | rw [← Ny976.out] at ho61 | (simp only [Int.reduceToNat] at ho61; rw [← Ny976.out] at ho61)); replace HO_3 := A_ (Kd.S_elder' (vS_ HO_3.out) (kb_ ho61) hb); replace HO_6 := A_ (Kd.S_elder' (vS_ HO_6.out) (kb_ ho61) hb); have HO978 := A_ (Kd.R_lower (Kd.R_new' ho61 (Kd.R_lt (vR_ HO_4.out))) (below_size bB_)); replace HO_4 := A_ (Kd.R_elder' (vR_ HO_4.out) (kb_ ho61) hb); replace HB := A_ (below_step bB_ hb); clear hb ho61; obtain ⟨Ao62, co62, eo62⟩ := Kd.R_slice HO978.out; subst eo62) | (go_at_call 39; (with_reducible refine (impl_IsColl.calls k2 _ _ t960 _ _ y976 true _ ?s1 ?s2 ?s3 ?s4 A56.out).mono ?_); (case s1 => exact cC_ (Kd.S_reads' HO_3.out).2.2); (case s2 => exact (Kd.S_reads' HO_3.out).2.1); (case s3 => exact cC_ (Kd.R_reads' HO978.out).2.2); (case s4 => exact (Kd.R_reads' HO978.out).2.1); rintro e w63 ⟨rfl, hb⟩; replace HO_3 := A_ (Kd.S_below (vS_ HO_3.out) hb); replace HO_4 := A_ (Kd.R_below (vR_ HO_4.out) hb); replace HO_6 := A_ (Kd.S_below (vS_ HO_6.out) hb); replace HO978 := A_ (Kd.R_below (vR_ HO978.out) hb); replace HB := A_ (below_step bB_ hb); (try clear hb)))
             go_ret
             exact ⟨rr_, bB_⟩
           rw [if_neg c58] at H
           have c58b0 : ((t969.length : Int) == 0) = false := beq_eq_false_iff_ne.mpr c58
           have c58b1 : ((t969.length : Int) != 0) = true := bne_iff_ne.mpr c58
           have c58b2 : ¬ (t969 = []) := fun h_ => c58 (by rw [h_]; rfl)
           obtain ⟨t980, A64, H⟩ := bo_ H
           (try dsimp only at H)
           obtain rfl := Option.some.inj H
           obtain ⟨Ao65, co65, eo65⟩ := Kd.S_slice HO_6.out
           subst eo65
           go_wp2_with (first | ((with_reducible refine gate_dst (N := 89) rfl ?_); (try (refine gate_guard (by rfl) ?_; dsimp only)); refine Kd.R_lit Kd.string _ 9 ?hg (N := 89) ?hd (xs := ([] : List ByteArray)) (inner := []) (ok := fun _ => True) (okp := fun _ => True) ?hr ?hp (fun _ hk => hk) trivial (Below.refl _ _) (Nat.le_refl _) (by simp) ?_; (case hd => rfl); (case hg => rfl); (case hr => first | (go_simp; done) | (go_simp; rfl)); (case hp => exact (Reps.none _ _)); intro v977 w66 ho67 hb hg_ hnew_; clear hg_ hnew_; (first | rw [← Ny976.out] at ho67 | (simp only [Int.reduceToNat] at ho67; rw [← Ny976.out] at ho67)); replace HO_3 := A_ (Kd.S_elder' (vS_ HO_3.out) (kb_ ho67) hb); replace HO_6 := A_ (Kd.S_elder' (vS_ HO_6.out) (kb_ ho67) hb); have HO978 := A_ (Kd.R_lower (Kd.R_new' ho67 (Kd.R_lt (vR_ HO_4.out))) (below_size bB_)); replace HO_4 := A_ (Kd.R_elder' (vR_ HO_4.out) (kb_ ho67) hb); replace HB := A_ (below_step bB_ hb); clear hb ho67; obtain ⟨Ao68, co68, eo68⟩ := Kd.R_slice HO978.out; subst eo68) | (go_at_call 39; (with_reducible refine (impl_IsColl.calls k2 _ _ t960 _ _ y976 true _ ?s1 ?s2 ?s3 ?s4 A56.out).mono ?_); (case s1 => exact cC_ (Kd.S_reads' HO_3.out).2.2); (case s2 => exact (Kd.S_reads' HO_3.out).2.1); (case s3 => exact cC_ (Kd.R_reads' HO978.out).2.2); (case s4 => exact (Kd.R_reads' HO978.out).2.1); rintro e w69 ⟨rfl, hb⟩; replace HO_3 := A_ (Kd.S_below (vS_ HO_3.out) hb); replace HO_4 := A_ (Kd.R_below (vR_ HO_4.out) hb); replace HO_6 := A_ (Kd.S_below (vS_ HO_6.out) hb); replace HO978 := A_ (Kd.R_below (vR_ HO978.out) hb); replace HB := A_ (below_step bB_ hb); (try clear hb)) | (go_at_call 39; (with_reducible refine (impl_IsColl.calls k2 _ _ t960 _ _ t961 t980 _ ?s1 ?s2 ?s3 ?s4 A64.out).mono ?_); (case s1 => exact cC_ (Kd.S_reads' HO_3.out).2.2); (case s2 => exact (Kd.S_reads' HO_3.out).2.1); (case s3 => exact cC_ (Kd.R_reads' HO_4.out).2.2); (case s4 => exact (Kd.R_reads' HO_4.out).2.1); rintro e w70 ⟨rfl, hb⟩; replace HO_3 := A_ (Kd.S_below (vS_ HO_3.out) hb); replace HO_4 := A_ (Kd.R_below (vR_ HO_4.out) hb); replace HO_6 := A_ (Kd.S_below (vS_ HO_6.out) hb); replace HO978 := A_ (Kd.R_below (vR_ HO978.out) hb); replace HB := A_ (below_step bB_ hb); (try clear hb)))
           go_ret
           exact ⟨rr_, bB_⟩
         · replace c57 := Bool.eq_false_iff.mpr c57
           subst c57
           rw [if_neg nf_] at H
           obtain rfl := Option.some.inj H
           obtain ⟨Ao71, co71, eo71⟩ := Kd.S_slice HO_6.out
           subst eo71
           go_wp2_with (first | ((with_reducible refine gate_dst (N := 89) rfl ?_); (try (refine gate_guard (by rfl) ?_; dsimp only)); refine Kd.R_lit Kd.string _ 9 ?hg (N := 89) ?hd (xs := ([] : List ByteArray)) (inner := []) (ok := fun _ => True) (okp := fun _ => True) ?hr ?hp (fun _ hk => hk) trivial (Below.refl _ _) (Nat.le_refl _) (by simp) ?_; (case hd => rfl); (case hg => rfl); (case hr => first | (go_simp; done) | (go_simp; rfl)); (case hp => exact (Reps.none _ _)); intro v977 w72 ho73 hb hg_ hnew_; clear hg_ hnew_; (first | rw [← Ny976.out] at ho73 | (simp only [Int.reduceToNat] at ho73; rw [← Ny976.out] at ho73)); replace HO_3 := A_ (Kd.S_elder' (vS_ HO_3.out) (kb_ ho73) hb); replace HO_6 := A_ (Kd.S_elder' (vS_ HO_6.out) (kb_ ho73) hb); have HO978 := A_ (Kd.R_lower (Kd.R_new' ho73 (Kd.R_lt (vR_ HO_4.out))) (below_size bB_)); replace HO_4 := A_ (Kd.R_elder' (vR_ HO_4.out) (kb_ ho73) hb); replace HB := A_ (below_step bB_ hb); clear hb ho73; obtain ⟨Ao74, co74, eo74⟩ := Kd.R_slice HO978.out; subst eo74) | (go_at_call 39; (with_reducible refine (impl_IsColl.calls k2 _ _ t960 _ _ y976 false _ ?s1 ?s2 ?s3 ?s4 A56.out).mono ?_); (case s1 => exact cC_ (Kd.S_reads' HO_3.out).2.2); (case s2 => exact (Kd.S_reads' HO_3.out).2.1); (case s3 => exact cC_ (Kd.R_reads' HO978.out).2.2); (case s4 => exact (Kd.R_reads' HO978.out).2.1); rintro e w75 ⟨rfl, hb⟩; replace HO_3 := A_ (Kd.S_below (vS_ HO_3.out) hb); replace HO_4 := A_ (Kd.R_below (vR_ HO_4.out) hb); replace HO_6 := A_ (Kd.S_below (vS_ HO_6.out) hb); replace HO978 := A_ (Kd.R_below (vR_ HO978.out) hb); replace HB := A_ (below_step bB_ hb); (try clear hb)))
           go_ret
           exact ⟨rr_, bB_⟩
       rw [if_pos c18] at H
       have c18b0 : decide (x10_2 < (t969.length : Int)) = true := decide_eq_true c18
       clear c18
       by_cases c19 : 0 ≤ x10_2
       rotate_left
       · exact absurd H (by rw [if_neg c19]; simp)
       rw [if_pos c19] at H
       have c19b0 : decide (0 ≤ x10_2) = true := decide_eq_true c19
       clear c19
       obtain ⟨t982, A20, H⟩ := bo_ H
       (try dsimp only at H)
       obtain ⟨t985, A21, H⟩ := bo_ H
       (try dsimp only at H)
       by_cases c22 : t985 = true
       · subst c22
         rw [if_pos rfl] at H
         obtain ⟨t987, A23, H⟩ := bo_ H
         (try dsimp only at H)
         by_cases c24 : t987 < 0
         · rw [if_pos c24] at H
           have c24b0 : decide (t987 < 0) = true := decide_eq_true c24
           clear c24
           obtain rfl := Option.some.inj H
           obtain ⟨Ao25, co25, eo25⟩ := Kd.S_slice HO_6.out
           subst eo25
           try go_wp2
           replace HO_3 := A_ (Kd.S_drew HO_3.out)
           replace HO_4 := A_ (Kd.R_drew HO_4.out)
           replace HO_6 := A_ (Kd.S_drew HO_6.out)
           replace HB := A_ (below_drew1 HB.out)
           have p981 : 0 ≤ (x10_2 : Int) := of_decide_eq_true as_
           have q981 : x10_2 < (t969.length : Int) := of_decide_eq_true as_
           obtain ⟨ad981, A981_0, c981_0, e981, hx981_0, hl981_0, hi981_0⟩ := at_L4 (Kd.S_reads' HO_6.out).2.2 x10_2 p981 q981
           cases e981
           obtain ⟨ce981, hce981, hMe981, hcc981⟩ := Kd.S_get HO_6.out [] x10_2 p981 (by first | exact q981 | exact of_decide_eq_true as_ | (have e_ := (Kd.S_reads' HO_6.out).1; omega))
           obtain ⟨ve981_0, rfl, ge981_0⟩ := hMe981
           have hv981_0 := hcc981 0 _ rfl
           rw [Nat.add_zero, show ((Kd.slice 9 Kd.string)).sz = 1 from rfl, Nat.mul_one] at hv981_0
           replace hv981_0 := Option.some.inj (hv981_0.symm.trans hx981_0)
           rw [hv981_0] at ge981_0
           have HL981_0 := A_ (show Kd.R Kd.string 9 _ _ _ _ (rd_L4 t969 x10_2) from ge981_0)
           clear hv981_0 ge981_0
           clear hcc981 hce981
           have HR981_0 := Aside0.mk hi981_0
           have HC981_0 := Aside0.mk hl981_0
           clear hi981_0 hl981_0
           replace p981 := eq_true p981
           replace q981 := eq_true q981
           have p986 : 0 ≤ (x10_2 : Int) := of_decide_eq_true as_
           have q986 : x10_2 < (t969.length : Int) := of_decide_eq_true as_
           obtain ⟨ad986, A986_0, c986_0, e986, hx986_0, hl986_0, hi986_0⟩ := at_L4 (Kd.S_reads' HO_6.out).2.2 x10_2 p986 q986
           obtain rfl : ad981 = ad986 := (by injection e986)
           injection (Option.some.inj (hx981_0.symm.trans hx986_0)) with ea_ en_ ec_
           subst ea_
           subst ec_
           clear en_
           obtain ⟨ce986, hce986, hMe986, hcc986⟩ := Kd.S_get HO_6.out [] x10_2 p986 (by first | exact q986 | exact of_decide_eq_true as_ | (have e_ := (Kd.S_reads' HO_6.out).1; omega))
           obtain ⟨ve986_0, rfl, ge986_0⟩ := hMe986
           have hv986_0 := hcc986 0 _ rfl
           rw [Nat.add_zero, show ((Kd.slice 9 Kd.string)).sz = 1 from rfl, Nat.mul_one] at hv986_0
           replace hv986_0 := Option.some.inj (hv986_0.symm.trans hx986_0)
           rw [hv986_0] at ge986_0
           have HL986_0 := A_ (show Kd.R Kd.string 9 _ _ _ _ (rd_L4 t969 x10_2) from ge986_0)
           clear hv986_0 ge986_0
           clear hcc986 hce986
           have HR986_0 := Aside0.mk hi986_0
           have HC986_0 := Aside0.mk hl986_0
           clear hi986_0 hl986_0
           replace p986 := eq_true p986
           replace q986 := eq_true q986
           refine start_ (n := 34) (S := fun w' => w'.cell? (ad981.add (x10_2).toNat) = some (.slice A981_0 (rd_L4 t969 x10_2).length c981_0) ∧ w'.cell? (ad981.add (x10_2).toNat) = some (.slice A981_0 (rd_L4 t969 x10_2).length c981_0)) (ds := []) #[false, false, false, false, false, false, false, false, false, false, false, false, false, false, false, false, false, false, false, false, false, false, false, false, false, false, false, false, false, false, false, false, false, false] (by kernel_rfl) rfl rfl ⟨hx981_0, hx986_0⟩ (fun hHeld => ?_); refine with_tabW laws_FnKids.tab15 laws_FnKids.bits15 (fun HT_ HW_ => ?_)
           generalize wr.drew = w26 at HO_3 HO_4 HO_6 HB HL981_0 HL986_0 HR981_0 HR986_0 hx981_0 hx986_0 hHeld ⊢
           refine pu_ (i := 0) (N := some 49) ?_
           refine pu_ (i := 1) (N := some 50) ?_
           refine pu_ (i := 2) (N := some 51) ?_
           refine pu_ (i := 5) (N := some 54) ?_
           refine tk_ (i := 3) (N := some 52) hHeld ?_
           refine on_ (i := 4) (N := some 53) (fun K hK => ?_)
           (try (have HR986_0 := HR981_0))
           (try (have HL986_0 := HL981_0))
           refine goes_ Try.func21 (by kernel_rfl) rfl #[.slice A981_0 (rd_L4 t969 x10_2).length c981_0] (by rfl) rfl rfl ml_ ?_
           with_reducible refine (impl_Above.calls _ _ (rd_L4 t969 x10_2) t982 _ ?s1 ?s2 A20.out).mono ?_
           (case s1 => repeat (first | exact (cC_ HR981_0.out) | (with_reducible refine Kd.C_alloc ?_ _) | (with_reducible refine Kd.C_drewN ?_ _) | (with_reducible refine Kd.C_drew ?_)))
           (case s2 => exact HC981_0.out)
           rintro e w27 ⟨v983, rfl, ho0, hb⟩
           have HS0_ := (hb.cell (World.block_lt_of_cell? _ _ (hHeld.1))).trans (hHeld.1)
           have HS1_ := (hb.cell (World.block_lt_of_cell? _ _ (hHeld.2))).trans (hHeld.2)
           refine ⟨_, rfl, ?_⟩
           (try (have HR986_0 := A_ (Kd.C_below (cC_ HR986_0.out) hb)))
           replace HO_3 := A_ (Kd.S_elder' (vS_ HO_3.out) (kb_ ho0) hb)
           replace HO_6 := A_ (Kd.S_elder' (vS_ HO_6.out) (kb_ ho0) hb)
           have HO984 := A_ (Kd.R_lower (Kd.R_new' (Kd.R_new' ho0 (Kd.R_lt (vR_ HO_4.out))) (Kd.R_lt (vR_ HL981_0.out))) (below_size bB_))
           replace HO_4 := A_ (Kd.R_elder' (vR_ HO_4.out) (kb_ ho0) hb)
           replace HL981_0 := A_ (Kd.R_elder' (vR_ HL981_0.out) (kb_ ho0) hb)
           replace HR981_0 := A_ (Kd.C_below (cC_ HR981_0.out) hb)
           replace HB := A_ (below_step bB_ hb)
           (try clear hb)
           (try clear hb2)
           (try clear hk)
           (try clear hi)
           (try clear ho0)
           obtain ⟨Ao28, co28, eo28⟩ := Kd.R_slice HO984.out
           (first | subst eo28 | (injection eo28 with f1_ f2_ f3_; have f4_ := f1_.symm; have f5_ := f3_.symm; clear f1_ f2_ f3_; subst f4_; subst f5_))
           refine hK.out _ _ ⟨HS0_, HS1_⟩ (fun hHeld => ?_)
           clear hK K
           refine no_ (some 53) ?_
           refine on_ (i := 6) (N := some 55) (fun K hK => ?_)
           (try (have HR986_0 := HR981_0))
           (try (have HL986_0 := HL981_0))
           refine goes_ Try.func53 (by kernel_rfl) rfl #[.slice Ao28 t982.length co28, .slice Ao9 t961.length co9] (by rfl) rfl rfl ml_ ?_
           with_reducible refine (impl_SamePath.calls k2 _ _ t982 _ _ t961 true _ ?s1 ?s2 ?s3 ?s4 A21.out).mono ?_
           (case s1 => exact cC_ (Kd.R_reads' HO984.out).2.2)
           (case s2 => exact (Kd.R_reads' HO984.out).2.1)
           (case s3 => exact cC_ (Kd.R_reads' HO_4.out).2.2)
           (case s4 => exact (Kd.R_reads' HO_4.out).2.1)
           rintro e w' ⟨rfl, ⟨nd, rfl⟩⟩
           refine ⟨_, rfl, ?_⟩
           refine hK.out _ _ ⟨hHeld.1, hHeld.2⟩ (fun hHeld => ?_)
           clear hK K
           refine no_ (some 55) ?_
           refine pu_ (i := 7) (N := some 56) ?_
           refine pu_ (i := 8) (N := some 57) ?_
           refine pu_ (i := 9) (N := some 58) ?_
           refine pu_ (i := 10) (N := some 59) ?_
           refine pu_ (i := 11) (N := some 60) ?_
           refine pu_ (i := 12) (N := some 61) ?_
           refine tk_ (i := 13) (N := some 62) hHeld ?_
           refine on_ (i := 14) (N := some 63) (fun K hK => ?_)
           (try (have HR986_0 := HR981_0))
           (try (have HL986_0 := HL981_0))
           refine goes_ Try.func37 (by kernel_rfl) rfl #[.slice Ao8 t960.length co8, .slice A981_0 (rd_L4 t969 x10_2).length c981_0] (by rfl) rfl rfl ml_ ?_
           with_reducible refine (impl_FindRes.calls k2 _ _ t960 _ _ (rd_L4 t969 x10_2) t987 _ ?s1 ?s2 ?s3 ?s4 A23.out).mono ?_
           (case s1 => exact cC_ (Kd.S_reads' HO_3.out).2.2)
           (case s2 => exact (Kd.S_reads' HO_3.out).2.1)
           (case s3 => repeat (first | exact (cC_ HR986_0.out) | (with_reducible refine Kd.C_alloc ?_ _) | (with_reducible refine Kd.C_drewN ?_ _) | (with_reducible refine Kd.C_drew ?_)))
           (case s4 => exact HC986_0.out)
           rintro e w29 ⟨rfl, hb⟩
           have HS0_ := (hb.cell (World.block_lt_of_cell? _ _ (hHeld.1))).trans (hHeld.1)
           have HS1_ := (hb.cell (World.block_lt_of_cell? _ _ (hHeld.2))).trans (hHeld.2)
           refine ⟨_, rfl, ?_⟩
           replace HO_3 := A_ (Kd.S_below (vS_ HO_3.out) hb)
           replace HO_4 := A_ (Kd.R_below (vR_ HO_4.out) hb)
           replace HO_6 := A_ (Kd.S_below (vS_ HO_6.out) hb)
           replace HL981_0 := A_ (Kd.R_below (vR_ HL981_0.out) hb)
           replace HO984 := A_ (Kd.R_below (vR_ HO984.out) hb)
           replace HL986_0 := A_ (Kd.R_below (vR_ HL986_0.out) hb)
           replace HR981_0 := A_ (Kd.C_below (cC_ HR981_0.out) hb)
           replace HR986_0 := A_ (Kd.C_below (cC_ HR986_0.out) hb)
           replace HB := A_ (below_step bB_ hb)
           (try clear hb)
           (try clear hb2)
           (try clear hk)
           (try clear hi)
           refine hK.out _ _ ⟨HS0_, HS1_⟩ (fun hHeld => ?_)
           clear hK K
           refine no_ (some 63) ?_
           refine pu_ (i := 15) (N := some 64) ?_
           refine pu_ (i := 16) (N := some 65) ?_
           refine pu_ (i := 17) (N := some 66) ?_
           refine pn_ (i := 18) (N := some 67) ?_
           refine pn_ (i := 19) (N := some 68) ?_
           refine pn_ (i := 20) (N := some 69) ?_
           refine pn_ (i := 21) (N := some 70) ?_
           refine pn_ (i := 22) (N := some 71) ?_
           refine pn_ (i := 23) (N := some 72) ?_
           refine pn_ (i := 24) (N := some 73) ?_
           refine pn_ (i := 25) (N := some 74) ?_
           refine pn_ (i := 26) (N := some 75) ?_
           refine pn_ (i := 27) (N := some 76) ?_
           refine pn_ (i := 28) (N := some 77) ?_
           refine pn_ (i := 29) (N := some 78) ?_
           refine pn_ (i := 30) (N := some 79) ?_
           refine pn_ (i := 31) (N := some 80) ?_
           refine pn_ (i := 32) (N := some 81) ?_
           refine pu_ (i := 33) (N := some 82) ?_
           refine done_ (done_of HT_.out (by kernel_rfl)) ?_
           (try clear hHeld)
           try go_wp2
           go_ret
           exact ⟨rr_, bB_⟩
         rw [if_neg c24] at H
         have c24b0 : decide (t987 < 0) = false := decide_eq_false c24
         clear c24
         by_cases c30 : x10_2 > 0
         rotate_left
         · rw [if_neg c30] at H
           have c30b0 : decide (0 < x10_2) = false := decide_eq_false c30
           clear c30
           have H' := Aside0.mk H
           clear H
           obtain ⟨Ao46, co46, eo46⟩ := Kd.S_slice HO_6.out
           subst eo46
           try go_wp2
           replace HO_3 := A_ (Kd.S_drew HO_3.out)
           replace HO_4 := A_ (Kd.R_drew HO_4.out)
           replace HO_6 := A_ (Kd.S_drew HO_6.out)
           replace HB := A_ (below_drew1 HB.out)
           have p981 : 0 ≤ (x10_2 : Int) := of_decide_eq_true as_
           have q981 : x10_2 < (t969.length : Int) := of_decide_eq_true as_
           obtain ⟨ad981, A981_0, c981_0, e981, hx981_0, hl981_0, hi981_0⟩ := at_L4 (Kd.S_reads' HO_6.out).2.2 x10_2 p981 q981
           cases e981
           obtain ⟨ce981, hce981, hMe981, hcc981⟩ := Kd.S_get HO_6.out [] x10_2 p981 (by first | exact q981 | exact of_decide_eq_true as_ | (have e_ := (Kd.S_reads' HO_6.out).1; omega))
           obtain ⟨ve981_0, rfl, ge981_0⟩ := hMe981
           have hv981_0 := hcc981 0 _ rfl
           rw [Nat.add_zero, show ((Kd.slice 9 Kd.string)).sz = 1 from rfl, Nat.mul_one] at hv981_0
           replace hv981_0 := Option.some.inj (hv981_0.symm.trans hx981_0)
           rw [hv981_0] at ge981_0
           have HL981_0 := A_ (show Kd.R Kd.string 9 _ _ _ _ (rd_L4 t969 x10_2) from ge981_0)
           clear hv981_0 ge981_0
           clear hcc981 hce981
           have HR981_0 := Aside0.mk hi981_0
           have HC981_0 := Aside0.mk hl981_0
           clear hi981_0 hl981_0
           replace p981 := eq_true p981
           replace q981 := eq_true q981
           have p986 : 0 ≤ (x10_2 : Int) := of_decide_eq_true as_
           have q986 : x10_2 < (t969.length : Int) := of_decide_eq_true as_
           obtain ⟨ad986, A986_0, c986_0, e986, hx986_0, hl986_0, hi986_0⟩ := at_L4 (Kd.S_reads' HO_6.out).2.2 x10_2 p986 q986
           obtain rfl : ad981 = ad986 := (by injection e986)
           injection (Option.some.inj (hx981_0.symm.trans hx986_0)) with ea_ en_ ec_
           subst ea_
           subst ec_
           clear en_
           obtain ⟨ce986, hce986, hMe986, hcc986⟩ := Kd.S_get HO_6.out [] x10_2 p986 (by first | exact q986 | exact of_decide_eq_true as_ | (have e_ := (Kd.S_reads' HO_6.out).1; omega))
           obtain ⟨ve986_0, rfl, ge986_0⟩ := hMe986
           have hv986_0 := hcc986 0 _ rfl
           rw [Nat.add_zero, show ((Kd.slice 9 Kd.string)).sz = 1 from rfl, Nat.mul_one] at hv986_0
           replace hv986_0 := Option.some.inj (hv986_0.symm.trans hx986_0)
           rw [hv986_0] at ge986_0
           have HL986_0 := A_ (show Kd.R Kd.string 9 _ _ _ _ (rd_L4 t969 x10_2) from ge986_0)
           clear hv986_0 ge986_0
           clear hcc986 hce986
           have HR986_0 := Aside0.mk hi986_0
           have HC986_0 := Aside0.mk hl986_0
           clear hi986_0 hl986_0
           replace p986 := eq_true p986
           replace q986 := eq_true q986
           refine start_ (n := 34) (S := fun w' => w'.cell? (ad981.add (x10_2).toNat) = some (.slice A981_0 (rd_L4 t969 x10_2).length c981_0) ∧ w'.cell? (ad981.add (x10_2).toNat) = some (.slice A981_0 (rd_L4 t969 x10_2).length c981_0)) (ds := []) #[false, false, false, false, false, false, false, false, false, false, false, false, false, false, false, false, false, false, false, false, false, false, false, false, false, false, false, false, false, false, false, false, false, false] (by kernel_rfl) rfl rfl ⟨hx981_0, hx986_0⟩ (fun hHeld => ?_); refine with_tabW laws_FnKids.tab15 laws_FnKids.bits15 (fun HT_ HW_ => ?_)
           generalize wr.drew = w47 at HO_3 HO_4 HO_6 HB HL981_0 HL986_0 HR981_0 HR986_0 hx981_0 hx986_0 hHeld ⊢
           refine pu_ (i := 0) (N := some 49) ?_
           refine pu_ (i := 1) (N := some 50) ?_
           refine pu_ (i := 2) (N := some 51) ?_
           refine pu_ (i := 5) (N := some 54) ?_
           refine tk_ (i := 3) (N := some 52) hHeld ?_
           refine on_ (i := 4) (N := some 53) (fun K hK => ?_)
           (try (have HR986_0 := HR981_0))
           (try (have HL986_0 := HL981_0))
           refine goes_ Try.func21 (by kernel_rfl) rfl #[.slice A981_0 (rd_L4 t969 x10_2).length c981_0] (by rfl) rfl rfl ml_ ?_
           with_reducible refine (impl_Above.calls _ _ (rd_L4 t969 x10_2) t982 _ ?s1 ?s2 A20.out).mono ?_
           (case s1 => repeat (first | exact (cC_ HR981_0.out) | (with_reducible refine Kd.C_alloc ?_ _) | (with_reducible refine Kd.C_drewN ?_ _) | (with_reducible refine Kd.C_drew ?_)))
           (case s2 => exact HC981_0.out)
           rintro e w48 ⟨v983, rfl, ho0, hb⟩
           have HS0_ := (hb.cell (World.block_lt_of_cell? _ _ (hHeld.1))).trans (hHeld.1)
           have HS1_ := (hb.cell (World.block_lt_of_cell? _ _ (hHeld.2))).trans (hHeld.2)
           refine ⟨_, rfl, ?_⟩
           (try (have HR986_0 := A_ (Kd.C_below (cC_ HR986_0.out) hb)))
           replace HO_3 := A_ (Kd.S_elder' (vS_ HO_3.out) (kb_ ho0) hb)
           replace HO_6 := A_ (Kd.S_elder' (vS_ HO_6.out) (kb_ ho0) hb)
           have HO984 := A_ (Kd.R_lower (Kd.R_new' (Kd.R_new' ho0 (Kd.R_lt (vR_ HO_4.out))) (Kd.R_lt (vR_ HL981_0.out))) (below_size bB_))
           replace HO_4 := A_ (Kd.R_elder' (vR_ HO_4.out) (kb_ ho0) hb)
           replace HL981_0 := A_ (Kd.R_elder' (vR_ HL981_0.out) (kb_ ho0) hb)
           replace HR981_0 := A_ (Kd.C_below (cC_ HR981_0.out) hb)
           replace HB := A_ (below_step bB_ hb)
           (try clear hb)
           (try clear hb2)
           (try clear hk)
           (try clear hi)
           (try clear ho0)
           obtain ⟨Ao49, co49, eo49⟩ := Kd.R_slice HO984.out
           (first | subst eo49 | (injection eo49 with f1_ f2_ f3_; have f4_ := f1_.symm; have f5_ := f3_.symm; clear f1_ f2_ f3_; subst f4_; subst f5_))
           refine hK.out _ _ ⟨HS0_, HS1_⟩ (fun hHeld => ?_)
           clear hK K
           refine no_ (some 53) ?_
           refine on_ (i := 6) (N := some 55) (fun K hK => ?_)
           (try (have HR986_0 := HR981_0))
           (try (have HL986_0 := HL981_0))
           refine goes_ Try.func53 (by kernel_rfl) rfl #[.slice Ao49 t982.length co49, .slice Ao9 t961.length co9] (by rfl) rfl rfl ml_ ?_
           with_reducible refine (impl_SamePath.calls k2 _ _ t982 _ _ t961 true _ ?s1 ?s2 ?s3 ?s4 A21.out).mono ?_
           (case s1 => exact cC_ (Kd.R_reads' HO984.out).2.2)
           (case s2 => exact (Kd.R_reads' HO984.out).2.1)
           (case s3 => exact cC_ (Kd.R_reads' HO_4.out).2.2)
           (case s4 => exact (Kd.R_reads' HO_4.out).2.1)
           rintro e w' ⟨rfl, ⟨nd, rfl⟩⟩
           refine ⟨_, rfl, ?_⟩
           refine hK.out _ _ ⟨hHeld.1, hHeld.2⟩ (fun hHeld => ?_)
           clear hK K
           refine no_ (some 55) ?_
           refine pu_ (i := 7) (N := some 56) ?_
           refine pu_ (i := 8) (N := some 57) ?_
           refine pu_ (i := 9) (N := some 58) ?_
           refine pu_ (i := 10) (N := some 59) ?_
           refine pu_ (i := 11) (N := some 60) ?_
           refine pu_ (i := 12) (N := some 61) ?_
           refine tk_ (i := 13) (N := some 62) hHeld ?_
           refine on_ (i := 14) (N := some 63) (fun K hK => ?_)
           (try (have HR986_0 := HR981_0))
           (try (have HL986_0 := HL981_0))
           refine goes_ Try.func37 (by kernel_rfl) rfl #[.slice Ao8 t960.length co8, .slice A981_0 (rd_L4 t969 x10_2).length c981_0] (by rfl) rfl rfl ml_ ?_
           with_reducible refine (impl_FindRes.calls k2 _ _ t960 _ _ (rd_L4 t969 x10_2) t987 _ ?s1 ?s2 ?s3 ?s4 A23.out).mono ?_
           (case s1 => exact cC_ (Kd.S_reads' HO_3.out).2.2)
           (case s2 => exact (Kd.S_reads' HO_3.out).2.1)
           (case s3 => repeat (first | exact (cC_ HR986_0.out) | (with_reducible refine Kd.C_alloc ?_ _) | (with_reducible refine Kd.C_drewN ?_ _) | (with_reducible refine Kd.C_drew ?_)))
           (case s4 => exact HC986_0.out)
           rintro e w50 ⟨rfl, hb⟩
           have HS0_ := (hb.cell (World.block_lt_of_cell? _ _ (hHeld.1))).trans (hHeld.1)
           have HS1_ := (hb.cell (World.block_lt_of_cell? _ _ (hHeld.2))).trans (hHeld.2)
           refine ⟨_, rfl, ?_⟩
           replace HO_3 := A_ (Kd.S_below (vS_ HO_3.out) hb)
           replace HO_4 := A_ (Kd.R_below (vR_ HO_4.out) hb)
           replace HO_6 := A_ (Kd.S_below (vS_ HO_6.out) hb)
           replace HL981_0 := A_ (Kd.R_below (vR_ HL981_0.out) hb)
           replace HO984 := A_ (Kd.R_below (vR_ HO984.out) hb)
           replace HL986_0 := A_ (Kd.R_below (vR_ HL986_0.out) hb)
           replace HR981_0 := A_ (Kd.C_below (cC_ HR981_0.out) hb)
           replace HR986_0 := A_ (Kd.C_below (cC_ HR986_0.out) hb)
           replace HB := A_ (below_step bB_ hb)
           (try clear hb)
           (try clear hb2)
           (try clear hk)
           (try clear hi)
           refine hK.out _ _ ⟨HS0_, HS1_⟩ (fun hHeld => ?_)
           clear hK K
           refine no_ (some 63) ?_
           refine pu_ (i := 15) (N := some 64) ?_
           refine pu_ (i := 16) (N := some 65) ?_
           refine pu_ (i := 17) (N := some 66) ?_
           refine pu_ (i := 18) (N := some 67) ?_
           refine pu_ (i := 19) (N := some 68) ?_
           refine pu_ (i := 20) (N := some 69) ?_
           refine pn_ (i := 21) (N := some 70) ?_
           refine pn_ (i := 22) (N := some 71) ?_
           refine pn_ (i := 23) (N := some 72) ?_
           refine pn_ (i := 24) (N := some 73) ?_
           refine pn_ (i := 25) (N := some 74) ?_
           refine pn_ (i := 26) (N := some 75) ?_
           refine pn_ (i := 27) (N := some 76) ?_
           refine pn_ (i := 28) (N := some 77) ?_
           refine pn_ (i := 29) (N := some 78) ?_
           refine pn_ (i := 30) (N := some 79) ?_
           refine pn_ (i := 31) (N := some 80) ?_
           refine pu_ (i := 32) (N := some 81) ?_
           refine pu_ (i := 33) (N := some 82) ?_
           refine done_ (done_of HT_.out (by kernel_rfl)) ?_
           (try clear hHeld)
           try go_wp2
           go_roundg k2
           case measure => have := HK1.out; have := HK2.out; omega
           case rel => exact ⟨(wrap64 (x10_2 + 1)), rs_, H', ⟨by have := HK1.out; have := HK2.out; omega⟩, ⟨by (with_reducible repeat (first | apply Kd.S_alloc | apply Kd.S_drewN | apply Kd.S_drew)); exact Kd.S_mono HO_3.out (fun _ hk => hk.1)⟩, ⟨by (with_reducible repeat (first | apply Kd.R_alloc | apply Kd.R_drewN | apply Kd.R_drew)); exact Kd.R_mono HO_4.out (fun _ hk => trivial)⟩, ⟨by (with_reducible repeat (first | apply Kd.S_alloc | apply Kd.S_drewN | apply Kd.S_drew)); exact Kd.S_mono HO_6.out (fun _ hk => hk.1)⟩, ⟨bB_⟩⟩
         rw [if_pos c30] at H
         have c30b0 : decide (0 < x10_2) = true := decide_eq_true c30
         clear c30
         obtain ⟨ji31, hji31⟩ : ∃ j_ : Int, (wrap64 (x10_2 - 1)) = j_ := ⟨_, rfl⟩
         replace H : (if 0 ≤ (ji31) then (if (ji31) < (t969.length : Int) then ((impl_LessPath.f k2 (rd_L4 t969 (ji31)) (rd_L4 t969 x10_2)).bind fun t990 => (if t990 = true then (laws_FnKids.l1 k2 t960 t961 t969 x7_1 (wrap64 (x10_2 + 1))) else (some false))) else (none)) else (none)) = some r := by first | (rw [hji31] at H; exact H) | (simp only [hji31] at H ⊢; exact H)
         (try rw [hji31] at A20)
         (try rw [hji31] at A21)
         (try rw [hji31] at A23)
         have hji31w : (IntKind.i64.wrap (x10_2 - 1)) = ji31 := (i64_w _).trans hji31
         by_cases c32 : 0 ≤ (ji31)
         rotate_left
         · exact absurd H (by rw [if_neg c32]; simp)
         rw [if_pos c32] at H
         have c32b0 : decide (0 ≤ (ji31)) = true := decide_eq_true c32
         clear c32
         by_cases c33 : (ji31) < (t969.length : Int)
         rotate_left
         · exact absurd H (by rw [if_neg c33]; simp)
         rw [if_pos c33] at H
         have c33b0 : decide ((ji31) < (t969.length : Int)) = true := decide_eq_true c33
         clear c33
         obtain ⟨t990, A34, H⟩ := bo_ H
         (try dsimp only at H)
         by_cases c35 : t990 = true
         · subst c35
           rw [if_pos rfl] at H
           have H' := Aside0.mk H
           clear H
           obtain ⟨Ao36, co36, eo36⟩ := Kd.S_slice HO_6.out
           subst eo36
           try go_wp2
           replace HO_3 := A_ (Kd.S_drew HO_3.out)
           replace HO_4 := A_ (Kd.R_drew HO_4.out)
           replace HO_6 := A_ (Kd.S_drew HO_6.out)
           replace HB := A_ (below_drew1 HB.out)
           have p981 : 0 ≤ (x10_2 : Int) := of_decide_eq_true as_
           have q981 : x10_2 < (t969.length : Int) := of_decide_eq_true as_
           obtain ⟨ad981, A981_0, c981_0, e981, hx981_0, hl981_0, hi981_0⟩ := at_L4 (Kd.S_reads' HO_6.out).2.2 x10_2 p981 q981
           cases e981
           obtain ⟨ce981, hce981, hMe981, hcc981⟩ := Kd.S_get HO_6.out [] x10_2 p981 (by first | exact q981 | exact of_decide_eq_true as_ | (have e_ := (Kd.S_reads' HO_6.out).1; omega))
           obtain ⟨ve981_0, rfl, ge981_0⟩ := hMe981
           have hv981_0 := hcc981 0 _ rfl
           rw [Nat.add_zero, show ((Kd.slice 9 Kd.string)).sz = 1 from rfl, Nat.mul_one] at hv981_0
           replace hv981_0 := Option.some.inj (hv981_0.symm.trans hx981_0)
           rw [hv981_0] at ge981_0
           have HL981_0 := A_ (show Kd.R Kd.string 9 _ _ _ _ (rd_L4 t969 x10_2) from ge981_0)
           clear hv981_0 ge981_0
           clear hcc981 hce981
           have HR981_0 := Aside0.mk hi981_0
           have HC981_0 := Aside0.mk hl981_0
           clear hi981_0 hl981_0
           replace p981 := eq_true p981
           replace q981 := eq_true q981
           have p986 : 0 ≤ (x10_2 : Int) := of_decide_eq_true as_
           have q986 : x10_2 < (t969.length : Int) := of_decide_eq_true as_
           obtain ⟨ad986, A986_0, c986_0, e986, hx986_0, hl986_0, hi986_0⟩ := at_L4 (Kd.S_reads' HO_6.out).2.2 x10_2 p986 q986
           obtain rfl : ad981 = ad986 := (by injection e986)
           injection (Option.some.inj (hx981_0.symm.trans hx986_0)) with ea_ en_ ec_
           subst ea_
           subst ec_
           clear en_
           obtain ⟨ce986, hce986, hMe986, hcc986⟩ := Kd.S_get HO_6.out [] x10_2 p986 (by first | exact q986 | exact of_decide_eq_true as_ | (have e_ := (Kd.S_reads' HO_6.out).1; omega))
           obtain ⟨ve986_0, rfl, ge986_0⟩ := hMe986
           have hv986_0 := hcc986 0 _ rfl
           rw [Nat.add_zero, show ((Kd.slice 9 Kd.string)).sz = 1 from rfl, Nat.mul_one] at hv986_0
           replace hv986_0 := Option.some.inj (hv986_0.symm.trans hx986_0)
           rw [hv986_0] at ge986_0
           have HL986_0 := A_ (show Kd.R Kd.string 9 _ _ _ _ (rd_L4 t969 x10_2) from ge986_0)
           clear hv986_0 ge986_0
           clear hcc986 hce986
           have HR986_0 := Aside0.mk hi986_0
           have HC986_0 := Aside0.mk hl986_0
           clear hi986_0 hl986_0
           replace p986 := eq_true p986
           replace q986 := eq_true q986
           have p988 : 0 ≤ ((ji31) : Int) := of_decide_eq_true as_
           have q988 : (ji31) < (t969.length : Int) := of_decide_eq_true as_
           obtain ⟨ad988, A988_0, c988_0, e988, hx988_0, hl988_0, hi988_0⟩ := at_L4 (Kd.S_reads' HO_6.out).2.2 (ji31) p988 q988
           obtain rfl : ad981 = ad988 := (by injection e988)
           obtain ⟨ce988, hce988, hMe988, hcc988⟩ := Kd.S_get HO_6.out [] (ji31) p988 (by first | exact q988 | exact of_decide_eq_true as_ | (have e_ := (Kd.S_reads' HO_6.out).1; omega))
           obtain ⟨ve988_0, rfl, ge988_0⟩ := hMe988
           have hv988_0 := hcc988 0 _ rfl
           rw [Nat.add_zero, show ((Kd.slice 9 Kd.string)).sz = 1 from rfl, Nat.mul_one] at hv988_0
           replace hv988_0 := Option.some.inj (hv988_0.symm.trans hx988_0)
           rw [hv988_0] at ge988_0
           have HL988_0 := A_ (show Kd.R Kd.string 9 _ _ _ _ (rd_L4 t969 (ji31)) from ge988_0)
           clear hv988_0 ge988_0
           clear hcc988 hce988
           have HR988_0 := Aside0.mk hi988_0
           have HC988_0 := Aside0.mk hl988_0
           clear hi988_0 hl988_0
           replace p988 := eq_true p988
           replace q988 := eq_true q988
           have p989 : 0 ≤ (x10_2 : Int) := of_decide_eq_true as_
           have q989 : x10_2 < (t969.length : Int) := of_decide_eq_true as_
           obtain ⟨ad989, A989_0, c989_0, e989, hx989_0, hl989_0, hi989_0⟩ := at_L4 (Kd.S_reads' HO_6.out).2.2 x10_2 p989 q989
           obtain rfl : ad981 = ad989 := (by injection e989)
           injection (Option.some.inj (hx981_0.symm.trans hx989_0)) with ea_ en_ ec_
           subst ea_
           subst ec_
           clear en_
           obtain ⟨ce989, hce989, hMe989, hcc989⟩ := Kd.S_get HO_6.out [] x10_2 p989 (by first | exact q989 | exact of_decide_eq_true as_ | (have e_ := (Kd.S_reads' HO_6.out).1; omega))
           obtain ⟨ve989_0, rfl, ge989_0⟩ := hMe989
           have hv989_0 := hcc989 0 _ rfl
           rw [Nat.add_zero, show ((Kd.slice 9 Kd.string)).sz = 1 from rfl, Nat.mul_one] at hv989_0
           replace hv989_0 := Option.some.inj (hv989_0.symm.trans hx989_0)
           rw [hv989_0] at ge989_0
           have HL989_0 := A_ (show Kd.R Kd.string 9 _ _ _ _ (rd_L4 t969 x10_2) from ge989_0)
           clear hv989_0 ge989_0
           clear hcc989 hce989
           have HR989_0 := Aside0.mk hi989_0
           have HC989_0 := Aside0.mk hl989_0
           clear hi989_0 hl989_0
           replace p989 := eq_true p989
           replace q989 := eq_true q989
           refine start_ (n := 34) (S := fun w' => w'.cell? (ad981.add (x10_2).toNat) = some (.slice A981_0 (rd_L4 t969 x10_2).length c981_0) ∧ w'.cell? (ad981.add (x10_2).toNat) = some (.slice A981_0 (rd_L4 t969 x10_2).length c981_0) ∧ w'.cell? (ad981.add ((ji31)).toNat) = some (.slice A988_0 (rd_L4 t969 (ji31)).length c988_0) ∧ w'.cell? (ad981.add (x10_2).toNat) = some (.slice A981_0 (rd_L4 t969 x10_2).length c981_0)) (ds := []) #[false, false, false, false, false, false, false, false, false, false, false, false, false, false, false, false, false, false, false, false, false, false, false, false, false, false, false, false, false, false, false, false, false, false] (by kernel_rfl) rfl rfl ⟨hx981_0, hx986_0, hx988_0, hx989_0⟩ (fun hHeld => ?_); refine with_tabW laws_FnKids.tab15 laws_FnKids.bits15 (fun HT_ HW_ => ?_)
           generalize wr.drew = w37 at HO_3 HO_4 HO_6 HB HL981_0 HL986_0 HL988_0 HL989_0 HR981_0 HR986_0 HR988_0 HR989_0 hx981_0 hx986_0 hx988_0 hx989_0 hHeld ⊢
           refine pu_ (i := 0) (N := some 49) ?_
           refine pu_ (i := 1) (N := some 50) ?_
           refine pu_ (i := 2) (N := some 51) ?_
           refine pu_ (i := 5) (N := some 54) ?_
           refine tk_ (i := 3) (N := some 52) hHeld ?_
           refine on_ (i := 4) (N := some 53) (fun K hK => ?_)
           (try (have HR986_0 := HR981_0))
           (try (have HL986_0 := HL981_0))
           (try (have HR989_0 := HR981_0))
           (try (have HL989_0 := HL981_0))
           refine goes_ Try.func21 (by kernel_rfl) rfl #[.slice A981_0 (rd_L4 t969 x10_2).length c981_0] (by rfl) rfl rfl ml_ ?_
           with_reducible refine (impl_Above.calls _ _ (rd_L4 t969 x10_2) t982 _ ?s1 ?s2 A20.out).mono ?_
           (case s1 => repeat (first | exact (cC_ HR981_0.out) | (with_reducible refine Kd.C_alloc ?_ _) | (with_reducible refine Kd.C_drewN ?_ _) | (with_reducible refine Kd.C_drew ?_)))
           (case s2 => exact HC981_0.out)
           rintro e w38 ⟨v983, rfl, ho0, hb⟩
           have HS0_ := (hb.cell (World.block_lt_of_cell? _ _ (hHeld.1))).trans (hHeld.1)
           have HS1_ := (hb.cell (World.block_lt_of_cell? _ _ (hHeld.2.1))).trans (hHeld.2.1)
           have HS2_ := (hb.cell (World.block_lt_of_cell? _ _ (hHeld.2.2.1))).trans (hHeld.2.2.1)
           have HS3_ := (hb.cell (World.block_lt_of_cell? _ _ (hHeld.2.2.2))).trans (hHeld.2.2.2)
           refine ⟨_, rfl, ?_⟩
           (try (have HR989_0 := A_ (Kd.C_below (cC_ HR989_0.out) hb)))
           (try (have HR988_0 := A_ (Kd.C_below (cC_ HR988_0.out) hb)))
           (try (have HR986_0 := A_ (Kd.C_below (cC_ HR986_0.out) hb)))
           replace HO_3 := A_ (Kd.S_elder' (vS_ HO_3.out) (kb_ ho0) hb)
           replace HO_6 := A_ (Kd.S_elder' (vS_ HO_6.out) (kb_ ho0) hb)
           have HO984 := A_ (Kd.R_lower (Kd.R_new' (Kd.R_new' ho0 (Kd.R_lt (vR_ HO_4.out))) (Kd.R_lt (vR_ HL981_0.out))) (below_size bB_))
           replace HO_4 := A_ (Kd.R_elder' (vR_ HO_4.out) (kb_ ho0) hb)
           replace HL981_0 := A_ (Kd.R_elder' (vR_ HL981_0.out) (kb_ ho0) hb)
           replace HR981_0 := A_ (Kd.C_below (cC_ HR981_0.out) hb)
           replace HB := A_ (below_step bB_ hb)
           (try clear hb)
           (try clear hb2)
           (try clear hk)
           (try clear hi)
           (try clear ho0)
           obtain ⟨Ao39, co39, eo39⟩ := Kd.R_slice HO984.out
           (first | subst eo39 | (injection eo39 with f1_ f2_ f3_; have f4_ := f1_.symm; have f5_ := f3_.symm; clear f1_ f2_ f3_; subst f4_; subst f5_))
           refine hK.out _ _ ⟨HS0_, HS1_, HS2_, HS3_⟩ (fun hHeld => ?_)
           clear hK K
           refine no_ (some 53) ?_
           refine on_ (i := 6) (N := some 55) (fun K hK => ?_)
           (try (have HR986_0 := HR981_0))
           (try (have HL986_0 := HL981_0))
           (try (have HR989_0 := HR981_0))
           (try (have HL989_0 := HL981_0))
           refine goes_ Try.func53 (by kernel_rfl) rfl #[.slice Ao39 t982.length co39, .slice Ao9 t961.length co9] (by rfl) rfl rfl ml_ ?_
           with_reducible refine (impl_SamePath.calls k2 _ _ t982 _ _ t961 true _ ?s1 ?s2 ?s3 ?s4 A21.out).mono ?_
           (case s1 => exact cC_ (Kd.R_reads' HO984.out).2.2)
           (case s2 => exact (Kd.R_reads' HO984.out).2.1)
           (case s3 => exact cC_ (Kd.R_reads' HO_4.out).2.2)
           (case s4 => exact (Kd.R_reads' HO_4.out).2.1)
           rintro e w' ⟨rfl, ⟨nd, rfl⟩⟩
           refine ⟨_, rfl, ?_⟩
           refine hK.out _ _ ⟨hHeld.1, hHeld.2.1, hHeld.2.2.1, hHeld.2.2.2⟩ (fun hHeld => ?_)
           clear hK K
           refine no_ (some 55) ?_
           refine pu_ (i := 7) (N := some 56) ?_
           refine pu_ (i := 8) (N := some 57) ?_
           refine pu_ (i := 9) (N := some 58) ?_
           refine pu_ (i := 10) (N := some 59) ?_
           refine pu_ (i := 11) (N := some 60) ?_
           refine pu_ (i := 12) (N := some 61) ?_
           refine tk_ (i := 13) (N := some 62) hHeld ?_
           refine on_ (i := 14) (N := some 63) (fun K hK => ?_)
           (try (have HR986_0 := HR981_0))
           (try (have HL986_0 := HL981_0))
           (try (have HR989_0 := HR981_0))
           (try (have HL989_0 := HL981_0))
           refine goes_ Try.func37 (by kernel_rfl) rfl #[.slice Ao8 t960.length co8, .slice A981_0 (rd_L4 t969 x10_2).length c981_0] (by rfl) rfl rfl ml_ ?_
           with_reducible refine (impl_FindRes.calls k2 _ _ t960 _ _ (rd_L4 t969 x10_2) t987 _ ?s1 ?s2 ?s3 ?s4 A23.out).mono ?_
           (case s1 => exact cC_ (Kd.S_reads' HO_3.out).2.2)
           (case s2 => exact (Kd.S_reads' HO_3.out).2.1)
           (case s3 => repeat (first | exact (cC_ HR986_0.out) | (with_reducible refine Kd.C_alloc ?_ _) | (with_reducible refine Kd.C_drewN ?_ _) | (with_reducible refine Kd.C_drew ?_)))
           (case s4 => exact HC986_0.out)
           rintro e w40 ⟨rfl, hb⟩
           have HS0_ := (hb.cell (World.block_lt_of_cell? _ _ (hHeld.1))).trans (hHeld.1)
           have HS1_ := (hb.cell (World.block_lt_of_cell? _ _ (hHeld.2.1))).trans (hHeld.2.1)
           have HS2_ := (hb.cell (World.block_lt_of_cell? _ _ (hHeld.2.2.1))).trans (hHeld.2.2.1)
           have HS3_ := (hb.cell (World.block_lt_of_cell? _ _ (hHeld.2.2.2))).trans (hHeld.2.2.2)
           refine ⟨_, rfl, ?_⟩
           (try (have HR989_0 := A_ (Kd.C_below (cC_ HR989_0.out) hb)))
           (try (have HR988_0 := A_ (Kd.C_below (cC_ HR988_0.out) hb)))
           replace HO_3 := A_ (Kd.S_below (vS_ HO_3.out) hb)
           replace HO_4 := A_ (Kd.R_below (vR_ HO_4.out) hb)
           replace HO_6 := A_ (Kd.S_below (vS_ HO_6.out) hb)
           replace HL981_0 := A_ (Kd.R_below (vR_ HL981_0.out) hb)
           replace HO984 := A_ (Kd.R_below (vR_ HO984.out) hb)
           replace HL986_0 := A_ (Kd.R_below (vR_ HL986_0.out) hb)
           replace HR981_0 := A_ (Kd.C_below (cC_ HR981_0.out) hb)
           replace HR986_0 := A_ (Kd.C_below (cC_ HR986_0.out) hb)
           replace HB := A_ (below_step bB_ hb)
           (try clear hb)
           (try clear hb2)
           (try clear hk)
           (try clear hi)
           refine hK.out _ _ ⟨HS0_, HS1_, HS2_, HS3_⟩ (fun hHeld => ?_)
           clear hK K
           refine no_ (some 63) ?_
           refine pu_ (i := 15) (N := some 64) ?_
           refine pu_ (i := 16) (N := some 65) ?_
           refine pu_ (i := 17) (N := some 66) ?_
           refine pu_ (i := 18) (N := some 67) ?_
           refine pu_ (i := 19) (N := some 68) ?_
           refine pu_ (i := 20) (N := some 69) ?_
           refine pu_ (i := 21) (N := some 70) ?_
           refine pu_ (i := 22) (N := some 71) ?_
           refine pu_ (i := 23) (N := some 72) ?_
           refine pu_ (i := 24) (N := some 73) ?_
           refine pu_ (i := 26) (N := some 75) ?_
           refine pu_ (i := 27) (N := some 76) ?_
           refine pu_ (i := 28) (N := some 77) ?_
           refine tk_ (i := 25) (N := some 74) hHeld ?_
           refine tk_ (i := 29) (N := some 78) hHeld ?_
           refine on_ (i := 30) (N := some 79) (fun K hK => ?_)
           (try (have HR986_0 := HR981_0))
           (try (have HL986_0 := HL981_0))
           (try (have HR989_0 := HR981_0))
           (try (have HL989_0 := HL981_0))
           refine goes_ Try.func18 (by kernel_rfl) rfl #[.slice A988_0 (rd_L4 t969 (ji31)).length c988_0, .slice A981_0 (rd_L4 t969 x10_2).length c981_0] (by rfl) rfl rfl (by (try simp only [List.map_toArray, List.map_cons, List.map_nil]); first | done | (simp only [hji31]; rfl) | rfl | (simp only [List.length_drop, List.length_take]; rfl)) ?_
           with_reducible refine (impl_LessPath.calls k2 _ _ (rd_L4 t969 (ji31)) _ _ (rd_L4 t969 x10_2) true _ ?s1 ?s2 ?s3 ?s4 A34.out).mono ?_
           (case s1 => repeat (first | exact (cC_ HR988_0.out) | (with_reducible refine Kd.C_alloc ?_ _) | (with_reducible refine Kd.C_drewN ?_ _) | (with_reducible refine Kd.C_drew ?_)))
           (case s2 => exact HC988_0.out)
           (case s3 => repeat (first | exact (cC_ HR989_0.out) | (with_reducible refine Kd.C_alloc ?_ _) | (with_reducible refine Kd.C_drewN ?_ _) | (with_reducible refine Kd.C_drew ?_)))
           (case s4 => exact HC989_0.out)
           rintro e w' ⟨rfl, ⟨nd, rfl⟩⟩
           refine ⟨_, rfl, ?_⟩
           refine hK.out _ _ ⟨hHeld.1, hHeld.2.1, hHeld.2.2.1, hHeld.2.2.2⟩ (fun hHeld => ?_)
           clear hK K
           refine no_ (some 79) ?_
           refine pu_ (i := 31) (N := some 80) ?_
           refine pu_ (i := 32) (N := some 81) ?_
           refine pu_ (i := 33) (N := some 82) ?_
           refine done_ (done_of HT_.out (by kernel_rfl)) ?_
           (try clear hHeld)
           try go_wp2
           go_roundg k2
           case measure => have := HK1.out; have := HK2.out; omega
           case rel => exact ⟨(wrap64 (x10_2 + 1)), rs_, H', ⟨by have := HK1.out; have := HK2.out; omega⟩, ⟨by (with_reducible repeat (first | apply Kd.S_alloc | apply Kd.S_drewN | apply Kd.S_drew)); exact Kd.S_mono HO_3.out (fun _ hk => hk.1)⟩, ⟨by (with_reducible repeat (first | apply Kd.R_alloc | apply Kd.R_drewN | apply Kd.R_drew)); exact Kd.R_mono HO_4.out (fun _ hk => trivial)⟩, ⟨by (with_reducible repeat (first | apply Kd.S_alloc | apply Kd.S_drewN | apply Kd.S_drew)); exact Kd.S_mono HO_6.out (fun _ hk => hk.1)⟩, ⟨bB_⟩⟩
         · replace c35 := Bool.eq_false_iff.mpr c35
           subst c35
           rw [if_neg nf_] at H
           obtain rfl := Option.some.inj H
           obtain ⟨Ao41, co41, eo41⟩ := Kd.S_slice HO_6.out
           subst eo41
           try go_wp2
           replace HO_3 := A_ (Kd.S_drew HO_3.out)
           replace HO_4 := A_ (Kd.R_drew HO_4.out)
           replace HO_6 := A_ (Kd.S_drew HO_6.out)
           replace HB := A_ (below_drew1 HB.out)
           have p981 : 0 ≤ (x10_2 : Int) := of_decide_eq_true as_
           have q981 : x10_2 < (t969.length : Int) := of_decide_eq_true as_
           obtain ⟨ad981, A981_0, c981_0, e981, hx981_0, hl981_0, hi981_0⟩ := at_L4 (Kd.S_reads' HO_6.out).2.2 x10_2 p981 q981
           cases e981
           obtain ⟨ce981, hce981, hMe981, hcc981⟩ := Kd.S_get HO_6.out [] x10_2 p981 (by first | exact q981 | exact of_decide_eq_true as_ | (have e_ := (Kd.S_reads' HO_6.out).1; omega))
           obtain ⟨ve981_0, rfl, ge981_0⟩ := hMe981
           have hv981_0 := hcc981 0 _ rfl
           rw [Nat.add_zero, show ((Kd.slice 9 Kd.string)).sz = 1 from rfl, Nat.mul_one] at hv981_0
           replace hv981_0 := Option.some.inj (hv981_0.symm.trans hx981_0)
           rw [hv981_0] at ge981_0
           have HL981_0 := A_ (show Kd.R Kd.string 9 _ _ _ _ (rd_L4 t969 x10_2) from ge981_0)
           clear hv981_0 ge981_0
           clear hcc981 hce981
           have HR981_0 := Aside0.mk hi981_0
           have HC981_0 := Aside0.mk hl981_0
           clear hi981_0 hl981_0
           replace p981 := eq_true p981
           replace q981 := eq_true q981
           have p986 : 0 ≤ (x10_2 : Int) := of_decide_eq_true as_
           have q986 : x10_2 < (t969.length : Int) := of_decide_eq_true as_
           obtain ⟨ad986, A986_0, c986_0, e986, hx986_0, hl986_0, hi986_0⟩ := at_L4 (Kd.S_reads' HO_6.out).2.2 x10_2 p986 q986
           obtain rfl : ad981 = ad986 := (by injection e986)
           injection (Option.some.inj (hx981_0.symm.trans hx986_0)) with ea_ en_ ec_
           subst ea_
           subst ec_
           clear en_
           obtain ⟨ce986, hce986, hMe986, hcc986⟩ := Kd.S_get HO_6.out [] x10_2 p986 (by first | exact q986 | exact of_decide_eq_true as_ | (have e_ := (Kd.S_reads' HO_6.out).1; omega))
           obtain ⟨ve986_0, rfl, ge986_0⟩ := hMe986
           have hv986_0 := hcc986 0 _ rfl
           rw [Nat.add_zero, show ((Kd.slice 9 Kd.string)).sz = 1 from rfl, Nat.mul_one] at hv986_0
           replace hv986_0 := Option.some.inj (hv986_0.symm.trans hx986_0)
           rw [hv986_0] at ge986_0
           have HL986_0 := A_ (show Kd.R Kd.string 9 _ _ _ _ (rd_L4 t969 x10_2) from ge986_0)
           clear hv986_0 ge986_0
           clear hcc986 hce986
           have HR986_0 := Aside0.mk hi986_0
           have HC986_0 := Aside0.mk hl986_0
           clear hi986_0 hl986_0
           replace p986 := eq_true p986
           replace q986 := eq_true q986
           have p988 : 0 ≤ ((ji31) : Int) := of_decide_eq_true as_
           have q988 : (ji31) < (t969.length : Int) := of_decide_eq_true as_
           obtain ⟨ad988, A988_0, c988_0, e988, hx988_0, hl988_0, hi988_0⟩ := at_L4 (Kd.S_reads' HO_6.out).2.2 (ji31) p988 q988
           obtain rfl : ad981 = ad988 := (by injection e988)
           obtain ⟨ce988, hce988, hMe988, hcc988⟩ := Kd.S_get HO_6.out [] (ji31) p988 (by first | exact q988 | exact of_decide_eq_true as_ | (have e_ := (Kd.S_reads' HO_6.out).1; omega))
           obtain ⟨ve988_0, rfl, ge988_0⟩ := hMe988
           have hv988_0 := hcc988 0 _ rfl
           rw [Nat.add_zero, show ((Kd.slice 9 Kd.string)).sz = 1 from rfl, Nat.mul_one] at hv988_0
           replace hv988_0 := Option.some.inj (hv988_0.symm.trans hx988_0)
           rw [hv988_0] at ge988_0
           have HL988_0 := A_ (show Kd.R Kd.string 9 _ _ _ _ (rd_L4 t969 (ji31)) from ge988_0)
           clear hv988_0 ge988_0
           clear hcc988 hce988
           have HR988_0 := Aside0.mk hi988_0
           have HC988_0 := Aside0.mk hl988_0
           clear hi988_0 hl988_0
           replace p988 := eq_true p988
           replace q988 := eq_true q988
           have p989 : 0 ≤ (x10_2 : Int) := of_decide_eq_true as_
           have q989 : x10_2 < (t969.length : Int) := of_decide_eq_true as_
           obtain ⟨ad989, A989_0, c989_0, e989, hx989_0, hl989_0, hi989_0⟩ := at_L4 (Kd.S_reads' HO_6.out).2.2 x10_2 p989 q989
           obtain rfl : ad981 = ad989 := (by injection e989)
           injection (Option.some.inj (hx981_0.symm.trans hx989_0)) with ea_ en_ ec_
           subst ea_
           subst ec_
           clear en_
           obtain ⟨ce989, hce989, hMe989, hcc989⟩ := Kd.S_get HO_6.out [] x10_2 p989 (by first | exact q989 | exact of_decide_eq_true as_ | (have e_ := (Kd.S_reads' HO_6.out).1; omega))
           obtain ⟨ve989_0, rfl, ge989_0⟩ := hMe989
           have hv989_0 := hcc989 0 _ rfl
           rw [Nat.add_zero, show ((Kd.slice 9 Kd.string)).sz = 1 from rfl, Nat.mul_one] at hv989_0
           replace hv989_0 := Option.some.inj (hv989_0.symm.trans hx989_0)
           rw [hv989_0] at ge989_0
           have HL989_0 := A_ (show Kd.R Kd.string 9 _ _ _ _ (rd_L4 t969 x10_2) from ge989_0)
           clear hv989_0 ge989_0
           clear hcc989 hce989
           have HR989_0 := Aside0.mk hi989_0
           have HC989_0 := Aside0.mk hl989_0
           clear hi989_0 hl989_0
           replace p989 := eq_true p989
           replace q989 := eq_true q989
           refine start_ (n := 34) (S := fun w' => w'.cell? (ad981.add (x10_2).toNat) = some (.slice A981_0 (rd_L4 t969 x10_2).length c981_0) ∧ w'.cell? (ad981.add (x10_2).toNat) = some (.slice A981_0 (rd_L4 t969 x10_2).length c981_0) ∧ w'.cell? (ad981.add ((ji31)).toNat) = some (.slice A988_0 (rd_L4 t969 (ji31)).length c988_0) ∧ w'.cell? (ad981.add (x10_2).toNat) = some (.slice A981_0 (rd_L4 t969 x10_2).length c981_0)) (ds := []) #[false, false, false, false, false, false, false, false, false, false, false, false, false, false, false, false, false, false, false, false, false, false, false, false, false, false, false, false, false, false, false, false, false, false] (by kernel_rfl) rfl rfl ⟨hx981_0, hx986_0, hx988_0, hx989_0⟩ (fun hHeld => ?_); refine with_tabW laws_FnKids.tab15 laws_FnKids.bits15 (fun HT_ HW_ => ?_)
           generalize wr.drew = w42 at HO_3 HO_4 HO_6 HB HL981_0 HL986_0 HL988_0 HL989_0 HR981_0 HR986_0 HR988_0 HR989_0 hx981_0 hx986_0 hx988_0 hx989_0 hHeld ⊢
           refine pu_ (i := 0) (N := some 49) ?_
           refine pu_ (i := 1) (N := some 50) ?_
           refine pu_ (i := 2) (N := some 51) ?_
           refine pu_ (i := 5) (N := some 54) ?_
           refine tk_ (i := 3) (N := some 52) hHeld ?_
           refine on_ (i := 4) (N := some 53) (fun K hK => ?_)
           (try (have HR986_0 := HR981_0))
           (try (have HL986_0 := HL981_0))
           (try (have HR989_0 := HR981_0))
           (try (have HL989_0 := HL981_0))
           refine goes_ Try.func21 (by kernel_rfl) rfl #[.slice A981_0 (rd_L4 t969 x10_2).length c981_0] (by rfl) rfl rfl ml_ ?_
           with_reducible refine (impl_Above.calls _ _ (rd_L4 t969 x10_2) t982 _ ?s1 ?s2 A20.out).mono ?_
           (case s1 => repeat (first | exact (cC_ HR981_0.out) | (with_reducible refine Kd.C_alloc ?_ _) | (with_reducible refine Kd.C_drewN ?_ _) | (with_reducible refine Kd.C_drew ?_)))
           (case s2 => exact HC981_0.out)
           rintro e w43 ⟨v983, rfl, ho0, hb⟩
           have HS0_ := (hb.cell (World.block_lt_of_cell? _ _ (hHeld.1))).trans (hHeld.1)
           have HS1_ := (hb.cell (World.block_lt_of_cell? _ _ (hHeld.2.1))).trans (hHeld.2.1)
           have HS2_ := (hb.cell (World.block_lt_of_cell? _ _ (hHeld.2.2.1))).trans (hHeld.2.2.1)
           have HS3_ := (hb.cell (World.block_lt_of_cell? _ _ (hHeld.2.2.2))).trans (hHeld.2.2.2)
           refine ⟨_, rfl, ?_⟩
           (try (have HR989_0 := A_ (Kd.C_below (cC_ HR989_0.out) hb)))
           (try (have HR988_0 := A_ (Kd.C_below (cC_ HR988_0.out) hb)))
           (try (have HR986_0 := A_ (Kd.C_below (cC_ HR986_0.out) hb)))
           replace HO_3 := A_ (Kd.S_elder' (vS_ HO_3.out) (kb_ ho0) hb)
           replace HO_6 := A_ (Kd.S_elder' (vS_ HO_6.out) (kb_ ho0) hb)
           have HO984 := A_ (Kd.R_lower (Kd.R_new' (Kd.R_new' ho0 (Kd.R_lt (vR_ HO_4.out))) (Kd.R_lt (vR_ HL981_0.out))) (below_size bB_))
           replace HO_4 := A_ (Kd.R_elder' (vR_ HO_4.out) (kb_ ho0) hb)
           replace HL981_0 := A_ (Kd.R_elder' (vR_ HL981_0.out) (kb_ ho0) hb)
           replace HR981_0 := A_ (Kd.C_below (cC_ HR981_0.out) hb)
           replace HB := A_ (below_step bB_ hb)
           (try clear hb)
           (try clear hb2)
           (try clear hk)
           (try clear hi)
           (try clear ho0)
           obtain ⟨Ao44, co44, eo44⟩ := Kd.R_slice HO984.out
           (first | subst eo44 | (injection eo44 with f1_ f2_ f3_; have f4_ := f1_.symm; have f5_ := f3_.symm; clear f1_ f2_ f3_; subst f4_; subst f5_))
           refine hK.out _ _ ⟨HS0_, HS1_, HS2_, HS3_⟩ (fun hHeld => ?_)
           clear hK K
           refine no_ (some 53) ?_
           refine on_ (i := 6) (N := some 55) (fun K hK => ?_)
           (try (have HR986_0 := HR981_0))
           (try (have HL986_0 := HL981_0))
           (try (have HR989_0 := HR981_0))
           (try (have HL989_0 := HL981_0))
           refine goes_ Try.func53 (by kernel_rfl) rfl #[.slice Ao44 t982.length co44, .slice Ao9 t961.length co9] (by rfl) rfl rfl ml_ ?_
           with_reducible refine (impl_SamePath.calls k2 _ _ t982 _ _ t961 true _ ?s1 ?s2 ?s3 ?s4 A21.out).mono ?_
           (case s1 => exact cC_ (Kd.R_reads' HO984.out).2.2)
           (case s2 => exact (Kd.R_reads' HO984.out).2.1)
           (case s3 => exact cC_ (Kd.R_reads' HO_4.out).2.2)
           (case s4 => exact (Kd.R_reads' HO_4.out).2.1)
           rintro e w' ⟨rfl, ⟨nd, rfl⟩⟩
           refine ⟨_, rfl, ?_⟩
           refine hK.out _ _ ⟨hHeld.1, hHeld.2.1, hHeld.2.2.1, hHeld.2.2.2⟩ (fun hHeld => ?_)
           clear hK K
           refine no_ (some 55) ?_
           refine pu_ (i := 7) (N := some 56) ?_
           refine pu_ (i := 8) (N := some 57) ?_
           refine pu_ (i := 9) (N := some 58) ?_
           refine pu_ (i := 10) (N := some 59) ?_
           refine pu_ (i := 11) (N := some 60) ?_
           refine pu_ (i := 12) (N := some 61) ?_
           refine tk_ (i := 13) (N := some 62) hHeld ?_
           refine on_ (i := 14) (N := some 63) (fun K hK => ?_)
           (try (have HR986_0 := HR981_0))
           (try (have HL986_0 := HL981_0))
           (try (have HR989_0 := HR981_0))
           (try (have HL989_0 := HL981_0))
           refine goes_ Try.func37 (by kernel_rfl) rfl #[.slice Ao8 t960.length co8, .slice A981_0 (rd_L4 t969 x10_2).length c981_0] (by rfl) rfl rfl ml_ ?_
           with_reducible refine (impl_FindRes.calls k2 _ _ t960 _ _ (rd_L4 t969 x10_2) t987 _ ?s1 ?s2 ?s3 ?s4 A23.out).mono ?_
           (case s1 => exact cC_ (Kd.S_reads' HO_3.out).2.2)
           (case s2 => exact (Kd.S_reads' HO_3.out).2.1)
           (case s3 => repeat (first | exact (cC_ HR986_0.out) | (with_reducible refine Kd.C_alloc ?_ _) | (with_reducible refine Kd.C_drewN ?_ _) | (with_reducible refine Kd.C_drew ?_)))
           (case s4 => exact HC986_0.out)
           rintro e w45 ⟨rfl, hb⟩
           have HS0_ := (hb.cell (World.block_lt_of_cell? _ _ (hHeld.1))).trans (hHeld.1)
           have HS1_ := (hb.cell (World.block_lt_of_cell? _ _ (hHeld.2.1))).trans (hHeld.2.1)
           have HS2_ := (hb.cell (World.block_lt_of_cell? _ _ (hHeld.2.2.1))).trans (hHeld.2.2.1)
           have HS3_ := (hb.cell (World.block_lt_of_cell? _ _ (hHeld.2.2.2))).trans (hHeld.2.2.2)
           refine ⟨_, rfl, ?_⟩
           (try (have HR989_0 := A_ (Kd.C_below (cC_ HR989_0.out) hb)))
           (try (have HR988_0 := A_ (Kd.C_below (cC_ HR988_0.out) hb)))
           replace HO_3 := A_ (Kd.S_below (vS_ HO_3.out) hb)
           replace HO_4 := A_ (Kd.R_below (vR_ HO_4.out) hb)
           replace HO_6 := A_ (Kd.S_below (vS_ HO_6.out) hb)
           replace HL981_0 := A_ (Kd.R_below (vR_ HL981_0.out) hb)
           replace HO984 := A_ (Kd.R_below (vR_ HO984.out) hb)
           replace HL986_0 := A_ (Kd.R_below (vR_ HL986_0.out) hb)
           replace HR981_0 := A_ (Kd.C_below (cC_ HR981_0.out) hb)
           replace HR986_0 := A_ (Kd.C_below (cC_ HR986_0.out) hb)
           replace HB := A_ (below_step bB_ hb)
           (try clear hb)
           (try clear hb2)
           (try clear hk)
           (try clear hi)
           refine hK.out _ _ ⟨HS0_, HS1_, HS2_, HS3_⟩ (fun hHeld => ?_)
           clear hK K
           refine no_ (some 63) ?_
           refine pu_ (i := 15) (N := some 64) ?_
           refine pu_ (i := 16) (N := some 65) ?_
           refine pu_ (i := 17) (N := some 66) ?_
           refine pu_ (i := 18) (N := some 67) ?_
           refine pu_ (i := 19) (N := some 68) ?_
           refine pu_ (i := 20) (N := some 69) ?_
           refine pu_ (i := 21) (N := some 70) ?_
           refine pu_ (i := 22) (N := some 71) ?_
           refine pu_ (i := 23) (N := some 72) ?_
           refine pu_ (i := 24) (N := some 73) ?_
           refine pu_ (i := 26) (N := some 75) ?_
           refine pu_ (i := 27) (N := some 76) ?_
           refine pu_ (i := 28) (N := some 77) ?_
           refine tk_ (i := 25) (N := some 74) hHeld ?_
           refine tk_ (i := 29) (N := some 78) hHeld ?_
           refine on_ (i := 30) (N := some 79) (fun K hK => ?_)
           (try (have HR986_0 := HR981_0))
           (try (have HL986_0 := HL981_0))
           (try (have HR989_0 := HR981_0))
           (try (have HL989_0 := HL981_0))
           refine goes_ Try.func18 (by kernel_rfl) rfl #[.slice A988_0 (rd_L4 t969 (ji31)).length c988_0, .slice A981_0 (rd_L4 t969 x10_2).length c981_0] (by rfl) rfl rfl (by (try simp only [List.map_toArray, List.map_cons, List.map_nil]); first | done | (simp only [hji31]; rfl) | rfl | (simp only [List.length_drop, List.length_take]; rfl)) ?_
           with_reducible refine (impl_LessPath.calls k2 _ _ (rd_L4 t969 (ji31)) _ _ (rd_L4 t969 x10_2) false _ ?s1 ?s2 ?s3 ?s4 A34.out).mono ?_
           (case s1 => repeat (first | exact (cC_ HR988_0.out) | (with_reducible refine Kd.C_alloc ?_ _) | (with_reducible refine Kd.C_drewN ?_ _) | (with_reducible refine Kd.C_drew ?_)))
           (case s2 => exact HC988_0.out)
           (case s3 => repeat (first | exact (cC_ HR989_0.out) | (with_reducible refine Kd.C_alloc ?_ _) | (with_reducible refine Kd.C_drewN ?_ _) | (with_reducible refine Kd.C_drew ?_)))
           (case s4 => exact HC989_0.out)
           rintro e w' ⟨rfl, ⟨nd, rfl⟩⟩
           refine ⟨_, rfl, ?_⟩
           refine hK.out _ _ ⟨hHeld.1, hHeld.2.1, hHeld.2.2.1, hHeld.2.2.2⟩ (fun hHeld => ?_)
           clear hK K
           refine no_ (some 79) ?_
           refine pu_ (i := 31) (N := some 80) ?_
           refine pu_ (i := 32) (N := some 81) ?_
           refine pu_ (i := 33) (N := some 82) ?_
           refine done_ (done_of HT_.out (by kernel_rfl)) ?_
           (try clear hHeld)
           try go_wp2
           go_ret
           exact ⟨by first | rfl | (simp [errW_none, errW_some] <;> rfl) | (simp only [← hji31]; first | rfl | (simp [errW_none, errW_some] <;> rfl)) | (simp [*, errW_none, errW_some] <;> rfl), bB_⟩
       · replace c22 := Bool.eq_false_iff.mpr c22
         subst c22
         rw [if_neg nf_] at H
         obtain rfl := Option.some.inj H
         obtain ⟨Ao51, co51, eo51⟩ := Kd.S_slice HO_6.out
         subst eo51
         try go_wp2
         replace HO_3 := A_ (Kd.S_drew HO_3.out)
         replace HO_4 := A_ (Kd.R_drew HO_4.out)
         replace HO_6 := A_ (Kd.S_drew HO_6.out)
         replace HB := A_ (below_drew1 HB.out)
         have p981 : 0 ≤ (x10_2 : Int) := of_decide_eq_true as_
         have q981 : x10_2 < (t969.length : Int) := of_decide_eq_true as_
         obtain ⟨ad981, A981_0, c981_0, e981, hx981_0, hl981_0, hi981_0⟩ := at_L4 (Kd.S_reads' HO_6.out).2.2 x10_2 p981 q981
         cases e981
         obtain ⟨ce981, hce981, hMe981, hcc981⟩ := Kd.S_get HO_6.out [] x10_2 p981 (by first | exact q981 | exact of_decide_eq_true as_ | (have e_ := (Kd.S_reads' HO_6.out).1; omega))
         obtain ⟨ve981_0, rfl, ge981_0⟩ := hMe981
         have hv981_0 := hcc981 0 _ rfl
         rw [Nat.add_zero, show ((Kd.slice 9 Kd.string)).sz = 1 from rfl, Nat.mul_one] at hv981_0
         replace hv981_0 := Option.some.inj (hv981_0.symm.trans hx981_0)
         rw [hv981_0] at ge981_0
         have HL981_0 := A_ (show Kd.R Kd.string 9 _ _ _ _ (rd_L4 t969 x10_2) from ge981_0)
         clear hv981_0 ge981_0
         clear hcc981 hce981
         have HR981_0 := Aside0.mk hi981_0
         have HC981_0 := Aside0.mk hl981_0
         clear hi981_0 hl981_0
         replace p981 := eq_true p981
         replace q981 := eq_true q981
         refine start_ (n := 34) (S := fun w' => w'.cell? (ad981.add (x10_2).toNat) = some (.slice A981_0 (rd_L4 t969 x10_2).length c981_0)) (ds := []) #[false, false, false, false, false, false, false, false, false, false, false, false, false, false, false, false, false, false, false, false, false, false, false, false, false, false, false, false, false, false, false, false, false, false] (by kernel_rfl) rfl rfl (hx981_0) (fun hHeld => ?_); refine with_tabW laws_FnKids.tab15 laws_FnKids.bits15 (fun HT_ HW_ => ?_)
         generalize wr.drew = w52 at HO_3 HO_4 HO_6 HB HL981_0 HR981_0 hx981_0 hHeld ⊢
         refine pu_ (i := 0) (N := some 49) ?_
         refine pu_ (i := 1) (N := some 50) ?_
         refine pu_ (i := 2) (N := some 51) ?_
         refine pu_ (i := 5) (N := some 54) ?_
         refine take_ (i := 3) (N := some 52) (v := ?_) (a' := ?_) #[true, true, true, true, false, true, false, false, false, false, false, false, false, false, false, false, false, false, false, false, false, false, false, false, false, false, false, false, false, false, false, false, false, false] rfl rfl (take_ofW HT_.out HW_.out (by kernel_rfl)) (fun _ _ _ h => h) (Or.inl ⟨by rfl, ?_⟩) hHeld ?_ ?_
         rotate_left
         · intro w' s0
           go_simp
           with_reducible rfl
         rotate_left
         · simp only [Act.put, List.setIfInBounds_toArray, List.set_cons_zero, List.set_cons_succ, i64_w, i32_w]
           rfl
         refine on_ (i := 4) (N := some 53) (fun K hK => ?_)
         refine goes_ Try.func21 (by kernel_rfl) rfl #[.slice A981_0 (rd_L4 t969 x10_2).length c981_0] (by rfl) rfl rfl ml_ ?_
         with_reducible refine (impl_Above.calls _ _ (rd_L4 t969 x10_2) t982 _ ?s1 ?s2 A20.out).mono ?_
         (case s1 => repeat (first | exact (cC_ HR981_0.out) | (with_reducible refine Kd.C_alloc ?_ _) | (with_reducible refine Kd.C_drewN ?_ _) | (with_reducible refine Kd.C_drew ?_)))
         (case s2 => exact HC981_0.out)
         rintro e w53 ⟨v983, rfl, ho0, hb⟩
         have HS0_ := (hb.cell (World.block_lt_of_cell? _ _ (hHeld))).trans (hHeld)
         refine ⟨_, rfl, ?_⟩
         replace HO_3 := A_ (Kd.S_elder' (vS_ HO_3.out) (kb_ ho0) hb)
         replace HO_6 := A_ (Kd.S_elder' (vS_ HO_6.out) (kb_ ho0) hb)
         have HO984 := A_ (Kd.R_lower (Kd.R_new' (Kd.R_new' ho0 (Kd.R_lt (vR_ HO_4.out))) (Kd.R_lt (vR_ HL981_0.out))) (below_size bB_))
         replace HO_4 := A_ (Kd.R_elder' (vR_ HO_4.out) (kb_ ho0) hb)
         replace HL981_0 := A_ (Kd.R_elder' (vR_ HL981_0.out) (kb_ ho0) hb)
         replace HR981_0 := A_ (Kd.C_below (cC_ HR981_0.out) hb)
         replace HB := A_ (below_step bB_ hb)
         (try clear hb)
         (try clear hb2)
         (try clear hk)
         (try clear hi)
         (try clear ho0)
         obtain ⟨Ao54, co54, eo54⟩ := Kd.R_slice HO984.out
         (first | subst eo54 | (injection eo54 with f1_ f2_ f3_; have f4_ := f1_.symm; have f5_ := f3_.symm; clear f1_ f2_ f3_; subst f4_; subst f5_))
         refine hK.out _ _ (HS0_) (fun hHeld => ?_)
         clear hK K
         refine no_ (some 53) ?_
         refine on_ (i := 6) (N := some 55) (fun K hK => ?_)
         refine goes_ Try.func53 (by kernel_rfl) rfl #[.slice Ao54 t982.length co54, .slice Ao9 t961.length co9] (by rfl) rfl rfl ml_ ?_
         with_reducible refine (impl_SamePath.calls k2 _ _ t982 _ _ t961 false _ ?s1 ?s2 ?s3 ?s4 A21.out).mono ?_
         (case s1 => exact cC_ (Kd.R_reads' HO984.out).2.2)
         (case s2 => exact (Kd.R_reads' HO984.out).2.1)
         (case s3 => exact cC_ (Kd.R_reads' HO_4.out).2.2)
         (case s4 => exact (Kd.R_reads' HO_4.out).2.1)
         rintro e w' ⟨rfl, ⟨nd, rfl⟩⟩
         refine ⟨_, rfl, ?_⟩
         refine hK.out _ _ (hHeld) (fun hHeld => ?_)
         clear hK K
         refine no_ (some 55) ?_
         refine pu_ (i := 7) (N := some 56) ?_
         refine pu_ (i := 8) (N := some 57) ?_
         refine pn_ (i := 9) (N := some 58) ?_
         refine pn_ (i := 10) (N := some 59) ?_
         refine pn_ (i := 11) (N := some 60) ?_
         refine pn_ (i := 12) (N := some 61) ?_
         refine pn_ (i := 13) (N := some 62) ?_
         refine pn_ (i := 14) (N := some 63) ?_
         refine pn_ (i := 15) (N := some 64) ?_
         refine pu_ (i := 16) (N := some 65) ?_
         refine pu_ (i := 17) (N := some 66) ?_
         refine pn_ (i := 18) (N := some 67) ?_
         refine pn_ (i := 19) (N := some 68) ?_
         refine pn_ (i := 20) (N := some 69) ?_
         refine pn_ (i := 21) (N := some 70) ?_
         refine pn_ (i := 22) (N := some 71) ?_
         refine pn_ (i := 23) (N := some 72) ?_
         refine pn_ (i := 24) (N := some 73) ?_
         refine pn_ (i := 25) (N := some 74) ?_
         refine pn_ (i := 26) (N := some 75) ?_
         refine pn_ (i := 27) (N := some 76) ?_
         refine pn_ (i := 28) (N := some 77) ?_
         refine pn_ (i := 29) (N := some 78) ?_
         refine pn_ (i := 30) (N := some 79) ?_
         refine pn_ (i := 31) (N := some 80) ?_
         refine pn_ (i := 32) (N := some 81) ?_
         refine pu_ (i := 33) (N := some 82) ?_
         refine done_ (done_of HT_.out (by kernel_rfl)) ?_
         (try clear hHeld)
         try go_wp2
         go_ret
         exact ⟨rr_, bB_⟩
def laws_FnKids.Pure : Prop := ∀ (l0 : List Int), l0.length ≤ maxLen → l0.length * 1 ≤ 140737488351232 → (∀ x ∈ l0, (Lit.int .u8 x).wf = true) → ∃ k, laws_FnKids.f k l0 = some true
theorem laws_FnKids.walk (P : laws_FnKids.Pure) (a0 : Option Addr) (len0 cap0 : Nat) (z0 : List Int) (w : World) (w0 : (a0 = none ∧ len0 = 0 ∧ cap0 = 0 ∧ z0 = []) ∨ ∃ x, a0 = some x ∧ len0 ≤ cap0 ∧ cap0 ≤ maxLen ∧ z0.length = cap0 ∧ (∀ i, i < z0.length → w.cell? (x.add i) = some (.int .u8 (z0.getD i 0))) ∧ ∀ n ∈ z0, (Lit.int .u8 n).wf = true) (y0 : len0 * 1 ≤ 140737488351232) :
 Calls Try.prog 13 #[.slice a0 len0 cap0] w fun e w' => e = .returned (.bool true) ∧ Below w.heap.size w w' := by
 obtain ⟨l0, rfl, hr0, hm0, hw0, hc0⟩ := ReadsInt.ofRowC w0
 obtain ⟨k, h⟩ := P l0 hm0 y0 hw0
 refine (laws_FnKids.calls k _ _ l0 true w (Kd.C_of_reads (d := (0 : Int)) (h1 := fun _ => rfl) hr0) hc0 h).mono ?_
 rintro e w' ⟨rfl, hd⟩
 exact ⟨rfl, hd⟩
end Go.Proofs.Yteabkidfgdmmpaa.Q

/- What a reading of a parameter says of its cells, kind by kind: for the rows of laws whose parameters are slices and structs. No condition. -/
namespace Go.Proofs.Yteabkidfgdmmpaa.Op
open Go.RowKit Go.ChangeShapes Go.WideShapes Go.Proofs.YteabkidfgdmmpaaW.PrintWords
def Opens {α H : Type} (enc : TypeId × Value → H) (P : Program) (w : World) (t : TypeId) (d : Kd α) (G : α → Prop) : Prop :=
  ∀ fuel cs x, DataW.trod enc P w 0 (fun _ => true) true fuel t cs = some x → ∃ a, d.K w a cs ∧ G a
section
variable {H : Type} {enc : TypeId × Value → H} {P : Program} {w : World} {t : TypeId}
theorem opens_int {k : IntKind} (ht : P.underlying t = some (.int k)) : Opens enc P w t (Kd.int k) (fun n => (Lit.int k n).wf = true) := by
  intro fuel cs x h
  obtain ⟨n, rfl, _, hn⟩ := DataW.trod_int ht h
  exact ⟨n, rfl, hn⟩
theorem opens_slice {α : Type} [Inhabited α] {e : TypeId} {d : Kd α} {G : α → Prop} (ht : P.underlying t = some (.slice e)) (hc : P.cellsOf e = d.sz) (he : Opens enc P w e d G) :
    Opens enc P w t (Kd.slice e d) (fun l => l.length ≤ maxLen ∧ ∀ a ∈ l, G a) := by
  intro fuel cs x h
  rcases Go.Deep.open_slice ht h with ⟨rfl, _⟩ | ⟨a, len, cap, m, n, D, Pl, rfl, _, hl, hm, hmm, _, hx⟩
  · exact ⟨[], ⟨none, 0, rfl, Nat.le_refl _, Kd.C_nil d w⟩, by simp, by simp⟩
  · have hm' : m = cap := by simpa using hmm
    have each : ∀ i, i < len → ∃ y : α, G y ∧ ∃ c, d.K w y c ∧ ∀ j u, c[j]? = some u → w.cell? (a.add (i * d.sz + j)) = some u := fun i hi => by
      obtain ⟨cs', h1, h2⟩ := hx i (by omega)
      obtain ⟨y, hK, hG⟩ := he _ _ _ h2
      obtain ⟨_, h3, h4⟩ := World.cells?_some h1
      refine ⟨y, hG, cs', hK, fun j u hu => ?_⟩
      have hj : j < P.cellsOf e := by
        have := (List.getElem?_eq_some_iff.1 hu).1
        omega
      have h5 := h4 j hj
      rw [Go.Deep.add_add, hc, hu] at h5
      exact h5
    obtain ⟨f, hf⟩ := Go.Deep.choose_lt each
    have hmax : maxLen = 9223372036854775807 := by decide
    refine ⟨(List.range len).map f, ⟨some a, cap, by simp, by simpa using hl, ?_⟩, by simp; omega, ?_⟩
    · refine ⟨rfl, by simp; omega, fun _ => ⟨a, rfl, fun j p hj => ?_⟩⟩
      have hjl : j < len := by
        have := (List.getElem?_eq_some_iff.1 hj).1
        simpa using this
      have hp : f j = p := by
        rw [List.getElem?_map, List.getElem?_range hjl] at hj
        simpa using hj
      obtain ⟨_, c, hK, hcell⟩ := hf j hjl
      exact ⟨c, d.K_len hK, hp ▸ hK, hcell⟩
    · intro y hy
      obtain ⟨j, hj, rfl⟩ := List.mem_map.1 hy
      exact (hf j (List.mem_range.1 hj)).1
end
end Go.Proofs.Yteabkidfgdmmpaa.Op

/- What a reading of a struct says of its cells. No condition. -/
namespace Go.Proofs.Yteabkidfgdmmpaa.Q
open Go.RowKit Go.ChangeShapes Go.WideShapes Go.Proofs.YteabkidfgdmmpaaW.PrintWords Go.Proofs.Yteabkidfgdmmpaa
set_option linter.unusedVariables false
set_option linter.unusedSimpArgs false
instance : Inhabited S70 := ⟨z70⟩
instance : Inhabited S77 := ⟨z77⟩
end Go.Proofs.Yteabkidfgdmmpaa.Q

/- Small lemmas for plain laws over rounds: indices as lengths of what was passed, bytes' equality. No condition. -/
set_option linter.unusedSimpArgs false
set_option linter.unusedVariables false
namespace Go.Proofs.Yteabkidfgdmmpaa.L
open Go.RowKit Go.Proofs.YteabkidfgdmmpaaW.PrintWords Go.Proofs.YteabkidfgdmmpaaW.PrintLast
theorem ba_toList (s : ByteArray) : s.toList = s.data.toList := ByteArray.toList_eq s
theorem ba_inj {a b : ByteArray} (h : a.toList = b.toList) : a = b := by
  rw [ba_toList, ba_toList] at h
  cases a with | mk x => cases b with | mk y => congr 1; exact Array.toList_inj.1 h
theorem ba_eq {a b : ByteArray} : (a.toList = b.toList) = (a = b) := propext ⟨ba_inj, fun h => by rw [h]⟩
theorem maxLen_eq : maxLen = 9223372036854775807 := by decide
theorem wrap_id {x : Int} (h0 : -9223372036854775808 ≤ x) (h1 : x < 9223372036854775808) : wrap64 x = x := by
  unfold wrap64
  omega
section
variable {α : Type} {l pre suf : List α} {a : α}
theorem lt_at (h : l = pre ++ a :: suf) : ((pre.length : Nat) : Int) < (l.length : Int) := by subst h; simp; omega
theorem rd_at (d : α) (h : l = pre ++ a :: suf) : rdOf d l (pre.length : Int) = a := by subst h; simp [rdOf, List.getD_eq_getElem?_getD]
theorem getD_at (d : α) (h : l = pre ++ a :: suf) : l.getD ((pre.length : Nat) : Int).toNat d = a := by subst h; simp [List.getD_eq_getElem?_getD]
theorem next_at (h : l = pre ++ a :: suf) (hl : l.length ≤ maxLen) : wrap64 ((pre.length : Int) + 1) = ((pre ++ [a]).length : Int) := by
  have : l.length = pre.length + 1 + suf.length := by subst h; simp; omega
  rw [maxLen_eq] at hl
  rw [wrap_id (by omega) (by omega)]
  simp
theorem snoc_at (h : l = pre ++ a :: suf) : l = (pre ++ [a]) ++ suf := by subst h; simp
theorem end_at (h : l = pre ++ []) : ¬ ((pre.length : Nat) : Int) < (l.length : Int) := by subst h; simp
theorem set_at {b : α} (h : l = pre ++ a :: suf) : l.set ((pre.length : Nat) : Int).toNat b = (pre ++ [b]) ++ suf := by subst h; simp
theorem nonneg_at (n : Nat) : (0 : Int) ≤ (n : Int) := Int.natCast_nonneg n
end
def IntOk (x : Int) : Prop := -9223372036854775808 ≤ x ∧ x < 9223372036854775808
def SmS (l : List ByteArray) : Prop := l.length ≤ 1048576 ∧ ∀ s ∈ l, s.size ≤ 1048576
theorem eq_loop {α : Type} [DecidableEq α] {a b : List α} (g : Nat → Int → Option Bool)
    (hend : Ev (fun k => g k a.length) true)
    (hstep : ∀ pre x su pre' y sv, a = pre ++ x :: su → b = pre' ++ y :: sv → pre.length = pre'.length → (x ≠ y → Ev (fun k => g k (pre.length : Int)) false) ∧ (x = y → ∀ r, Ev (fun k => g k ((pre ++ [x]).length : Int)) r → Ev (fun k => g k (pre.length : Int)) r)) :
    ∀ (su sv pu pv : List α), a = pu ++ su → b = pv ++ sv → pu.length = pv.length → su.length = sv.length → Ev (fun k => g k (pu.length : Int)) (decide (su = sv)) := by
  intro su
  induction su with
  | nil =>
    intro sv pu pv h h' hp hs
    obtain rfl : sv = [] := by simpa using hs.symm
    rw [h, List.append_nil] at hend
    exact hend
  | cons x su ih =>
    intro sv pu pv h h' hp hs
    cases sv with
    | nil => simp at hs
    | cons y sv =>
      obtain ⟨h1, h2⟩ := hstep pu x su pv y sv h h' hp
      by_cases e : x = y
      · have h3 := h2 e _ (ih sv (pu ++ [x]) (pv ++ [y]) (snoc_at h) (snoc_at h') (by simp [hp]) (by simpa using hs))
        simp only [e, List.cons.injEq, true_and]
        exact h3
      · rw [show decide (x :: su = y :: sv) = false from decide_eq_false (fun h => e (List.cons.inj h).1)]
        exact h1 e
theorem ev_cast {α : Type} {g : Nat → Option α} {r s : α} (h : Ev g r) (e : r = s) : Ev g s := e ▸ h
end Go.Proofs.Yteabkidfgdmmpaa.L

/- Draws from a code: the cursor's bytes and its place. No condition. -/
set_option linter.unusedSimpArgs false
set_option linter.unusedVariables false
namespace Go.Proofs.Yteabkidfgdmmpaa.L
open Go.RowKit Go.Proofs.YteabkidfgdmmpaaW.PrintWords Go.Proofs.YteabkidfgdmmpaaW.PrintLast Go.Proofs.Yteabkidfgdmmpaa.Q
def Cur (b : List Int) (p : Int) : Prop := 0 ≤ p ∧ p ≤ (b.length : Int) ∧ b.length ≤ 1048576
theorem wrapI64 {x : Int} (h0 : -9223372036854775808 ≤ x) (h1 : x < 9223372036854775808) : IntKind.i64.wrap x = x := by
  rw [i64_w, wrap_id h0 h1]
theorem and255 (x : Int) : 0 ≤ Go.bits .and .i64 x 255 ∧ Go.bits .and .i64 x 255 ≤ 255 := by
  unfold Go.bits
  have h : (BitVec.ofInt IntKind.i64.bits x &&& BitVec.ofInt IntKind.i64.bits 255).toNat ≤ 255 := by
    rw [BitVec.toNat_and]
    exact Nat.le_trans Nat.and_le_right (by decide)
  simp only
  rw [wrapI64 (by omega) (by omega)]
  omega
theorem byteD {b : List Int} {p : Int} (h : Cur b p) (s : Int) : ∃ v p' s', spec_l1Byte.f b p s = some (v, p', s') ∧ 0 ≤ v ∧ v ≤ 255 ∧ Cur b p' := by
  obtain ⟨h0, h1, h2⟩ := h
  unfold spec_l1Byte.f
  by_cases c : p < (b.length : Int)
  · rw [if_pos c, if_pos h0]
    refine ⟨_, _, _, rfl, (and255 _).1, (and255 _).2, ?_⟩
    rw [wrap_id (by omega) (by omega)]
    exact ⟨by omega, by omega, h2⟩
  · rw [if_neg c]
    exact ⟨_, _, _, rfl, (and255 _).1, (and255 _).2, h0, h1, h2⟩
theorem belowD {b : List Int} {p : Int} (h : Cur b p) (s : Int) {n : Int} (hn : 0 < n) : ∃ v p' s', spec_l1Below.f b p s n = some (v, p', s') ∧ 0 ≤ v ∧ v < n ∧ Cur b p' := by
  unfold spec_l1Below.f
  rw [if_neg (by omega)]
  by_cases c : n ≤ 256
  · rw [if_pos c]
    obtain ⟨v, p1, s1, e, v0, v1, h'⟩ := byteD h s
    simp only [e, Option.bind_some, if_neg (show ¬ n = 0 by omega)]
    exact ⟨_, _, _, rfl, Int.tmod_nonneg _ v0, Int.tmod_lt_of_pos _ hn, h'⟩
  · rw [if_neg c]
    obtain ⟨v, p1, s1, e, v0, v1, h1⟩ := byteD h s
    simp only [e, Option.bind_some]
    obtain ⟨v', p2, s2, e, v0', v1', h2⟩ := byteD h1 s1
    simp only [e, Option.bind_some]
    obtain ⟨v'', p3, s3, e, v0'', v1'', h3⟩ := byteD h2 s2
    simp only [e, Option.bind_some, if_neg (show ¬ n = 0 by omega)]
    rw [wrap_id (x := v * 65536) (by omega) (by omega), wrap_id (x := v' * 256) (by omega) (by omega), wrap_id (x := v * 65536 + v' * 256) (by omega) (by omega), wrap_id (by omega) (by omega)]
    exact ⟨_, _, _, rfl, Int.tmod_nonneg _ (by omega), Int.tmod_lt_of_pos _ hn, h3⟩
theorem belowD0 {b : List Int} {p : Int} (h : Cur b p) (s n : Int) : ∃ v p' s', spec_l1Below.f b p s n = some (v, p', s') ∧ 0 ≤ v ∧ Cur b p' := by
  by_cases c : 0 < n
  · obtain ⟨v, p', s', e, h0, _, h'⟩ := belowD h s c
    exact ⟨v, p', s', e, h0, h'⟩
  · unfold spec_l1Below.f
    rw [if_pos (by omega)]
    exact ⟨_, _, _, rfl, Int.le_refl _, h⟩
theorem onceD {b : List Int} {p : Int} (h : Cur b p) (s n : Int) : ∃ v p' s', spec_l1Once.f b p s n = some (v, p', s') ∧ Cur b p' := by
  obtain ⟨v, p', s', e, h0, h'⟩ := belowD0 h s n
  unfold spec_l1Once.f
  rw [e]
  exact ⟨_, _, _, rfl, h'⟩
theorem strD {b : List Int} {p : Int} (h : Cur b p) (s : Int) {l : List ByteArray} (hl : l ≠ []) : ∃ v p' s', spec_l1Str.f b p s l = some (v, p', s') ∧ v ∈ l ∧ Cur b p' := by
  have hpos : 0 < l.length := List.length_pos_iff.2 hl
  obtain ⟨v, p', s', e, h0, h1, h'⟩ := belowD h s (n := (l.length : Int)) (by omega)
  unfold spec_l1Str.f
  rw [e]
  simp only [Option.bind_some, if_pos h0, if_pos h1]
  refine ⟨_, _, _, rfl, ?_, h'⟩
  have hlt : v.toNat < l.length := by omega
  unfold rdOf
  rw [List.getD_eq_getElem?_getD, List.getElem?_eq_getElem hlt]
  exact List.getElem_mem hlt
theorem newD {l : List Int} (hl : l.length ≤ 1048576) : ∃ s, Ev (fun k => spec_l1New.f k l) (l, 0, s) := by
  have key : ∀ (suf pre : List Int) (x : Int), l = pre ++ suf → ∃ s, Ev (fun k => spec_l1New.l0 k l x pre.length) (l, 0, s) := by
    intro suf
    induction suf with
    | nil =>
      intro pre x h
      refine ⟨x, ?_⟩
      refine Ev.step (fun k => spec_l1New.l0.eq_2 ..) ?_
      simp only [if_neg (end_at h)]
      exact Ev.now _
    | cons a suf ih =>
      intro pre x h
      by_cases c : (pre.length : Int) < 4000
      · obtain ⟨s, hs⟩ := ih (pre ++ [a]) _ (snoc_at h)
        refine ⟨s, ?_⟩
        refine Ev.step (fun k => spec_l1New.l0.eq_2 ..) ?_
        simp only [if_pos (lt_at h), if_pos c, if_pos (nonneg_at _), next_at h (show l.length ≤ maxLen by rw [maxLen_eq]; omega)]
        exact hs
      · refine ⟨x, ?_⟩
        refine Ev.step (fun k => spec_l1New.l0.eq_2 ..) ?_
        simp only [if_pos (lt_at h), if_neg c]
        exact Ev.now _
  exact key l [] _ rfl
theorem cur0 {l : List Int} (hl : l.length ≤ 1048576) : Cur l 0 := ⟨Int.le_refl _, by omega, hl⟩
end Go.Proofs.Yteabkidfgdmmpaa.L

/- Draws of paths. No condition. -/
set_option linter.unusedSimpArgs false
set_option linter.unusedVariables false
namespace Go.Proofs.Yteabkidfgdmmpaa.L
open Go.RowKit Go.Proofs.YteabkidfgdmmpaaW.PrintWords Go.Proofs.YteabkidfgdmmpaaW.PrintLast Go.Proofs.Yteabkidfgdmmpaa.Q
theorem split_at {α : Type} {t : List α} {i : Int} (h0 : 0 ≤ i) (h1 : i < (t.length : Int)) : ∃ pre r suf, t = pre ++ r :: suf ∧ i = (pre.length : Int) := by
  have hj : i.toNat < t.length := by omega
  refine ⟨t.take i.toNat, t[i.toNat], t.drop (i.toNat + 1), ?_, ?_⟩
  · rw [List.getElem_cons_drop, List.take_append_drop]
  · rw [List.length_take]; omega
def SmP (n : Nat) (l : List ByteArray) : Prop := l.length ≤ n ∧ ∀ x ∈ l, x.size ≤ 1000
theorem SmP.sm {n : Nat} {l : List ByteArray} (h : SmP n l) (hn : n ≤ 1048576) : SmS l := ⟨Nat.le_trans h.1 hn, fun x hx => Nat.le_trans (h.2 x hx) (by omega)⟩
theorem mem_sz2 {v : ByteArray} {l : List ByteArray} (h : v ∈ l) (hl : l.all (fun x => decide (x.size ≤ 1000)) = true) : v.size ≤ 1000 := of_decide_eq_true (List.all_eq_true.1 hl v h)
theorem nameD {b : List Int} {p : Int} (h : Cur b p) (s : Int) : ∃ v p' s', spec_l2Name.f b p s = some (v, p', s') ∧ v.size ≤ 1000 ∧ Cur b p' := by
  unfold spec_l2Name.f
  obtain ⟨v, p1, s1, e, m, h1⟩ := strD h s (l := [(⟨#[97]⟩ : ByteArray), (⟨#[98]⟩ : ByteArray), (⟨#[99]⟩ : ByteArray), (⟨#[97, 32, 98]⟩ : ByteArray), (⟨#[120, 37, 121]⟩ : ByteArray), (⟨#[97]⟩ : ByteArray), (⟨#[98]⟩ : ByteArray)]) (by simp)
  simp only [e, Option.bind_some]
  exact ⟨_, _, _, rfl, mem_sz2 m (by decide), h1⟩
theorem l2DrawD {b : List Int} {p : Int} (h : Cur b p) (s : Int) : ∃ l p' s', Ev (fun k => spec_l2Draw.f k b p s) (l, p', s') ∧ SmP 3 l ∧ Cur b p' := by
  unfold spec_l2Draw.f
  obtain ⟨v, p1, s1, e, v0, v1, h1⟩ := belowD h s (n := 4) (by omega)
  simp only [e, Option.bind_some]
  have key : ∀ (n : Nat) (out : List ByteArray) (q t : Int), (out.length + n ≤ 3 ∧ ∀ x ∈ out, x.size ≤ 1000) → Cur b q → ∃ l p' s', Ev (fun k => spec_l2Draw.l0 k out (n : Int) b q t) (l, p', s') ∧ SmP 3 l ∧ Cur b p' := by
    intro n
    induction n with
    | zero =>
      intro out q t ho hq
      refine ⟨out, q, t, ?_, ⟨by omega, ho.2⟩, hq⟩
      refine Ev.step (fun k => spec_l2Draw.l0.eq_2 ..) ?_
      simp only [if_neg (show ¬ ((0 : Nat) : Int) > 0 by decide)]
      exact Ev.now _
    | succ n ih =>
      intro out q t ho hq
      obtain ⟨x, q1, t1, e, m, hq1⟩ := nameD hq t
      obtain ⟨l, q2, t2, he, hl, hq2⟩ := ih (out ++ [x]) q1 t1 ⟨by simp; omega, fun y hy => by
        rcases List.mem_append.1 hy with hy | hy
        · exact ho.2 y hy
        · simp at hy; subst hy; exact m⟩ hq1
      refine ⟨l, q2, t2, ?_, hl, hq2⟩
      refine Ev.step (fun k => spec_l2Draw.l0.eq_2 ..) ?_
      simp only [if_pos (show ((n + 1 : Nat) : Int) > 0 by omega), e, Option.bind_some, if_pos (show out.length < 8796093022208 by omega)]
      rw [show wrap64 (((n + 1 : Nat) : Int) - 1) = (n : Int) by rw [wrap_id (by omega) (by omega)]; omega]
      exact he
  obtain ⟨n, rfl⟩ := Int.eq_ofNat_of_zero_le v0
  exact key n [] p1 s1 ⟨by simp; omega, by simp⟩ h1
end Go.Proofs.Yteabkidfgdmmpaa.L

/- Texts byte by byte: plain texts, small names, as the program and the reference have them. No condition. -/
set_option linter.unusedSimpArgs false
set_option linter.unusedVariables false
namespace Go.Proofs.Yteabkidfgdmmpaa.L
open Go.RowKit Go.Proofs.YteabkidfgdmmpaaW.PrintWords Go.Proofs.YteabkidfgdmmpaaW.PrintLast Go.Proofs.Yteabkidfgdmmpaa.Q
abbrev bl (s : ByteArray) : List UInt8 := s.data.toList
theorem bl_len (s : ByteArray) : (bl s).length = s.size := data_length s
section
variable {s : ByteArray} {pre suf : List UInt8} {c : UInt8}
theorem blt_at (h : bl s = pre ++ c :: suf) : ((pre.length : Nat) : Int) < (s.size : Int) := by
  have := bl_len s
  rw [h] at this
  simp at this
  omega
theorem bend_at (h : bl s = pre ++ []) : ¬ ((pre.length : Nat) : Int) < (s.size : Int) := by
  have := bl_len s
  rw [h] at this
  simp at this
  omega
theorem bt_at' (h : bl s = pre ++ c :: suf) : bt s (pre.length : Int) = (c.toNat : Int) := by
  have hlt := blt_at h
  have h2 : pre.length < s.size := by omega
  rw [← bt_at s (pre.length : Int) (by simpa using h2)]
  have h3 : pre.length < (bl s).length := by rw [bl_len]; exact h2
  have h4 : (bl s)[pre.length] = c := by simp [h]
  have h5 : s[pre.length]'h2 = (bl s)[pre.length] := by
    show s.data[pre.length] = _
    simp
  simp only [Int.toNat_natCast, h5, h4]
theorem bnext_at (h : bl s = pre ++ c :: suf) (hs : s.size ≤ maxLen) : wrap64 ((pre.length : Int) + 1) = ((pre ++ [c]).length : Int) := by
  have := blt_at h
  rw [maxLen_eq] at hs
  rw [wrap_id (by omega) (by omega)]
  simp
end
theorem byte_bounds (c : UInt8) : 0 ≤ (c.toNat : Int) ∧ (c.toNat : Int) ≤ 255 := ⟨by omega, by have := c.toNat_lt; omega⟩
theorem wrap_byte (c : UInt8) : wrap64 (c.toNat : Int) = (c.toNat : Int) := wrap_id (by omega) (by have := byte_bounds c; omega)
def inB (lo hi : Int) (c : UInt8) : Bool := decide (lo ≤ (c.toNat : Int) ∧ (c.toNat : Int) ≤ hi)
theorem specIn (a b c : Int) : spec_l1In.f a b c = some (decide (b ≤ a ∧ a ≤ c)) := by
  unfold spec_l1In.f
  by_cases h : a ≥ b
  · rw [if_pos h]; simp [show b ≤ a from h]
  · rw [if_neg h]; simp [show ¬ b ≤ a from h]
theorem specSmall1 (c : UInt8) : spec_l1Small.f (c.toNat : Int) = some (inB 97 122 c) := by
  unfold spec_l1Small.f; rw [wrap_byte, specIn]; rfl
theorem specDigit1 (c : UInt8) : spec_l1Digit.f (c.toNat : Int) = some (inB 48 57 c) := by
  unfold spec_l1Digit.f; rw [wrap_byte, specIn]; rfl
def plainL (l : List UInt8) : Bool := l.all (inB 32 126)
theorem specPlain_loop {s : ByteArray} (hs : s.size ≤ maxLen) : ∀ (suf pre : List UInt8), bl s = pre ++ suf → Ev (fun k => spec_Plain.l0 k s pre.length) (plainL suf) := by
  intro suf
  induction suf with
  | nil =>
    intro pre h
    refine Ev.step (fun k => spec_Plain.l0.eq_2 ..) ?_
    simp only [if_neg (bend_at h)]
    exact Ev.now _
  | cons c suf ih =>
    intro pre h
    refine Ev.step (fun k => spec_Plain.l0.eq_2 ..) ?_
    simp only [if_pos (blt_at h), if_pos (nonneg_at _), bt_at' h, wrap_byte, specIn, Option.bind_some, bnext_at h hs]
    have := ih (pre ++ [c]) (snoc_at h)
    simp only [plainL, List.all_cons, inB] at this ⊢
    by_cases e : (32 : Int) ≤ c.toNat ∧ (c.toNat : Int) ≤ 126
    · simp only [e, and_self, decide_true, if_true, Bool.true_and]
      exact this
    · simp only [e, decide_false, Bool.false_eq_true, if_false, Bool.false_and]
      exact Ev.now _
theorem specPlain {s : ByteArray} (hs : s.size ≤ maxLen) : Ev (fun k => spec_Plain.f k s) (plainL (bl s)) := specPlain_loop hs _ [] rfl
def smallL : Bool → List UInt8 → Bool
  | _, [] => true
  | first, c :: l => (inB 97 122 c || (!first && (inB 48 57 c || decide (c = 45)))) && smallL false l
theorem eq45 (c : UInt8) : ((c.toNat : Int) = 45) = (c = 45) := by
  apply propext
  constructor
  · intro h
    apply UInt8.toNat_inj.1
    show c.toNat = 45
    omega
  · rintro rfl
    rfl
def smallName (s : ByteArray) : Bool := smallL true (bl s) && decide (1 ≤ (s.size : Int) ∧ (s.size : Int) ≤ 20)
theorem specSmall_loop {s : ByteArray} (hs : s.size ≤ maxLen) : ∀ (suf pre : List UInt8), bl s = pre ++ suf → Ev (fun k => spec_SmallName.l0 k s pre.length) (smallL (decide (pre = [])) suf && decide (1 ≤ (s.size : Int) ∧ (s.size : Int) ≤ 20)) := by
  intro suf
  induction suf with
  | nil =>
    intro pre h
    refine Ev.step (fun k => spec_SmallName.l0.eq_2 ..) ?_
    simp only [if_neg (bend_at h), specIn, Option.bind_some, smallL, Bool.true_and]
    exact Ev.now _
  | cons c suf ih =>
    intro pre h
    refine Ev.step (fun k => spec_SmallName.l0.eq_2 ..) ?_
    simp only [if_pos (blt_at h), if_pos (nonneg_at _), bt_at' h, specSmall1, specDigit1, Option.bind_some, bnext_at h hs, eq45]
    have := ih (pre ++ [c]) (snoc_at h)
    rw [show decide (pre ++ [c] = []) = false by simp] at this
    simp only [smallL]
    by_cases e : inB 97 122 c = true
    · simp only [e, if_true, Bool.true_or, Bool.true_and]
      exact this
    · simp only [e, Bool.false_eq_true, if_false, Bool.false_or]
      by_cases e0 : pre = []
      · subst e0
        simp only [List.length_nil, Int.natCast_zero, if_true, decide_true, Bool.not_true, Bool.false_and]
        exact Ev.now _
      · have hp : ¬ ((pre.length : Nat) : Int) = 0 := by
          intro h0
          exact e0 (List.eq_nil_of_length_eq_zero (by omega))
        simp only [if_neg hp, e0, decide_false, Bool.not_false, Bool.true_and]
        by_cases e1 : inB 48 57 c = true
        · simp only [e1, if_true, Bool.true_or, Bool.true_and]
          exact this
        · simp only [e1, Bool.false_eq_true, if_false, Bool.false_or]
          by_cases e2 : c = 45
          · simp only [e2, if_true, decide_true, Bool.true_and]
            subst e2
            exact this
          · simp only [e2, if_false, decide_false, Bool.false_and]
            exact Ev.now _
theorem specSmall {s : ByteArray} (hs : s.size ≤ maxLen) : Ev (fun k => spec_SmallName.f k s) (smallName s) := specSmall_loop hs _ [] rfl
end Go.Proofs.Yteabkidfgdmmpaa.L
