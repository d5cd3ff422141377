-- PRINTED by print.py (a twelfth state) out of the translation. Not trusted: Lean checks it.
import Derived.Test.YteabkidfgdmmpaaVFnTreesBentG33
import Derived.Deep.Slices
import Derived.WideShapes
import Derived.Laws.Strings
import Derived.Lib.Bytealg
namespace Go.Proofs.Yteabkidfgdmmpaa.Q
open Go.RowKit Go.Proofs.YteabkidfgdmmpaaW.PrintWords Go.Proofs.YteabkidfgdmmpaaW.PrintLast Go.Proofs.YteabkidfgdmmpaaW.PrintMore
attribute [local go_sem] max2_int min2_int max_two min_two max_three min_three max_four min_four   -- for this text's walks alone
set_option linter.unusedVariables false
set_option linter.unusedSimpArgs false
def laws_FnTreesBent.f (k : Nat) (l0 : List Int) : Option (Bool) := (laws_big.f l0).bind fun t1182 => (if t1182 = true then (some true) else ((spec_DrawTreeOk.f k l0).bind fun t1183 => ((spec_DrawFindRes.f k l0).bind fun bt1186 => ((spec_DrawPropsOk.f k l0).bind fun t1192 => ((spec_DrawLessPath.f k l0).bind fun bt1195 => ((spec_DrawAbove.f k l0).bind fun t1201 => ((impl_TreeOk.f k t1183).bind fun t1204 => ((spec_TreeOk.f k t1183).bind fun t1205 => (if (t1204 == t1205) = true then ((impl_FindRes.f k bt1186.1 bt1186.2).bind fun t1206 => ((spec_FindRes.f k bt1186.1 bt1186.2).bind fun t1207 => (if t1206 = t1207 then ((impl_IsColl.f k bt1186.1 bt1186.2).bind fun t1208 => ((spec_IsColl.f k bt1186.1 bt1186.2).bind fun t1209 => (if (t1208 == t1209) = true then ((impl_KidsOf.f k bt1186.1 bt1186.2).bind fun t1210 => ((spec_KidsOf.f k bt1186.1 bt1186.2).bind fun t1213 => ((laws_samePaths.f k t1210 t1213).bind fun t1216 => (if t1216 = true then ((impl_DeepOf.f k bt1186.1 bt1186.2).bind fun t1217 => ((spec_DeepOf.f k bt1186.1 bt1186.2).bind fun t1220 => ((laws_sameTree.f k t1217 t1220).bind fun t1223 => (if t1223 = true then ((impl_PropsOk.f k t1192).bind fun t1224 => ((spec_PropsOk.f k t1192).bind fun t1225 => (if (t1224 == t1225) = true then ((impl_LessPath.f k bt1195.1 bt1195.2).bind fun t1226 => ((spec_LessPath.f k bt1195.1 bt1195.2).bind fun t1227 => (if (t1226 == t1227) = true then ((impl_Above.f t1201).bind fun t1228 => ((spec_Above.f t1201).bind fun t1231 => ((laws_sameTexts.f k t1228 t1231).bind fun t1234 => (if t1234 = true then ((impl_LessPath.f k bt1195.1 bt1195.2).bind fun t1235 => (if t1235 = true then ((impl_LessPath.f k bt1195.2 bt1195.1).bind fun t1236 => (some (!t1236))) else (some (!false)))) else (none))))) else (none)))) else (none)))) else (none))))) else (none))))) else (none)))) else (none)))) else (none))))))))))
set_option maxHeartbeats 8000000 in
set_option maxRecDepth 100000 in
theorem laws_FnTreesBent.calls (k : Nat) (A0 : Option Addr) (c0 : Nat) (l0 : List Int) (r : Bool) (w : World) (hr0 : Kd.C (Kd.int .u8) w A0 l0.length l0) (hc0 : l0.length ≤ c0) (h : laws_FnTreesBent.f k l0 = some r) :
 Calls Try.prog 14 #[.slice A0 l0.length c0] w fun e w' => e = .returned (.bool r) ∧ Below w.heap.size w w' := by
 have HR0 := A_ hr0
 have HC0 := A_ hc0
 clear hr0 hc0
 have HB := A_ (Below.refl w.heap.size w)
 have H : ((laws_big.f l0).bind fun t1182 => (if t1182 = true then (some true) else ((spec_DrawTreeOk.f k l0).bind fun t1183 => ((spec_DrawFindRes.f k l0).bind fun bt1186 => ((spec_DrawPropsOk.f k l0).bind fun t1192 => ((spec_DrawLessPath.f k l0).bind fun bt1195 => ((spec_DrawAbove.f k l0).bind fun t1201 => ((impl_TreeOk.f k t1183).bind fun t1204 => ((spec_TreeOk.f k t1183).bind fun t1205 => (if (t1204 == t1205) = true then ((impl_FindRes.f k bt1186.1 bt1186.2).bind fun t1206 => ((spec_FindRes.f k bt1186.1 bt1186.2).bind fun t1207 => (if t1206 = t1207 then ((impl_IsColl.f k bt1186.1 bt1186.2).bind fun t1208 => ((spec_IsColl.f k bt1186.1 bt1186.2).bind fun t1209 => (if (t1208 == t1209) = true then ((impl_KidsOf.f k bt1186.1 bt1186.2).bind fun t1210 => ((spec_KidsOf.f k bt1186.1 bt1186.2).bind fun t1213 => ((laws_samePaths.f k t1210 t1213).bind fun t1216 => (if t1216 = true then ((impl_DeepOf.f k bt1186.1 bt1186.2).bind fun t1217 => ((spec_DeepOf.f k bt1186.1 bt1186.2).bind fun t1220 => ((laws_sameTree.f k t1217 t1220).bind fun t1223 => (if t1223 = true then ((impl_PropsOk.f k t1192).bind fun t1224 => ((spec_PropsOk.f k t1192).bind fun t1225 => (if (t1224 == t1225) = true then ((impl_LessPath.f k bt1195.1 bt1195.2).bind fun t1226 => ((spec_LessPath.f k bt1195.1 bt1195.2).bind fun t1227 => (if (t1226 == t1227) = true then ((impl_Above.f t1201).bind fun t1228 => ((spec_Above.f t1201).bind fun t1231 => ((laws_sameTexts.f k t1228 t1231).bind fun t1234 => (if t1234 = true then ((impl_LessPath.f k bt1195.1 bt1195.2).bind fun t1235 => (if t1235 = true then ((impl_LessPath.f k bt1195.2 bt1195.1).bind fun t1236 => (some (!t1236))) else (some (!false)))) else (none))))) else (none)))) else (none)))) else (none))))) else (none))))) else (none)))) else (none)))) else (none))))))))))) = some r := h
 clear h
 obtain ⟨t1182, A2, H⟩ := bo_ H
 (try dsimp only at H)
 by_cases c3 : t1182 = true
 · subst c3
   rw [if_pos rfl] at H
   obtain rfl := si_ H
   go_enter Try.func14, Try.ntmps14
   go_wp2_with (first | ((with_reducible refine gc_ (f := 51) rfl ?_); refine gL_ (some 11) Try.func51 #[.slice A0 l0.length c0] ?_; (with_reducible refine (laws_big.calls _ _ l0 true _ ?s1 ?s2 A2.out).mono ?_); (case s1 => exact cC_ HR0.out); (case s2 => exact HC0.out); rintro e w' ⟨rfl, ⟨nd, rfl⟩⟩; refine ⟨_, rfl, ?_⟩))
   go_ret
   exact ⟨rr_, bB_⟩
 · replace c3 := Bool.eq_false_iff.mpr c3
   subst c3
   rw [if_neg nf_] at H
   obtain ⟨t1183, A4, H⟩ := bo_ H
   (try dsimp only at H)
   obtain ⟨⟨t1186, t1187⟩, A5, H⟩ := bo_ H
   (try dsimp only at H)
   obtain ⟨t1192, A6, H⟩ := bo_ H
   (try dsimp only at H)
   obtain ⟨⟨t1195, t1196⟩, A7, H⟩ := bo_ H
   (try dsimp only at H)
   obtain ⟨t1201, A8, H⟩ := bo_ H
   (try dsimp only at H)
   obtain ⟨t1204, A9, H⟩ := bo_ H
   (try dsimp only at H)
   obtain ⟨t1205, A10, H⟩ := bo_ H
   (try dsimp only at H)
   by_cases c11 : (t1204 == t1205) = true
   rotate_left
   · exact absurd H (by rw [if_neg c11]; simp)
   rw [if_pos c11] at H
   have c11b0 : (t1204 == t1205) = true := c11
   (try (have c11b1 : decide (t1204 = t1205) = true := by simpa using c11))
   (try (have c11b2 : (t1204 == t1205) = true := by simpa using c11))
   clear c11
   obtain ⟨t1206, A12, H⟩ := bo_ H
   (try dsimp only at H)
   obtain ⟨t1207, A13, H⟩ := bo_ H
   (try dsimp only at H)
   by_cases c14 : t1206 = t1207
   rotate_left
   · exact absurd H (by rw [if_neg c14]; simp)
   rw [if_pos c14] at H
   have c14b0 : (t1206 == t1207) = true := beq_iff_eq.mpr c14
   have c14b1 : (t1206 != t1207) = false := bne_eq_false_iff_eq.mpr c14
   clear c14
   obtain ⟨t1208, A15, H⟩ := bo_ H
   (try dsimp only at H)
   obtain ⟨t1209, A16, H⟩ := bo_ H
   (try dsimp only at H)
   by_cases c17 : (t1208 == t1209) = true
   rotate_left
   · exact absurd H (by rw [if_neg c17]; simp)
   rw [if_pos c17] at H
   have c17b0 : (t1208 == t1209) = true := c17
   (try (have c17b1 : decide (t1208 = t1209) = true := by simpa using c17))
   (try (have c17b2 : (t1208 == t1209) = true := by simpa using c17))
   clear c17
   obtain ⟨t1210, A18, H⟩ := bo_ H
   (try dsimp only at H)
   obtain ⟨t1213, A19, H⟩ := bo_ H
   (try dsimp only at H)
   obtain ⟨t1216, A20, H⟩ := bo_ H
   (try dsimp only at H)
   by_cases c21 : t1216 = true
   · subst c21
     rw [if_pos rfl] at H
     obtain ⟨t1217, A22, H⟩ := bo_ H
     (try dsimp only at H)
     obtain ⟨t1220, A23, H⟩ := bo_ H
     (try dsimp only at H)
     obtain ⟨t1223, A24, H⟩ := bo_ H
     (try dsimp only at H)
     by_cases c25 : t1223 = true
     · subst c25
       rw [if_pos rfl] at H
       obtain ⟨t1224, A26, H⟩ := bo_ H
       (try dsimp only at H)
       obtain ⟨t1225, A27, H⟩ := bo_ H
       (try dsimp only at H)
       by_cases c28 : (t1224 == t1225) = true
       rotate_left
       · exact absurd H (by rw [if_neg c28]; simp)
       rw [if_pos c28] at H
       have c28b0 : (t1224 == t1225) = true := c28
       (try (have c28b1 : decide (t1224 = t1225) = true := by simpa using c28))
       (try (have c28b2 : (t1224 == t1225) = true := by simpa using c28))
       clear c28
       obtain ⟨t1226, A29, H⟩ := bo_ H
       (try dsimp only at H)
       obtain ⟨t1227, A30, H⟩ := bo_ H
       (try dsimp only at H)
       by_cases c31 : (t1226 == t1227) = true
       rotate_left
       · exact absurd H (by rw [if_neg c31]; simp)
       rw [if_pos c31] at H
       have c31b0 : (t1226 == t1227) = true := c31
       (try (have c31b1 : decide (t1226 = t1227) = true := by simpa using c31))
       (try (have c31b2 : (t1226 == t1227) = true := by simpa using c31))
       clear c31
       obtain ⟨t1228, A32, H⟩ := bo_ H
       (try dsimp only at H)
       obtain ⟨t1231, A33, H⟩ := bo_ H
       (try dsimp only at H)
       obtain ⟨t1234, A34, H⟩ := bo_ H
       (try dsimp only at H)
       by_cases c35 : t1234 = true
       · subst c35
         rw [if_pos rfl] at H
         obtain ⟨t1235, A36, H⟩ := bo_ H
         (try dsimp only at H)
         have Hn_ := H
         obtain rfl : t1235 = t1226 := Option.some.inj (A36.out.symm.trans A29.out)   -- two answers are one
         have H := Hn_
         clear Hn_
         by_cases c37 : t1235 = true
         · subst c37
           rw [if_pos rfl] at H
           obtain ⟨t1236, A38, H⟩ := bo_ H
           (try dsimp only at H)
           obtain rfl := si_ H
           go_enter Try.func14, Try.ntmps14
           go_wp2_with (first | ((with_reducible refine gc_ (f := 51) rfl ?_); refine gL_ (some 11) Try.func51 #[.slice A0 l0.length c0] ?_; (with_reducible refine (laws_big.calls _ _ l0 false _ ?s1 ?s2 A2.out).mono ?_); (case s1 => exact cC_ HR0.out); (case s2 => exact HC0.out); rintro e w' ⟨rfl, ⟨nd, rfl⟩⟩; refine ⟨_, rfl, ?_⟩) | ((with_reducible refine gc_ (f := 54) rfl ?_); refine gL_ (some 13) Try.func54 #[.slice A0 l0.length c0] ?_; (with_reducible refine (spec_DrawTreeOk.calls k _ _ l0 t1183 _ ?s1 ?s2 A4.out).mono ?_); (case s1 => exact cC_ HR0.out); (case s2 => exact HC0.out); rintro e w39 ⟨v1184, rfl, ho0, hb⟩; refine ⟨_, rfl, ?_⟩; have HO1185 := A_ (Kd.S_lower ho0 (below_size bB_)); replace HB := A_ (below_step bB_ hb); (try clear hb); (try clear ho0)) | ((with_reducible refine gc_ (f := 55) rfl ?_); refine gL_ (some 16) Try.func55 #[.slice A0 l0.length c0] ?_; (with_reducible refine (spec_DrawFindRes.calls k _ _ l0 t1186 t1187 _ ?s1 ?s2 A5.out).mono ?_); (case s1 => exact cC_ (Kd.C_below HR0.out HB.out)); (case s2 => exact HC0.out); rintro e w40 ⟨v1188, v1190, rfl, ho0, ho1, hb⟩; refine ⟨_, rfl, ?_⟩; have HO1189 := A_ (Kd.S_lower (Kd.S_new' ho0 (Kd.S_lt (vS_ HO1185.out))) (below_size bB_)); replace HO1185 := A_ (Kd.S_mono (Kd.S_told (Kd.S_told (Kd.S_old (vS_ HO1185.out) hb) (kb_ ho0)) (kb_ ho1)) (fun _ h_ => h_.1)); have HO1191 := A_ (Kd.R_lower ho1 (below_size bB_)); replace HB := A_ (below_step bB_ hb); (try clear hb); (try clear ho0); (try clear ho1)) | ((with_reducible refine gc_ (f := 56) rfl ?_); refine gL_ (some 20) Try.func56 #[.slice A0 l0.length c0] ?_; (with_reducible refine (spec_DrawPropsOk.calls k _ _ l0 t1192 _ ?s1 ?s2 A6.out).mono ?_); (case s1 => exact cC_ (Kd.C_below HR0.out HB.out)); (case s2 => exact HC0.out); rintro e w41 ⟨v1193, rfl, ho0, hb⟩; refine ⟨_, rfl, ?_⟩; replace HO1185 := A_ (Kd.S_elder' (vS_ HO1185.out) (kb_ ho0) hb); replace HO1189 := A_ (Kd.S_elder' (vS_ HO1189.out) (kb_ ho0) hb); replace HO1191 := A_ (Kd.R_below (vR_ HO1191.out) hb); have HO1194 := A_ (Kd.R_lower ho0 (below_size bB_)); replace HB := A_ (below_step bB_ hb); (try clear hb); (try clear ho0)) | ((with_reducible refine gc_ (f := 57) rfl ?_); refine gL_ (some 23) Try.func57 #[.slice A0 l0.length c0] ?_; (with_reducible refine (spec_DrawLessPath.calls k _ _ l0 t1195 t1196 _ ?s1 ?s2 A7.out).mono ?_); (case s1 => exact cC_ (Kd.C_below HR0.out HB.out)); (case s2 => exact HC0.out); rintro e w42 ⟨v1197, v1199, rfl, ho0, ho1, hb⟩; refine ⟨_, rfl, ?_⟩; replace HO1185 := A_ (Kd.S_mono (Kd.S_told (Kd.S_told (Kd.S_old (vS_ HO1185.out) hb) (kb_ ho0)) (kb_ ho1)) (fun _ h_ => h_.1)); replace HO1189 := A_ (Kd.S_mono (Kd.S_told (Kd.S_told (Kd.S_old (vS_ HO1189.out) hb) (kb_ ho0)) (kb_ ho1)) (fun _ h_ => h_.1)); replace HO1194 := A_ (Kd.R_below (vR_ HO1194.out) hb); have HO1198 := A_ (Kd.R_lower (Kd.R_new' ho0 (Kd.R_lt (vR_ HO1191.out))) (below_size bB_)); have HO1200 := A_ (Kd.R_lower (Kd.R_new' ho1 (Kd.R_lt (vR_ HO1191.out))) (below_size bB_)); replace HO1191 := A_ (Kd.R_mono (Kd.R_told (Kd.R_told (Kd.R_old (vR_ HO1191.out) hb) (kb_ ho0)) (kb_ ho1)) (fun _ h_ => h_.1)); replace HB := A_ (below_step bB_ hb); (try clear hb); (try clear ho0); (try clear ho1)) | ((with_reducible refine gc_ (f := 58) rfl ?_); refine gL_ (some 27) Try.func58 #[.slice A0 l0.length c0] ?_; (with_reducible refine (spec_DrawAbove.calls k _ _ l0 t1201 _ ?s1 ?s2 A8.out).mono ?_); (case s1 => exact cC_ (Kd.C_below HR0.out HB.out)); (case s2 => exact HC0.out); rintro e w43 ⟨v1202, rfl, ho0, hb⟩; refine ⟨_, rfl, ?_⟩; replace HO1185 := A_ (Kd.S_elder' (vS_ HO1185.out) (kb_ ho0) hb); replace HO1189 := A_ (Kd.S_elder' (vS_ HO1189.out) (kb_ ho0) hb); replace HO1194 := A_ (Kd.R_below (vR_ HO1194.out) hb); have HO1203 := A_ (Kd.R_lower (Kd.R_new' (Kd.R_new' (Kd.R_new' ho0 (Kd.R_lt (vR_ HO1191.out))) (Kd.R_lt (vR_ HO1198.out))) (Kd.R_lt (vR_ HO1200.out))) (below_size bB_)); replace HO1191 := A_ (Kd.R_elder' (vR_ HO1191.out) (kb_ ho0) hb); replace HO1198 := A_ (Kd.R_elder' (vR_ HO1198.out) (kb_ ho0) hb); replace HO1200 := A_ (Kd.R_elder' (vR_ HO1200.out) (kb_ ho0) hb); replace HB := A_ (below_step bB_ hb); (try clear hb); (try clear ho0); obtain ⟨Ao44, co44, eo44⟩ := Kd.S_slice HO1185.out; subst eo44) | (go_at_call 50; (with_reducible refine (impl_TreeOk.calls k _ _ t1183 t1204 _ ?s1 ?s2 A9.out).mono ?_); (case s1 => exact cC_ (Kd.S_reads' HO1185.out).2.2); (case s2 => exact (Kd.S_reads' HO1185.out).2.1); rintro e w45 ⟨rfl, hb⟩; replace HO1185 := A_ (Kd.S_below (vS_ HO1185.out) hb); replace HO1189 := A_ (Kd.S_below (vS_ HO1189.out) hb); replace HO1191 := A_ (Kd.R_below (vR_ HO1191.out) hb); replace HO1194 := A_ (Kd.R_below (vR_ HO1194.out) hb); replace HO1198 := A_ (Kd.R_below (vR_ HO1198.out) hb); replace HO1200 := A_ (Kd.R_below (vR_ HO1200.out) hb); replace HO1203 := A_ (Kd.R_below (vR_ HO1203.out) hb); replace HB := A_ (below_step bB_ hb); (try clear hb)) | (go_at_call 49; (with_reducible refine (spec_TreeOk.calls k _ _ t1183 t1205 _ ?s1 ?s2 A10.out).mono ?_); (case s1 => exact cC_ (Kd.S_reads' HO1185.out).2.2); (case s2 => exact (Kd.S_reads' HO1185.out).2.1); rintro e w46 ⟨rfl, hb⟩; replace HO1185 := A_ (Kd.S_below (vS_ HO1185.out) hb); replace HO1189 := A_ (Kd.S_below (vS_ HO1189.out) hb); replace HO1191 := A_ (Kd.R_below (vR_ HO1191.out) hb); replace HO1194 := A_ (Kd.R_below (vR_ HO1194.out) hb); replace HO1198 := A_ (Kd.R_below (vR_ HO1198.out) hb); replace HO1200 := A_ (Kd.R_below (vR_ HO1200.out) hb); replace HO1203 := A_ (Kd.R_below (vR_ HO1203.out) hb); replace HB := A_ (below_step bB_ hb); (try clear hb); obtain ⟨Ao47, co47, eo47⟩ := Kd.S_slice HO1189.out; subst eo47; obtain ⟨Ao48, co48, eo48⟩ := Kd.R_slice HO1191.out; subst eo48) | (go_at_call 37; (with_reducible refine (impl_FindRes.calls k _ _ t1186 _ _ t1187 t1206 _ ?s1 ?s2 ?s3 ?s4 A12.out).mono ?_); (case s1 => exact cC_ (Kd.S_reads' HO1189.out).2.2); (case s2 => exact (Kd.S_reads' HO1189.out).2.1); (case s3 => exact cC_ (Kd.R_reads' HO1191.out).2.2); (case s4 => exact (Kd.R_reads' HO1191.out).2.1); rintro e w49 ⟨rfl, hb⟩; replace HO1185 := A_ (Kd.S_below (vS_ HO1185.out) hb); replace HO1189 := A_ (Kd.S_below (vS_ HO1189.out) hb); replace HO1191 := A_ (Kd.R_below (vR_ HO1191.out) hb); replace HO1194 := A_ (Kd.R_below (vR_ HO1194.out) hb); replace HO1198 := A_ (Kd.R_below (vR_ HO1198.out) hb); replace HO1200 := A_ (Kd.R_below (vR_ HO1200.out) hb); replace HO1203 := A_ (Kd.R_below (vR_ HO1203.out) hb); replace HB := A_ (below_step bB_ hb); (try clear hb)) | (go_at_call 36; (with_reducible refine (spec_FindRes.calls k _ _ t1186 _ _ t1187 t1207 _ ?s1 ?s2 ?s3 ?s4 A13.out).mono ?_); (case s1 => exact cC_ (Kd.S_reads' HO1189.out).2.2); (case s2 => exact (Kd.S_reads' HO1189.out).2.1); (case s3 => exact cC_ (Kd.R_reads' HO1191.out).2.2); (case s4 => exact (Kd.R_reads' HO1191.out).2.1); rintro e w' ⟨rfl, ⟨nd, rfl⟩⟩) | (go_at_call 39; (with_reducible refine (impl_IsColl.calls k _ _ t1186 _ _ t1187 t1208 _ ?s1 ?s2 ?s3 ?s4 A15.out).mono ?_); (case s1 => exact cC_ (Kd.S_reads' HO1189.out).2.2); (case s2 => exact (Kd.S_reads' HO1189.out).2.1); (case s3 => exact cC_ (Kd.R_reads' HO1191.out).2.2); (case s4 => exact (Kd.R_reads' HO1191.out).2.1); rintro e w50 ⟨rfl, hb⟩; replace HO1185 := A_ (Kd.S_below (vS_ HO1185.out) hb); replace HO1189 := A_ (Kd.S_below (vS_ HO1189.out) hb); replace HO1191 := A_ (Kd.R_below (vR_ HO1191.out) hb); replace HO1194 := A_ (Kd.R_below (vR_ HO1194.out) hb); replace HO1198 := A_ (Kd.R_below (vR_ HO1198.out) hb); replace HO1200 := A_ (Kd.R_below (vR_ HO1200.out) hb); replace HO1203 := A_ (Kd.R_below (vR_ HO1203.out) hb); replace HB := A_ (below_step bB_ hb); (try clear hb)) | (go_at_call 38; (with_reducible refine (spec_IsColl.calls k _ _ t1186 _ _ t1187 t1209 _ ?s1 ?s2 ?s3 ?s4 A16.out).mono ?_); (case s1 => exact cC_ (Kd.S_reads' HO1189.out).2.2); (case s2 => exact (Kd.S_reads' HO1189.out).2.1); (case s3 => exact cC_ (Kd.R_reads' HO1191.out).2.2); (case s4 => exact (Kd.R_reads' HO1191.out).2.1); rintro e w' ⟨rfl, ⟨nd, rfl⟩⟩) | (go_at_call 41; (with_reducible refine (impl_KidsOf.calls k _ _ t1186 _ _ t1187 t1210 _ ?s1 ?s2 ?s3 ?s4 A18.out).mono ?_); (case s1 => exact cC_ (Kd.S_reads' HO1189.out).2.2); (case s2 => exact (Kd.S_reads' HO1189.out).2.1); (case s3 => exact cC_ (Kd.R_reads' HO1191.out).2.2); (case s4 => exact (Kd.R_reads' HO1191.out).2.1); rintro e w51 ⟨v1211, rfl, ho0, hb⟩; replace HO1185 := A_ (Kd.S_below (vS_ HO1185.out) hb); replace HO1189 := A_ (Kd.S_below (vS_ HO1189.out) hb); replace HO1194 := A_ (Kd.R_below (vR_ HO1194.out) hb); have HO1212 := A_ (Kd.S_lower (Kd.S_new' (Kd.S_new' (Kd.S_new' (Kd.S_new' ho0 (Kd.R_lt (vR_ HO1191.out))) (Kd.R_lt (vR_ HO1198.out))) (Kd.R_lt (vR_ HO1200.out))) (Kd.R_lt (vR_ HO1203.out))) (below_size bB_)); replace HO1191 := A_ (Kd.R_below (vR_ HO1191.out) hb); replace HO1198 := A_ (Kd.R_below (vR_ HO1198.out) hb); replace HO1200 := A_ (Kd.R_below (vR_ HO1200.out) hb); replace HO1203 := A_ (Kd.R_below (vR_ HO1203.out) hb); replace HB := A_ (below_step bB_ hb); (try clear hb); (try clear ho0)) | (go_at_call 40; (with_reducible refine (spec_KidsOf.calls k _ _ t1186 _ _ t1187 t1213 _ ?s1 ?s2 ?s3 ?s4 A19.out).mono ?_); (case s1 => exact cC_ (Kd.S_reads' HO1189.out).2.2); (case s2 => exact (Kd.S_reads' HO1189.out).2.1); (case s3 => exact cC_ (Kd.R_reads' HO1191.out).2.2); (case s4 => exact (Kd.R_reads' HO1191.out).2.1); rintro e w52 ⟨v1214, rfl, ho0, hb⟩; replace HO1185 := A_ (Kd.S_below (vS_ HO1185.out) hb); replace HO1189 := A_ (Kd.S_below (vS_ HO1189.out) hb); replace HO1194 := A_ (Kd.R_below (vR_ HO1194.out) hb); have HO1215 := A_ (Kd.S_lower (Kd.S_new' (Kd.S_new' (Kd.S_new' (Kd.S_new' (Kd.S_new' ho0 (Kd.R_lt (vR_ HO1191.out))) (Kd.R_lt (vR_ HO1198.out))) (Kd.R_lt (vR_ HO1200.out))) (Kd.R_lt (vR_ HO1203.out))) (Kd.S_lt (vS_ HO1212.out))) (below_size bB_)); replace HO1191 := A_ (Kd.R_below (vR_ HO1191.out) hb); replace HO1198 := A_ (Kd.R_below (vR_ HO1198.out) hb); replace HO1200 := A_ (Kd.R_below (vR_ HO1200.out) hb); replace HO1203 := A_ (Kd.R_below (vR_ HO1203.out) hb); replace HO1212 := A_ (Kd.S_elder' (vS_ HO1212.out) (kb_ ho0) hb); replace HB := A_ (below_step bB_ hb); (try clear hb); (try clear ho0); obtain ⟨Ao53, co53, eo53⟩ := Kd.S_slice HO1212.out; subst eo53; obtain ⟨Ao54, co54, eo54⟩ := Kd.S_slice HO1215.out; subst eo54) | (go_at_call 59; (with_reducible refine (laws_samePaths.calls k _ _ t1210 _ _ t1213 true _ ?s1 ?s2 ?s3 ?s4 A20.out).mono ?_); (case s1 => exact cC_ (Kd.S_reads' HO1212.out).2.2); (case s2 => exact (Kd.S_reads' HO1212.out).2.1); (case s3 => exact cC_ (Kd.S_reads' HO1215.out).2.2); (case s4 => exact (Kd.S_reads' HO1215.out).2.1); rintro e w' ⟨rfl, ⟨nd, rfl⟩⟩) | (go_at_call 47; (with_reducible refine (impl_DeepOf.calls k _ _ t1186 _ _ t1187 t1217 _ ?s1 ?s2 ?s3 ?s4 A22.out).mono ?_); (case s1 => exact cC_ (Kd.S_reads' HO1189.out).2.2); (case s2 => exact (Kd.S_reads' HO1189.out).2.1); (case s3 => exact cC_ (Kd.R_reads' HO1191.out).2.2); (case s4 => exact (Kd.R_reads' HO1191.out).2.1); rintro e w55 ⟨v1218, rfl, ho0, hb⟩; replace HO1212 := A_ (Kd.S_below (vS_ HO1212.out) hb); replace HO1215 := A_ (Kd.S_below (vS_ HO1215.out) hb); have HO1219 := A_ (Kd.S_lower (Kd.S_new' (Kd.S_new' (Kd.S_new' (Kd.S_new' (Kd.S_new' (Kd.S_new' (Kd.S_new' ho0 (Kd.S_lt (vS_ HO1185.out))) (Kd.S_lt (vS_ HO1189.out))) (Kd.R_lt (vR_ HO1191.out))) (Kd.R_lt (vR_ HO1194.out))) (Kd.R_lt (vR_ HO1198.out))) (Kd.R_lt (vR_ HO1200.out))) (Kd.R_lt (vR_ HO1203.out))) (below_size bB_)); replace HO1185 := A_ (Kd.S_elder' (vS_ HO1185.out) (kb_ ho0) hb); replace HO1189 := A_ (Kd.S_elder' (vS_ HO1189.out) (kb_ ho0) hb); replace HO1191 := A_ (Kd.R_below (vR_ HO1191.out) hb); replace HO1194 := A_ (Kd.R_below (vR_ HO1194.out) hb); replace HO1198 := A_ (Kd.R_below (vR_ HO1198.out) hb); replace HO1200 := A_ (Kd.R_below (vR_ HO1200.out) hb); replace HO1203 := A_ (Kd.R_below (vR_ HO1203.out) hb); replace HB := A_ (below_step bB_ hb); (try clear hb); (try clear ho0)) | (go_at_call 46; (with_reducible refine (spec_DeepOf.calls k _ _ t1186 _ _ t1187 t1220 _ ?s1 ?s2 ?s3 ?s4 A23.out).mono ?_); (case s1 => exact cC_ (Kd.S_reads' HO1189.out).2.2); (case s2 => exact (Kd.S_reads' HO1189.out).2.1); (case s3 => exact cC_ (Kd.R_reads' HO1191.out).2.2); (case s4 => exact (Kd.R_reads' HO1191.out).2.1); rintro e w56 ⟨v1221, rfl, ho0, hb⟩; replace HO1212 := A_ (Kd.S_below (vS_ HO1212.out) hb); replace HO1215 := A_ (Kd.S_below (vS_ HO1215.out) hb); have HO1222 := A_ (Kd.S_lower (Kd.S_new' (Kd.S_new' (Kd.S_new' (Kd.S_new' (Kd.S_new' (Kd.S_new' (Kd.S_new' (Kd.S_new' ho0 (Kd.S_lt (vS_ HO1185.out))) (Kd.S_lt (vS_ HO1189.out))) (Kd.R_lt (vR_ HO1191.out))) (Kd.R_lt (vR_ HO1194.out))) (Kd.R_lt (vR_ HO1198.out))) (Kd.R_lt (vR_ HO1200.out))) (Kd.R_lt (vR_ HO1203.out))) (Kd.S_lt (vS_ HO1219.out))) (below_size bB_)); replace HO1185 := A_ (Kd.S_elder' (vS_ HO1185.out) (kb_ ho0) hb); replace HO1189 := A_ (Kd.S_elder' (vS_ HO1189.out) (kb_ ho0) hb); replace HO1191 := A_ (Kd.R_below (vR_ HO1191.out) hb); replace HO1194 := A_ (Kd.R_below (vR_ HO1194.out) hb); replace HO1198 := A_ (Kd.R_below (vR_ HO1198.out) hb); replace HO1200 := A_ (Kd.R_below (vR_ HO1200.out) hb); replace HO1203 := A_ (Kd.R_below (vR_ HO1203.out) hb); replace HO1219 := A_ (Kd.S_elder' (vS_ HO1219.out) (kb_ ho0) hb); replace HB := A_ (below_step bB_ hb); (try clear hb); (try clear ho0); obtain ⟨Ao57, co57, eo57⟩ := Kd.S_slice HO1219.out; subst eo57; obtain ⟨Ao58, co58, eo58⟩ := Kd.S_slice HO1222.out; subst eo58) | (go_at_call 60; (with_reducible refine (laws_sameTree.calls k _ _ t1217 _ _ t1220 true _ ?s1 ?s2 ?s3 ?s4 A24.out).mono ?_); (case s1 => exact cC_ (Kd.S_reads' HO1219.out).2.2); (case s2 => exact (Kd.S_reads' HO1219.out).2.1); (case s3 => exact cC_ (Kd.S_reads' HO1222.out).2.2); (case s4 => exact (Kd.S_reads' HO1222.out).2.1); rintro e w59 ⟨rfl, hb⟩; replace HO1185 := A_ (Kd.S_below (vS_ HO1185.out) hb); replace HO1189 := A_ (Kd.S_below (vS_ HO1189.out) hb); replace HO1191 := A_ (Kd.R_below (vR_ HO1191.out) hb); replace HO1194 := A_ (Kd.R_below (vR_ HO1194.out) hb); replace HO1198 := A_ (Kd.R_below (vR_ HO1198.out) hb); replace HO1200 := A_ (Kd.R_below (vR_ HO1200.out) hb); replace HO1203 := A_ (Kd.R_below (vR_ HO1203.out) hb); replace HO1212 := A_ (Kd.S_below (vS_ HO1212.out) hb); replace HO1215 := A_ (Kd.S_below (vS_ HO1215.out) hb); replace HO1219 := A_ (Kd.S_below (vS_ HO1219.out) hb); replace HO1222 := A_ (Kd.S_below (vS_ HO1222.out) hb); replace HB := A_ (below_step bB_ hb); (try clear hb); obtain ⟨Ao60, co60, eo60⟩ := Kd.R_slice HO1194.out; subst eo60) | (go_at_call 30; (with_reducible refine (impl_PropsOk.calls k _ _ t1192 t1224 _ ?s1 ?s2 A26.out).mono ?_); (case s1 => exact cC_ (Kd.R_reads' HO1194.out).2.2); (case s2 => exact (Kd.R_reads' HO1194.out).2.1); rintro e w61 ⟨rfl, hb⟩; replace HO1185 := A_ (Kd.S_below (vS_ HO1185.out) hb); replace HO1189 := A_ (Kd.S_below (vS_ HO1189.out) hb); replace HO1191 := A_ (Kd.R_below (vR_ HO1191.out) hb); replace HO1194 := A_ (Kd.R_below (vR_ HO1194.out) hb); replace HO1198 := A_ (Kd.R_below (vR_ HO1198.out) hb); replace HO1200 := A_ (Kd.R_below (vR_ HO1200.out) hb); replace HO1203 := A_ (Kd.R_below (vR_ HO1203.out) hb); replace HO1212 := A_ (Kd.S_below (vS_ HO1212.out) hb); replace HO1215 := A_ (Kd.S_below (vS_ HO1215.out) hb); replace HO1219 := A_ (Kd.S_below (vS_ HO1219.out) hb); replace HO1222 := A_ (Kd.S_below (vS_ HO1222.out) hb); replace HB := A_ (below_step bB_ hb); (try clear hb)) | (go_at_call 29; (with_reducible refine (spec_PropsOk.calls k _ _ t1192 t1225 _ ?s1 ?s2 A27.out).mono ?_); (case s1 => exact cC_ (Kd.R_reads' HO1194.out).2.2); (case s2 => exact (Kd.R_reads' HO1194.out).2.1); rintro e w62 ⟨rfl, hb⟩; replace HO1185 := A_ (Kd.S_below (vS_ HO1185.out) hb); replace HO1189 := A_ (Kd.S_below (vS_ HO1189.out) hb); replace HO1191 := A_ (Kd.R_below (vR_ HO1191.out) hb); replace HO1194 := A_ (Kd.R_below (vR_ HO1194.out) hb); replace HO1198 := A_ (Kd.R_below (vR_ HO1198.out) hb); replace HO1200 := A_ (Kd.R_below (vR_ HO1200.out) hb); replace HO1203 := A_ (Kd.R_below (vR_ HO1203.out) hb); replace HO1212 := A_ (Kd.S_below (vS_ HO1212.out) hb); replace HO1215 := A_ (Kd.S_below (vS_ HO1215.out) hb); replace HO1219 := A_ (Kd.S_below (vS_ HO1219.out) hb); replace HO1222 := A_ (Kd.S_below (vS_ HO1222.out) hb); replace HB := A_ (below_step bB_ hb); (try clear hb); obtain ⟨Ao63, co63, eo63⟩ := Kd.R_slice HO1198.out; subst eo63; obtain ⟨Ao64, co64, eo64⟩ := Kd.R_slice HO1200.out; subst eo64) | (go_at_call 18; (with_reducible refine (impl_LessPath.calls k _ _ t1195 _ _ t1196 _ _ ?s1 ?s2 ?s3 ?s4 A29.out).mono ?_); (case s1 => exact cC_ (Kd.R_reads' HO1198.out).2.2); (case s2 => exact (Kd.R_reads' HO1198.out).2.1); (case s3 => exact cC_ (Kd.R_reads' HO1200.out).2.2); (case s4 => exact (Kd.R_reads' HO1200.out).2.1); rintro e w' ⟨rfl, ⟨nd, rfl⟩⟩) | (go_at_call 16; (with_reducible refine (spec_LessPath.calls k _ _ t1195 _ _ t1196 t1227 _ ?s1 ?s2 ?s3 ?s4 A30.out).mono ?_); (case s1 => exact cC_ (Kd.R_reads' HO1198.out).2.2); (case s2 => exact (Kd.R_reads' HO1198.out).2.1); (case s3 => exact cC_ (Kd.R_reads' HO1200.out).2.2); (case s4 => exact (Kd.R_reads' HO1200.out).2.1); rintro e w' ⟨rfl, ⟨nd, rfl⟩⟩; obtain ⟨Ao65, co65, eo65⟩ := Kd.R_slice HO1203.out; subst eo65) | (go_at_call 21; (with_reducible refine (impl_Above.calls _ _ t1201 t1228 _ ?s1 ?s2 A32.out).mono ?_); (case s1 => exact cC_ (Kd.R_reads' HO1203.out).2.2); (case s2 => exact (Kd.R_reads' HO1203.out).2.1); rintro e w66 ⟨v1229, rfl, ho0, hb⟩; replace HO1185 := A_ (Kd.S_elder' (vS_ HO1185.out) (kb_ ho0) hb); replace HO1189 := A_ (Kd.S_elder' (vS_ HO1189.out) (kb_ ho0) hb); replace HO1194 := A_ (Kd.R_below (vR_ HO1194.out) hb); replace HO1212 := A_ (Kd.S_elder' (vS_ HO1212.out) (kb_ ho0) hb); replace HO1215 := A_ (Kd.S_elder' (vS_ HO1215.out) (kb_ ho0) hb); replace HO1219 := A_ (Kd.S_elder' (vS_ HO1219.out) (kb_ ho0) hb); replace HO1222 := A_ (Kd.S_elder' (vS_ HO1222.out) (kb_ ho0) hb); have HO1230 := A_ (Kd.R_lower (Kd.R_new' (Kd.R_new' (Kd.R_new' (Kd.R_new' ho0 (Kd.R_lt (vR_ HO1191.out))) (Kd.R_lt (vR_ HO1198.out))) (Kd.R_lt (vR_ HO1200.out))) (Kd.R_lt (vR_ HO1203.out))) (below_size bB_)); replace HO1191 := A_ (Kd.R_elder' (vR_ HO1191.out) (kb_ ho0) hb); replace HO1198 := A_ (Kd.R_elder' (vR_ HO1198.out) (kb_ ho0) hb); replace HO1200 := A_ (Kd.R_elder' (vR_ HO1200.out) (kb_ ho0) hb); replace HO1203 := A_ (Kd.R_elder' (vR_ HO1203.out) (kb_ ho0) hb); replace HB := A_ (below_step bB_ hb); (try clear hb); (try clear ho0)) | (go_at_call 20; (with_reducible refine (spec_Above.calls _ _ t1201 t1231 _ ?s1 ?s2 A33.out).mono ?_); (case s1 => exact cC_ (Kd.R_reads' HO1203.out).2.2); (case s2 => exact (Kd.R_reads' HO1203.out).2.1); rintro e w67 ⟨v1232, rfl, ho0, hb⟩; replace HO1185 := A_ (Kd.S_elder' (vS_ HO1185.out) (kb_ ho0) hb); replace HO1189 := A_ (Kd.S_elder' (vS_ HO1189.out) (kb_ ho0) hb); replace HO1194 := A_ (Kd.R_below (vR_ HO1194.out) hb); replace HO1212 := A_ (Kd.S_elder' (vS_ HO1212.out) (kb_ ho0) hb); replace HO1215 := A_ (Kd.S_elder' (vS_ HO1215.out) (kb_ ho0) hb); replace HO1219 := A_ (Kd.S_elder' (vS_ HO1219.out) (kb_ ho0) hb); replace HO1222 := A_ (Kd.S_elder' (vS_ HO1222.out) (kb_ ho0) hb); have HO1233 := A_ (Kd.R_lower (Kd.R_new' (Kd.R_new' (Kd.R_new' (Kd.R_new' (Kd.R_new' ho0 (Kd.R_lt (vR_ HO1191.out))) (Kd.R_lt (vR_ HO1198.out))) (Kd.R_lt (vR_ HO1200.out))) (Kd.R_lt (vR_ HO1203.out))) (Kd.R_lt (vR_ HO1230.out))) (below_size bB_)); replace HO1191 := A_ (Kd.R_elder' (vR_ HO1191.out) (kb_ ho0) hb); replace HO1198 := A_ (Kd.R_elder' (vR_ HO1198.out) (kb_ ho0) hb); replace HO1200 := A_ (Kd.R_elder' (vR_ HO1200.out) (kb_ ho0) hb); replace HO1203 := A_ (Kd.R_elder' (vR_ HO1203.out) (kb_ ho0) hb); replace HO1230 := A_ (Kd.R_elder' (vR_ HO1230.out) (kb_ ho0) hb); replace HB := A_ (below_step bB_ hb); (try clear hb); (try clear ho0); obtain ⟨Ao68, co68, eo68⟩ := Kd.R_slice HO1230.out; subst eo68; obtain ⟨Ao69, co69, eo69⟩ := Kd.R_slice HO1233.out; subst eo69) | (go_at_call 61; (with_reducible refine (laws_sameTexts.calls k _ _ t1228 _ _ t1231 true _ ?s1 ?s2 ?s3 ?s4 A34.out).mono ?_); (case s1 => exact cC_ (Kd.R_reads' HO1230.out).2.2); (case s2 => exact (Kd.R_reads' HO1230.out).2.1); (case s3 => exact cC_ (Kd.R_reads' HO1233.out).2.2); (case s4 => exact (Kd.R_reads' HO1233.out).2.1); rintro e w' ⟨rfl, ⟨nd, rfl⟩⟩) | (go_at_call 18; (with_reducible refine (impl_LessPath.calls k _ _ t1195 _ _ t1196 true _ ?s1 ?s2 ?s3 ?s4 A36.out).mono ?_); (case s1 => exact cC_ (Kd.R_reads' HO1198.out).2.2); (case s2 => exact (Kd.R_reads' HO1198.out).2.1); (case s3 => exact cC_ (Kd.R_reads' HO1200.out).2.2); (case s4 => exact (Kd.R_reads' HO1200.out).2.1); rintro e w' ⟨rfl, ⟨nd, rfl⟩⟩) | (go_at_call 18; (with_reducible refine (impl_LessPath.calls k _ _ t1196 _ _ t1195 t1236 _ ?s1 ?s2 ?s3 ?s4 A38.out).mono ?_); (case s1 => exact cC_ (Kd.R_reads' HO1200.out).2.2); (case s2 => exact (Kd.R_reads' HO1200.out).2.1); (case s3 => exact cC_ (Kd.R_reads' HO1198.out).2.2); (case s4 => exact (Kd.R_reads' HO1198.out).2.1); rintro e w' ⟨rfl, ⟨nd, rfl⟩⟩))
           go_ret
           exact ⟨rr_, bB_⟩
         · replace c37 := Bool.eq_false_iff.mpr c37
           subst c37
           rw [if_neg nf_] at H
           obtain rfl := si_ H
           go_enter Try.func14, Try.ntmps14
           go_wp2_with (first | ((with_reducible refine gc_ (f := 51) rfl ?_); refine gL_ (some 11) Try.func51 #[.slice A0 l0.length c0] ?_; (with_reducible refine (laws_big.calls _ _ l0 false _ ?s1 ?s2 A2.out).mono ?_); (case s1 => exact cC_ HR0.out); (case s2 => exact HC0.out); rintro e w' ⟨rfl, ⟨nd, rfl⟩⟩; refine ⟨_, rfl, ?_⟩) | ((with_reducible refine gc_ (f := 54) rfl ?_); refine gL_ (some 13) Try.func54 #[.slice A0 l0.length c0] ?_; (with_reducible refine (spec_DrawTreeOk.calls k _ _ l0 t1183 _ ?s1 ?s2 A4.out).mono ?_); (case s1 => exact cC_ HR0.out); (case s2 => exact HC0.out); rintro e w70 ⟨v1184, rfl, ho0, hb⟩; refine ⟨_, rfl, ?_⟩; have HO1185 := A_ (Kd.S_lower ho0 (below_size bB_)); replace HB := A_ (below_step bB_ hb); (try clear hb); (try clear ho0)) | ((with_reducible refine gc_ (f := 55) rfl ?_); refine gL_ (some 16) Try.func55 #[.slice A0 l0.length c0] ?_; (with_reducible refine (spec_DrawFindRes.calls k _ _ l0 t1186 t1187 _ ?s1 ?s2 A5.out).mono ?_); (case s1 => exact cC_ (Kd.C_below HR0.out HB.out)); (case s2 => exact HC0.out); rintro e w71 ⟨v1188, v1190, rfl, ho0, ho1, hb⟩; refine ⟨_, rfl, ?_⟩; have HO1189 := A_ (Kd.S_lower (Kd.S_new' ho0 (Kd.S_lt (vS_ HO1185.out))) (below_size bB_)); replace HO1185 := A_ (Kd.S_mono (Kd.S_told (Kd.S_told (Kd.S_old (vS_ HO1185.out) hb) (kb_ ho0)) (kb_ ho1)) (fun _ h_ => h_.1)); have HO1191 := A_ (Kd.R_lower ho1 (below_size bB_)); replace HB := A_ (below_step bB_ hb); (try clear hb); (try clear ho0); (try clear ho1)) | ((with_reducible refine gc_ (f := 56) rfl ?_); refine gL_ (some 20) Try.func56 #[.slice A0 l0.length c0] ?_; (with_reducible refine (spec_DrawPropsOk.calls k _ _ l0 t1192 _ ?s1 ?s2 A6.out).mono ?_); (case s1 => exact cC_ (Kd.C_below HR0.out HB.out)); (case s2 => exact HC0.out); rintro e w72 ⟨v1193, rfl, ho0, hb⟩; refine ⟨_, rfl, ?_⟩; replace HO1185 := A_ (Kd.S_elder' (vS_ HO1185.out) (kb_ ho0) hb); replace HO1189 := A_ (Kd.S_elder' (vS_ HO1189.out) (kb_ ho0) hb); replace HO1191 := A_ (Kd.R_below (vR_ HO1191.out) hb); have HO1194 := A_ (Kd.R_lower ho0 (below_size bB_)); replace HB := A_ (below_step bB_ hb); (try clear hb); (try clear ho0)) | ((with_reducible refine gc_ (f := 57) rfl ?_); refine gL_ (some 23) Try.func57 #[.slice A0 l0.length c0] ?_; (with_reducible refine (spec_DrawLessPath.calls k _ _ l0 t1195 t1196 _ ?s1 ?s2 A7.out).mono ?_); (case s1 => exact cC_ (Kd.C_below HR0.out HB.out)); (case s2 => exact HC0.out); rintro e w73 ⟨v1197, v1199, rfl, ho0, ho1, hb⟩; refine ⟨_, rfl, ?_⟩; replace HO1185 := A_ (Kd.S_mono (Kd.S_told (Kd.S_told (Kd.S_old (vS_ HO1185.out) hb) (kb_ ho0)) (kb_ ho1)) (fun _ h_ => h_.1)); replace HO1189 := A_ (Kd.S_mono (Kd.S_told (Kd.S_told (Kd.S_old (vS_ HO1189.out) hb) (kb_ ho0)) (kb_ ho1)) (fun _ h_ => h_.1)); replace HO1194 := A_ (Kd.R_below (vR_ HO1194.out) hb); have HO1198 := A_ (Kd.R_lower (Kd.R_new' ho0 (Kd.R_lt (vR_ HO1191.out))) (below_size bB_)); have HO1200 := A_ (Kd.R_lower (Kd.R_new' ho1 (Kd.R_lt (vR_ HO1191.out))) (below_size bB_)); replace HO1191 := A_ (Kd.R_mono (Kd.R_told (Kd.R_told (Kd.R_old (vR_ HO1191.out) hb) (kb_ ho0)) (kb_ ho1)) (fun _ h_ => h_.1)); replace HB := A_ (below_step bB_ hb); (try clear hb); (try clear ho0); (try clear ho1)) | ((with_reducible refine gc_ (f := 58) rfl ?_); refine gL_ (some 27) Try.func58 #[.slice A0 l0.length c0] ?_; (with_reducible refine (spec_DrawAbove.calls k _ _ l0 t1201 _ ?s1 ?s2 A8.out).mono ?_); (case s1 => exact cC_ (Kd.C_below HR0.out HB.out)); (case s2 => exact HC0.out); rintro e w74 ⟨v1202, rfl, ho0, hb⟩; refine ⟨_, rfl, ?_⟩; replace HO1185 := A_ (Kd.S_elder' (vS_ HO1185.out) (kb_ ho0) hb); replace HO1189 := A_ (Kd.S_elder' (vS_ HO1189.out) (kb_ ho0) hb); replace HO1194 := A_ (Kd.R_below (vR_ HO1194.out) hb); have HO1203 := A_ (Kd.R_lower (Kd.R_new' (Kd.R_new' (Kd.R_new' ho0 (Kd.R_lt (vR_ HO1191.out))) (Kd.R_lt (vR_ HO1198.out))) (Kd.R_lt (vR_ HO1200.out))) (below_size bB_)); replace HO1191 := A_ (Kd.R_elder' (vR_ HO1191.out) (kb_ ho0) hb); replace HO1198 := A_ (Kd.R_elder' (vR_ HO1198.out) (kb_ ho0) hb); replace HO1200 := A_ (Kd.R_elder' (vR_ HO1200.out) (kb_ ho0) hb); replace HB := A_ (below_step bB_ hb); (try clear hb); (try clear ho0); obtain ⟨Ao75, co75, eo75⟩ := Kd.S_slice HO1185.out; subst eo75) | (go_at_call 50; (with_reducible refine (impl_TreeOk.calls k _ _ t1183 t1204 _ ?s1 ?s2 A9.out).mono ?_); (case s1 => exact cC_ (Kd.S_reads' HO1185.out).2.2); (case s2 => exact (Kd.S_reads' HO1185.out).2.1); rintro e w76 ⟨rfl, hb⟩; replace HO1185 := A_ (Kd.S_below (vS_ HO1185.out) hb); replace HO1189 := A_ (Kd.S_below (vS_ HO1189.out) hb); replace HO1191 := A_ (Kd.R_below (vR_ HO1191.out) hb); replace HO1194 := A_ (Kd.R_below (vR_ HO1194.out) hb); replace HO1198 := A_ (Kd.R_below (vR_ HO1198.out) hb); replace HO1200 := A_ (Kd.R_below (vR_ HO1200.out) hb); replace HO1203 := A_ (Kd.R_below (vR_ HO1203.out) hb); replace HB := A_ (below_step bB_ hb); (try clear hb)) | (go_at_call 49; (with_reducible refine (spec_TreeOk.calls k _ _ t1183 t1205 _ ?s1 ?s2 A10.out).mono ?_); (case s1 => exact cC_ (Kd.S_reads' HO1185.out).2.2); (case s2 => exact (Kd.S_reads' HO1185.out).2.1); rintro e w77 ⟨rfl, hb⟩; replace HO1185 := A_ (Kd.S_below (vS_ HO1185.out) hb); replace HO1189 := A_ (Kd.S_below (vS_ HO1189.out) hb); replace HO1191 := A_ (Kd.R_below (vR_ HO1191.out) hb); replace HO1194 := A_ (Kd.R_below (vR_ HO1194.out) hb); replace HO1198 := A_ (Kd.R_below (vR_ HO1198.out) hb); replace HO1200 := A_ (Kd.R_below (vR_ HO1200.out) hb); replace HO1203 := A_ (Kd.R_below (vR_ HO1203.out) hb); replace HB := A_ (below_step bB_ hb); (try clear hb); obtain ⟨Ao78, co78, eo78⟩ := Kd.S_slice HO1189.out; subst eo78; obtain ⟨Ao79, co79, eo79⟩ := Kd.R_slice HO1191.out; subst eo79) | (go_at_call 37; (with_reducible refine (impl_FindRes.calls k _ _ t1186 _ _ t1187 t1206 _ ?s1 ?s2 ?s3 ?s4 A12.out).mono ?_); (case s1 => exact cC_ (Kd.S_reads' HO1189.out).2.2); (case s2 => exact (Kd.S_reads' HO1189.out).2.1); (case s3 => exact cC_ (Kd.R_reads' HO1191.out).2.2); (case s4 => exact (Kd.R_reads' HO1191.out).2.1); rintro e w80 ⟨rfl, hb⟩; replace HO1185 := A_ (Kd.S_below (vS_ HO1185.out) hb); replace HO1189 := A_ (Kd.S_below (vS_ HO1189.out) hb); replace HO1191 := A_ (Kd.R_below (vR_ HO1191.out) hb); replace HO1194 := A_ (Kd.R_below (vR_ HO1194.out) hb); replace HO1198 := A_ (Kd.R_below (vR_ HO1198.out) hb); replace HO1200 := A_ (Kd.R_below (vR_ HO1200.out) hb); replace HO1203 := A_ (Kd.R_below (vR_ HO1203.out) hb); replace HB := A_ (below_step bB_ hb); (try clear hb)) | (go_at_call 36; (with_reducible refine (spec_FindRes.calls k _ _ t1186 _ _ t1187 t1207 _ ?s1 ?s2 ?s3 ?s4 A13.out).mono ?_); (case s1 => exact cC_ (Kd.S_reads' HO1189.out).2.2); (case s2 => exact (Kd.S_reads' HO1189.out).2.1); (case s3 => exact cC_ (Kd.R_reads' HO1191.out).2.2); (case s4 => exact (Kd.R_reads' HO1191.out).2.1); rintro e w' ⟨rfl, ⟨nd, rfl⟩⟩) | (go_at_call 39; (with_reducible refine (impl_IsColl.calls k _ _ t1186 _ _ t1187 t1208 _ ?s1 ?s2 ?s3 ?s4 A15.out).mono ?_); (case s1 => exact cC_ (Kd.S_reads' HO1189.out).2.2); (case s2 => exact (Kd.S_reads' HO1189.out).2.1); (case s3 => exact cC_ (Kd.R_reads' HO1191.out).2.2); (case s4 => exact (Kd.R_reads' HO1191.out).2.1); rintro e w81 ⟨rfl, hb⟩; replace HO1185 := A_ (Kd.S_below (vS_ HO1185.out) hb); replace HO1189 := A_ (Kd.S_below (vS_ HO1189.out) hb); replace HO1191 := A_ (Kd.R_below (vR_ HO1191.out) hb); replace HO1194 := A_ (Kd.R_below (vR_ HO1194.out) hb); replace HO1198 := A_ (Kd.R_below (vR_ HO1198.out) hb); replace HO1200 := A_ (Kd.R_below (vR_ HO1200.out) hb); replace HO1203 := A_ (Kd.R_below (vR_ HO1203.out) hb); replace HB := A_ (below_step bB_ hb); (try clear hb)) | (go_at_call 38; (with_reducible refine (spec_IsColl.calls k _ _ t1186 _ _ t1187 t1209 _ ?s1 ?s2 ?s3 ?s4 A16.out).mono ?_); (case s1 => exact cC_ (Kd.S_reads' HO1189.out).2.2); (case s2 => exact (Kd.S_reads' HO1189.out).2.1); (case s3 => exact cC_ (Kd.R_reads' HO1191.out).2.2); (case s4 => exact (Kd.R_reads' HO1191.out).2.1); rintro e w' ⟨rfl, ⟨nd, rfl⟩⟩) | (go_at_call 41; (with_reducible refine (impl_KidsOf.calls k _ _ t1186 _ _ t1187 t1210 _ ?s1 ?s2 ?s3 ?s4 A18.out).mono ?_); (case s1 => exact cC_ (Kd.S_reads' HO1189.out).2.2); (case s2 => exact (Kd.S_reads' HO1189.out).2.1); (case s3 => exact cC_ (Kd.R_reads' HO1191.out).2.2); (case s4 => exact (Kd.R_reads' HO1191.out).2.1); rintro e w82 ⟨v1211, rfl, ho0, hb⟩; replace HO1185 := A_ (Kd.S_below (vS_ HO1185.out) hb); replace HO1189 := A_ (Kd.S_below (vS_ HO1189.out) hb); replace HO1194 := A_ (Kd.R_below (vR_ HO1194.out) hb); have HO1212 := A_ (Kd.S_lower (Kd.S_new' (Kd.S_new' (Kd.S_new' (Kd.S_new' ho0 (Kd.R_lt (vR_ HO1191.out))) (Kd.R_lt (vR_ HO1198.out))) (Kd.R_lt (vR_ HO1200.out))) (Kd.R_lt (vR_ HO1203.out))) (below_size bB_)); replace HO1191 := A_ (Kd.R_below (vR_ HO1191.out) hb); replace HO1198 := A_ (Kd.R_below (vR_ HO1198.out) hb); replace HO1200 := A_ (Kd.R_below (vR_ HO1200.out) hb); replace HO1203 := A_ (Kd.R_below (vR_ HO1203.out) hb); replace HB := A_ (below_step bB_ hb); (try clear hb); (try clear ho0)) | (go_at_call 40; (with_reducible refine (spec_KidsOf.calls k _ _ t1186 _ _ t1187 t1213 _ ?s1 ?s2 ?s3 ?s4 A19.out).mono ?_); (case s1 => exact cC_ (Kd.S_reads' HO1189.out).2.2); (case s2 => exact (Kd.S_reads' HO1189.out).2.1); (case s3 => exact cC_ (Kd.R_reads' HO1191.out).2.2); (case s4 => exact (Kd.R_reads' HO1191.out).2.1); rintro e w83 ⟨v1214, rfl, ho0, hb⟩; replace HO1185 := A_ (Kd.S_below (vS_ HO1185.out) hb); replace HO1189 := A_ (Kd.S_below (vS_ HO1189.out) hb); replace HO1194 := A_ (Kd.R_below (vR_ HO1194.out) hb); have HO1215 := A_ (Kd.S_lower (Kd.S_new' (Kd.S_new' (Kd.S_new' (Kd.S_new' (Kd.S_new' ho0 (Kd.R_lt (vR_ HO1191.out))) (Kd.R_lt (vR_ HO1198.out))) (Kd.R_lt (vR_ HO1200.out))) (Kd.R_lt (vR_ HO1203.out))) (Kd.S_lt (vS_ HO1212.out))) (below_size bB_)); replace HO1191 := A_ (Kd.R_below (vR_ HO1191.out) hb); replace HO1198 := A_ (Kd.R_below (vR_ HO1198.out) hb); replace HO1200 := A_ (Kd.R_below (vR_ HO1200.out) hb); replace HO1203 := A_ (Kd.R_below (vR_ HO1203.out) hb); replace HO1212 := A_ (Kd.S_elder' (vS_ HO1212.out) (kb_ ho0) hb); replace HB := A_ (below_step bB_ hb); (try clear hb); (try clear ho0); obtain ⟨Ao84, co84, eo84⟩ := Kd.S_slice HO1212.out; subst eo84; obtain ⟨Ao85, co85, eo85⟩ := Kd.S_slice HO1215.out; subst eo85) | (go_at_call 59; (with_reducible refine (laws_samePaths.calls k _ _ t1210 _ _ t1213 true _ ?s1 ?s2 ?s3 ?s4 A20.out).mono ?_); (case s1 => exact cC_ (Kd.S_reads' HO1212.out).2.2); (case s2 => exact (Kd.S_reads' HO1212.out).2.1); (case s3 => exact cC_ (Kd.S_reads' HO1215.out).2.2); (case s4 => exact (Kd.S_reads' HO1215.out).2.1); rintro e w' ⟨rfl, ⟨nd, rfl⟩⟩) | (go_at_call 47; (with_reducible refine (impl_DeepOf.calls k _ _ t1186 _ _ t1187 t1217 _ ?s1 ?s2 ?s3 ?s4 A22.out).mono ?_); (case s1 => exact cC_ (Kd.S_reads' HO1189.out).2.2); (case s2 => exact (Kd.S_reads' HO1189.out).2.1); (case s3 => exact cC_ (Kd.R_reads' HO1191.out).2.2); (case s4 => exact (Kd.R_reads' HO1191.out).2.1); rintro e w86 ⟨v1218, rfl, ho0, hb⟩; replace HO1212 := A_ (Kd.S_below (vS_ HO1212.out) hb); replace HO1215 := A_ (Kd.S_below (vS_ HO1215.out) hb); have HO1219 := A_ (Kd.S_lower (Kd.S_new' (Kd.S_new' (Kd.S_new' (Kd.S_new' (Kd.S_new' (Kd.S_new' (Kd.S_new' ho0 (Kd.S_lt (vS_ HO1185.out))) (Kd.S_lt (vS_ HO1189.out))) (Kd.R_lt (vR_ HO1191.out))) (Kd.R_lt (vR_ HO1194.out))) (Kd.R_lt (vR_ HO1198.out))) (Kd.R_lt (vR_ HO1200.out))) (Kd.R_lt (vR_ HO1203.out))) (below_size bB_)); replace HO1185 := A_ (Kd.S_elder' (vS_ HO1185.out) (kb_ ho0) hb); replace HO1189 := A_ (Kd.S_elder' (vS_ HO1189.out) (kb_ ho0) hb); replace HO1191 := A_ (Kd.R_below (vR_ HO1191.out) hb); replace HO1194 := A_ (Kd.R_below (vR_ HO1194.out) hb); replace HO1198 := A_ (Kd.R_below (vR_ HO1198.out) hb); replace HO1200 := A_ (Kd.R_below (vR_ HO1200.out) hb); replace HO1203 := A_ (Kd.R_below (vR_ HO1203.out) hb); replace HB := A_ (below_step bB_ hb); (try clear hb); (try clear ho0)) | (go_at_call 46; (with_reducible refine (spec_DeepOf.calls k _ _ t1186 _ _ t1187 t1220 _ ?s1 ?s2 ?s3 ?s4 A23.out).mono ?_); (case s1 => exact cC_ (Kd.S_reads' HO1189.out).2.2); (case s2 => exact (Kd.S_reads' HO1189.out).2.1); (case s3 => exact cC_ (Kd.R_reads' HO1191.out).2.2); (case s4 => exact (Kd.R_reads' HO1191.out).2.1); rintro e w87 ⟨v1221, rfl, ho0, hb⟩; replace HO1212 := A_ (Kd.S_below (vS_ HO1212.out) hb); replace HO1215 := A_ (Kd.S_below (vS_ HO1215.out) hb); have HO1222 := A_ (Kd.S_lower (Kd.S_new' (Kd.S_new' (Kd.S_new' (Kd.S_new' (Kd.S_new' (Kd.S_new' (Kd.S_new' (Kd.S_new' ho0 (Kd.S_lt (vS_ HO1185.out))) (Kd.S_lt (vS_ HO1189.out))) (Kd.R_lt (vR_ HO1191.out))) (Kd.R_lt (vR_ HO1194.out))) (Kd.R_lt (vR_ HO1198.out))) (Kd.R_lt (vR_ HO1200.out))) (Kd.R_lt (vR_ HO1203.out))) (Kd.S_lt (vS_ HO1219.out))) (below_size bB_)); replace HO1185 := A_ (Kd.S_elder' (vS_ HO1185.out) (kb_ ho0) hb); replace HO1189 := A_ (Kd.S_elder' (vS_ HO1189.out) (kb_ ho0) hb); replace HO1191 := A_ (Kd.R_below (vR_ HO1191.out) hb); replace HO1194 := A_ (Kd.R_below (vR_ HO1194.out) hb); replace HO1198 := A_ (Kd.R_below (vR_ HO1198.out) hb); replace HO1200 := A_ (Kd.R_below (vR_ HO1200.out) hb); replace HO1203 := A_ (Kd.R_below (vR_ HO1203.out) hb); replace HO1219 := A_ (Kd.S_elder' (vS_ HO1219.out) (kb_ ho0) hb); replace HB := A_ (below_step bB_ hb); (try clear hb); (try clear ho0); obtain ⟨Ao88, co88, eo88⟩ := Kd.S_slice HO1219.out; subst eo88; obtain ⟨Ao89, co89, eo89⟩ := Kd.S_slice HO1222.out; subst eo89) | (go_at_call 60; (with_reducible refine (laws_sameTree.calls k _ _ t1217 _ _ t1220 true _ ?s1 ?s2 ?s3 ?s4 A24.out).mono ?_); (case s1 => exact cC_ (Kd.S_reads' HO1219.out).2.2); (case s2 => exact (Kd.S_reads' HO1219.out).2.1); (case s3 => exact cC_ (Kd.S_reads' HO1222.out).2.2); (case s4 => exact (Kd.S_reads' HO1222.out).2.1); rintro e w90 ⟨rfl, hb⟩; replace HO1185 := A_ (Kd.S_below (vS_ HO1185.out) hb); replace HO1189 := A_ (Kd.S_below (vS_ HO1189.out) hb); replace HO1191 := A_ (Kd.R_below (vR_ HO1191.out) hb); replace HO1194 := A_ (Kd.R_below (vR_ HO1194.out) hb); replace HO1198 := A_ (Kd.R_below (vR_ HO1198.out) hb); replace HO1200 := A_ (Kd.R_below (vR_ HO1200.out) hb); replace HO1203 := A_ (Kd.R_below (vR_ HO1203.out) hb); replace HO1212 := A_ (Kd.S_below (vS_ HO1212.out) hb); replace HO1215 := A_ (Kd.S_below (vS_ HO1215.out) hb); replace HO1219 := A_ (Kd.S_below (vS_ HO1219.out) hb); replace HO1222 := A_ (Kd.S_below (vS_ HO1222.out) hb); replace HB := A_ (below_step bB_ hb); (try clear hb); obtain ⟨Ao91, co91, eo91⟩ := Kd.R_slice HO1194.out; subst eo91) | (go_at_call 30; (with_reducible refine (impl_PropsOk.calls k _ _ t1192 t1224 _ ?s1 ?s2 A26.out).mono ?_); (case s1 => exact cC_ (Kd.R_reads' HO1194.out).2.2); (case s2 => exact (Kd.R_reads' HO1194.out).2.1); rintro e w92 ⟨rfl, hb⟩; replace HO1185 := A_ (Kd.S_below (vS_ HO1185.out) hb); replace HO1189 := A_ (Kd.S_below (vS_ HO1189.out) hb); replace HO1191 := A_ (Kd.R_below (vR_ HO1191.out) hb); replace HO1194 := A_ (Kd.R_below (vR_ HO1194.out) hb); replace HO1198 := A_ (Kd.R_below (vR_ HO1198.out) hb); replace HO1200 := A_ (Kd.R_below (vR_ HO1200.out) hb); replace HO1203 := A_ (Kd.R_below (vR_ HO1203.out) hb); replace HO1212 := A_ (Kd.S_below (vS_ HO1212.out) hb); replace HO1215 := A_ (Kd.S_below (vS_ HO1215.out) hb); replace HO1219 := A_ (Kd.S_below (vS_ HO1219.out) hb); replace HO1222 := A_ (Kd.S_below (vS_ HO1222.out) hb); replace HB := A_ (below_step bB_ hb); (try clear hb)) | (go_at_call 29; (with_reducible refine (spec_PropsOk.calls k _ _ t1192 t1225 _ ?s1 ?s2 A27.out).mono ?_); (case s1 => exact cC_ (Kd.R_reads' HO1194.out).2.2); (case s2 => exact (Kd.R_reads' HO1194.out).2.1); rintro e w93 ⟨rfl, hb⟩; replace HO1185 := A_ (Kd.S_below (vS_ HO1185.out) hb); replace HO1189 := A_ (Kd.S_below (vS_ HO1189.out) hb); replace HO1191 := A_ (Kd.R_below (vR_ HO1191.out) hb); replace HO1194 := A_ (Kd.R_below (vR_ HO1194.out) hb); replace HO1198 := A_ (Kd.R_below (vR_ HO1198.out) hb); replace HO1200 := A_ (Kd.R_below (vR_ HO1200.out) hb); replace HO1203 := A_ (Kd.R_below (vR_ HO1203.out) hb); replace HO1212 := A_ (Kd.S_below (vS_ HO1212.out) hb); replace HO1215 := A_ (Kd.S_below (vS_ HO1215.out) hb); replace HO1219 := A_ (Kd.S_below (vS_ HO1219.out) hb); replace HO1222 := A_ (Kd.S_below (vS_ HO1222.out) hb); replace HB := A_ (below_step bB_ hb); (try clear hb); obtain ⟨Ao94, co94, eo94⟩ := Kd.R_slice HO1198.out; subst eo94; obtain ⟨Ao95, co95, eo95⟩ := Kd.R_slice HO1200.out; subst eo95) | (go_at_call 18; (with_reducible refine (impl_LessPath.calls k _ _ t1195 _ _ t1196 _ _ ?s1 ?s2 ?s3 ?s4 A29.out).mono ?_); (case s1 => exact cC_ (Kd.R_reads' HO1198.out).2.2); (case s2 => exact (Kd.R_reads' HO1198.out).2.1); (case s3 => exact cC_ (Kd.R_reads' HO1200.out).2.2); (case s4 => exact (Kd.R_reads' HO1200.out).2.1); rintro e w' ⟨rfl, ⟨nd, rfl⟩⟩) | (go_at_call 16; (with_reducible refine (spec_LessPath.calls k _ _ t1195 _ _ t1196 t1227 _ ?s1 ?s2 ?s3 ?s4 A30.out).mono ?_); (case s1 => exact cC_ (Kd.R_reads' HO1198.out).2.2); (case s2 => exact (Kd.R_reads' HO1198.out).2.1); (case s3 => exact cC_ (Kd.R_reads' HO1200.out).2.2); (case s4 => exact (Kd.R_reads' HO1200.out).2.1); rintro e w' ⟨rfl, ⟨nd, rfl⟩⟩; obtain ⟨Ao96, co96, eo96⟩ := Kd.R_slice HO1203.out; subst eo96) | (go_at_call 21; (with_reducible refine (impl_Above.calls _ _ t1201 t1228 _ ?s1 ?s2 A32.out).mono ?_); (case s1 => exact cC_ (Kd.R_reads' HO1203.out).2.2); (case s2 => exact (Kd.R_reads' HO1203.out).2.1); rintro e w97 ⟨v1229, rfl, ho0, hb⟩; replace HO1185 := A_ (Kd.S_elder' (vS_ HO1185.out) (kb_ ho0) hb); replace HO1189 := A_ (Kd.S_elder' (vS_ HO1189.out) (kb_ ho0) hb); replace HO1194 := A_ (Kd.R_below (vR_ HO1194.out) hb); replace HO1212 := A_ (Kd.S_elder' (vS_ HO1212.out) (kb_ ho0) hb); replace HO1215 := A_ (Kd.S_elder' (vS_ HO1215.out) (kb_ ho0) hb); replace HO1219 := A_ (Kd.S_elder' (vS_ HO1219.out) (kb_ ho0) hb); replace HO1222 := A_ (Kd.S_elder' (vS_ HO1222.out) (kb_ ho0) hb); have HO1230 := A_ (Kd.R_lower (Kd.R_new' (Kd.R_new' (Kd.R_new' (Kd.R_new' ho0 (Kd.R_lt (vR_ HO1191.out))) (Kd.R_lt (vR_ HO1198.out))) (Kd.R_lt (vR_ HO1200.out))) (Kd.R_lt (vR_ HO1203.out))) (below_size bB_)); replace HO1191 := A_ (Kd.R_elder' (vR_ HO1191.out) (kb_ ho0) hb); replace HO1198 := A_ (Kd.R_elder' (vR_ HO1198.out) (kb_ ho0) hb); replace HO1200 := A_ (Kd.R_elder' (vR_ HO1200.out) (kb_ ho0) hb); replace HO1203 := A_ (Kd.R_elder' (vR_ HO1203.out) (kb_ ho0) hb); replace HB := A_ (below_step bB_ hb); (try clear hb); (try clear ho0)) | (go_at_call 20; (with_reducible refine (spec_Above.calls _ _ t1201 t1231 _ ?s1 ?s2 A33.out).mono ?_); (case s1 => exact cC_ (Kd.R_reads' HO1203.out).2.2); (case s2 => exact (Kd.R_reads' HO1203.out).2.1); rintro e w98 ⟨v1232, rfl, ho0, hb⟩; replace HO1185 := A_ (Kd.S_elder' (vS_ HO1185.out) (kb_ ho0) hb); replace HO1189 := A_ (Kd.S_elder' (vS_ HO1189.out) (kb_ ho0) hb); replace HO1194 := A_ (Kd.R_below (vR_ HO1194.out) hb); replace HO1212 := A_ (Kd.S_elder' (vS_ HO1212.out) (kb_ ho0) hb); replace HO1215 := A_ (Kd.S_elder' (vS_ HO1215.out) (kb_ ho0) hb); replace HO1219 := A_ (Kd.S_elder' (vS_ HO1219.out) (kb_ ho0) hb); replace HO1222 := A_ (Kd.S_elder' (vS_ HO1222.out) (kb_ ho0) hb); have HO1233 := A_ (Kd.R_lower (Kd.R_new' (Kd.R_new' (Kd.R_new' (Kd.R_new' (Kd.R_new' ho0 (Kd.R_lt (vR_ HO1191.out))) (Kd.R_lt (vR_ HO1198.out))) (Kd.R_lt (vR_ HO1200.out))) (Kd.R_lt (vR_ HO1203.out))) (Kd.R_lt (vR_ HO1230.out))) (below_size bB_)); replace HO1191 := A_ (Kd.R_elder' (vR_ HO1191.out) (kb_ ho0) hb); replace HO1198 := A_ (Kd.R_elder' (vR_ HO1198.out) (kb_ ho0) hb); replace HO1200 := A_ (Kd.R_elder' (vR_ HO1200.out) (kb_ ho0) hb); replace HO1203 := A_ (Kd.R_elder' (vR_ HO1203.out) (kb_ ho0) hb); replace HO1230 := A_ (Kd.R_elder' (vR_ HO1230.out) (kb_ ho0) hb); replace HB := A_ (below_step bB_ hb); (try clear hb); (try clear ho0); obtain ⟨Ao99, co99, eo99⟩ := Kd.R_slice HO1230.out; subst eo99; obtain ⟨Ao100, co100, eo100⟩ := Kd.R_slice HO1233.out; subst eo100) | (go_at_call 61; (with_reducible refine (laws_sameTexts.calls k _ _ t1228 _ _ t1231 true _ ?s1 ?s2 ?s3 ?s4 A34.out).mono ?_); (case s1 => exact cC_ (Kd.R_reads' HO1230.out).2.2); (case s2 => exact (Kd.R_reads' HO1230.out).2.1); (case s3 => exact cC_ (Kd.R_reads' HO1233.out).2.2); (case s4 => exact (Kd.R_reads' HO1233.out).2.1); rintro e w' ⟨rfl, ⟨nd, rfl⟩⟩) | (go_at_call 18; (with_reducible refine (impl_LessPath.calls k _ _ t1195 _ _ t1196 false _ ?s1 ?s2 ?s3 ?s4 A36.out).mono ?_); (case s1 => exact cC_ (Kd.R_reads' HO1198.out).2.2); (case s2 => exact (Kd.R_reads' HO1198.out).2.1); (case s3 => exact cC_ (Kd.R_reads' HO1200.out).2.2); (case s4 => exact (Kd.R_reads' HO1200.out).2.1); rintro e w' ⟨rfl, ⟨nd, rfl⟩⟩))
           go_ret
           exact ⟨rr_, bB_⟩
       · replace c35 := Bool.eq_false_iff.mpr c35
         subst c35
         rw [if_neg nf_] at H
         exact absurd H (by simp)
     · replace c25 := Bool.eq_false_iff.mpr c25
       subst c25
       rw [if_neg nf_] at H
       exact absurd H (by simp)
   · replace c21 := Bool.eq_false_iff.mpr c21
     subst c21
     rw [if_neg nf_] at H
     exact absurd H (by simp)
def laws_FnTreesBent.Pure : Prop := ∀ (l0 : List Int), l0.length ≤ maxLen → l0.length * 1 ≤ 140737488351232 → (∀ x ∈ l0, (Lit.int .u8 x).wf = true) → ∃ k, laws_FnTreesBent.f k l0 = some true
theorem laws_FnTreesBent.walk (P : laws_FnTreesBent.Pure) (a0 : Option Addr) (len0 cap0 : Nat) (z0 : List Int) (w : World) (w0 : (a0 = none ∧ len0 = 0 ∧ cap0 = 0 ∧ z0 = []) ∨ ∃ x, a0 = some x ∧ len0 ≤ cap0 ∧ cap0 ≤ maxLen ∧ z0.length = cap0 ∧ (∀ i, i < z0.length → w.cell? (x.add i) = some (.int .u8 (z0.getD i 0))) ∧ ∀ n ∈ z0, (Lit.int .u8 n).wf = true) (y0 : len0 * 1 ≤ 140737488351232) :
 Calls Try.prog 14 #[.slice a0 len0 cap0] w fun e w' => e = .returned (.bool true) ∧ Below w.heap.size w w' := by
 obtain ⟨l0, rfl, hr0, hm0, hw0, hc0⟩ := ReadsInt.ofRowC w0
 obtain ⟨k, h⟩ := P l0 hm0 y0 hw0
 refine (laws_FnTreesBent.calls k _ _ l0 true w (Kd.C_of_reads (d := (0 : Int)) (h1 := fun _ => rfl) hr0) hc0 h).mono ?_
 rintro e w' ⟨rfl, hd⟩
 exact ⟨rfl, hd⟩
end Go.Proofs.Yteabkidfgdmmpaa.Q

/- What a reading of a parameter says of its cells, kind by kind: for the rows of laws whose parameters are slices and structs. No condition. -/
namespace Go.Proofs.Yteabkidfgdmmpaa.Op
open Go.RowKit Go.ChangeShapes Go.WideShapes Go.Proofs.YteabkidfgdmmpaaW.PrintWords
def Opens {α H : Type} (enc : TypeId × Value → H) (P : Program) (w : World) (t : TypeId) (d : Kd α) (G : α → Prop) : Prop :=
  ∀ fuel cs x, DataW.trod enc P w 0 (fun _ => true) true fuel t cs = some x → ∃ a, d.K w a cs ∧ G a
section
variable {H : Type} {enc : TypeId × Value → H} {P : Program} {w : World} {t : TypeId}
theorem opens_int {k : IntKind} (ht : P.underlying t = some (.int k)) : Opens enc P w t (Kd.int k) (fun n => (Lit.int k n).wf = true) := by
  intro fuel cs x h
  obtain ⟨n, rfl, _, hn⟩ := DataW.trod_int ht h
  exact ⟨n, rfl, hn⟩
theorem opens_slice {α : Type} [Inhabited α] {e : TypeId} {d : Kd α} {G : α → Prop} (ht : P.underlying t = some (.slice e)) (hc : P.cellsOf e = d.sz) (he : Opens enc P w e d G) :
    Opens enc P w t (Kd.slice e d) (fun l => l.length ≤ maxLen ∧ ∀ a ∈ l, G a) := by
  intro fuel cs x h
  rcases Go.Deep.open_slice ht h with ⟨rfl, _⟩ | ⟨a, len, cap, m, n, D, Pl, rfl, _, hl, hm, hmm, _, hx⟩
  · exact ⟨[], ⟨none, 0, rfl, Nat.le_refl _, Kd.C_nil d w⟩, by simp, by simp⟩
  · have hm' : m = cap := by simpa using hmm
    have each : ∀ i, i < len → ∃ y : α, G y ∧ ∃ c, d.K w y c ∧ ∀ j u, c[j]? = some u → w.cell? (a.add (i * d.sz + j)) = some u := fun i hi => by
      obtain ⟨cs', h1, h2⟩ := hx i (by omega)
      obtain ⟨y, hK, hG⟩ := he _ _ _ h2
      obtain ⟨_, h3, h4⟩ := World.cells?_some h1
      refine ⟨y, hG, cs', hK, fun j u hu => ?_⟩
      have hj : j < P.cellsOf e := by
        have := (List.getElem?_eq_some_iff.1 hu).1
        omega
      have h5 := h4 j hj
      rw [Go.Deep.add_add, hc, hu] at h5
      exact h5
    obtain ⟨f, hf⟩ := Go.Deep.choose_lt each
    have hmax : maxLen = 9223372036854775807 := by decide
    refine ⟨(List.range len).map f, ⟨some a, cap, by simp, by simpa using hl, ?_⟩, by simp; omega, ?_⟩
    · refine ⟨rfl, by simp; omega, fun _ => ⟨a, rfl, fun j p hj => ?_⟩⟩
      have hjl : j < len := by
        have := (List.getElem?_eq_some_iff.1 hj).1
        simpa using this
      have hp : f j = p := by
        rw [List.getElem?_map, List.getElem?_range hjl] at hj
        simpa using hj
      obtain ⟨_, c, hK, hcell⟩ := hf j hjl
      exact ⟨c, d.K_len hK, hp ▸ hK, hcell⟩
    · intro y hy
      obtain ⟨j, hj, rfl⟩ := List.mem_map.1 hy
      exact (hf j (List.mem_range.1 hj)).1
end
end Go.Proofs.Yteabkidfgdmmpaa.Op

/- What a reading of a struct says of its cells. No condition. -/
namespace Go.Proofs.Yteabkidfgdmmpaa.Q
open Go.RowKit Go.ChangeShapes Go.WideShapes Go.Proofs.YteabkidfgdmmpaaW.PrintWords Go.Proofs.Yteabkidfgdmmpaa
set_option linter.unusedVariables false
set_option linter.unusedSimpArgs false
instance : Inhabited S70 := ⟨z70⟩
instance : Inhabited S77 := ⟨z77⟩
end Go.Proofs.Yteabkidfgdmmpaa.Q

/- Small lemmas for plain laws over rounds: indices as lengths of what was passed, bytes' equality. No condition. -/
set_option linter.unusedSimpArgs false
set_option linter.unusedVariables false
namespace Go.Proofs.Yteabkidfgdmmpaa.L
open Go.RowKit Go.Proofs.YteabkidfgdmmpaaW.PrintWords Go.Proofs.YteabkidfgdmmpaaW.PrintLast
theorem ba_toList (s : ByteArray) : s.toList = s.data.toList := ByteArray.toList_eq s
theorem ba_inj {a b : ByteArray} (h : a.toList = b.toList) : a = b := by
  rw [ba_toList, ba_toList] at h
  cases a with | mk x => cases b with | mk y => congr 1; exact Array.toList_inj.1 h
theorem ba_eq {a b : ByteArray} : (a.toList = b.toList) = (a = b) := propext ⟨ba_inj, fun h => by rw [h]⟩
theorem maxLen_eq : maxLen = 9223372036854775807 := by decide
theorem wrap_id {x : Int} (h0 : -9223372036854775808 ≤ x) (h1 : x < 9223372036854775808) : wrap64 x = x := by
  unfold wrap64
  omega
section
variable {α : Type} {l pre suf : List α} {a : α}
theorem lt_at (h : l = pre ++ a :: suf) : ((pre.length : Nat) : Int) < (l.length : Int) := by subst h; simp; omega
theorem rd_at (d : α) (h : l = pre ++ a :: suf) : rdOf d l (pre.length : Int) = a := by subst h; simp [rdOf, List.getD_eq_getElem?_getD]
theorem getD_at (d : α) (h : l = pre ++ a :: suf) : l.getD ((pre.length : Nat) : Int).toNat d = a := by subst h; simp [List.getD_eq_getElem?_getD]
theorem next_at (h : l = pre ++ a :: suf) (hl : l.length ≤ maxLen) : wrap64 ((pre.length : Int) + 1) = ((pre ++ [a]).length : Int) := by
  have : l.length = pre.length + 1 + suf.length := by subst h; simp; omega
  rw [maxLen_eq] at hl
  rw [wrap_id (by omega) (by omega)]
  simp
theorem snoc_at (h : l = pre ++ a :: suf) : l = (pre ++ [a]) ++ suf := by subst h; simp
theorem end_at (h : l = pre ++ []) : ¬ ((pre.length : Nat) : Int) < (l.length : Int) := by subst h; simp
theorem set_at {b : α} (h : l = pre ++ a :: suf) : l.set ((pre.length : Nat) : Int).toNat b = (pre ++ [b]) ++ suf := by subst h; simp
theorem nonneg_at (n : Nat) : (0 : Int) ≤ (n : Int) := Int.natCast_nonneg n
end
def IntOk (x : Int) : Prop := -9223372036854775808 ≤ x ∧ x < 9223372036854775808
def SmS (l : List ByteArray) : Prop := l.length ≤ 1048576 ∧ ∀ s ∈ l, s.size ≤ 1048576
theorem eq_loop {α : Type} [DecidableEq α] {a b : List α} (g : Nat → Int → Option Bool)
    (hend : Ev (fun k => g k a.length) true)
    (hstep : ∀ pre x su pre' y sv, a = pre ++ x :: su → b = pre' ++ y :: sv → pre.length = pre'.length → (x ≠ y → Ev (fun k => g k (pre.length : Int)) false) ∧ (x = y → ∀ r, Ev (fun k => g k ((pre ++ [x]).length : Int)) r → Ev (fun k => g k (pre.length : Int)) r)) :
    ∀ (su sv pu pv : List α), a = pu ++ su → b = pv ++ sv → pu.length = pv.length → su.length = sv.length → Ev (fun k => g k (pu.length : Int)) (decide (su = sv)) := by
  intro su
  induction su with
  | nil =>
    intro sv pu pv h h' hp hs
    obtain rfl : sv = [] := by simpa using hs.symm
    rw [h, List.append_nil] at hend
    exact hend
  | cons x su ih =>
    intro sv pu pv h h' hp hs
    cases sv with
    | nil => simp at hs
    | cons y sv =>
      obtain ⟨h1, h2⟩ := hstep pu x su pv y sv h h' hp
      by_cases e : x = y
      · have h3 := h2 e _ (ih sv (pu ++ [x]) (pv ++ [y]) (snoc_at h) (snoc_at h') (by simp [hp]) (by simpa using hs))
        simp only [e, List.cons.injEq, true_and]
        exact h3
      · rw [show decide (x :: su = y :: sv) = false from decide_eq_false (fun h => e (List.cons.inj h).1)]
        exact h1 e
theorem ev_cast {α : Type} {g : Nat → Option α} {r s : α} (h : Ev g r) (e : r = s) : Ev g s := e ▸ h
end Go.Proofs.Yteabkidfgdmmpaa.L

/- Draws from a code: the cursor's bytes and its place. No condition. -/
set_option linter.unusedSimpArgs false
set_option linter.unusedVariables false
namespace Go.Proofs.Yteabkidfgdmmpaa.L
open Go.RowKit Go.Proofs.YteabkidfgdmmpaaW.PrintWords Go.Proofs.YteabkidfgdmmpaaW.PrintLast Go.Proofs.Yteabkidfgdmmpaa.Q
def Cur (b : List Int) (p : Int) : Prop := 0 ≤ p ∧ p ≤ (b.length : Int) ∧ b.length ≤ 1048576
theorem wrapI64 {x : Int} (h0 : -9223372036854775808 ≤ x) (h1 : x < 9223372036854775808) : IntKind.i64.wrap x = x := by
  rw [i64_w, wrap_id h0 h1]
theorem and255 (x : Int) : 0 ≤ Go.bits .and .i64 x 255 ∧ Go.bits .and .i64 x 255 ≤ 255 := by
  unfold Go.bits
  have h : (BitVec.ofInt IntKind.i64.bits x &&& BitVec.ofInt IntKind.i64.bits 255).toNat ≤ 255 := by
    rw [BitVec.toNat_and]
    exact Nat.le_trans Nat.and_le_right (by decide)
  simp only
  rw [wrapI64 (by omega) (by omega)]
  omega
theorem byteD {b : List Int} {p : Int} (h : Cur b p) (s : Int) : ∃ v p' s', spec_l1Byte.f b p s = some (v, p', s') ∧ 0 ≤ v ∧ v ≤ 255 ∧ Cur b p' := by
  obtain ⟨h0, h1, h2⟩ := h
  unfold spec_l1Byte.f
  by_cases c : p < (b.length : Int)
  · rw [if_pos c, if_pos h0]
    refine ⟨_, _, _, rfl, (and255 _).1, (and255 _).2, ?_⟩
    rw [wrap_id (by omega) (by omega)]
    exact ⟨by omega, by omega, h2⟩
  · rw [if_neg c]
    exact ⟨_, _, _, rfl, (and255 _).1, (and255 _).2, h0, h1, h2⟩
theorem belowD {b : List Int} {p : Int} (h : Cur b p) (s : Int) {n : Int} (hn : 0 < n) : ∃ v p' s', spec_l1Below.f b p s n = some (v, p', s') ∧ 0 ≤ v ∧ v < n ∧ Cur b p' := by
  unfold spec_l1Below.f
  rw [if_neg (by omega)]
  by_cases c : n ≤ 256
  · rw [if_pos c]
    obtain ⟨v, p1, s1, e, v0, v1, h'⟩ := byteD h s
    simp only [e, Option.bind_some, if_neg (show ¬ n = 0 by omega)]
    exact ⟨_, _, _, rfl, Int.tmod_nonneg _ v0, Int.tmod_lt_of_pos _ hn, h'⟩
  · rw [if_neg c]
    obtain ⟨v, p1, s1, e, v0, v1, h1⟩ := byteD h s
    simp only [e, Option.bind_some]
    obtain ⟨v', p2, s2, e, v0', v1', h2⟩ := byteD h1 s1
    simp only [e, Option.bind_some]
    obtain ⟨v'', p3, s3, e, v0'', v1'', h3⟩ := byteD h2 s2
    simp only [e, Option.bind_some, if_neg (show ¬ n = 0 by omega)]
    rw [wrap_id (x := v * 65536) (by omega) (by omega), wrap_id (x := v' * 256) (by omega) (by omega), wrap_id (x := v * 65536 + v' * 256) (by omega) (by omega), wrap_id (by omega) (by omega)]
    exact ⟨_, _, _, rfl, Int.tmod_nonneg _ (by omega), Int.tmod_lt_of_pos _ hn, h3⟩
theorem belowD0 {b : List Int} {p : Int} (h : Cur b p) (s n : Int) : ∃ v p' s', spec_l1Below.f b p s n = some (v, p', s') ∧ 0 ≤ v ∧ Cur b p' := by
  by_cases c : 0 < n
  · obtain ⟨v, p', s', e, h0, _, h'⟩ := belowD h s c
    exact ⟨v, p', s', e, h0, h'⟩
  · unfold spec_l1Below.f
    rw [if_pos (by omega)]
    exact ⟨_, _, _, rfl, Int.le_refl _, h⟩
theorem onceD {b : List Int} {p : Int} (h : Cur b p) (s n : Int) : ∃ v p' s', spec_l1Once.f b p s n = some (v, p', s') ∧ Cur b p' := by
  obtain ⟨v, p', s', e, h0, h'⟩ := belowD0 h s n
  unfold spec_l1Once.f
  rw [e]
  exact ⟨_, _, _, rfl, h'⟩
theorem strD {b : List Int} {p : Int} (h : Cur b p) (s : Int) {l : List ByteArray} (hl : l ≠ []) : ∃ v p' s', spec_l1Str.f b p s l = some (v, p', s') ∧ v ∈ l ∧ Cur b p' := by
  have hpos : 0 < l.length := List.length_pos_iff.2 hl
  obtain ⟨v, p', s', e, h0, h1, h'⟩ := belowD h s (n := (l.length : Int)) (by omega)
  unfold spec_l1Str.f
  rw [e]
  simp only [Option.bind_some, if_pos h0, if_pos h1]
  refine ⟨_, _, _, rfl, ?_, h'⟩
  have hlt : v.toNat < l.length := by omega
  unfold rdOf
  rw [List.getD_eq_getElem?_getD, List.getElem?_eq_getElem hlt]
  exact List.getElem_mem hlt
theorem newD {l : List Int} (hl : l.length ≤ 1048576) : ∃ s, Ev (fun k => spec_l1New.f k l) (l, 0, s) := by
  have key : ∀ (suf pre : List Int) (x : Int), l = pre ++ suf → ∃ s, Ev (fun k => spec_l1New.l0 k l x pre.length) (l, 0, s) := by
    intro suf
    induction suf with
    | nil =>
      intro pre x h
      refine ⟨x, ?_⟩
      refine Ev.step (fun k => spec_l1New.l0.eq_2 ..) ?_
      simp only [if_neg (end_at h)]
      exact Ev.now _
    | cons a suf ih =>
      intro pre x h
      by_cases c : (pre.length : Int) < 4000
      · obtain ⟨s, hs⟩ := ih (pre ++ [a]) _ (snoc_at h)
        refine ⟨s, ?_⟩
        refine Ev.step (fun k => spec_l1New.l0.eq_2 ..) ?_
        simp only [if_pos (lt_at h), if_pos c, if_pos (nonneg_at _), next_at h (show l.length ≤ maxLen by rw [maxLen_eq]; omega)]
        exact hs
      · refine ⟨x, ?_⟩
        refine Ev.step (fun k => spec_l1New.l0.eq_2 ..) ?_
        simp only [if_pos (lt_at h), if_neg c]
        exact Ev.now _
  exact key l [] _ rfl
theorem cur0 {l : List Int} (hl : l.length ≤ 1048576) : Cur l 0 := ⟨Int.le_refl _, by omega, hl⟩
end Go.Proofs.Yteabkidfgdmmpaa.L

/- Draws of paths. No condition. -/
set_option linter.unusedSimpArgs false
set_option linter.unusedVariables false
namespace Go.Proofs.Yteabkidfgdmmpaa.L
open Go.RowKit Go.Proofs.YteabkidfgdmmpaaW.PrintWords Go.Proofs.YteabkidfgdmmpaaW.PrintLast Go.Proofs.Yteabkidfgdmmpaa.Q
theorem split_at {α : Type} {t : List α} {i : Int} (h0 : 0 ≤ i) (h1 : i < (t.length : Int)) : ∃ pre r suf, t = pre ++ r :: suf ∧ i = (pre.length : Int) := by
  have hj : i.toNat < t.length := by omega
  refine ⟨t.take i.toNat, t[i.toNat], t.drop (i.toNat + 1), ?_, ?_⟩
  · rw [List.getElem_cons_drop, List.take_append_drop]
  · rw [List.length_take]; omega
def SmP (n : Nat) (l : List ByteArray) : Prop := l.length ≤ n ∧ ∀ x ∈ l, x.size ≤ 1000
theorem SmP.sm {n : Nat} {l : List ByteArray} (h : SmP n l) (hn : n ≤ 1048576) : SmS l := ⟨Nat.le_trans h.1 hn, fun x hx => Nat.le_trans (h.2 x hx) (by omega)⟩
theorem mem_sz2 {v : ByteArray} {l : List ByteArray} (h : v ∈ l) (hl : l.all (fun x => decide (x.size ≤ 1000)) = true) : v.size ≤ 1000 := of_decide_eq_true (List.all_eq_true.1 hl v h)
theorem nameD {b : List Int} {p : Int} (h : Cur b p) (s : Int) : ∃ v p' s', spec_l2Name.f b p s = some (v, p', s') ∧ v.size ≤ 1000 ∧ Cur b p' := by
  unfold spec_l2Name.f
  obtain ⟨v, p1, s1, e, m, h1⟩ := strD h s (l := [(⟨#[97]⟩ : ByteArray), (⟨#[98]⟩ : ByteArray), (⟨#[99]⟩ : ByteArray), (⟨#[97, 32, 98]⟩ : ByteArray), (⟨#[120, 37, 121]⟩ : ByteArray), (⟨#[97]⟩ : ByteArray), (⟨#[98]⟩ : ByteArray)]) (by simp)
  simp only [e, Option.bind_some]
  exact ⟨_, _, _, rfl, mem_sz2 m (by decide), h1⟩
theorem l2DrawD {b : List Int} {p : Int} (h : Cur b p) (s : Int) : ∃ l p' s', Ev (fun k => spec_l2Draw.f k b p s) (l, p', s') ∧ SmP 3 l ∧ Cur b p' := by
  unfold spec_l2Draw.f
  obtain ⟨v, p1, s1, e, v0, v1, h1⟩ := belowD h s (n := 4) (by omega)
  simp only [e, Option.bind_some]
  have key : ∀ (n : Nat) (out : List ByteArray) (q t : Int), (out.length + n ≤ 3 ∧ ∀ x ∈ out, x.size ≤ 1000) → Cur b q → ∃ l p' s', Ev (fun k => spec_l2Draw.l0 k out (n : Int) b q t) (l, p', s') ∧ SmP 3 l ∧ Cur b p' := by
    intro n
    induction n with
    | zero =>
      intro out q t ho hq
      refine ⟨out, q, t, ?_, ⟨by omega, ho.2⟩, hq⟩
      refine Ev.step (fun k => spec_l2Draw.l0.eq_2 ..) ?_
      simp only [if_neg (show ¬ ((0 : Nat) : Int) > 0 by decide)]
      exact Ev.now _
    | succ n ih =>
      intro out q t ho hq
      obtain ⟨x, q1, t1, e, m, hq1⟩ := nameD hq t
      obtain ⟨l, q2, t2, he, hl, hq2⟩ := ih (out ++ [x]) q1 t1 ⟨by simp; omega, fun y hy => by
        rcases List.mem_append.1 hy with hy | hy
        · exact ho.2 y hy
        · simp at hy; subst hy; exact m⟩ hq1
      refine ⟨l, q2, t2, ?_, hl, hq2⟩
      refine Ev.step (fun k => spec_l2Draw.l0.eq_2 ..) ?_
      simp only [if_pos (show ((n + 1 : Nat) : Int) > 0 by omega), e, Option.bind_some, if_pos (show out.length < 8796093022208 by omega)]
      rw [show wrap64 (((n + 1 : Nat) : Int) - 1) = (n : Int) by rw [wrap_id (by omega) (by omega)]; omega]
      exact he
  obtain ⟨n, rfl⟩ := Int.eq_ofNat_of_zero_le v0
  exact key n [] p1 s1 ⟨by simp; omega, by simp⟩ h1
end Go.Proofs.Yteabkidfgdmmpaa.L

/- Texts byte by byte: plain texts, small names, as the program and the reference have them. No condition. -/
set_option linter.unusedSimpArgs false
set_option linter.unusedVariables false
namespace Go.Proofs.Yteabkidfgdmmpaa.L
open Go.RowKit Go.Proofs.YteabkidfgdmmpaaW.PrintWords Go.Proofs.YteabkidfgdmmpaaW.PrintLast Go.Proofs.Yteabkidfgdmmpaa.Q
abbrev bl (s : ByteArray) : List UInt8 := s.data.toList
theorem bl_len (s : ByteArray) : (bl s).length = s.size := data_length s
section
variable {s : ByteArray} {pre suf : List UInt8} {c : UInt8}
theorem blt_at (h : bl s = pre ++ c :: suf) : ((pre.length : Nat) : Int) < (s.size : Int) := by
  have := bl_len s
  rw [h] at this
  simp at this
  omega
theorem bend_at (h : bl s = pre ++ []) : ¬ ((pre.length : Nat) : Int) < (s.size : Int) := by
  have := bl_len s
  rw [h] at this
  simp at this
  omega
theorem bt_at' (h : bl s = pre ++ c :: suf) : bt s (pre.length : Int) = (c.toNat : Int) := by
  have hlt := blt_at h
  have h2 : pre.length < s.size := by omega
  rw [← bt_at s (pre.length : Int) (by simpa using h2)]
  have h3 : pre.length < (bl s).length := by rw [bl_len]; exact h2
  have h4 : (bl s)[pre.length] = c := by simp [h]
  have h5 : s[pre.length]'h2 = (bl s)[pre.length] := by
    show s.data[pre.length] = _
    simp
  simp only [Int.toNat_natCast, h5, h4]
theorem bnext_at (h : bl s = pre ++ c :: suf) (hs : s.size ≤ maxLen) : wrap64 ((pre.length : Int) + 1) = ((pre ++ [c]).length : Int) := by
  have := blt_at h
  rw [maxLen_eq] at hs
  rw [wrap_id (by omega) (by omega)]
  simp
end
theorem byte_bounds (c : UInt8) : 0 ≤ (c.toNat : Int) ∧ (c.toNat : Int) ≤ 255 := ⟨by omega, by have := c.toNat_lt; omega⟩
theorem wrap_byte (c : UInt8) : wrap64 (c.toNat : Int) = (c.toNat : Int) := wrap_id (by omega) (by have := byte_bounds c; omega)
def inB (lo hi : Int) (c : UInt8) : Bool := decide (lo ≤ (c.toNat : Int) ∧ (c.toNat : Int) ≤ hi)
theorem specIn (a b c : Int) : spec_l1In.f a b c = some (decide (b ≤ a ∧ a ≤ c)) := by
  unfold spec_l1In.f
  by_cases h : a ≥ b
  · rw [if_pos h]; simp [show b ≤ a from h]
  · rw [if_neg h]; simp [show ¬ b ≤ a from h]
theorem implIn (a b c : Int) : impl_in.f a b c = some (decide (b ≤ a ∧ a ≤ c)) := by
  unfold impl_in.f
  by_cases h : a ≥ b
  · rw [if_pos h]; simp [show b ≤ a from h]
  · rw [if_neg h]; simp [show ¬ b ≤ a from h]
theorem implIsPlain (c : UInt8) : impl_isPlain.f (c.toNat : Int) = some (inB 32 126 c) := by
  unfold impl_isPlain.f inB
  by_cases h : (c.toNat : Int) ≥ 32
  · rw [if_pos h]; simp only [show (32 : Int) ≤ c.toNat from h, true_and]
  · rw [if_neg h]; simp only [show ¬ (32 : Int) ≤ c.toNat from h, false_and, decide_false]
theorem implIsSmall (c : UInt8) : impl_isSmall.f (c.toNat : Int) = some (inB 97 122 c) := by
  unfold impl_isSmall.f inB
  by_cases h : (c.toNat : Int) ≥ 97
  · rw [if_pos h]; simp only [show (97 : Int) ≤ c.toNat from h, true_and]
  · rw [if_neg h]; simp only [show ¬ (97 : Int) ≤ c.toNat from h, false_and, decide_false]
theorem implIsDigit (c : UInt8) : impl_isDigit.f (c.toNat : Int) = some (inB 48 57 c) := by
  unfold impl_isDigit.f inB
  by_cases h : (c.toNat : Int) ≥ 48
  · rw [if_pos h]; simp only [show (48 : Int) ≤ c.toNat from h, true_and]
  · rw [if_neg h]; simp only [show ¬ (48 : Int) ≤ c.toNat from h, false_and, decide_false]
theorem specSmall1 (c : UInt8) : spec_l1Small.f (c.toNat : Int) = some (inB 97 122 c) := by
  unfold spec_l1Small.f; rw [wrap_byte, specIn]; rfl
theorem specDigit1 (c : UInt8) : spec_l1Digit.f (c.toNat : Int) = some (inB 48 57 c) := by
  unfold spec_l1Digit.f; rw [wrap_byte, specIn]; rfl
def plainL (l : List UInt8) : Bool := l.all (inB 32 126)
theorem specPlain_loop {s : ByteArray} (hs : s.size ≤ maxLen) : ∀ (suf pre : List UInt8), bl s = pre ++ suf → Ev (fun k => spec_Plain.l0 k s pre.length) (plainL suf) := by
  intro suf
  induction suf with
  | nil =>
    intro pre h
    refine Ev.step (fun k => spec_Plain.l0.eq_2 ..) ?_
    simp only [if_neg (bend_at h)]
    exact Ev.now _
  | cons c suf ih =>
    intro pre h
    refine Ev.step (fun k => spec_Plain.l0.eq_2 ..) ?_
    simp only [if_pos (blt_at h), if_pos (nonneg_at _), bt_at' h, wrap_byte, specIn, Option.bind_some, bnext_at h hs]
    have := ih (pre ++ [c]) (snoc_at h)
    simp only [plainL, List.all_cons, inB] at this ⊢
    by_cases e : (32 : Int) ≤ c.toNat ∧ (c.toNat : Int) ≤ 126
    · simp only [e, and_self, decide_true, if_true, Bool.true_and]
      exact this
    · simp only [e, decide_false, Bool.false_eq_true, if_false, Bool.false_and]
      exact Ev.now _
theorem specPlain {s : ByteArray} (hs : s.size ≤ maxLen) : Ev (fun k => spec_Plain.f k s) (plainL (bl s)) := specPlain_loop hs _ [] rfl
theorem implPlain_loop {s : ByteArray} (hs : s.size ≤ maxLen) : ∀ (suf pre : List UInt8), bl s = pre ++ suf → Ev (fun k => impl_Plain.l0 k s pre.length) (plainL suf) := by
  intro suf
  induction suf with
  | nil =>
    intro pre h
    refine Ev.step (fun k => impl_Plain.l0.eq_2 ..) ?_
    simp only [if_neg (bend_at h)]
    exact Ev.now _
  | cons c suf ih =>
    intro pre h
    refine Ev.step (fun k => impl_Plain.l0.eq_2 ..) ?_
    simp only [if_pos (blt_at h), if_pos (nonneg_at _), bt_at' h, implIsPlain, Option.bind_some, bnext_at h hs]
    have := ih (pre ++ [c]) (snoc_at h)
    simp only [plainL, List.all_cons] at this ⊢
    by_cases e : inB 32 126 c = true
    · simp only [e, if_true, Bool.true_and]
      exact this
    · simp only [e, if_false, Bool.false_and]
      exact Ev.now _
theorem implPlain {s : ByteArray} (hs : s.size ≤ maxLen) : Ev (fun k => impl_Plain.f k s) (plainL (bl s)) := implPlain_loop hs _ [] rfl
def smallL : Bool → List UInt8 → Bool
  | _, [] => true
  | first, c :: l => (inB 97 122 c || (!first && (inB 48 57 c || decide (c = 45)))) && smallL false l
theorem eq45 (c : UInt8) : ((c.toNat : Int) = 45) = (c = 45) := by
  apply propext
  constructor
  · intro h
    apply UInt8.toNat_inj.1
    show c.toNat = 45
    omega
  · rintro rfl
    rfl
def smallName (s : ByteArray) : Bool := smallL true (bl s) && decide (1 ≤ (s.size : Int) ∧ (s.size : Int) ≤ 20)
theorem specSmall_loop {s : ByteArray} (hs : s.size ≤ maxLen) : ∀ (suf pre : List UInt8), bl s = pre ++ suf → Ev (fun k => spec_SmallName.l0 k s pre.length) (smallL (decide (pre = [])) suf && decide (1 ≤ (s.size : Int) ∧ (s.size : Int) ≤ 20)) := by
  intro suf
  induction suf with
  | nil =>
    intro pre h
    refine Ev.step (fun k => spec_SmallName.l0.eq_2 ..) ?_
    simp only [if_neg (bend_at h), specIn, Option.bind_some, smallL, Bool.true_and]
    exact Ev.now _
  | cons c suf ih =>
    intro pre h
    refine Ev.step (fun k => spec_SmallName.l0.eq_2 ..) ?_
    simp only [if_pos (blt_at h), if_pos (nonneg_at _), bt_at' h, specSmall1, specDigit1, Option.bind_some, bnext_at h hs, eq45]
    have := ih (pre ++ [c]) (snoc_at h)
    rw [show decide (pre ++ [c] = []) = false by simp] at this
    simp only [smallL]
    by_cases e : inB 97 122 c = true
    · simp only [e, if_true, Bool.true_or, Bool.true_and]
      exact this
    · simp only [e, Bool.false_eq_true, if_false, Bool.false_or]
      by_cases e0 : pre = []
      · subst e0
        simp only [List.length_nil, Int.natCast_zero, if_true, decide_true, Bool.not_true, Bool.false_and]
        exact Ev.now _
      · have hp : ¬ ((pre.length : Nat) : Int) = 0 := by
          intro h0
          exact e0 (List.eq_nil_of_length_eq_zero (by omega))
        simp only [if_neg hp, e0, decide_false, Bool.not_false, Bool.true_and]
        by_cases e1 : inB 48 57 c = true
        · simp only [e1, if_true, Bool.true_or, Bool.true_and]
          exact this
        · simp only [e1, Bool.false_eq_true, if_false, Bool.false_or]
          by_cases e2 : c = 45
          · simp only [e2, if_true, decide_true, Bool.true_and]
            subst e2
            exact this
          · simp only [e2, if_false, decide_false, Bool.false_and]
            exact Ev.now _
theorem specSmall {s : ByteArray} (hs : s.size ≤ maxLen) : Ev (fun k => spec_SmallName.f k s) (smallName s) := specSmall_loop hs _ [] rfl
theorem implSmall_loop {s : ByteArray} (hs : s.size ≤ maxLen) : ∀ (suf pre : List UInt8), bl s = pre ++ suf → Ev (fun k => impl_SmallName.l0 k s pre.length) (smallL (decide (pre = [])) suf && decide (1 ≤ (s.size : Int) ∧ (s.size : Int) ≤ 20)) := by
  intro suf
  induction suf with
  | nil =>
    intro pre h
    refine Ev.step (fun k => impl_SmallName.l0.eq_2 ..) ?_
    simp only [if_neg (bend_at h), implIn, Option.bind_some, smallL, Bool.true_and]
    exact Ev.now _
  | cons c suf ih =>
    intro pre h
    refine Ev.step (fun k => impl_SmallName.l0.eq_2 ..) ?_
    simp only [if_pos (blt_at h), if_pos (nonneg_at _), bt_at' h, implIsSmall, implIsDigit, Option.bind_some, bnext_at h hs, eq45]
    have := ih (pre ++ [c]) (snoc_at h)
    rw [show decide (pre ++ [c] = []) = false by simp] at this
    simp only [smallL]
    by_cases e : inB 97 122 c = true
    · simp only [e, if_true, Bool.true_or, Bool.true_and]
      exact this
    · simp only [e, Bool.false_eq_true, if_false, Bool.false_or]
      by_cases e0 : pre = []
      · subst e0
        simp only [List.length_nil, Int.natCast_zero, if_true, decide_true, Bool.not_true, Bool.false_and]
        exact Ev.now _
      · have hp : ¬ ((pre.length : Nat) : Int) = 0 := by
          intro h0
          exact e0 (List.eq_nil_of_length_eq_zero (by omega))
        simp only [if_neg hp, e0, decide_false, Bool.not_false, Bool.true_and]
        by_cases e1 : inB 48 57 c = true
        · simp only [e1, if_true, Bool.true_or, Bool.true_and]
          exact this
        · simp only [e1, Bool.false_eq_true, if_false, Bool.false_or]
          by_cases e2 : c = 45
          · simp only [e2, if_true, decide_true, Bool.true_and]
            subst e2
            exact this
          · simp only [e2, if_false, decide_false, Bool.false_and]
            exact Ev.now _
theorem implSmall {s : ByteArray} (hs : s.size ≤ maxLen) : Ev (fun k => impl_SmallName.f k s) (smallName s) := implSmall_loop hs _ [] rfl
end Go.Proofs.Yteabkidfgdmmpaa.L

/- Names and paths: are they right; as the program and the reference have it. No condition. -/
set_option linter.unusedSimpArgs false
set_option linter.unusedVariables false
namespace Go.Proofs.Yteabkidfgdmmpaa.L
open Go.RowKit Go.Proofs.YteabkidfgdmmpaaW.PrintWords Go.Proofs.YteabkidfgdmmpaaW.PrintLast Go.Proofs.Yteabkidfgdmmpaa.Q
theorem indexByte_mem (l : List UInt8) (c : UInt8) : (0 ≤ Lib.indexByte l c) ↔ c ∈ l := by
  induction l with
  | nil => simp [Lib.indexByte]
  | cons b l ih =>
    have hge := Lib.indexByte_ge l c
    unfold Lib.indexByte
    by_cases e : b = c
    · simp [e]
    · have e' : ¬ c = b := fun h => e h.symm
      simp only [beq_iff_eq, e, if_false, List.mem_cons, e', false_or]
      rw [← ih]
      by_cases h : Lib.indexByte l c = -1
      · simp [h]
      · simp only [h, if_false]; omega
theorem ba_toList_eq (s : ByteArray) (l : List UInt8) : (s.toList = l) = (bl s = l) := by rw [ba_toList]
def nameOk (s : ByteArray) : Bool := decide (47 ∉ bl s) && (decide (1 ≤ (s.size : Int) ∧ (s.size : Int) ≤ 8) && (plainL (bl s) && (decide (bl s ≠ [46]) && decide (bl s ≠ [46, 46]))))
theorem eq47 (c : UInt8) : ((c.toNat : Int) = 47) = (c = 47) := by
  apply propext
  constructor
  · intro h
    apply UInt8.toNat_inj.1
    show c.toNat = 47
    omega
  · rintro rfl
    rfl
theorem bne_dec {α : Type} [BEq α] [LawfulBEq α] [DecidableEq α] (a b : α) : (a != b) = decide (a ≠ b) := by
  by_cases e : a = b <;> simp [e]
theorem specNameOk {s : ByteArray} (hs : s.size ≤ 1048576) : Ev (fun k => spec_NameOk.f k s) (nameOk s) := by
  have hm : s.size ≤ maxLen := by rw [maxLen_eq]; omega
  have key : ∀ (suf pre : List UInt8), bl s = pre ++ suf → Ev (fun k => spec_NameOk.l0 k s pre.length) (decide (47 ∉ suf) && (decide (1 ≤ (s.size : Int) ∧ (s.size : Int) ≤ 8) && (plainL (bl s) && (decide (bl s ≠ [46]) && decide (bl s ≠ [46, 46]))))) := by
    intro suf
    induction suf with
    | nil =>
      intro pre h
      refine Ev.step (fun k => spec_NameOk.l0.eq_2 ..) ?_
      simp only [if_neg (bend_at h), specIn, Option.bind_some, List.not_mem_nil, not_false_eq_true, decide_true, Bool.true_and]
      by_cases c0 : 1 ≤ (s.size : Int) ∧ (s.size : Int) ≤ 8
      · simp only [c0, decide_true, if_true, and_self, Bool.true_and]
        refine Ev.bind (specPlain hm) ?_
        by_cases c1 : plainL (bl s) = true
        · simp only [c1, if_true, Bool.true_and, ba_toList_eq, bne_dec, ba_toList]
          by_cases c2 : bl s = [46]
          · simp only [c2, if_true]
            exact Ev.now _
          · simp only [c2, if_false, ne_eq, not_false_eq_true, decide_true, Bool.true_and]
            exact Ev.now _
        · simp only [c1, Bool.false_eq_true, if_false, Bool.false_and]
          exact Ev.now _
      · simp only [c0, decide_false, Bool.false_eq_true, if_false, Bool.false_and]
        exact Ev.now _
    | cons c suf ih =>
      intro pre h
      refine Ev.step (fun k => spec_NameOk.l0.eq_2 ..) ?_
      simp only [if_pos (blt_at h), if_pos (nonneg_at _), bt_at' h, eq47, bnext_at h hm]
      by_cases e : c = 47
      · simp only [e, if_true, List.mem_cons, true_or, not_true_eq_false, decide_false, Bool.false_and]
        exact Ev.now _
      · have e' : ¬ 47 = c := fun h => e h.symm
        simp only [e, if_false, List.mem_cons, e', false_or]
        exact ih (pre ++ [c]) (snoc_at h)
  exact key _ [] rfl
theorem implNameOk {s : ByteArray} (hs : s.size ≤ 1048576) : Ev (fun k => impl_NameOk.f k s) (nameOk s) := by
  have hm : s.size ≤ maxLen := by rw [maxLen_eq]; omega
  unfold impl_NameOk.f nameOk
  simp only [implIn, Option.bind_some]
  by_cases c0 : 1 ≤ (s.size : Int) ∧ (s.size : Int) ≤ 8
  · simp only [c0, decide_true, if_true, and_self, Bool.true_and]
    refine Ev.bind (implPlain hm) ?_
    by_cases c1 : plainL (bl s) = true
    · simp only [c1, if_true, Bool.true_and, strings_Contains.f, Option.bind_some, decide_eq_true_eq, indexByte_mem, ba_toList_eq, bne_dec, ba_toList]
      by_cases c2 : (47 : UInt8) ∈ s.data.toList
      · simp only [c2, if_true, not_true_eq_false, decide_false, Bool.false_and]
        exact Ev.now _
      · simp only [c2, if_false, not_false_eq_true, decide_true, Bool.true_and]
        by_cases c3 : bl s = [46]
        · simp only [c3, if_true]
          exact Ev.now _
        · simp only [c3, if_false, ne_eq, not_false_eq_true, decide_true, Bool.true_and]
          exact Ev.now _
    · simp only [c1, Bool.false_eq_true, if_false, Bool.false_and, Bool.and_false]
      exact Ev.now _
  · simp only [c0, decide_false, Bool.false_eq_true, if_false, Bool.false_and, Bool.and_false]
    exact Ev.now _
def pathOk (p : List ByteArray) : Bool := p.all nameOk && decide ((p.length : Int) ≤ 4)
theorem specPathOk {p : List ByteArray} (hp : SmS p) : Ev (fun k => spec_PathOk.f k p) (pathOk p) := by
  have hl : p.length ≤ maxLen := by have := hp.1; rw [maxLen_eq]; omega
  have key : ∀ (suf pre : List ByteArray), p = pre ++ suf → Ev (fun k => spec_PathOk.l0 k p pre.length) (suf.all nameOk && decide ((p.length : Int) ≤ 4)) := by
    intro suf
    induction suf with
    | nil =>
      intro pre h
      refine Ev.step (fun k => spec_PathOk.l0.eq_2 ..) ?_
      simp only [if_neg (end_at h), List.all_nil, Bool.true_and]
      exact Ev.now _
    | cons a suf ih =>
      intro pre h
      refine Ev.step (fun k => spec_PathOk.l0.eq_2 ..) ?_
      simp only [if_pos (lt_at h), if_pos (nonneg_at _), rd_at _ h, next_at h hl]
      refine Ev.bind (specNameOk (hp.2 a (by rw [h]; simp))) ?_
      simp only [List.all_cons]
      by_cases e : nameOk a = true
      · simp only [e, if_true, Bool.true_and]
        exact ih (pre ++ [a]) (snoc_at h)
      · simp only [e, Bool.false_eq_true, if_false, Bool.false_and]
        exact Ev.now _
  exact key p [] rfl
theorem implPathOk {p : List ByteArray} (hp : SmS p) : Ev (fun k => impl_PathOk.f k p) (pathOk p) := by
  have hl : p.length ≤ maxLen := by have := hp.1; rw [maxLen_eq]; omega
  have key : ∀ (suf pre : List ByteArray), p = pre ++ suf → Ev (fun k => impl_PathOk.l0 k p p (p.length : Int) pre.length) (suf.all nameOk && decide ((p.length : Int) ≤ 4)) := by
    intro suf
    induction suf with
    | nil =>
      intro pre h
      refine Ev.step (fun k => impl_PathOk.l0.eq_2 ..) ?_
      simp only [if_neg (end_at h), List.all_nil, Bool.true_and]
      exact Ev.now _
    | cons a suf ih =>
      intro pre h
      refine Ev.step (fun k => impl_PathOk.l0.eq_2 ..) ?_
      simp only [if_pos (lt_at h), if_pos (nonneg_at _), rd_at _ h, next_at h hl]
      refine Ev.bind (implNameOk (hp.2 a (by rw [h]; simp))) ?_
      simp only [List.all_cons]
      by_cases e : nameOk a = true
      · simp only [e, if_true, Bool.true_and]
        exact ih (pre ++ [a]) (snoc_at h)
      · simp only [e, Bool.false_eq_true, if_false, Bool.false_and]
        exact Ev.now _
  exact key p [] rfl
end Go.Proofs.Yteabkidfgdmmpaa.L

/- A path without its last name; as the program and the reference have it. No condition. -/
set_option linter.unusedSimpArgs false
set_option linter.unusedVariables false
namespace Go.Proofs.Yteabkidfgdmmpaa.L
open Go.RowKit Go.Proofs.YteabkidfgdmmpaaW.PrintWords Go.Proofs.YteabkidfgdmmpaaW.PrintLast Go.Proofs.Yteabkidfgdmmpaa.Q
def above (p : List ByteArray) : List ByteArray := p.take (p.length - 1)
theorem above_wrap {p : List ByteArray} (hp : p.length ≤ 1048576) (h : ¬ (p.length : Int) = 0) : wrap64 ((p.length : Int) - 1) = ((p.length - 1 : Nat) : Int) := by
  rw [wrap_id (by omega) (by omega)]; omega
theorem implCopyPath {p : List ByteArray} (hp : p.length ≤ 1048576) : impl_copyPath.f p = some p := by
  unfold impl_copyPath.f
  rw [if_pos (by simp; omega)]; rfl
theorem specAbove {p : List ByteArray} (hp : p.length ≤ 1048576) : spec_Above.f p = some (above p) := by
  unfold spec_Above.f above
  by_cases h : (p.length : Int) = 0
  · rw [if_pos h]
    have : p = [] := List.eq_nil_of_length_eq_zero (by omega)
    rw [this]; rfl
  · simp only [if_neg h, Option.bind_some, above_wrap hp h, if_pos (Int.natCast_nonneg _), Int.toNat_natCast]
    rw [if_pos (by omega), if_pos (by simp; omega)]; rfl
theorem implAbove {p : List ByteArray} (hp : p.length ≤ 1048576) : impl_Above.f p = some (above p) := by
  unfold impl_Above.f above
  by_cases h : (p.length : Int) = 0
  · rw [if_pos h]
    have : p = [] := List.eq_nil_of_length_eq_zero (by omega)
    rw [this]; rfl
  · simp only [if_neg h, above_wrap hp h, if_pos (Int.natCast_nonneg _), Int.toNat_natCast]
    rw [if_pos (by omega), implCopyPath (by simp; omega)]; rfl
end Go.Proofs.Yteabkidfgdmmpaa.L

/- The laws' own functions over a mirrored struct (Prop): size, copy, equality. No condition. -/
set_option linter.unusedSimpArgs false
set_option linter.unusedVariables false
namespace Go.Proofs.Yteabkidfgdmmpaa.L
open Go.RowKit Go.Proofs.YteabkidfgdmmpaaW.PrintWords Go.Proofs.YteabkidfgdmmpaaW.PrintLast Go.Proofs.Yteabkidfgdmmpaa.Q
instance : DecidableEq S71 := fun a b => if h : a.f0 = b.f0 ∧ a.f1 = b.f1 ∧ a.f2 = b.f2 then .isTrue (by cases a; cases b; simp_all) else .isFalse (fun e => h (by rw [e]; exact ⟨rfl, rfl, rfl⟩))
theorem rd_implProp {l pre suf : List S71} {a : S71} (h : l = pre ++ a :: suf) : rd_T71 l (pre.length : Int) = a := getD_at _ h
def SmProp (p : S71) : Prop := p.f0.size ≤ 1048576 ∧ p.f1.size ≤ 1048576 ∧ p.f2.size ≤ 1048576
def SmProps (l : List S71) : Prop := l.length ≤ 1048576 ∧ ∀ p ∈ l, SmProp p
end Go.Proofs.Yteabkidfgdmmpaa.L

/- The laws' own functions over a mirrored struct (Res): size, copy, equality. No condition. -/
set_option linter.unusedSimpArgs false
set_option linter.unusedVariables false
namespace Go.Proofs.Yteabkidfgdmmpaa.L
open Go.RowKit Go.Proofs.YteabkidfgdmmpaaW.PrintWords Go.Proofs.YteabkidfgdmmpaaW.PrintLast Go.Proofs.Yteabkidfgdmmpaa.Q
instance : DecidableEq S59 := fun a b => if h : a.f0 = b.f0 ∧ a.f1 = b.f1 ∧ a.f2 = b.f2 ∧ a.f3 = b.f3 ∧ a.f4 = b.f4 then .isTrue (by cases a; cases b; simp_all) else .isFalse (fun e => h (by rw [e]; exact ⟨rfl, rfl, rfl, rfl, rfl⟩))
theorem rd_implRes {l pre suf : List S59} {a : S59} (h : l = pre ++ a :: suf) : rd_T59 l (pre.length : Int) = a := getD_at _ h
def SmRes (p : S59) : Prop := SmS p.f0 ∧ True ∧ p.f2.size ≤ 1048576 ∧ IntOk p.f3 ∧ SmProps p.f4
def SmRess (l : List S59) : Prop := l.length ≤ 1048576 ∧ ∀ p ∈ l, SmRes p
end Go.Proofs.Yteabkidfgdmmpaa.L

/- Paths: are they the same, is one under the other; as the program and the reference have it. No condition. -/
set_option linter.unusedSimpArgs false
set_option linter.unusedVariables false
namespace Go.Proofs.Yteabkidfgdmmpaa.L
open Go.RowKit Go.Proofs.YteabkidfgdmmpaaW.PrintWords Go.Proofs.YteabkidfgdmmpaaW.PrintLast Go.Proofs.Yteabkidfgdmmpaa.Q
theorem specSame {a b : List ByteArray} (hl : a.length ≤ maxLen) : Ev (fun k => spec_SamePath.f k a b) (decide (a = b)) := by
  unfold spec_SamePath.f
  by_cases e : (a.length : Int) = (b.length : Int)
  · simp only [if_pos e]
    refine eq_loop (a := a) (b := b) (fun k i => spec_SamePath.l0 k a b i) ?_ ?_ a b [] [] rfl rfl rfl (by omega)
    · refine Ev.step (fun k => spec_SamePath.l0.eq_2 ..) ?_
      simp only [Int.lt_irrefl, if_false]
      exact Ev.now _
    · intro pre x su pre' y sv h h' hp
      have h3 := rd_at ByteArray.empty h'
      have h4 := lt_at h'
      rw [← hp] at h3 h4
      refine ⟨fun hne => ?_, fun heq r hr => ?_⟩
      · refine Ev.step (fun k => spec_SamePath.l0.eq_2 ..) ?_
        simp only [if_pos (lt_at h), if_pos (nonneg_at _), if_pos h4, rd_at _ h, h3, ba_eq, hne, if_false]
        exact Ev.now _
      · refine Ev.step (fun k => spec_SamePath.l0.eq_2 ..) ?_
        simp only [if_pos (lt_at h), if_pos (nonneg_at _), if_pos h4, rd_at _ h, h3, heq, if_true, next_at h hl]
        rw [heq] at hr
        exact hr
  · simp only [if_neg e]
    rw [show decide (a = b) = false from decide_eq_false (fun h => e (by rw [h]))]
    exact Ev.now _
theorem implSame {a b : List ByteArray} (hl : a.length ≤ maxLen) : Ev (fun k => impl_SamePath.f k a b) (decide (a = b)) := by
  unfold impl_SamePath.f
  by_cases e : (a.length : Int) = (b.length : Int)
  · simp only [if_pos e]
    refine eq_loop (a := a) (b := b) (fun k i => impl_SamePath.l0 k a b (a.length : Int) i) ?_ ?_ a b [] [] rfl rfl rfl (by omega)
    · refine Ev.step (fun k => impl_SamePath.l0.eq_2 ..) ?_
      simp only [Int.lt_irrefl, if_false]
      exact Ev.now _
    · intro pre x su pre' y sv h h' hp
      have h3 := rd_at ByteArray.empty h'
      have h4 := lt_at h'
      rw [← hp] at h3 h4
      refine ⟨fun hne => ?_, fun heq r hr => ?_⟩
      · refine Ev.step (fun k => impl_SamePath.l0.eq_2 ..) ?_
        simp only [if_pos (lt_at h), if_pos (nonneg_at _), if_pos h4, rd_at _ h, h3, ba_eq, hne, if_false]
        exact Ev.now _
      · refine Ev.step (fun k => impl_SamePath.l0.eq_2 ..) ?_
        simp only [if_pos (lt_at h), if_pos (nonneg_at _), if_pos h4, rd_at _ h, h3, heq, if_true, next_at h hl]
        rw [heq] at hr
        exact hr
  · simp only [if_neg e]
    rw [show decide (a = b) = false from decide_eq_false (fun h => e (by rw [h]))]
    exact Ev.now _
end Go.Proofs.Yteabkidfgdmmpaa.L

/- Shelves: the place of a thing, is it a shelf; as the program and the reference have it. No condition. -/
set_option linter.unusedSimpArgs false
set_option linter.unusedVariables false
namespace Go.Proofs.Yteabkidfgdmmpaa.L
open Go.RowKit Go.Proofs.YteabkidfgdmmpaaW.PrintWords Go.Proofs.YteabkidfgdmmpaaW.PrintLast Go.Proofs.Yteabkidfgdmmpaa.Q
def findFrom (p : List ByteArray) : List S59 → Nat → Int
  | [], _ => -1
  | r :: t, i => if r.f0 = p then (i : Int) else findFrom p t (i + 1)
def findR (t : List S59) (p : List ByteArray) : Int := findFrom p t 0
theorem findFrom_cases (p : List ByteArray) : ∀ (t : List S59) (i : Nat), findFrom p t i = -1 ∧ (∀ r ∈ t, r.f0 ≠ p) ∨ ∃ j, ∃ r, findFrom p t i = ((i + j : Nat) : Int) ∧ t[j]? = some r ∧ r.f0 = p ∧ ∀ j', j' < j → ∀ r', t[j']? = some r' → r'.f0 ≠ p := by
  intro t
  induction t with
  | nil => exact fun i => .inl ⟨rfl, by simp⟩
  | cons r t ih =>
    intro i
    by_cases e : r.f0 = p
    · refine .inr ⟨0, r, by simp [findFrom, e], rfl, e, fun j' h => absurd h (Nat.not_lt_zero _)⟩
    · rcases ih (i + 1) with ⟨h, h2⟩ | ⟨j, r', h, h2, h3, h4⟩
      · exact .inl ⟨by simp [findFrom, e, h], fun x hx => by
          rcases List.mem_cons.1 hx with rfl | hx
          · exact e
          · exact h2 x hx⟩
      · refine .inr ⟨j + 1, r', by simp [findFrom, e, h]; omega, h2, h3, fun j' hj' x hx => ?_⟩
        cases j' with
        | zero =>
          simp at hx
          rw [← hx]
          exact e
        | succ j' => exact h4 j' (by omega) x hx
theorem specFind {t : List S59} {p : List ByteArray} (ht : SmRess t) : Ev (fun k => spec_FindRes.f k t p) (findR t p) := by
  have hl : t.length ≤ maxLen := by have := ht.1; rw [maxLen_eq]; omega
  have key : ∀ (suf pre : List S59), t = pre ++ suf → Ev (fun k => spec_FindRes.l0 k t p pre.length) (findFrom p suf pre.length) := by
    intro suf
    induction suf with
    | nil =>
      intro pre h
      refine Ev.step (fun k => spec_FindRes.l0.eq_2 ..) ?_
      simp only [if_neg (end_at h)]
      exact Ev.now _
    | cons a suf ih =>
      intro pre h
      have hs := (ht.2 a (by rw [h]; simp)).1.1
      refine Ev.step (fun k => spec_FindRes.l0.eq_2 ..) ?_
      simp only [if_pos (lt_at h), if_pos (nonneg_at _), rd_implRes h]
      refine Ev.bind (specSame (by rw [maxLen_eq]; omega)) ?_
      simp only [findFrom, next_at h hl]
      by_cases e : a.f0 = p
      · simp only [e, decide_true, if_true]
        exact Ev.now _
      · simp only [e, decide_false, Bool.false_eq_true, if_false]
        have := ih (pre ++ [a]) (snoc_at h)
        rw [List.length_append, List.length_singleton] at this ⊢
        exact this
  exact key t [] rfl
theorem implFind {t : List S59} {p : List ByteArray} (ht : SmRess t) : Ev (fun k => impl_FindRes.f k t p) (findR t p) := by
  have hl : t.length ≤ maxLen := by have := ht.1; rw [maxLen_eq]; omega
  have key : ∀ (suf pre : List S59), t = pre ++ suf → Ev (fun k => impl_FindRes.l0 k p t (t.length : Int) pre.length) (findFrom p suf pre.length) := by
    intro suf
    induction suf with
    | nil =>
      intro pre h
      refine Ev.step (fun k => impl_FindRes.l0.eq_2 ..) ?_
      simp only [if_neg (end_at h)]
      exact Ev.now _
    | cons a suf ih =>
      intro pre h
      have hs := (ht.2 a (by rw [h]; simp)).1.1
      refine Ev.step (fun k => impl_FindRes.l0.eq_2 ..) ?_
      simp only [if_pos (lt_at h), if_pos (nonneg_at _), rd_implRes h]
      refine Ev.bind (implSame (by rw [maxLen_eq]; omega)) ?_
      simp only [findFrom, next_at h hl]
      by_cases e : a.f0 = p
      · simp only [e, decide_true, if_true]
        exact Ev.now _
      · simp only [e, decide_false, Bool.false_eq_true, if_false]
        have := ih (pre ++ [a]) (snoc_at h)
        rw [List.length_append, List.length_singleton] at this ⊢
        exact this
  exact key t [] rfl
def isColl (t : List S59) (p : List ByteArray) : Bool := decide (p = []) || (decide (0 ≤ findR t p) && (rd_T59 t (findR t p)).f1)
theorem findR_lt (t : List S59) (p : List ByteArray) (h : 0 ≤ findR t p) : findR t p < (t.length : Int) := by
  rcases findFrom_cases p t 0 with ⟨h1, _⟩ | ⟨j, r, h1, h2, _⟩
  · unfold findR at h; omega
  · unfold findR
    have := (List.getElem?_eq_some_iff.1 h2).1
    omega
theorem nil_len {α : Type} (p : List α) : ((p.length : Int) = 0) = (p = []) := propext ⟨fun h => List.eq_nil_of_length_eq_zero (by omega), fun h => by rw [h]; rfl⟩
theorem specIsColl {t : List S59} {p : List ByteArray} (ht : SmRess t) : Ev (fun k => spec_IsColl.f k t p) (isColl t p) := by
  unfold spec_IsColl.f
  refine Ev.bind (specFind ht) ?_
  simp only [nil_len, isColl]
  by_cases e : p = []
  · simp only [e, if_true, decide_true, Bool.true_or]
    exact Ev.now _
  · simp only [e, if_false, decide_false, Bool.false_or]
    by_cases h : 0 ≤ findR t p
    · simp only [ge_iff_le, h, if_true, if_pos (findR_lt t p h), decide_true, Bool.true_and]
      exact Ev.now _
    · simp only [ge_iff_le, h, if_false, decide_false, Bool.false_and]
      exact Ev.now _
theorem implIsColl {t : List S59} {p : List ByteArray} (ht : SmRess t) : Ev (fun k => impl_IsColl.f k t p) (isColl t p) := by
  unfold impl_IsColl.f
  simp only [nil_len, isColl]
  by_cases e : p = []
  · simp only [e, if_true, decide_true, Bool.true_or]
    exact Ev.now _
  · simp only [e, if_false, decide_false, Bool.false_or]
    refine Ev.bind (implFind ht) ?_
    by_cases h : 0 ≤ findR t p
    · simp only [ge_iff_le, h, if_true, if_pos (findR_lt t p h), decide_true, Bool.true_and]
      exact Ev.now _
    · simp only [ge_iff_le, h, if_false, decide_false, Bool.false_and]
      exact Ev.now _
end Go.Proofs.Yteabkidfgdmmpaa.L

/- Properties: are they right, and which one is of a space and a name; as the program and the reference have it. No condition. -/
set_option linter.unusedSimpArgs false
set_option linter.unusedVariables false
namespace Go.Proofs.Yteabkidfgdmmpaa.L
open Go.RowKit Go.Proofs.YteabkidfgdmmpaaW.PrintWords Go.Proofs.YteabkidfgdmmpaaW.PrintLast Go.Proofs.Yteabkidfgdmmpaa.Q
def propOk (p : S71) : Bool := decide ((p.f0.size : Int) ≤ 20) && plainL (bl p.f0) && smallName p.f1 && decide ((p.f2.size : Int) ≤ 20) && plainL (bl p.f2)
def lessProp (p q : S71) : Bool := if p.f0 = q.f0 then Op.bytesLess p.f1.toList q.f1.toList else Op.bytesLess p.f0.toList q.f0.toList
theorem bytesLess_irrefl : ∀ l : List UInt8, Op.bytesLess l l = false
  | [] => rfl
  | a :: l => by simp [Op.bytesLess, bytesLess_irrefl l]
theorem specPropOk {p : S71} (hp : SmProp p) : Ev (fun k => spec_l10Prop.f k p.f0 p.f1 p.f2) (propOk p) := by
  obtain ⟨g0, g1, g2⟩ := hp
  have h : ∀ s : ByteArray, s.size ≤ 1048576 → s.size ≤ maxLen := fun s h => by rw [maxLen_eq]; omega
  unfold spec_l10Prop.f propOk
  by_cases c0 : (p.f0.size : Int) ≤ 20
  · simp only [if_pos c0, c0, decide_true, Bool.true_and]
    refine Ev.bind (specPlain (h _ g0)) ?_
    by_cases c1 : plainL (bl p.f0) = true
    · simp only [c1, if_true, Bool.true_and]
      refine Ev.bind (specSmall (h _ g1)) ?_
      by_cases c2 : smallName p.f1 = true
      · simp only [c2, if_true, Bool.true_and]
        by_cases c3 : (p.f2.size : Int) ≤ 20
        · simp only [if_pos c3, c3, decide_true, Bool.true_and]
          exact Ev.bind (specPlain (h _ g2)) (Ev.now _)
        · simp only [if_neg c3, c3, decide_false, Bool.false_and]
          exact Ev.now _
      · simp only [c2, Bool.false_eq_true, if_false, Bool.false_and]
        exact Ev.now _
    · simp only [c1, Bool.false_eq_true, if_false, Bool.false_and]
      exact Ev.now _
  · simp only [if_neg c0, c0, decide_false, Bool.false_and]
    exact Ev.now _
theorem implPropOk {p : S71} (hp : SmProp p) : Ev (fun k => impl_propOk.f k p.f0 p.f1 p.f2) (propOk p) := by
  obtain ⟨g0, g1, g2⟩ := hp
  have h : ∀ s : ByteArray, s.size ≤ 1048576 → s.size ≤ maxLen := fun s h => by rw [maxLen_eq]; omega
  unfold impl_propOk.f propOk
  by_cases c0 : (p.f0.size : Int) ≤ 20
  · simp only [if_pos c0, c0, decide_true, Bool.true_and]
    refine Ev.bind (implPlain (h _ g0)) ?_
    by_cases c1 : plainL (bl p.f0) = true
    · simp only [c1, if_true, Bool.true_and]
      refine Ev.bind (implSmall (h _ g1)) ?_
      by_cases c2 : smallName p.f1 = true
      · simp only [c2, if_true, Bool.true_and]
        by_cases c3 : (p.f2.size : Int) ≤ 20
        · simp only [if_pos c3, c3, decide_true, Bool.true_and]
          exact Ev.bind (implPlain (h _ g2)) (Ev.now _)
        · simp only [if_neg c3, c3, decide_false, Bool.false_and]
          exact Ev.now _
      · simp only [c2, Bool.false_eq_true, if_false, Bool.false_and]
        exact Ev.now _
    · simp only [c1, Bool.false_eq_true, if_false, Bool.false_and]
      exact Ev.now _
  · simp only [if_neg c0, c0, decide_false, Bool.false_and]
    exact Ev.now _
theorem specLessProp (p q : S71) : spec_l10LessProp.f p.f0 p.f1 p.f2 q.f0 q.f1 q.f2 = some (lessProp p q) := by
  unfold spec_l10LessProp.f lessProp
  simp only [ba_eq]
  by_cases e : p.f0 = q.f0 <;> simp [e]
theorem implLessProp (p q : S71) : impl_lessProp.f p.f0 p.f1 p.f2 q.f0 q.f1 q.f2 = some (lessProp p q) := by
  unfold impl_lessProp.f lessProp
  simp only [ba_eq]
  by_cases e : p.f0 = q.f0
  · simp [e, bytesLess_irrefl]
  · simp only [if_neg e]
    cases Op.bytesLess p.f0.toList q.f0.toList <;> simp
def propsL : Option S71 → List S71 → Bool
  | _, [] => true
  | last, p :: l => propOk p && (match last with | none => true | some q => lessProp q p) && propsL (some p) l
def propsOk (l : List S71) : Bool := propsL none l && decide ((l.length : Int) ≤ 4)
theorem pred_at {α : Type} {l pre suf : List α} {a b : α} (h : l = pre ++ [b] ++ a :: suf) (hl : l.length ≤ maxLen) : wrap64 (((pre ++ [b]).length : Int) - 1) = (pre.length : Int) := by
  have : l.length = pre.length + 1 + (suf.length + 1) := by rw [h]; simp; omega
  rw [maxLen_eq] at hl
  have e : ((pre ++ [b]).length : Int) = pre.length + 1 := by simp
  rw [e, wrap_id (by omega) (by omega)]
  omega
theorem specPropsOkB {l : List S71} (hl : l.length ≤ maxLen) (hs : ∀ p ∈ l, SmProp p) : Ev (fun k => spec_PropsOk.f k l) (propsOk l) := by
  have key : ∀ (suf pre : List S71), l = pre ++ suf → Ev (fun k => spec_PropsOk.l0 k l pre.length) (propsL pre.getLast? suf && decide ((l.length : Int) ≤ 4)) := by
    intro suf
    induction suf with
    | nil =>
      intro pre h
      refine Ev.step (fun k => spec_PropsOk.l0.eq_2 ..) ?_
      simp only [if_neg (end_at h), propsL, Bool.true_and]
      exact Ev.now _
    | cons a suf ih =>
      intro pre h
      have hn := ih (pre ++ [a]) (snoc_at h)
      rw [List.getLast?_append] at hn
      simp only [List.getLast?_singleton, Option.some_or] at hn
      refine Ev.step (fun k => spec_PropsOk.l0.eq_2 ..) ?_
      simp only [if_pos (lt_at h), if_pos (nonneg_at _), rd_implProp h]
      refine Ev.bind (specPropOk (hs a (by rw [h]; simp))) ?_
      simp only [propsL]
      by_cases c0 : propOk a = true
      · simp only [c0, if_true, Bool.true_and]
        rcases List.eq_nil_or_concat pre with rfl | ⟨pre', b, rfl⟩
        · simp only [List.length_nil, Int.natCast_zero, show ¬ (0 : Int) > 0 by omega, if_false, List.getLast?_nil, Bool.true_and]
          have := next_at h hl
          simp only [List.length_nil, Int.natCast_zero] at this
          rw [this]
          exact hn
        · rw [List.concat_eq_append] at h hn ⊢
          have hp := pred_at h hl
          have h2 : l = pre' ++ b :: (a :: suf) := by rw [h]; simp
          simp only [show (((pre' ++ [b]).length : Nat) : Int) > 0 by first | (simp; done) | (simp; omega), if_true, hp, if_pos (nonneg_at _), if_pos (lt_at h2), rd_implProp h2, specLessProp, Option.bind_some, List.getLast?_append, List.getLast?_singleton, Option.some_or, next_at h hl]
          by_cases c1 : lessProp b a = true
          · simp only [c1, if_true, Bool.true_and]
            exact hn
          · simp only [c1, Bool.false_eq_true, if_false, Bool.false_and]
            exact Ev.now _
      · simp only [c0, Bool.false_eq_true, if_false, Bool.false_and]
        exact Ev.now _
  exact key l [] rfl
theorem implPropsOkB {l : List S71} (hl : l.length ≤ maxLen) (hs : ∀ p ∈ l, SmProp p) : Ev (fun k => impl_PropsOk.f k l) (propsOk l) := by
  have key : ∀ (suf pre : List S71), l = pre ++ suf → Ev (fun k => impl_PropsOk.l0 k l l (l.length : Int) pre.length) (propsL pre.getLast? suf && decide ((l.length : Int) ≤ 4)) := by
    intro suf
    induction suf with
    | nil =>
      intro pre h
      refine Ev.step (fun k => impl_PropsOk.l0.eq_2 ..) ?_
      simp only [if_neg (end_at h), propsL, Bool.true_and]
      exact Ev.now _
    | cons a suf ih =>
      intro pre h
      have hn := ih (pre ++ [a]) (snoc_at h)
      rw [List.getLast?_append] at hn
      simp only [List.getLast?_singleton, Option.some_or] at hn
      refine Ev.step (fun k => impl_PropsOk.l0.eq_2 ..) ?_
      simp only [if_pos (lt_at h), if_pos (nonneg_at _), rd_implProp h]
      refine Ev.bind (implPropOk (hs a (by rw [h]; simp))) ?_
      simp only [propsL]
      by_cases c0 : propOk a = true
      · simp only [c0, if_true, Bool.true_and]
        rcases List.eq_nil_or_concat pre with rfl | ⟨pre', b, rfl⟩
        · simp only [List.length_nil, Int.natCast_zero, show ¬ (0 : Int) > 0 by omega, if_false, List.getLast?_nil, Bool.true_and]
          have := next_at h hl
          simp only [List.length_nil, Int.natCast_zero] at this
          rw [this]
          exact hn
        · rw [List.concat_eq_append] at h hn ⊢
          have hp := pred_at h hl
          have h2 : l = pre' ++ b :: (a :: suf) := by rw [h]; simp
          simp only [show (((pre' ++ [b]).length : Nat) : Int) > 0 by first | (simp; done) | (simp; omega), if_true, hp, if_pos (nonneg_at _), if_pos (lt_at h2), rd_implProp h2, implLessProp, Option.bind_some, List.getLast?_append, List.getLast?_singleton, Option.some_or, next_at h hl]
          by_cases c1 : lessProp b a = true
          · simp only [c1, if_true, Bool.true_and]
            exact hn
          · simp only [c1, Bool.false_eq_true, if_false, Bool.false_and]
            exact Ev.now _
      · simp only [c0, Bool.false_eq_true, if_false, Bool.false_and]
        exact Ev.now _
  exact key l [] rfl
theorem specPropsOk {l : List S71} (hs : SmProps l) : Ev (fun k => spec_PropsOk.f k l) (propsOk l) := specPropsOkB (by have := hs.1; rw [maxLen_eq]; omega) hs.2
theorem implPropsOk {l : List S71} (hs : SmProps l) : Ev (fun k => impl_PropsOk.f k l) (propsOk l) := implPropsOkB (by have := hs.1; rw [maxLen_eq]; omega) hs.2
end Go.Proofs.Yteabkidfgdmmpaa.L
