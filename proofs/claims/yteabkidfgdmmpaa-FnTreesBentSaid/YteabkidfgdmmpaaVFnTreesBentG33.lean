-- PRINTED by print.py (a twelfth state) out of the translation. Not trusted: Lean checks it.
import Derived.Test.YteabkidfgdmmpaaVFnTreesBentG32
set_option maxHeartbeats 8000000
set_option maxRecDepth 100000
namespace Go.Proofs.Yteabkidfgdmmpaa.Q
open Go.RowKit Go.Proofs.YteabkidfgdmmpaaW.PrintWords Go.Proofs.YteabkidfgdmmpaaW.PrintLast Go.Proofs.YteabkidfgdmmpaaW.PrintMore
attribute [local go_sem] max2_int min2_int max_two min_two max_three min_three max_four min_four   -- for this text's walks alone
set_option linter.unusedVariables false
set_option linter.unusedSimpArgs false
theorem bIQx300_ {P : Prop} (h : P := by repeat (first | (with_reducible first | exact HB.out | apply below_alloc | apply pw_below_drewN | apply below_drew1) | exact HB.out)) : P := h
def spec_DrawFindRes.f (k : Nat) (l0 : List Int) : Option ((List (S59)) × List ByteArray) := (spec_l1New.f k l0).bind fun bt1083 => ((spec_l10Any.f k bt1083.1 bt1083.2.1 bt1083.2.2).bind fun bt1087 => ((spec_l10Path.f k bt1083.1 bt1087.2.1 bt1087.2.2 bt1087.1).bind fun bt1092 => (some (bt1087.1, bt1092.1))))
theorem spec_DrawFindRes.calls (k : Nat) (A0 : Option Addr) (c0 : Nat) (l0 : List Int) (r1 : List (S59)) (r2 : List ByteArray) (w : World) (hr0 : Kd.C (Kd.int .u8) w A0 l0.length l0) (hc0 : l0.length ≤ c0) (h : spec_DrawFindRes.f k l0 = some (r1, r2)) :
 Calls Try.prog 55 #[.slice A0 l0.length c0] w fun e w' => ∃ v0_ v1_ : Value, e = .returned (.tuple #[v0_, v1_]) ∧ Kd.S k59 59 w' w.heap.size (fun k_ => some k_ ≠ (v1_ : Value).ownBlock) v0_ r1 ∧ Kd.R Kd.string 9 w' w.heap.size (fun _ => True) v1_ r2 ∧ Below w.heap.size w w' := by
 have HR0 := A_ hr0
 have HC0 := A_ hc0
 clear hr0 hc0
 have HB := A_ (Below.refl w.heap.size w)
 have H : ((spec_l1New.f k l0).bind fun bt1083 => ((spec_l10Any.f k bt1083.1 bt1083.2.1 bt1083.2.2).bind fun bt1087 => ((spec_l10Path.f k bt1083.1 bt1087.2.1 bt1087.2.2 bt1087.1).bind fun bt1092 => (some (bt1087.1, bt1092.1))))) = some (r1, r2) := h
 clear h
 obtain ⟨⟨t1083, t1084, t1085⟩, A2, H⟩ := bo_ H
 (try dsimp only at H)
 obtain ⟨⟨t1087, t1090, t1091⟩, A3, H⟩ := bo_ H
 (try dsimp only at H)
 obtain ⟨⟨t1092, t1095, t1096⟩, A4, H⟩ := bo_ H
 (try dsimp only at H)
 simp only [Option.some.injEq, Prod.mk.injEq] at H
 obtain ⟨rfl, rfl⟩ := H
 go_enter Try.func55, Try.ntmps55
 go_wp2_with (first | ((with_reducible refine gc_ (f := 85) rfl ?_); refine gL_ (some 7) Try.func85 #[.slice A0 l0.length c0] ?_; (with_reducible refine (spec_l1New.calls k _ _ l0 t1083 t1084 t1085 w _ ?s1 ?s2 ?s3 A2.out).mono ?_); (case s1 => exact bIQx300_); (case s2 => exact HR0.out); (case s3 => exact HC0.out); rintro e w5 ⟨g1086, rfl, hi, hb, hb2⟩; refine ⟨_, rfl, ?_⟩; replace HB := A_ (hb); have HI1086 := A_ (hi); (try clear hb); (try clear hb2); (try clear hk); (try clear hi)) | ((with_reducible refine gc_ (f := 88) rfl ?_); refine gL_ (some 9) Try.func88 #[.pointer (some ⟨g1086, 0, none⟩)] ?_; (with_reducible refine (spec_l10Any.calls k g1086 t1083 t1084 t1085 t1087 t1090 t1091 w _ ?s1 ?s2 A3.out).mono ?_); (case s1 => repeat (first | (with_reducible first | exact HI1086.out | apply IsS94.alloc | apply IsS94.drewN | apply IsS94.drew | apply IsS94.set_1 | apply IsS94.set_2) | exact HI1086.out)); (case s2 => repeat (first | (with_reducible first | exact HB.out | apply below_alloc | apply pw_below_drewN | apply below_drew1 | refine below_set ?_ (IsS94.ge HI1086.out)) | exact HB.out)); rintro e w6 ⟨v1088, rfl, ho0, hi, hb, hk⟩; refine ⟨_, rfl, ?_⟩; have HO1089 := A_ (Kd.S_lower ho0 (below_size (by repeat (first | (with_reducible first | exact HB.out | apply below_alloc | apply pw_below_drewN | apply below_drew1 | refine below_set ?_ (IsS94.ge HI1086.out)) | exact HB.out)))); replace HB := A_ (hb); replace HI1086 := A_ (hi); (try clear hb); (try clear hb2); (try clear hk); (try clear hi); (try clear ho0); obtain ⟨Ao7, co7, eo7⟩ := Kd.S_slice HO1089.out; subst eo7) | ((with_reducible refine gc_ (f := 87) rfl ?_); refine gL_ (some 13) Try.func87 #[.pointer (some ⟨g1086, 0, none⟩), .slice Ao7 t1087.length co7] ?_; (with_reducible refine (spec_l10Path.calls k g1086 t1083 t1090 t1091 _ _ t1087 t1092 t1095 t1096 w _ ?s1 ?s2 ?s3 ?s4 A4.out).mono ?_); (case s1 => repeat (first | (with_reducible first | exact HI1086.out | apply IsS94.alloc | apply IsS94.drewN | apply IsS94.drew | apply IsS94.set_1 | apply IsS94.set_2) | exact HI1086.out)); (case s2 => repeat (first | (with_reducible first | exact HB.out | apply below_alloc | apply pw_below_drewN | apply below_drew1 | refine below_set ?_ (IsS94.ge HI1086.out)) | exact HB.out)); (case s3 => exact Kd.C_foot_own ((Kd.S_R (IsS94.apartS (show IsS94 w _ g1086 t1083 t1090 t1091 from by repeat (first | (with_reducible first | exact HI1086.out | apply IsS94.alloc | apply IsS94.drewN | apply IsS94.drew | apply IsS94.set_1 | apply IsS94.set_2) | exact HI1086.out)) (vS_ HO1089.out) (by decide)))) (fun _ h_ => h_.2)); (case s4 => exact (Kd.S_reads' HO1089.out).2.1); rintro e w8 ⟨v1093, rfl, ho0, hi, hb, hk⟩; refine ⟨_, rfl, ?_⟩; replace HO1089 := A_ (Kd.S_mono (Kd.S_told (Kd.S_oldK (IsS94.apartS (show IsS94 w _ g1086 t1083 t1090 t1091 from by repeat (first | (with_reducible first | exact HI1086.out | apply IsS94.alloc | apply IsS94.drewN | apply IsS94.drew | apply IsS94.set_1 | apply IsS94.set_2) | exact HI1086.out)) (vS_ HO1089.out) (by decide)) hk) (kb_ ho0)) (fun _ h_ => h_.1)); have HO1094 := A_ (Kd.R_lower ho0 (below_size (by repeat (first | (with_reducible first | exact HB.out | apply below_alloc | apply pw_below_drewN | apply below_drew1 | refine below_set ?_ (IsS94.ge HI1086.out)) | exact HB.out)))); replace HB := A_ (hb); replace HI1086 := A_ (hi); (try clear hb); (try clear hb2); (try clear hk); (try clear hi); (try clear ho0)))
 go_ret2
 exact ⟨_, _, rr_, by (with_reducible repeat (first | apply Kd.S_alloc | apply Kd.S_drewN | apply Kd.S_drew)); exact Kd.S_mono HO1089.out (fun _ hk => hk.2), by (with_reducible repeat (first | apply Kd.R_alloc | apply Kd.R_drewN | apply Kd.R_drew)); exact HO1094.out, by repeat (first | (with_reducible first | exact HB.out | apply below_alloc | apply pw_below_drewN | apply below_drew1 | refine below_set ?_ (IsS94.ge HI1086.out)) | exact HB.out)⟩
def spec_DrawPropsOk.f (k : Nat) (l0 : List Int) : Option ((List (S71))) := (spec_l1New.f k l0).bind fun bt1097 => ((spec_l10Props.f k bt1097.1 bt1097.2.1 bt1097.2.2).bind fun bt1101 => ((spec_l1Once.f bt1097.1 bt1101.2.1 bt1101.2.2 2).bind fun bt1106 => (if bt1106.1 = true then ((spec_l1Str.f bt1097.1 bt1106.2.1 bt1106.2.2 (([(⟨#[122]⟩ : ByteArray), (⟨#[1]⟩ : ByteArray), (⟨#[116, 119, 101, 110, 116, 121, 45, 111, 110, 101, 45, 98, 121, 116, 101, 115, 45, 116, 101, 120, 116]⟩ : ByteArray)] : List ByteArray))).bind fun bt1112 => ((spec_l1Str.f bt1097.1 bt1112.2.1 bt1112.2.2 (([(⟨#[97]⟩ : ByteArray), (⟨#[65]⟩ : ByteArray)] : List ByteArray))).bind fun bt1118 => ((spec_l1Str.f bt1097.1 bt1118.2.1 bt1118.2.2 (([(⟨#[]⟩ : ByteArray), (⟨#[116, 119, 101, 110, 116, 121, 45, 111, 110, 101, 45, 98, 121, 116, 101, 115, 45, 116, 101, 120, 116]⟩ : ByteArray)] : List ByteArray))).bind fun bt1124 => (if bt1101.1.length < 2932031007402 then (some (bt1101.1 ++ [(⟨bt1112.1, bt1118.1, bt1124.1⟩ : S71)])) else (none))))) else (some bt1101.1))))
theorem spec_DrawPropsOk.calls (k : Nat) (A0 : Option Addr) (c0 : Nat) (l0 : List Int) (r : List (S71)) (w : World) (hr0 : Kd.C (Kd.int .u8) w A0 l0.length l0) (hc0 : l0.length ≤ c0) (h : spec_DrawPropsOk.f k l0 = some r) :
 Calls Try.prog 56 #[.slice A0 l0.length c0] w fun e w' => ∃ v0_ : Value, e = .returned (v0_) ∧ Kd.R k71 71 w' w.heap.size (fun _ => True) v0_ r ∧ Below w.heap.size w w' := by
 have hu71 := Try.underlying71
 have HR0 := A_ hr0
 have HC0 := A_ hc0
 clear hr0 hc0
 have HB := A_ (Below.refl w.heap.size w)
 have H : ((spec_l1New.f k l0).bind fun bt1097 => ((spec_l10Props.f k bt1097.1 bt1097.2.1 bt1097.2.2).bind fun bt1101 => ((spec_l1Once.f bt1097.1 bt1101.2.1 bt1101.2.2 2).bind fun bt1106 => (if bt1106.1 = true then ((spec_l1Str.f bt1097.1 bt1106.2.1 bt1106.2.2 (([(⟨#[122]⟩ : ByteArray), (⟨#[1]⟩ : ByteArray), (⟨#[116, 119, 101, 110, 116, 121, 45, 111, 110, 101, 45, 98, 121, 116, 101, 115, 45, 116, 101, 120, 116]⟩ : ByteArray)] : List ByteArray))).bind fun bt1112 => ((spec_l1Str.f bt1097.1 bt1112.2.1 bt1112.2.2 (([(⟨#[97]⟩ : ByteArray), (⟨#[65]⟩ : ByteArray)] : List ByteArray))).bind fun bt1118 => ((spec_l1Str.f bt1097.1 bt1118.2.1 bt1118.2.2 (([(⟨#[]⟩ : ByteArray), (⟨#[116, 119, 101, 110, 116, 121, 45, 111, 110, 101, 45, 98, 121, 116, 101, 115, 45, 116, 101, 120, 116]⟩ : ByteArray)] : List ByteArray))).bind fun bt1124 => (if bt1101.1.length < 2932031007402 then (some (bt1101.1 ++ [(⟨bt1112.1, bt1118.1, bt1124.1⟩ : S71)])) else (none))))) else (some bt1101.1))))) = some r := h
 clear h
 obtain ⟨⟨t1097, t1098, t1099⟩, A2, H⟩ := bo_ H
 (try dsimp only at H)
 obtain ⟨⟨t1101, t1104, t1105⟩, A3, H⟩ := bo_ H
 (try dsimp only at H)
 obtain ⟨⟨t1106, t1107, t1108⟩, A4, H⟩ := bo_ H
 (try dsimp only at H)
 by_cases c5 : t1106 = true
 · subst c5
   rw [if_pos rfl] at H
   obtain ⟨y1109, hy1109⟩ : ∃ y_ : List ByteArray, y_ = (([(⟨#[122]⟩ : ByteArray), (⟨#[1]⟩ : ByteArray), (⟨#[116, 119, 101, 110, 116, 121, 45, 111, 110, 101, 45, 98, 121, 116, 101, 115, 45, 116, 101, 120, 116]⟩ : ByteArray)] : List ByteArray)) := ⟨_, rfl⟩
   replace H : ((spec_l1Str.f t1097 t1107 t1108 y1109).bind fun bt1112 => ((spec_l1Str.f t1097 bt1112.2.1 bt1112.2.2 (([(⟨#[97]⟩ : ByteArray), (⟨#[65]⟩ : ByteArray)] : List ByteArray))).bind fun bt1118 => ((spec_l1Str.f t1097 bt1118.2.1 bt1118.2.2 (([(⟨#[]⟩ : ByteArray), (⟨#[116, 119, 101, 110, 116, 121, 45, 111, 110, 101, 45, 98, 121, 116, 101, 115, 45, 116, 101, 120, 116]⟩ : ByteArray)] : List ByteArray))).bind fun bt1124 => (if t1101.length < 2932031007402 then (some (t1101 ++ [(⟨bt1112.1, bt1118.1, bt1124.1⟩ : S71)])) else (none))))) = some r := hy_ hy1109 H
   have Ny1109 := A_ hy1109
   clear hy1109
   obtain ⟨⟨t1112, t1113, t1114⟩, A6, H⟩ := bo_ H
   (try dsimp only at H)
   obtain ⟨y1115, hy1115⟩ : ∃ y_ : List ByteArray, y_ = (([(⟨#[97]⟩ : ByteArray), (⟨#[65]⟩ : ByteArray)] : List ByteArray)) := ⟨_, rfl⟩
   replace H : ((spec_l1Str.f t1097 t1113 t1114 y1115).bind fun bt1118 => ((spec_l1Str.f t1097 bt1118.2.1 bt1118.2.2 (([(⟨#[]⟩ : ByteArray), (⟨#[116, 119, 101, 110, 116, 121, 45, 111, 110, 101, 45, 98, 121, 116, 101, 115, 45, 116, 101, 120, 116]⟩ : ByteArray)] : List ByteArray))).bind fun bt1124 => (if t1101.length < 2932031007402 then (some (t1101 ++ [(⟨t1112, bt1118.1, bt1124.1⟩ : S71)])) else (none)))) = some r := hy_ hy1115 H
   have Ny1115 := A_ hy1115
   clear hy1115
   obtain ⟨⟨t1118, t1119, t1120⟩, A7, H⟩ := bo_ H
   (try dsimp only at H)
   obtain ⟨y1121, hy1121⟩ : ∃ y_ : List ByteArray, y_ = (([(⟨#[]⟩ : ByteArray), (⟨#[116, 119, 101, 110, 116, 121, 45, 111, 110, 101, 45, 98, 121, 116, 101, 115, 45, 116, 101, 120, 116]⟩ : ByteArray)] : List ByteArray)) := ⟨_, rfl⟩
   replace H : ((spec_l1Str.f t1097 t1119 t1120 y1121).bind fun bt1124 => (if t1101.length < 2932031007402 then (some (t1101 ++ [(⟨t1112, t1118, bt1124.1⟩ : S71)])) else (none))) = some r := hy_ hy1121 H
   have Ny1121 := A_ hy1121
   clear hy1121
   obtain ⟨⟨t1124, t1125, t1126⟩, A8, H⟩ := bo_ H
   (try dsimp only at H)
   by_cases c9 : t1101.length < 2932031007402
   rotate_left
   · exact absurd H (by rw [if_neg c9]; simp)
   rw [if_pos c9] at H
   have LMc9 := A_ c9
   clear c9
   obtain ⟨y1127, hy1127⟩ : ∃ y_ : List (S71), y_ = (t1101 ++ [(⟨t1112, t1118, t1124⟩ : S71)]) := ⟨_, rfl⟩
   replace H : (some y1127) = some r := hy_ hy1127 H
   have Ny1127 := A_ hy1127
   clear hy1127
   obtain rfl := si_ H
   go_enter Try.func56, Try.ntmps56
   go_wp2_with (first | ((with_reducible refine gc_ (f := 85) rfl ?_); refine gL_ (some 6) Try.func85 #[.slice A0 l0.length c0] ?_; (with_reducible refine (spec_l1New.calls k _ _ l0 t1097 t1098 t1099 w _ ?s1 ?s2 ?s3 A2.out).mono ?_); (case s1 => exact bIQx300_); (case s2 => exact HR0.out); (case s3 => exact HC0.out); rintro e w10 ⟨g1100, rfl, hi, hb, hb2⟩; refine ⟨_, rfl, ?_⟩; replace HB := A_ (hb); have HI1100 := A_ (hi); (try clear hb); (try clear hb2); (try clear hk); (try clear hi)) | ((with_reducible refine gc_ (f := 89) rfl ?_); refine gL_ (some 8) Try.func89 #[.pointer (some ⟨g1100, 0, none⟩)] ?_; (with_reducible refine (spec_l10Props.calls k g1100 t1097 t1098 t1099 t1101 t1104 t1105 w _ ?s1 ?s2 A3.out).mono ?_); (case s1 => repeat (first | (with_reducible first | exact HI1100.out | apply IsS94.alloc | apply IsS94.drewN | apply IsS94.drew | apply IsS94.set_1 | apply IsS94.set_2) | exact HI1100.out)); (case s2 => repeat (first | (with_reducible first | exact HB.out | apply below_alloc | apply pw_below_drewN | apply below_drew1 | refine below_set ?_ (IsS94.ge HI1100.out)) | exact HB.out)); rintro e w11 ⟨v1102, rfl, ho0, hi, hb, hk⟩; refine ⟨_, rfl, ?_⟩; have HO1103 := A_ (Kd.R_lower ho0 (below_size (by repeat (first | (with_reducible first | exact HB.out | apply below_alloc | apply pw_below_drewN | apply below_drew1 | refine below_set ?_ (IsS94.ge HI1100.out)) | exact HB.out)))); replace HB := A_ (hb); replace HI1100 := A_ (hi); (try clear hb); (try clear hb2); (try clear hk); (try clear hi); (try clear ho0)) | ((with_reducible refine gc_ (f := 90) rfl ?_); refine gL_ (some 10) Try.func90 #[.pointer (some ⟨g1100, 0, none⟩), .int .i64 2] ?_; (with_reducible refine (spec_l1Once.calls g1100 t1097 t1104 t1105 2 true t1107 t1108 w _ ?s1 ?s2 A4.out).mono ?_); (case s1 => repeat (first | (with_reducible first | exact HI1100.out | apply IsS94.alloc | apply IsS94.drewN | apply IsS94.drew | apply IsS94.set_1 | apply IsS94.set_2) | exact HI1100.out)); (case s2 => repeat (first | (with_reducible first | exact HB.out | apply below_alloc | apply pw_below_drewN | apply below_drew1 | refine below_set ?_ (IsS94.ge HI1100.out)) | exact HB.out)); rintro e w12 ⟨rfl, hi, hb, hk⟩; refine ⟨_, rfl, ?_⟩; replace HO1103 := A_ (Kd.R_mono (Kd.R_keep (IsS94.apart (show IsS94 w _ g1100 t1097 t1104 t1105 from by repeat (first | (with_reducible first | exact HI1100.out | apply IsS94.alloc | apply IsS94.drewN | apply IsS94.drew | apply IsS94.set_1 | apply IsS94.set_2) | exact HI1100.out)) (vR_ HO1103.out) (by decide)) hk (fun _ h => h.2)) (fun _ h => h.1)); replace HB := A_ (hb); replace HI1100 := A_ (hi); (try clear hb); (try clear hb2); (try clear hk); (try clear hi)) | ((with_reducible refine gd_ (N := 13) rfl ?_); refine Kd.R_lit Kd.string _ 9 ?hg (N := 13) ?hd (xs := ([(⟨#[122]⟩ : ByteArray), (⟨#[1]⟩ : ByteArray), (⟨#[116, 119, 101, 110, 116, 121, 45, 111, 110, 101, 45, 98, 121, 116, 101, 115, 45, 116, 101, 120, 116]⟩ : ByteArray)] : List ByteArray)) (inner := [.string (⟨#[122]⟩ : ByteArray), .string (⟨#[1]⟩ : ByteArray), .string (⟨#[116, 119, 101, 110, 116, 121, 45, 111, 110, 101, 45, 98, 121, 116, 101, 115, 45, 116, 101, 120, 116]⟩ : ByteArray)]) (ok := fun _ => True) (okp := fun _ => True) ?hr ?hp (fun _ hk => hk) trivial (Below.refl _ _) (Nat.le_refl _) (by simp) ?_; (case hd => rfl); (case hg => rfl); (case hr => first | (go_simp; done) | (go_simp; rfl)); (case hp => exact (Reps.one (show Kd.M Kd.string _ _ _ (⟨#[122]⟩ : ByteArray) [.string (⟨#[122]⟩ : ByteArray)] from rfl) (Reps.one (show Kd.M Kd.string _ _ _ (⟨#[1]⟩ : ByteArray) [.string (⟨#[1]⟩ : ByteArray)] from rfl) (Reps.one (show Kd.M Kd.string _ _ _ (⟨#[116, 119, 101, 110, 116, 121, 45, 111, 110, 101, 45, 98, 121, 116, 101, 115, 45, 116, 101, 120, 116]⟩ : ByteArray) [.string (⟨#[116, 119, 101, 110, 116, 121, 45, 111, 110, 101, 45, 98, 121, 116, 101, 115, 45, 116, 101, 120, 116]⟩ : ByteArray)] from rfl) (Reps.none _ _))))); intro v1110 w13 ho14 hb hg_ hnew_; clear hg_ hnew_; (first | rw [← Ny1109.out] at ho14 | (simp only [Int.reduceToNat] at ho14; rw [← Ny1109.out] at ho14)); replace HO1103 := A_ (Kd.R_below (vR_ HO1103.out) hb); have HO1111 := A_ (Kd.R_lower ho14 (below_size (by repeat (first | (with_reducible first | exact HB.out | apply below_alloc | apply pw_below_drewN | apply below_drew1 | refine below_set ?_ (IsS94.ge HI1100.out)) | exact HB.out)))); replace HB := A_ (below_step (by repeat (first | (with_reducible first | exact HB.out | apply below_alloc | apply pw_below_drewN | apply below_drew1 | refine below_set ?_ (IsS94.ge HI1100.out)) | exact HB.out)) hb); replace HI1100 := A_ (IsS94.below (by repeat (first | (with_reducible first | exact HI1100.out | apply IsS94.alloc | apply IsS94.drewN | apply IsS94.drew | apply IsS94.set_1 | apply IsS94.set_2) | exact HI1100.out)) hb); clear hb ho14; obtain ⟨Ao15, co15, eo15⟩ := Kd.R_slice HO1111.out; subst eo15) | ((with_reducible refine gc_ (f := 91) rfl ?_); refine gL_ (some 14) Try.func91 #[.pointer (some ⟨g1100, 0, none⟩), .slice Ao15 y1109.length co15] ?_; (with_reducible refine (spec_l1Str.calls g1100 t1097 t1107 t1108 _ _ y1109 t1112 t1113 t1114 w _ ?s1 ?s2 ?s3 ?s4 ?s5 A6.out).mono ?_); (case s1 => repeat (first | (with_reducible first | exact HI1100.out | apply IsS94.alloc | apply IsS94.drewN | apply IsS94.drew | apply IsS94.set_1 | apply IsS94.set_2) | exact HI1100.out)); (case s2 => repeat (first | (with_reducible first | exact HB.out | apply below_alloc | apply pw_below_drewN | apply below_drew1 | refine below_set ?_ (IsS94.ge HI1100.out)) | exact HB.out)); (case s3 => exact cC_ (Kd.R_reads' HO1111.out).2.2); (case s4 => exact (Kd.R_reads' HO1111.out).2.1); (case s5 => exact far_slice (IsS94.own_ne HI1100.out HO1111.out (by decide))); rintro e w16 ⟨rfl, hi, hb, hk⟩; refine ⟨_, rfl, ?_⟩; replace HO1103 := A_ (Kd.R_mono (Kd.R_keep (IsS94.apart (show IsS94 w _ g1100 t1097 t1107 t1108 from by repeat (first | (with_reducible first | exact HI1100.out | apply IsS94.alloc | apply IsS94.drewN | apply IsS94.drew | apply IsS94.set_1 | apply IsS94.set_2) | exact HI1100.out)) (vR_ HO1103.out) (by decide)) hk (fun _ h => h.2)) (fun _ h => h.1)); replace HO1111 := A_ (Kd.R_mono (Kd.R_keep (IsS94.apart (show IsS94 w _ g1100 t1097 t1107 t1108 from by repeat (first | (with_reducible first | exact HI1100.out | apply IsS94.alloc | apply IsS94.drewN | apply IsS94.drew | apply IsS94.set_1 | apply IsS94.set_2) | exact HI1100.out)) (vR_ HO1111.out) (by decide)) hk (fun _ h => h.2)) (fun _ h => h.1)); replace HB := A_ (hb); replace HI1100 := A_ (hi); (try clear hb); (try clear hb2); (try clear hk); (try clear hi)) | ((with_reducible refine gd_ (N := 16) rfl ?_); refine Kd.R_lit Kd.string _ 9 ?hg (N := 16) ?hd (xs := ([(⟨#[97]⟩ : ByteArray), (⟨#[65]⟩ : ByteArray)] : List ByteArray)) (inner := [.string (⟨#[97]⟩ : ByteArray), .string (⟨#[65]⟩ : ByteArray)]) (ok := fun _ => True) (okp := fun _ => True) ?hr ?hp (fun _ hk => hk) trivial (Below.refl _ _) (Nat.le_refl _) (by simp) ?_; (case hd => rfl); (case hg => rfl); (case hr => first | (go_simp; done) | (go_simp; rfl)); (case hp => exact (Reps.one (show Kd.M Kd.string _ _ _ (⟨#[97]⟩ : ByteArray) [.string (⟨#[97]⟩ : ByteArray)] from rfl) (Reps.one (show Kd.M Kd.string _ _ _ (⟨#[65]⟩ : ByteArray) [.string (⟨#[65]⟩ : ByteArray)] from rfl) (Reps.none _ _)))); intro v1116 w17 ho18 hb hg_ hnew_; clear hg_ hnew_; (first | rw [← Ny1115.out] at ho18 | (simp only [Int.reduceToNat] at ho18; rw [← Ny1115.out] at ho18)); replace HO1103 := A_ (Kd.R_below (vR_ HO1103.out) hb); have HO1117 := A_ (Kd.R_lower (Kd.R_new' ho18 (Kd.R_lt (vR_ HO1111.out))) (below_size (by repeat (first | (with_reducible first | exact HB.out | apply below_alloc | apply pw_below_drewN | apply below_drew1 | refine below_set ?_ (IsS94.ge HI1100.out)) | exact HB.out)))); replace HO1111 := A_ (Kd.R_elder' (vR_ HO1111.out) (kb_ ho18) hb); replace HB := A_ (below_step (by repeat (first | (with_reducible first | exact HB.out | apply below_alloc | apply pw_below_drewN | apply below_drew1 | refine below_set ?_ (IsS94.ge HI1100.out)) | exact HB.out)) hb); replace HI1100 := A_ (IsS94.below (by repeat (first | (with_reducible first | exact HI1100.out | apply IsS94.alloc | apply IsS94.drewN | apply IsS94.drew | apply IsS94.set_1 | apply IsS94.set_2) | exact HI1100.out)) hb); clear hb ho18; obtain ⟨Ao19, co19, eo19⟩ := Kd.R_slice HO1117.out; subst eo19) | ((with_reducible refine gc_ (f := 91) rfl ?_); refine gL_ (some 17) Try.func91 #[.pointer (some ⟨g1100, 0, none⟩), .slice Ao19 y1115.length co19] ?_; (with_reducible refine (spec_l1Str.calls g1100 t1097 t1113 t1114 _ _ y1115 t1118 t1119 t1120 w _ ?s1 ?s2 ?s3 ?s4 ?s5 A7.out).mono ?_); (case s1 => repeat (first | (with_reducible first | exact HI1100.out | apply IsS94.alloc | apply IsS94.drewN | apply IsS94.drew | apply IsS94.set_1 | apply IsS94.set_2) | exact HI1100.out)); (case s2 => repeat (first | (with_reducible first | exact HB.out | apply below_alloc | apply pw_below_drewN | apply below_drew1 | refine below_set ?_ (IsS94.ge HI1100.out)) | exact HB.out)); (case s3 => exact cC_ (Kd.R_reads' HO1117.out).2.2); (case s4 => exact (Kd.R_reads' HO1117.out).2.1); (case s5 => exact far_slice (IsS94.own_ne HI1100.out HO1117.out (by decide))); rintro e w20 ⟨rfl, hi, hb, hk⟩; refine ⟨_, rfl, ?_⟩; replace HO1103 := A_ (Kd.R_mono (Kd.R_keep (IsS94.apart (show IsS94 w _ g1100 t1097 t1113 t1114 from by repeat (first | (with_reducible first | exact HI1100.out | apply IsS94.alloc | apply IsS94.drewN | apply IsS94.drew | apply IsS94.set_1 | apply IsS94.set_2) | exact HI1100.out)) (vR_ HO1103.out) (by decide)) hk (fun _ h => h.2)) (fun _ h => h.1)); replace HO1111 := A_ (Kd.R_mono (Kd.R_keep (IsS94.apart (show IsS94 w _ g1100 t1097 t1113 t1114 from by repeat (first | (with_reducible first | exact HI1100.out | apply IsS94.alloc | apply IsS94.drewN | apply IsS94.drew | apply IsS94.set_1 | apply IsS94.set_2) | exact HI1100.out)) (vR_ HO1111.out) (by decide)) hk (fun _ h => h.2)) (fun _ h => h.1)); replace HO1117 := A_ (Kd.R_mono (Kd.R_keep (IsS94.apart (show IsS94 w _ g1100 t1097 t1113 t1114 from by repeat (first | (with_reducible first | exact HI1100.out | apply IsS94.alloc | apply IsS94.drewN | apply IsS94.drew | apply IsS94.set_1 | apply IsS94.set_2) | exact HI1100.out)) (vR_ HO1117.out) (by decide)) hk (fun _ h => h.2)) (fun _ h => h.1)); replace HB := A_ (hb); replace HI1100 := A_ (hi); (try clear hb); (try clear hb2); (try clear hk); (try clear hi)) | ((with_reducible refine gd_ (N := 19) rfl ?_); refine Kd.R_lit Kd.string _ 9 ?hg (N := 19) ?hd (xs := ([(⟨#[]⟩ : ByteArray), (⟨#[116, 119, 101, 110, 116, 121, 45, 111, 110, 101, 45, 98, 121, 116, 101, 115, 45, 116, 101, 120, 116]⟩ : ByteArray)] : List ByteArray)) (inner := [.string (⟨#[]⟩ : ByteArray), .string (⟨#[116, 119, 101, 110, 116, 121, 45, 111, 110, 101, 45, 98, 121, 116, 101, 115, 45, 116, 101, 120, 116]⟩ : ByteArray)]) (ok := fun _ => True) (okp := fun _ => True) ?hr ?hp (fun _ hk => hk) trivial (Below.refl _ _) (Nat.le_refl _) (by simp) ?_; (case hd => rfl); (case hg => rfl); (case hr => first | (go_simp; done) | (go_simp; rfl)); (case hp => exact (Reps.one (show Kd.M Kd.string _ _ _ (⟨#[]⟩ : ByteArray) [.string (⟨#[]⟩ : ByteArray)] from rfl) (Reps.one (show Kd.M Kd.string _ _ _ (⟨#[116, 119, 101, 110, 116, 121, 45, 111, 110, 101, 45, 98, 121, 116, 101, 115, 45, 116, 101, 120, 116]⟩ : ByteArray) [.string (⟨#[116, 119, 101, 110, 116, 121, 45, 111, 110, 101, 45, 98, 121, 116, 101, 115, 45, 116, 101, 120, 116]⟩ : ByteArray)] from rfl) (Reps.none _ _)))); intro v1122 w21 ho22 hb hg_ hnew_; clear hg_ hnew_; (first | rw [← Ny1121.out] at ho22 | (simp only [Int.reduceToNat] at ho22; rw [← Ny1121.out] at ho22)); replace HO1103 := A_ (Kd.R_below (vR_ HO1103.out) hb); have HO1123 := A_ (Kd.R_lower (Kd.R_new' (Kd.R_new' ho22 (Kd.R_lt (vR_ HO1111.out))) (Kd.R_lt (vR_ HO1117.out))) (below_size (by repeat (first | (with_reducible first | exact HB.out | apply below_alloc | apply pw_below_drewN | apply below_drew1 | refine below_set ?_ (IsS94.ge HI1100.out)) | exact HB.out)))); replace HO1111 := A_ (Kd.R_elder' (vR_ HO1111.out) (kb_ ho22) hb); replace HO1117 := A_ (Kd.R_elder' (vR_ HO1117.out) (kb_ ho22) hb); replace HB := A_ (below_step (by repeat (first | (with_reducible first | exact HB.out | apply below_alloc | apply pw_below_drewN | apply below_drew1 | refine below_set ?_ (IsS94.ge HI1100.out)) | exact HB.out)) hb); replace HI1100 := A_ (IsS94.below (by repeat (first | (with_reducible first | exact HI1100.out | apply IsS94.alloc | apply IsS94.drewN | apply IsS94.drew | apply IsS94.set_1 | apply IsS94.set_2) | exact HI1100.out)) hb); clear hb ho22; obtain ⟨Ao23, co23, eo23⟩ := Kd.R_slice HO1123.out; subst eo23) | ((with_reducible refine gc_ (f := 91) rfl ?_); refine gL_ (some 20) Try.func91 #[.pointer (some ⟨g1100, 0, none⟩), .slice Ao23 y1121.length co23] ?_; (with_reducible refine (spec_l1Str.calls g1100 t1097 t1119 t1120 _ _ y1121 t1124 t1125 t1126 w _ ?s1 ?s2 ?s3 ?s4 ?s5 A8.out).mono ?_); (case s1 => repeat (first | (with_reducible first | exact HI1100.out | apply IsS94.alloc | apply IsS94.drewN | apply IsS94.drew | apply IsS94.set_1 | apply IsS94.set_2) | exact HI1100.out)); (case s2 => repeat (first | (with_reducible first | exact HB.out | apply below_alloc | apply pw_below_drewN | apply below_drew1 | refine below_set ?_ (IsS94.ge HI1100.out)) | exact HB.out)); (case s3 => exact cC_ (Kd.R_reads' HO1123.out).2.2); (case s4 => exact (Kd.R_reads' HO1123.out).2.1); (case s5 => exact far_slice (IsS94.own_ne HI1100.out HO1123.out (by decide))); rintro e w24 ⟨rfl, hi, hb, hk⟩; refine ⟨_, rfl, ?_⟩; replace HO1103 := A_ (Kd.R_mono (Kd.R_keep (IsS94.apart (show IsS94 w _ g1100 t1097 t1119 t1120 from by repeat (first | (with_reducible first | exact HI1100.out | apply IsS94.alloc | apply IsS94.drewN | apply IsS94.drew | apply IsS94.set_1 | apply IsS94.set_2) | exact HI1100.out)) (vR_ HO1103.out) (by decide)) hk (fun _ h => h.2)) (fun _ h => h.1)); replace HO1111 := A_ (Kd.R_mono (Kd.R_keep (IsS94.apart (show IsS94 w _ g1100 t1097 t1119 t1120 from by repeat (first | (with_reducible first | exact HI1100.out | apply IsS94.alloc | apply IsS94.drewN | apply IsS94.drew | apply IsS94.set_1 | apply IsS94.set_2) | exact HI1100.out)) (vR_ HO1111.out) (by decide)) hk (fun _ h => h.2)) (fun _ h => h.1)); replace HO1117 := A_ (Kd.R_mono (Kd.R_keep (IsS94.apart (show IsS94 w _ g1100 t1097 t1119 t1120 from by repeat (first | (with_reducible first | exact HI1100.out | apply IsS94.alloc | apply IsS94.drewN | apply IsS94.drew | apply IsS94.set_1 | apply IsS94.set_2) | exact HI1100.out)) (vR_ HO1117.out) (by decide)) hk (fun _ h => h.2)) (fun _ h => h.1)); replace HO1123 := A_ (Kd.R_mono (Kd.R_keep (IsS94.apart (show IsS94 w _ g1100 t1097 t1119 t1120 from by repeat (first | (with_reducible first | exact HI1100.out | apply IsS94.alloc | apply IsS94.drewN | apply IsS94.drew | apply IsS94.set_1 | apply IsS94.set_2) | exact HI1100.out)) (vR_ HO1123.out) (by decide)) hk (fun _ h => h.2)) (fun _ h => h.1)); replace HB := A_ (hb); replace HI1100 := A_ (hi); (try clear hb); (try clear hb2); (try clear hk); (try clear hi)) | ((with_reducible refine gate_builtin (b := .append) (xs := #[.tmp 11, .tmp 22]) rfl ?_); at_builtin; refine Kd.R_append k71 (w0 := w) w.heap.size rfl (.tmp 11) (.tmp 22) 31 71 (.agg #[(.string ⟨#[]⟩), (.string ⟨#[]⟩), (.string ⟨#[]⟩)]) 48 rfl Try.underlying31 info71 rfl (by decide) (by omega) v1102 t1101 (⟨t1112, t1118, t1124⟩ : S71) [.string t1112, .string t1118, .string t1124] (fun _ => True) (fun _ => False) rfl rfl ?aP (fun _ hk => hk.elim) ?aF ?aO ?aB ?aS ?aL ?_; (case aP => exact k71_mkM _ _ _ (⟨t1112, t1118, t1124⟩ : S71)); (case aB => exact (by repeat (first | (with_reducible first | exact HB.out | apply below_alloc | apply pw_below_drewN | apply below_drew1 | refine below_set ?_ (IsS94.ge HI1100.out)) | exact HB.out))); (case aF => exact (fun _ _ => trivial)); (case aO => exact (vR_ HO1103.out)); (case aS => exact (below_size (by repeat (first | (with_reducible first | exact HB.out | apply below_alloc | apply pw_below_drewN | apply below_drew1 | refine below_set ?_ (IsS94.ge HI1100.out)) | exact HB.out)))); (case aL => have := LMc9.out; omega); intro v1128 w25 ho hb hg hat; rw [← Ny1127.out] at ho; replace HI1100 := A_ (IsS94.grown (by repeat (first | (with_reducible first | exact HI1100.out | apply IsS94.alloc | apply IsS94.drewN | apply IsS94.drew | apply IsS94.set_1 | apply IsS94.set_2) | exact HI1100.out)) hg (IsS94.own_ne HI1100.out HO1103.out (by decide))); replace HO1111 := A_ (Kd.R_over' (vR_ HO1111.out) (Kd.R_typed (vR_ HO1103.out)) (by decide) hg); replace HO1117 := A_ (Kd.R_over' (vR_ HO1117.out) (Kd.R_typed (vR_ HO1103.out)) (by decide) hg); replace HO1123 := A_ (Kd.R_over' (vR_ HO1123.out) (Kd.R_typed (vR_ HO1103.out)) (by decide) hg); replace HB := A_ (hb); have HO1129 := A_ (ho); clear HO1103; clear ho hb hg hat))
   go_ret
   exact ⟨_, rr_, by (with_reducible repeat (first | apply Kd.R_alloc | apply Kd.R_drewN | apply Kd.R_drew)); exact HO1129.out, by repeat (first | (with_reducible first | exact HB.out | apply below_alloc | apply pw_below_drewN | apply below_drew1 | refine below_set ?_ (IsS94.ge HI1100.out)) | exact HB.out)⟩
 · replace c5 := Bool.eq_false_iff.mpr c5
   subst c5
   rw [if_neg nf_] at H
   obtain rfl := si_ H
   go_enter Try.func56, Try.ntmps56
   go_wp2_with (first | ((with_reducible refine gc_ (f := 85) rfl ?_); refine gL_ (some 6) Try.func85 #[.slice A0 l0.length c0] ?_; (with_reducible refine (spec_l1New.calls k _ _ l0 t1097 t1098 t1099 w _ ?s1 ?s2 ?s3 A2.out).mono ?_); (case s1 => exact bIQx300_); (case s2 => exact HR0.out); (case s3 => exact HC0.out); rintro e w26 ⟨g1100, rfl, hi, hb, hb2⟩; refine ⟨_, rfl, ?_⟩; replace HB := A_ (hb); have HI1100 := A_ (hi); (try clear hb); (try clear hb2); (try clear hk); (try clear hi)) | ((with_reducible refine gc_ (f := 89) rfl ?_); refine gL_ (some 8) Try.func89 #[.pointer (some ⟨g1100, 0, none⟩)] ?_; (with_reducible refine (spec_l10Props.calls k g1100 t1097 t1098 t1099 t1101 t1104 t1105 w _ ?s1 ?s2 A3.out).mono ?_); (case s1 => repeat (first | (with_reducible first | exact HI1100.out | apply IsS94.alloc | apply IsS94.drewN | apply IsS94.drew | apply IsS94.set_1 | apply IsS94.set_2) | exact HI1100.out)); (case s2 => repeat (first | (with_reducible first | exact HB.out | apply below_alloc | apply pw_below_drewN | apply below_drew1 | refine below_set ?_ (IsS94.ge HI1100.out)) | exact HB.out)); rintro e w27 ⟨v1102, rfl, ho0, hi, hb, hk⟩; refine ⟨_, rfl, ?_⟩; have HO1103 := A_ (Kd.R_lower ho0 (below_size (by repeat (first | (with_reducible first | exact HB.out | apply below_alloc | apply pw_below_drewN | apply below_drew1 | refine below_set ?_ (IsS94.ge HI1100.out)) | exact HB.out)))); replace HB := A_ (hb); replace HI1100 := A_ (hi); (try clear hb); (try clear hb2); (try clear hk); (try clear hi); (try clear ho0)) | ((with_reducible refine gc_ (f := 90) rfl ?_); refine gL_ (some 10) Try.func90 #[.pointer (some ⟨g1100, 0, none⟩), .int .i64 2] ?_; (with_reducible refine (spec_l1Once.calls g1100 t1097 t1104 t1105 2 false t1107 t1108 w _ ?s1 ?s2 A4.out).mono ?_); (case s1 => repeat (first | (with_reducible first | exact HI1100.out | apply IsS94.alloc | apply IsS94.drewN | apply IsS94.drew | apply IsS94.set_1 | apply IsS94.set_2) | exact HI1100.out)); (case s2 => repeat (first | (with_reducible first | exact HB.out | apply below_alloc | apply pw_below_drewN | apply below_drew1 | refine below_set ?_ (IsS94.ge HI1100.out)) | exact HB.out)); rintro e w28 ⟨rfl, hi, hb, hk⟩; refine ⟨_, rfl, ?_⟩; replace HO1103 := A_ (Kd.R_mono (Kd.R_keep (IsS94.apart (show IsS94 w _ g1100 t1097 t1104 t1105 from by repeat (first | (with_reducible first | exact HI1100.out | apply IsS94.alloc | apply IsS94.drewN | apply IsS94.drew | apply IsS94.set_1 | apply IsS94.set_2) | exact HI1100.out)) (vR_ HO1103.out) (by decide)) hk (fun _ h => h.2)) (fun _ h => h.1)); replace HB := A_ (hb); replace HI1100 := A_ (hi); (try clear hb); (try clear hb2); (try clear hk); (try clear hi)))
   go_ret
   exact ⟨_, rr_, by (with_reducible repeat (first | apply Kd.R_alloc | apply Kd.R_drewN | apply Kd.R_drew)); exact HO1103.out, by repeat (first | (with_reducible first | exact HB.out | apply below_alloc | apply pw_below_drewN | apply below_drew1 | refine below_set ?_ (IsS94.ge HI1100.out)) | exact HB.out)⟩
def spec_DrawUnder.f (k : Nat) (l0 : List Int) : Option (List ByteArray × List ByteArray) := (spec_l1New.f k l0).bind fun bt1130 => ((spec_l2Any.f k bt1130.1 bt1130.2.1 bt1130.2.2).bind fun bt1134 => ((spec_l1Once.f bt1130.1 bt1134.2.1 bt1134.2.2 2).bind fun bt1139 => (if bt1139.1 = true then ((spec_l1Below.f bt1130.1 bt1139.2.1 bt1139.2.2 (wrap64 ((bt1134.1.length : Int) + 1))).bind fun bt1142 => (if 0 ≤ bt1142.1 then (if bt1142.1 ≤ (bt1134.1.length : Int) then (some (bt1134.1, (bt1134.1.take (bt1142.1 : Int).toNat))) else (none)) else (none))) else ((spec_l2Any.f k bt1130.1 bt1139.2.1 bt1139.2.2).bind fun bt1148 => (some (bt1134.1, bt1148.1))))))
def spec_DrawUnder.T4 : Bool × List (List Nat × List Nat) := (true, [([], []), ([], []), ([], []), ([], []), ([3], [3]), ([4], [4]), ([2, 5], [2, 5]), ([1, 6], [1, 6]), ([0, 6, 0], [0]), ([7, 8, 0, 1, 2, 3, 4, 5, 6, 7, 8], [7])])
def spec_DrawUnder.B4 : List Nat := [0, 0, 0, 0, 8, 24, 60, 126, 125, 511]
theorem spec_DrawUnder.tab4 : rtab .any (opsOf Try.f92 4) = spec_DrawUnder.T4 := by kernel_rfl
theorem spec_DrawUnder.bits4 : waitsOk spec_DrawUnder.T4.2 spec_DrawUnder.B4 = true := by kernel_rfl
theorem spec_DrawUnder.calls (k : Nat) (A0 : Option Addr) (c0 : Nat) (l0 : List Int) (r1 : List ByteArray) (r2 : List ByteArray) (w : World) (hr0 : Kd.C (Kd.int .u8) w A0 l0.length l0) (hc0 : l0.length ≤ c0) (h : spec_DrawUnder.f k l0 = some (r1, r2)) :
 Calls Try.prog 92 #[.slice A0 l0.length c0] w fun e w' => ∃ v0_ v1_ : Value, e = .returned (.tuple #[v0_, v1_]) ∧ Kd.R Kd.string 9 w' w.heap.size (fun _ => True) v0_ r1 ∧ Kd.R Kd.string 9 w' w.heap.size (fun _ => True) v1_ r2 ∧ Below w.heap.size w w' := by
 have HR0 := A_ hr0
 have HC0 := A_ hc0
 clear hr0 hc0
 have HB := A_ (Below.refl w.heap.size w)
 have H : ((spec_l1New.f k l0).bind fun bt1130 => ((spec_l2Any.f k bt1130.1 bt1130.2.1 bt1130.2.2).bind fun bt1134 => ((spec_l1Once.f bt1130.1 bt1134.2.1 bt1134.2.2 2).bind fun bt1139 => (if bt1139.1 = true then ((spec_l1Below.f bt1130.1 bt1139.2.1 bt1139.2.2 (wrap64 ((bt1134.1.length : Int) + 1))).bind fun bt1142 => (if 0 ≤ bt1142.1 then (if bt1142.1 ≤ (bt1134.1.length : Int) then (some (bt1134.1, (bt1134.1.take (bt1142.1 : Int).toNat))) else (none)) else (none))) else ((spec_l2Any.f k bt1130.1 bt1139.2.1 bt1139.2.2).bind fun bt1148 => (some (bt1134.1, bt1148.1))))))) = some (r1, r2) := h
 clear h
 obtain ⟨⟨t1130, t1131, t1132⟩, A2, H⟩ := bo_ H
 (try dsimp only at H)
 obtain ⟨⟨t1134, t1137, t1138⟩, A3, H⟩ := bo_ H
 (try dsimp only at H)
 obtain ⟨⟨t1139, t1140, t1141⟩, A4, H⟩ := bo_ H
 (try dsimp only at H)
 by_cases c5 : t1139 = true
 · subst c5
   rw [if_pos rfl] at H
   obtain ⟨⟨t1142, t1143, t1144⟩, A6, H⟩ := bo_ H
   (try dsimp only at H)
   by_cases c7 : 0 ≤ t1142
   rotate_left
   · exact absurd H (by rw [if_neg c7]; simp)
   rw [if_pos c7] at H
   have c7b0 := eq_true c7
   have c7b1 : decide (0 ≤ t1142) = true := decide_eq_true c7
   clear c7
   by_cases c8 : t1142 ≤ (t1134.length : Int)
   rotate_left
   · exact absurd H (by rw [if_neg c8]; simp)
   rw [if_pos c8] at H
   have c8b0 := eq_true c8
   have c8b1 : decide (t1142 ≤ (t1134.length : Int)) = true := decide_eq_true c8
   clear c8
   obtain ⟨y1145, hy1145⟩ : ∃ y_ : List ByteArray, y_ = (t1134.take (t1142 : Int).toNat) := ⟨_, rfl⟩
   replace H : (some (t1134, y1145)) = some (r1, r2) := hy_ hy1145 H
   have Ny1145 := A_ hy1145
   clear hy1145
   simp only [Option.some.injEq, Prod.mk.injEq] at H
   obtain ⟨rfl, rfl⟩ := H
   go_enter Try.func92, Try.ntmps92
   try go_wp2_with (first | ((with_reducible refine gc_ (f := 85) rfl ?_); refine gL_ (some 7) Try.func85 #[.slice A0 l0.length c0] ?_; (with_reducible refine (spec_l1New.calls k _ _ l0 t1130 t1131 t1132 w _ ?s1 ?s2 ?s3 A2.out).mono ?_); (case s1 => exact bIQx300_); (case s2 => exact HR0.out); (case s3 => exact HC0.out); rintro e w9 ⟨g1133, rfl, hi, hb, hb2⟩; refine ⟨_, rfl, ?_⟩; replace HB := A_ (hb); have HI1133 := A_ (hi); (try clear hb); (try clear hb2); (try clear hk); (try clear hi)) | ((with_reducible refine gc_ (f := 93) rfl ?_); refine gL_ (some 9) Try.func93 #[.pointer (some ⟨g1133, 0, none⟩)] ?_; (with_reducible refine (spec_l2Any.calls k g1133 t1130 t1131 t1132 t1134 t1137 t1138 w _ ?s1 ?s2 A3.out).mono ?_); (case s1 => repeat (first | (with_reducible first | exact HI1133.out | apply IsS94.alloc | apply IsS94.drewN | apply IsS94.drew | apply IsS94.set_1 | apply IsS94.set_2) | exact HI1133.out)); (case s2 => repeat (first | (with_reducible first | exact HB.out | apply below_alloc | apply pw_below_drewN | apply below_drew1 | refine below_set ?_ (IsS94.ge HI1133.out)) | exact HB.out)); rintro e w10 ⟨v1135, rfl, ho0, hi, hb, hk⟩; refine ⟨_, rfl, ?_⟩; have HO1136 := A_ (Kd.R_lower ho0 (below_size (by repeat (first | (with_reducible first | exact HB.out | apply below_alloc | apply pw_below_drewN | apply below_drew1 | refine below_set ?_ (IsS94.ge HI1133.out)) | exact HB.out)))); replace HB := A_ (hb); replace HI1133 := A_ (hi); (try clear hb); (try clear hb2); (try clear hk); (try clear hi); (try clear ho0)) | ((with_reducible refine gc_ (f := 90) rfl ?_); refine gL_ (some 11) Try.func90 #[.pointer (some ⟨g1133, 0, none⟩), .int .i64 2] ?_; (with_reducible refine (spec_l1Once.calls g1133 t1130 t1137 t1138 2 true t1140 t1141 w _ ?s1 ?s2 A4.out).mono ?_); (case s1 => repeat (first | (with_reducible first | exact HI1133.out | apply IsS94.alloc | apply IsS94.drewN | apply IsS94.drew | apply IsS94.set_1 | apply IsS94.set_2) | exact HI1133.out)); (case s2 => repeat (first | (with_reducible first | exact HB.out | apply below_alloc | apply pw_below_drewN | apply below_drew1 | refine below_set ?_ (IsS94.ge HI1133.out)) | exact HB.out)); rintro e w11 ⟨rfl, hi, hb, hk⟩; refine ⟨_, rfl, ?_⟩; replace HO1136 := A_ (Kd.R_mono (Kd.R_keep (IsS94.apart (show IsS94 w _ g1133 t1130 t1137 t1138 from by repeat (first | (with_reducible first | exact HI1133.out | apply IsS94.alloc | apply IsS94.drewN | apply IsS94.drew | apply IsS94.set_1 | apply IsS94.set_2) | exact HI1133.out)) (vR_ HO1136.out) (by decide)) hk (fun _ h => h.2)) (fun _ h => h.1)); replace HB := A_ (hb); replace HI1133 := A_ (hi); (try clear hb); (try clear hb2); (try clear hk); (try clear hi)))
   replace HO1136 := A_ (Kd.R_drew HO1136.out)
   replace HI1133 := A_ (IsS94.drew HI1133.out)
   replace HB := A_ (below_drew1 HB.out)
   obtain ⟨Ao13, co13, eo13⟩ := Kd.R_slice HO1136.out
   (first | subst eo13 | (injection eo13 with f1_ f2_ f3_; have f4_ := f1_.symm; have f5_ := f3_.symm; clear f1_ f2_ f3_; subst f4_; subst f5_))
   refine start_ (n := 10) (S := fun w' => True) (ds := []) #[false, false, false, false, false, false, false, false, false, false] (by kernel_rfl) rfl rfl trivial (fun hHeld => ?_); refine with_tabW spec_DrawUnder.tab4 spec_DrawUnder.bits4 (fun HT_ HW_ => ?_)
   generalize w11.drew = w12 at HO1136 HI1133 HB hHeld ⊢
   refine pu_ (i := 0) (N := some 12) ?_
   refine pu_ (i := 1) (N := some 13) ?_
   refine pu_ (i := 2) (N := some 14) ?_
   refine pu_ (i := 3) (N := some 15) ?_
   refine pu_ (i := 4) (N := some 16) ?_
   refine pu_ (i := 5) (N := some 17) ?_
   refine on_ (i := 6) (N := some 18) (fun K hK => ?_)
   refine goes_ Try.func102 (by kernel_rfl) rfl #[.pointer (some ⟨g1133, 0, none⟩), .int .i64 (wrap64 ((t1134.length : Int) + 1))] (by rfl) rfl rfl ml_ ?_
   with_reducible refine (spec_l1Below.calls g1133 t1130 t1140 t1141 (wrap64 ((t1134.length : Int) + 1)) t1142 t1143 t1144 w _ ?s1 ?s2 A6.out).mono ?_
   (case s1 => repeat (first | (with_reducible first | exact HI1133.out | apply IsS94.alloc | apply IsS94.drewN | apply IsS94.drew | apply IsS94.set_1 | apply IsS94.set_2) | exact HI1133.out))
   (case s2 => repeat (first | (with_reducible first | exact HB.out | apply below_alloc | apply pw_below_drewN | apply below_drew1 | refine below_set ?_ (IsS94.ge HI1133.out)) | exact HB.out))
   rintro e w14 ⟨rfl, hi, hb, hk⟩
   refine ⟨_, rfl, ?_⟩
   replace HO1136 := A_ (Kd.R_mono (Kd.R_keep (IsS94.apart (show IsS94 w _ g1133 t1130 t1140 t1141 from by repeat (first | (with_reducible first | exact HI1133.out | apply IsS94.alloc | apply IsS94.drewN | apply IsS94.drew | apply IsS94.set_1 | apply IsS94.set_2) | exact HI1133.out)) (vR_ HO1136.out) (by decide)) hk (fun _ h => h.2)) (fun _ h => h.1))
   replace HB := A_ (hb)
   replace HI1133 := A_ (hi)
   (try clear hb)
   (try clear hb2)
   (try clear hk)
   (try clear hi)
   have q15 : (t1142 : Int) ≤ ((t1134.length : Int) : Int) := od_
   obtain ⟨i015, hi015, _, hsz15, _⟩ := info_parts info9
   have hcut15 := cut_to (P := Try.prog) 22 9 .i64 Try.underlying22 hi015 Ao13 t1134.length co13 t1142 od_ q15 (Kd.R_reads' HO1136.out).2.1
   have hr15 := Kd.R_take (m := (t1142 : Int).toNat) HO1136.out (by omega)
   have hy15 : y1145.length = (t1142 : Int).toNat := (by rw [Ny1145.out, List.length_take]; omega)
   rw [← Ny1145.out] at hr15
   rw [← hy15] at hr15 hcut15
   clear hy15 hi015 hsz15
   have HO1147 := A_ hr15
   clear hr15
   replace q15 := eq_true q15
   refine hK.out _ _ trivial (fun hHeld => ?_)
   clear hK K
   refine no_ (some 18) ?_
   refine pu_ (i := 7) (N := some 19) ?_
   refine pu_ (i := 8) (N := some 2) ?_
   refine pu_ (i := 9) (N := some 3) ?_
   refine done_ (done_of HT_.out (by kernel_rfl)) ?_
   (try clear hHeld)
   try go_wp2
   go_ret2
   exact ⟨_, _, rr_, by (with_reducible repeat (first | apply Kd.R_alloc | apply Kd.R_drewN | apply Kd.R_drew)); exact Kd.R_mono HO1136.out (fun _ _ => trivial), by (with_reducible repeat (first | apply Kd.R_alloc | apply Kd.R_drewN | apply Kd.R_drew)); exact Kd.R_mono HO1147.out (fun _ _ => trivial), by repeat (first | (with_reducible first | exact HB.out | apply below_alloc | apply pw_below_drewN | apply below_drew1 | refine below_set ?_ (IsS94.ge HI1133.out)) | exact HB.out)⟩
 · replace c5 := Bool.eq_false_iff.mpr c5
   subst c5
   rw [if_neg nf_] at H
   obtain ⟨⟨t1148, t1151, t1152⟩, A16, H⟩ := bo_ H
   (try dsimp only at H)
   simp only [Option.some.injEq, Prod.mk.injEq] at H
   obtain ⟨rfl, rfl⟩ := H
   go_enter Try.func92, Try.ntmps92
   go_wp2_with (first | ((with_reducible refine gc_ (f := 85) rfl ?_); refine gL_ (some 7) Try.func85 #[.slice A0 l0.length c0] ?_; (with_reducible refine (spec_l1New.calls k _ _ l0 t1130 t1131 t1132 w _ ?s1 ?s2 ?s3 A2.out).mono ?_); (case s1 => exact bIQx300_); (case s2 => exact HR0.out); (case s3 => exact HC0.out); rintro e w17 ⟨g1133, rfl, hi, hb, hb2⟩; refine ⟨_, rfl, ?_⟩; replace HB := A_ (hb); have HI1133 := A_ (hi); (try clear hb); (try clear hb2); (try clear hk); (try clear hi)) | ((with_reducible refine gc_ (f := 93) rfl ?_); refine gL_ (some 9) Try.func93 #[.pointer (some ⟨g1133, 0, none⟩)] ?_; (with_reducible refine (spec_l2Any.calls k g1133 t1130 t1131 t1132 t1134 t1137 t1138 w _ ?s1 ?s2 A3.out).mono ?_); (case s1 => repeat (first | (with_reducible first | exact HI1133.out | apply IsS94.alloc | apply IsS94.drewN | apply IsS94.drew | apply IsS94.set_1 | apply IsS94.set_2) | exact HI1133.out)); (case s2 => repeat (first | (with_reducible first | exact HB.out | apply below_alloc | apply pw_below_drewN | apply below_drew1 | refine below_set ?_ (IsS94.ge HI1133.out)) | exact HB.out)); rintro e w18 ⟨v1135, rfl, ho0, hi, hb, hk⟩; refine ⟨_, rfl, ?_⟩; have HO1136 := A_ (Kd.R_lower ho0 (below_size (by repeat (first | (with_reducible first | exact HB.out | apply below_alloc | apply pw_below_drewN | apply below_drew1 | refine below_set ?_ (IsS94.ge HI1133.out)) | exact HB.out)))); replace HB := A_ (hb); replace HI1133 := A_ (hi); (try clear hb); (try clear hb2); (try clear hk); (try clear hi); (try clear ho0)) | ((with_reducible refine gc_ (f := 90) rfl ?_); refine gL_ (some 11) Try.func90 #[.pointer (some ⟨g1133, 0, none⟩), .int .i64 2] ?_; (with_reducible refine (spec_l1Once.calls g1133 t1130 t1137 t1138 2 false t1140 t1141 w _ ?s1 ?s2 A4.out).mono ?_); (case s1 => repeat (first | (with_reducible first | exact HI1133.out | apply IsS94.alloc | apply IsS94.drewN | apply IsS94.drew | apply IsS94.set_1 | apply IsS94.set_2) | exact HI1133.out)); (case s2 => repeat (first | (with_reducible first | exact HB.out | apply below_alloc | apply pw_below_drewN | apply below_drew1 | refine below_set ?_ (IsS94.ge HI1133.out)) | exact HB.out)); rintro e w19 ⟨rfl, hi, hb, hk⟩; refine ⟨_, rfl, ?_⟩; replace HO1136 := A_ (Kd.R_mono (Kd.R_keep (IsS94.apart (show IsS94 w _ g1133 t1130 t1137 t1138 from by repeat (first | (with_reducible first | exact HI1133.out | apply IsS94.alloc | apply IsS94.drewN | apply IsS94.drew | apply IsS94.set_1 | apply IsS94.set_2) | exact HI1133.out)) (vR_ HO1136.out) (by decide)) hk (fun _ h => h.2)) (fun _ h => h.1)); replace HB := A_ (hb); replace HI1133 := A_ (hi); (try clear hb); (try clear hb2); (try clear hk); (try clear hi)) | ((with_reducible refine gc_ (f := 93) rfl ?_); refine gL_ (some 22) Try.func93 #[.pointer (some ⟨g1133, 0, none⟩)] ?_; (with_reducible refine (spec_l2Any.calls k g1133 t1130 t1140 t1141 t1148 t1151 t1152 w _ ?s1 ?s2 A16.out).mono ?_); (case s1 => repeat (first | (with_reducible first | exact HI1133.out | apply IsS94.alloc | apply IsS94.drewN | apply IsS94.drew | apply IsS94.set_1 | apply IsS94.set_2) | exact HI1133.out)); (case s2 => repeat (first | (with_reducible first | exact HB.out | apply below_alloc | apply pw_below_drewN | apply below_drew1 | refine below_set ?_ (IsS94.ge HI1133.out)) | exact HB.out)); rintro e w20 ⟨v1149, rfl, ho0, hi, hb, hk⟩; refine ⟨_, rfl, ?_⟩; have HO1150 := A_ (Kd.R_lower (Kd.R_new' ho0 (Kd.R_lt (vR_ HO1136.out))) (below_size (by repeat (first | (with_reducible first | exact HB.out | apply below_alloc | apply pw_below_drewN | apply below_drew1 | refine below_set ?_ (IsS94.ge HI1133.out)) | exact HB.out)))); replace HO1136 := A_ (Kd.R_mono (Kd.R_told (Kd.R_oldK (IsS94.apart (show IsS94 w _ g1133 t1130 t1140 t1141 from by repeat (first | (with_reducible first | exact HI1133.out | apply IsS94.alloc | apply IsS94.drewN | apply IsS94.drew | apply IsS94.set_1 | apply IsS94.set_2) | exact HI1133.out)) (vR_ HO1136.out) (by decide)) hk) (kb_ ho0)) (fun _ h_ => h_.1)); replace HB := A_ (hb); replace HI1133 := A_ (hi); (try clear hb); (try clear hb2); (try clear hk); (try clear hi); (try clear ho0)))
   go_ret2
   exact ⟨_, _, rr_, by (with_reducible repeat (first | apply Kd.R_alloc | apply Kd.R_drewN | apply Kd.R_drew)); exact Kd.R_mono HO1136.out (fun _ _ => trivial), by (with_reducible repeat (first | apply Kd.R_alloc | apply Kd.R_drewN | apply Kd.R_drew)); exact Kd.R_mono HO1150.out (fun _ _ => trivial), by repeat (first | (with_reducible first | exact HB.out | apply below_alloc | apply pw_below_drewN | apply below_drew1 | refine below_set ?_ (IsS94.ge HI1133.out)) | exact HB.out)⟩
def spec_DrawLessPath.f (k : Nat) (l0 : List Int) : Option (List ByteArray × List ByteArray) := (spec_DrawUnder.f k l0).bind fun bt1153 => (some (bt1153.1, bt1153.2))
theorem spec_DrawLessPath.calls (k : Nat) (A0 : Option Addr) (c0 : Nat) (l0 : List Int) (r1 : List ByteArray) (r2 : List ByteArray) (w : World) (hr0 : Kd.C (Kd.int .u8) w A0 l0.length l0) (hc0 : l0.length ≤ c0) (h : spec_DrawLessPath.f k l0 = some (r1, r2)) :
 Calls Try.prog 57 #[.slice A0 l0.length c0] w fun e w' => ∃ v0_ v1_ : Value, e = .returned (.tuple #[v0_, v1_]) ∧ Kd.R Kd.string 9 w' w.heap.size (fun _ => True) v0_ r1 ∧ Kd.R Kd.string 9 w' w.heap.size (fun _ => True) v1_ r2 ∧ Below w.heap.size w w' := by
 have HR0 := A_ hr0
 have HC0 := A_ hc0
 clear hr0 hc0
 have HB := A_ (Below.refl w.heap.size w)
 have H : ((spec_DrawUnder.f k l0).bind fun bt1153 => (some (bt1153.1, bt1153.2))) = some (r1, r2) := h
 clear h
 obtain ⟨⟨t1153, t1154⟩, A2, H⟩ := bo_ H
 (try dsimp only at H)
 simp only [Option.some.injEq, Prod.mk.injEq] at H
 obtain ⟨rfl, rfl⟩ := H
 go_enter Try.func57, Try.ntmps57
 go_wp2_with (first | ((with_reducible refine gc_ (f := 92) rfl ?_); refine gL_ (some 5) Try.func92 #[.slice A0 l0.length c0] ?_; (with_reducible refine (spec_DrawUnder.calls k _ _ l0 t1153 t1154 _ ?s1 ?s2 A2.out).mono ?_); (case s1 => exact cC_ HR0.out); (case s2 => exact HC0.out); rintro e w3 ⟨v1155, v1157, rfl, ho0, ho1, hb⟩; refine ⟨_, rfl, ?_⟩; have HO1156 := A_ (Kd.R_lower ho0 (below_size bB_)); have HO1158 := A_ (Kd.R_lower ho1 (below_size bB_)); replace HB := A_ (below_step bB_ hb); (try clear hb); (try clear ho0); (try clear ho1)))
 go_ret2
 exact ⟨_, _, rr_, by (with_reducible repeat (first | apply Kd.R_alloc | apply Kd.R_drewN | apply Kd.R_drew)); exact HO1156.out, by (with_reducible repeat (first | apply Kd.R_alloc | apply Kd.R_drewN | apply Kd.R_drew)); exact HO1158.out, bB_⟩
def spec_DrawAbove.f (k : Nat) (l0 : List Int) : Option (List ByteArray) := (spec_l1New.f k l0).bind fun bt1159 => ((spec_l2Any.f k bt1159.1 bt1159.2.1 bt1159.2.2).bind fun bt1163 => (some bt1163.1))
theorem spec_DrawAbove.calls (k : Nat) (A0 : Option Addr) (c0 : Nat) (l0 : List Int) (r : List ByteArray) (w : World) (hr0 : Kd.C (Kd.int .u8) w A0 l0.length l0) (hc0 : l0.length ≤ c0) (h : spec_DrawAbove.f k l0 = some r) :
 Calls Try.prog 58 #[.slice A0 l0.length c0] w fun e w' => ∃ v0_ : Value, e = .returned (v0_) ∧ Kd.R Kd.string 9 w' w.heap.size (fun _ => True) v0_ r ∧ Below w.heap.size w w' := by
 have HR0 := A_ hr0
 have HC0 := A_ hc0
 clear hr0 hc0
 have HB := A_ (Below.refl w.heap.size w)
 have H : ((spec_l1New.f k l0).bind fun bt1159 => ((spec_l2Any.f k bt1159.1 bt1159.2.1 bt1159.2.2).bind fun bt1163 => (some bt1163.1))) = some r := h
 clear h
 obtain ⟨⟨t1159, t1160, t1161⟩, A2, H⟩ := bo_ H
 (try dsimp only at H)
 obtain ⟨⟨t1163, t1166, t1167⟩, A3, H⟩ := bo_ H
 (try dsimp only at H)
 obtain rfl := si_ H
 go_enter Try.func58, Try.ntmps58
 go_wp2_with (first | ((with_reducible refine gc_ (f := 85) rfl ?_); refine gL_ (some 5) Try.func85 #[.slice A0 l0.length c0] ?_; (with_reducible refine (spec_l1New.calls k _ _ l0 t1159 t1160 t1161 w _ ?s1 ?s2 ?s3 A2.out).mono ?_); (case s1 => exact bIQx300_); (case s2 => exact HR0.out); (case s3 => exact HC0.out); rintro e w4 ⟨g1162, rfl, hi, hb, hb2⟩; refine ⟨_, rfl, ?_⟩; replace HB := A_ (hb); have HI1162 := A_ (hi); (try clear hb); (try clear hb2); (try clear hk); (try clear hi)) | ((with_reducible refine gc_ (f := 93) rfl ?_); refine gL_ (some 7) Try.func93 #[.pointer (some ⟨g1162, 0, none⟩)] ?_; (with_reducible refine (spec_l2Any.calls k g1162 t1159 t1160 t1161 t1163 t1166 t1167 w _ ?s1 ?s2 A3.out).mono ?_); (case s1 => repeat (first | (with_reducible first | exact HI1162.out | apply IsS94.alloc | apply IsS94.drewN | apply IsS94.drew | apply IsS94.set_1 | apply IsS94.set_2) | exact HI1162.out)); (case s2 => repeat (first | (with_reducible first | exact HB.out | apply below_alloc | apply pw_below_drewN | apply below_drew1 | refine below_set ?_ (IsS94.ge HI1162.out)) | exact HB.out)); rintro e w5 ⟨v1164, rfl, ho0, hi, hb, hk⟩; refine ⟨_, rfl, ?_⟩; have HO1165 := A_ (Kd.R_lower ho0 (below_size (by repeat (first | (with_reducible first | exact HB.out | apply below_alloc | apply pw_below_drewN | apply below_drew1 | refine below_set ?_ (IsS94.ge HI1162.out)) | exact HB.out)))); replace HB := A_ (hb); replace HI1162 := A_ (hi); (try clear hb); (try clear hb2); (try clear hk); (try clear hi); (try clear ho0)))
 go_ret
 exact ⟨_, rr_, by (with_reducible repeat (first | apply Kd.R_alloc | apply Kd.R_drewN | apply Kd.R_drew)); exact HO1165.out, by repeat (first | (with_reducible first | exact HB.out | apply below_alloc | apply pw_below_drewN | apply below_drew1 | refine below_set ?_ (IsS94.ge HI1162.out)) | exact HB.out)⟩
def laws_sameTexts.l0 : Nat → List ByteArray → List ByteArray → Int → Option (Bool)
 | 0, _, _, _ => none
 | k + 1, x0, x1, x5 => if x5 < (x0.length : Int) then (if 0 ≤ x5 then (if x5 < (x1.length : Int) then (if (rdOf ByteArray.empty x0 x5).toList = (rdOf ByteArray.empty x1 x5).toList then (laws_sameTexts.l0 k x0 x1 (wrap64 (x5 + 1))) else (some false)) else (none)) else (none)) else (some true)
def laws_sameTexts.f (k : Nat) (l0 : List ByteArray) (l1 : List ByteArray) : Option (Bool) := if (l0.length : Int) = (l1.length : Int) then (laws_sameTexts.l0 k l0 l1 0) else (some false)
theorem laws_sameTexts.calls (k : Nat) (A0 : Option Addr) (c0 : Nat) (l0 : List ByteArray) (A1 : Option Addr) (c1 : Nat) (l1 : List ByteArray) (r : Bool) (w : World) (hr0 : Kd.C Kd.string w A0 l0.length l0) (hc0 : l0.length ≤ c0) (hr1 : Kd.C Kd.string w A1 l1.length l1) (hc1 : l1.length ≤ c1) (h : laws_sameTexts.f k l0 l1 = some r) :
 Calls Try.prog 61 #[.slice A0 l0.length c0, .slice A1 l1.length c1] w fun e w' => e = .returned (.bool r) ∧ Drawn0 w w' := by
 have HR0 := A_ hr0
 have HC0 := A_ hc0
 clear hr0 hc0
 have HR1 := A_ hr1
 have HC1 := A_ hc1
 clear hr1 hc1
 have H : (if (l0.length : Int) = (l1.length : Int) then (laws_sameTexts.l0 k l0 l1 0) else (some false)) = some r := h
 clear h
 by_cases c3 : (l0.length : Int) = (l1.length : Int)
 rotate_left
 · rw [if_neg c3] at H
   have c3b0 : ((l0.length : Int) == (l1.length : Int)) = false := beq_eq_false_iff_ne.mpr c3
   have c3b1 : ((l0.length : Int) != (l1.length : Int)) = true := bne_iff_ne.mpr c3
   have c3b2 : (l0.length == l1.length) = false := by first | simpa using c3 | (simp at c3 ⊢; omega)
   obtain rfl := si_ H
   go_enter Try.func61, Try.ntmps61
   go_wp2
   repeat (go_quiet (fail); try go_wp2)
   go_ret
   exact ⟨rs_, dr_⟩
 rw [if_pos c3] at H
 have c3b0 : ((l0.length : Int) == (l1.length : Int)) = true := beq_iff_eq.mpr c3
 have c3b1 : ((l0.length : Int) != (l1.length : Int)) = false := bne_eq_false_iff_eq.mpr c3
 have c3b2 : (l0.length == l1.length) = true := by first | simpa using c3 | (simp at c3 ⊢; omega)
 clear c3
 have H' := A_ H
 clear H
 go_enter Try.func61, Try.ntmps61
 go_wp2
 repeat (go_quiet (fail); try go_wp2)
 go_loopg [5] k (fun kq v5 w' => ∃ (x5_1 : Int), v5 = .int .i64 x5_1 ∧ Aside0 (laws_sameTexts.l0 kq l0 l1 x5_1 = some r) ∧ Aside0 (kq ≤ k) ∧ Drawn0 w w')
 case atStart => exact ⟨(0), rs_, H', ⟨Nat.le_refl _⟩, dr_⟩
 case round =>
  clear H'
  try clear c1
  try clear p2
  try clear c3
  try clear c3b0
  try clear c3b1
  try clear c3b2
  obtain ⟨x5_1, rfl, HA, HK1, ⟨m1, rfl⟩⟩ := hrel
  cases gk with
  | zero => exact absurd HA.out (by simp [laws_sameTexts.l0])
  | succ k1 =>
   have H := HA.out
   clear HA
   simp only [laws_sameTexts.l0] at H
   by_cases c4 : x5_1 < (l0.length : Int)
   rotate_left
   · rw [if_neg c4] at H
     have c4b0 : decide (x5_1 < (l0.length : Int)) = false := decide_eq_false c4
     clear c4
     obtain rfl := si_ H
     go_wp2
     repeat (go_quiet (fail); try go_wp2)
     go_ret
     exact ⟨rs_, dr_⟩
   rw [if_pos c4] at H
   have c4b0 : decide (x5_1 < (l0.length : Int)) = true := decide_eq_true c4
   clear c4
   by_cases c5 : 0 ≤ x5_1
   rotate_left
   · exact absurd H (by rw [if_neg c5]; simp)
   rw [if_pos c5] at H
   have c5b0 : decide (0 ≤ x5_1) = true := decide_eq_true c5
   clear c5
   by_cases c6 : x5_1 < (l1.length : Int)
   rotate_left
   · exact absurd H (by rw [if_neg c6]; simp)
   rw [if_pos c6] at H
   have c6b0 : decide (x5_1 < (l1.length : Int)) = true := decide_eq_true c6
   clear c6
   by_cases c7 : (rdOf ByteArray.empty l0 x5_1).toList = (rdOf ByteArray.empty l1 x5_1).toList
   rotate_left
   · rw [if_neg c7] at H
     have c7b0 : ((rdOf ByteArray.empty l0 x5_1).toList == (rdOf ByteArray.empty l1 x5_1).toList) = false := beq_eq_false_iff_ne.mpr c7
     have c7b1 : ((rdOf ByteArray.empty l0 x5_1).toList != (rdOf ByteArray.empty l1 x5_1).toList) = true := bne_iff_ne.mpr c7
     obtain rfl := si_ H
     have p1168 : 0 ≤ (x5_1 : Int) := od_
     have q1168 : x5_1 < (l0.length : Int) := od_
     obtain ⟨ad1168, e1168, hx1168_0⟩ := Kd.at_string HR0.out x5_1 p1168 q1168
     cases e1168
     replace p1168 := eq_true p1168
     replace q1168 := eq_true q1168
     have p1169 : 0 ≤ (x5_1 : Int) := od_
     have q1169 : x5_1 < (l1.length : Int) := od_
     obtain ⟨ad1169, e1169, hx1169_0⟩ := Kd.at_string HR1.out x5_1 p1169 q1169
     cases e1169
     replace p1169 := eq_true p1169
     replace q1169 := eq_true q1169
     go_wp2
     repeat (go_quiet (fail); try go_wp2)
     go_ret
     exact ⟨rs_, dr_⟩
   rw [if_pos c7] at H
   have c7b0 : ((rdOf ByteArray.empty l0 x5_1).toList == (rdOf ByteArray.empty l1 x5_1).toList) = true := beq_iff_eq.mpr c7
   have c7b1 : ((rdOf ByteArray.empty l0 x5_1).toList != (rdOf ByteArray.empty l1 x5_1).toList) = false := bne_eq_false_iff_eq.mpr c7
   clear c7
   have H' := A_ H
   clear H
   have p1168 : 0 ≤ (x5_1 : Int) := od_
   have q1168 : x5_1 < (l0.length : Int) := od_
   obtain ⟨ad1168, e1168, hx1168_0⟩ := Kd.at_string HR0.out x5_1 p1168 q1168
   cases e1168
   replace p1168 := eq_true p1168
   replace q1168 := eq_true q1168
   have p1169 : 0 ≤ (x5_1 : Int) := od_
   have q1169 : x5_1 < (l1.length : Int) := od_
   obtain ⟨ad1169, e1169, hx1169_0⟩ := Kd.at_string HR1.out x5_1 p1169 q1169
   cases e1169
   replace p1169 := eq_true p1169
   replace q1169 := eq_true q1169
   go_wp2
   repeat (go_quiet (fail); try go_wp2)
   go_roundg k1
   case measure => have := HK1.out; omega
   case rel => exact ⟨(wrap64 (x5_1 + 1)), rs_, H', ⟨by have := HK1.out; omega⟩, dr_⟩
def laws_samePaths.l0 : Nat → List (List ByteArray) → List (List ByteArray) → Int → Option (Bool)
 | 0, _, _, _ => none
 | k + 1, x0, x1, x5 => if x5 < (x0.length : Int) then (if 0 ≤ x5 then (if x5 < (x1.length : Int) then ((laws_sameTexts.f k (rd_L4 x0 x5) (rd_L4 x1 x5)).bind fun t1172 => (if t1172 = true then (laws_samePaths.l0 k x0 x1 (wrap64 (x5 + 1))) else (some false))) else (none)) else (none)) else (some true)
def laws_samePaths.f (k : Nat) (l0 : List (List ByteArray)) (l1 : List (List ByteArray)) : Option (Bool) := if (l0.length : Int) = (l1.length : Int) then (laws_samePaths.l0 k l0 l1 0) else (some false)
theorem laws_samePaths.calls (k : Nat) (A0 : Option Addr) (c0 : Nat) (l0 : List (List ByteArray)) (A1 : Option Addr) (c1 : Nat) (l1 : List (List ByteArray)) (r : Bool) (w : World) (hr0 : Kd.C (Kd.slice 9 Kd.string) w A0 l0.length l0) (hc0 : l0.length ≤ c0) (hr1 : Kd.C (Kd.slice 9 Kd.string) w A1 l1.length l1) (hc1 : l1.length ≤ c1) (h : laws_samePaths.f k l0 l1 = some r) :
 Calls Try.prog 59 #[.slice A0 l0.length c0, .slice A1 l1.length c1] w fun e w' => e = .returned (.bool r) ∧ Drawn0 w w' := by
 have HR0 := A_ hr0
 have HC0 := A_ hc0
 clear hr0 hc0
 have HR1 := A_ hr1
 have HC1 := A_ hc1
 clear hr1 hc1
 have H : (if (l0.length : Int) = (l1.length : Int) then (laws_samePaths.l0 k l0 l1 0) else (some false)) = some r := h
 clear h
 by_cases c3 : (l0.length : Int) = (l1.length : Int)
 rotate_left
 · rw [if_neg c3] at H
   have c3b0 : ((l0.length : Int) == (l1.length : Int)) = false := beq_eq_false_iff_ne.mpr c3
   have c3b1 : ((l0.length : Int) != (l1.length : Int)) = true := bne_iff_ne.mpr c3
   have c3b2 : (l0.length == l1.length) = false := by first | simpa using c3 | (simp at c3 ⊢; omega)
   obtain rfl := si_ H
   go_enter Try.func59, Try.ntmps59
   go_wp2
   repeat (go_quiet (fail); try go_wp2)
   go_ret
   exact ⟨rs_, dr_⟩
 rw [if_pos c3] at H
 have c3b0 : ((l0.length : Int) == (l1.length : Int)) = true := beq_iff_eq.mpr c3
 have c3b1 : ((l0.length : Int) != (l1.length : Int)) = false := bne_eq_false_iff_eq.mpr c3
 have c3b2 : (l0.length == l1.length) = true := by first | simpa using c3 | (simp at c3 ⊢; omega)
 clear c3
 have H' := A_ H
 clear H
 go_enter Try.func59, Try.ntmps59
 go_wp2
 repeat (go_quiet (fail); try go_wp2)
 go_loopg [5] k (fun kq v5 w' => ∃ (x5_1 : Int), v5 = .int .i64 x5_1 ∧ Aside0 (laws_samePaths.l0 kq l0 l1 x5_1 = some r) ∧ Aside0 (kq ≤ k) ∧ Drawn0 w w')
 case atStart => exact ⟨(0), rs_, H', ⟨Nat.le_refl _⟩, dr_⟩
 case round =>
  clear H'
  try clear c1
  try clear p2
  try clear c3
  try clear c3b0
  try clear c3b1
  try clear c3b2
  obtain ⟨x5_1, rfl, HA, HK1, ⟨m1, rfl⟩⟩ := hrel
  cases gk with
  | zero => exact absurd HA.out (by simp [laws_samePaths.l0])
  | succ k1 =>
   have H := HA.out
   clear HA
   simp only [laws_samePaths.l0] at H
   by_cases c4 : x5_1 < (l0.length : Int)
   rotate_left
   · rw [if_neg c4] at H
     have c4b0 : decide (x5_1 < (l0.length : Int)) = false := decide_eq_false c4
     clear c4
     obtain rfl := si_ H
     go_wp2
     repeat (go_quiet (fail); try go_wp2)
     go_ret
     exact ⟨rs_, dr_⟩
   rw [if_pos c4] at H
   have c4b0 : decide (x5_1 < (l0.length : Int)) = true := decide_eq_true c4
   clear c4
   by_cases c5 : 0 ≤ x5_1
   rotate_left
   · exact absurd H (by rw [if_neg c5]; simp)
   rw [if_pos c5] at H
   have c5b0 : decide (0 ≤ x5_1) = true := decide_eq_true c5
   clear c5
   by_cases c6 : x5_1 < (l1.length : Int)
   rotate_left
   · exact absurd H (by rw [if_neg c6]; simp)
   rw [if_pos c6] at H
   have c6b0 : decide (x5_1 < (l1.length : Int)) = true := decide_eq_true c6
   clear c6
   obtain ⟨t1172, A7, H⟩ := bo_ H
   (try dsimp only at H)
   by_cases c8 : t1172 = true
   · subst c8
     rw [if_pos rfl] at H
     have H' := A_ H
     clear H
     have p1170 : 0 ≤ (x5_1 : Int) := od_
     have q1170 : x5_1 < (l0.length : Int) := od_
     obtain ⟨ad1170, A1170_0, c1170_0, e1170, hx1170_0, hl1170_0, hi1170_0⟩ := at_L4 HR0.out x5_1 p1170 q1170
     cases e1170
     have HR1170_0 := A_ hi1170_0
     have HC1170_0 := A_ hl1170_0
     clear hi1170_0 hl1170_0
     replace p1170 := eq_true p1170
     replace q1170 := eq_true q1170
     have p1171 : 0 ≤ (x5_1 : Int) := od_
     have q1171 : x5_1 < (l1.length : Int) := od_
     obtain ⟨ad1171, A1171_0, c1171_0, e1171, hx1171_0, hl1171_0, hi1171_0⟩ := at_L4 HR1.out x5_1 p1171 q1171
     cases e1171
     have HR1171_0 := A_ hi1171_0
     have HC1171_0 := A_ hl1171_0
     clear hi1171_0 hl1171_0
     replace p1171 := eq_true p1171
     replace q1171 := eq_true q1171
     go_wp2_with (first | (go_at_call 61; (with_reducible refine (laws_sameTexts.calls k1 _ _ (rd_L4 l0 x5_1) _ _ (rd_L4 l1 x5_1) true _ ?s1 ?s2 ?s3 ?s4 A7.out).mono ?_); (case s1 => exact cC_ HR1170_0.out); (case s2 => exact HC1170_0.out); (case s3 => exact cC_ HR1171_0.out); (case s4 => exact HC1171_0.out); rintro e w' ⟨rfl, ⟨nd, rfl⟩⟩; (try first | exact ⟨rfl, _, World.drewN_drewN _ _ _⟩ | exact ⟨rfl, _, Eq.trans (World.drewN_drewN _ _ _) (congrArg (World.drewN _) (Nat.add_assoc _ _ _))⟩)))
     repeat (go_quiet (first | (go_at_call 61; (with_reducible refine (laws_sameTexts.calls k1 _ _ (rd_L4 l0 x5_1) _ _ (rd_L4 l1 x5_1) true _ ?s1 ?s2 ?s3 ?s4 A7.out).mono ?_); (case s1 => exact cC_ HR1170_0.out); (case s2 => exact HC1170_0.out); (case s3 => exact cC_ HR1171_0.out); (case s4 => exact HC1171_0.out); rintro e w' ⟨rfl, ⟨nd, rfl⟩⟩; (try first | exact ⟨rfl, _, World.drewN_drewN _ _ _⟩ | exact ⟨rfl, _, Eq.trans (World.drewN_drewN _ _ _) (congrArg (World.drewN _) (Nat.add_assoc _ _ _))⟩))); try go_wp2_with (first | (go_at_call 61; (with_reducible refine (laws_sameTexts.calls k1 _ _ (rd_L4 l0 x5_1) _ _ (rd_L4 l1 x5_1) true _ ?s1 ?s2 ?s3 ?s4 A7.out).mono ?_); (case s1 => exact cC_ HR1170_0.out); (case s2 => exact HC1170_0.out); (case s3 => exact cC_ HR1171_0.out); (case s4 => exact HC1171_0.out); rintro e w' ⟨rfl, ⟨nd, rfl⟩⟩; (try first | exact ⟨rfl, _, World.drewN_drewN _ _ _⟩ | exact ⟨rfl, _, Eq.trans (World.drewN_drewN _ _ _) (congrArg (World.drewN _) (Nat.add_assoc _ _ _))⟩))))
     go_roundg k1
     case measure => have := HK1.out; omega
     case rel => exact ⟨(wrap64 (x5_1 + 1)), rs_, H', ⟨by have := HK1.out; omega⟩, dr_⟩
   · replace c8 := Bool.eq_false_iff.mpr c8
     subst c8
     rw [if_neg nf_] at H
     obtain rfl := si_ H
     have p1170 : 0 ≤ (x5_1 : Int) := od_
     have q1170 : x5_1 < (l0.length : Int) := od_
     obtain ⟨ad1170, A1170_0, c1170_0, e1170, hx1170_0, hl1170_0, hi1170_0⟩ := at_L4 HR0.out x5_1 p1170 q1170
     cases e1170
     have HR1170_0 := A_ hi1170_0
     have HC1170_0 := A_ hl1170_0
     clear hi1170_0 hl1170_0
     replace p1170 := eq_true p1170
     replace q1170 := eq_true q1170
     have p1171 : 0 ≤ (x5_1 : Int) := od_
     have q1171 : x5_1 < (l1.length : Int) := od_
     obtain ⟨ad1171, A1171_0, c1171_0, e1171, hx1171_0, hl1171_0, hi1171_0⟩ := at_L4 HR1.out x5_1 p1171 q1171
     cases e1171
     have HR1171_0 := A_ hi1171_0
     have HC1171_0 := A_ hl1171_0
     clear hi1171_0 hl1171_0
     replace p1171 := eq_true p1171
     replace q1171 := eq_true q1171
     go_wp2_with (first | (go_at_call 61; (with_reducible refine (laws_sameTexts.calls k1 _ _ (rd_L4 l0 x5_1) _ _ (rd_L4 l1 x5_1) false _ ?s1 ?s2 ?s3 ?s4 A7.out).mono ?_); (case s1 => exact cC_ HR1170_0.out); (case s2 => exact HC1170_0.out); (case s3 => exact cC_ HR1171_0.out); (case s4 => exact HC1171_0.out); rintro e w' ⟨rfl, ⟨nd, rfl⟩⟩; (try first | exact ⟨rfl, _, World.drewN_drewN _ _ _⟩ | exact ⟨rfl, _, Eq.trans (World.drewN_drewN _ _ _) (congrArg (World.drewN _) (Nat.add_assoc _ _ _))⟩)))
     repeat (go_quiet (first | (go_at_call 61; (with_reducible refine (laws_sameTexts.calls k1 _ _ (rd_L4 l0 x5_1) _ _ (rd_L4 l1 x5_1) false _ ?s1 ?s2 ?s3 ?s4 A7.out).mono ?_); (case s1 => exact cC_ HR1170_0.out); (case s2 => exact HC1170_0.out); (case s3 => exact cC_ HR1171_0.out); (case s4 => exact HC1171_0.out); rintro e w' ⟨rfl, ⟨nd, rfl⟩⟩; (try first | exact ⟨rfl, _, World.drewN_drewN _ _ _⟩ | exact ⟨rfl, _, Eq.trans (World.drewN_drewN _ _ _) (congrArg (World.drewN _) (Nat.add_assoc _ _ _))⟩))); try go_wp2_with (first | (go_at_call 61; (with_reducible refine (laws_sameTexts.calls k1 _ _ (rd_L4 l0 x5_1) _ _ (rd_L4 l1 x5_1) false _ ?s1 ?s2 ?s3 ?s4 A7.out).mono ?_); (case s1 => exact cC_ HR1170_0.out); (case s2 => exact HC1170_0.out); (case s3 => exact cC_ HR1171_0.out); (case s4 => exact HC1171_0.out); rintro e w' ⟨rfl, ⟨nd, rfl⟩⟩; (try first | exact ⟨rfl, _, World.drewN_drewN _ _ _⟩ | exact ⟨rfl, _, Eq.trans (World.drewN_drewN _ _ _) (congrArg (World.drewN _) (Nat.add_assoc _ _ _))⟩))))
     go_ret
     exact ⟨rs_, dr_⟩
theorem eqA71 (d : Nat) (w : World) (x0 y0 : ByteArray) (x1 y1 : ByteArray) (x2 y2 : ByteArray) :
    (Op.equalIn (d + 2) 71 (.agg #[.string x0, .string x1, .string x2]) (.agg #[.string y0, .string y1, .string y2])).run Try.prog w = .ok (x0.toList == y0.toList && (x1.toList == y1.toList && (x2.toList == y2.toList))) w := by
  refine eqA_of Try.underlying71 (by kernel_rfl) ?_
  refine eqf_cons (by rfl) (by go_simp; rfl) (by go_simp; rfl) (by go_simp) ?_
  refine eqf_cons (by rfl) (by go_simp; rfl) (by go_simp; rfl) (by go_simp) ?_
  exact eqf_last (by rfl) (by go_simp; rfl) (by go_simp; rfl) (by go_simp)
set_option maxHeartbeats 8000000
set_option maxRecDepth 100000
attribute [local go_sem high] eqA71
def laws_sameProps.l0 : Nat → List (S71) → List (S71) → Int → Option (Bool)
 | 0, _, _, _ => none
 | k + 1, x0, x1, x5 => if x5 < (x0.length : Int) then (if 0 ≤ x5 then (if x5 < (x1.length : Int) then (if (!((((rd_T71 x0 x5).f0).toList) == (((rd_T71 x1 x5).f0).toList)) || (!((((rd_T71 x0 x5).f1).toList) == (((rd_T71 x1 x5).f1).toList)) || (!((((rd_T71 x0 x5).f2).toList) == (((rd_T71 x1 x5).f2).toList))))) = true then (some false) else (laws_sameProps.l0 k x0 x1 (wrap64 (x5 + 1)))) else (none)) else (none)) else (some true)
def laws_sameProps.f (k : Nat) (l0 : List (S71)) (l1 : List (S71)) : Option (Bool) := if (l0.length : Int) = (l1.length : Int) then (laws_sameProps.l0 k l0 l1 0) else (some false)
theorem laws_sameProps.calls (k : Nat) (A0 : Option Addr) (c0 : Nat) (l0 : List (S71)) (A1 : Option Addr) (c1 : Nat) (l1 : List (S71)) (r : Bool) (w : World) (hr0 : Kd.C k71 w A0 l0.length l0) (hc0 : l0.length ≤ c0) (hr1 : Kd.C k71 w A1 l1.length l1) (hc1 : l1.length ≤ c1) (h : laws_sameProps.f k l0 l1 = some r) :
 Calls Try.prog 111 #[.slice A0 l0.length c0, .slice A1 l1.length c1] w fun e w' => e = .returned (.bool r) ∧ Drawn0 w w' := by
 have hu71 := Try.underlying71
 have HR0 := A_ hr0
 have HC0 := A_ hc0
 clear hr0 hc0
 have HR1 := A_ hr1
 have HC1 := A_ hc1
 clear hr1 hc1
 have H : (if (l0.length : Int) = (l1.length : Int) then (laws_sameProps.l0 k l0 l1 0) else (some false)) = some r := h
 clear h
 by_cases c3 : (l0.length : Int) = (l1.length : Int)
 rotate_left
 · rw [if_neg c3] at H
   have c3b0 : ((l0.length : Int) == (l1.length : Int)) = false := beq_eq_false_iff_ne.mpr c3
   have c3b1 : ((l0.length : Int) != (l1.length : Int)) = true := bne_iff_ne.mpr c3
   have c3b2 : (l0.length == l1.length) = false := by first | simpa using c3 | (simp at c3 ⊢; omega)
   obtain rfl := si_ H
   go_enter Try.func111, Try.ntmps111
   go_wp2
   repeat (go_quiet (fail); try go_wp2)
   go_ret
   exact ⟨rs_, dr_⟩
 rw [if_pos c3] at H
 have c3b0 : ((l0.length : Int) == (l1.length : Int)) = true := beq_iff_eq.mpr c3
 have c3b1 : ((l0.length : Int) != (l1.length : Int)) = false := bne_eq_false_iff_eq.mpr c3
 have c3b2 : (l0.length == l1.length) = true := by first | simpa using c3 | (simp at c3 ⊢; omega)
 clear c3
 have H' := A_ H
 clear H
 go_enter Try.func111, Try.ntmps111
 go_wp2
 repeat (go_quiet (fail); try go_wp2)
 go_loopg [5] k (fun kq v5 w' => ∃ (x5_1 : Int), v5 = .int .i64 x5_1 ∧ Aside0 (laws_sameProps.l0 kq l0 l1 x5_1 = some r) ∧ Aside0 (kq ≤ k) ∧ Drawn0 w w')
 case atStart => exact ⟨(0), rs_, H', ⟨Nat.le_refl _⟩, dr_⟩
 case round =>
  clear H'
  try clear c1
  try clear p2
  try clear c3
  try clear c3b0
  try clear c3b1
  try clear c3b2
  obtain ⟨x5_1, rfl, HA, HK1, ⟨m1, rfl⟩⟩ := hrel
  cases gk with
  | zero => exact absurd HA.out (by simp [laws_sameProps.l0])
  | succ k1 =>
   have H := HA.out
   clear HA
   simp only [laws_sameProps.l0] at H
   by_cases c4 : x5_1 < (l0.length : Int)
   rotate_left
   · rw [if_neg c4] at H
     have c4b0 : decide (x5_1 < (l0.length : Int)) = false := decide_eq_false c4
     clear c4
     obtain rfl := si_ H
     go_wp2
     repeat (go_quiet (fail); try go_wp2)
     go_ret
     exact ⟨rs_, dr_⟩
   rw [if_pos c4] at H
   have c4b0 : decide (x5_1 < (l0.length : Int)) = true := decide_eq_true c4
   clear c4
   by_cases c5 : 0 ≤ x5_1
   rotate_left
   · exact absurd H (by rw [if_neg c5]; simp)
   rw [if_pos c5] at H
   have c5b0 : decide (0 ≤ x5_1) = true := decide_eq_true c5
   clear c5
   by_cases c6 : x5_1 < (l1.length : Int)
   rotate_left
   · exact absurd H (by rw [if_neg c6]; simp)
   rw [if_pos c6] at H
   have c6b0 : decide (x5_1 < (l1.length : Int)) = true := decide_eq_true c6
   clear c6
   by_cases c7 : (!((((rd_T71 l0 x5_1).f0).toList) == (((rd_T71 l1 x5_1).f0).toList)) || (!((((rd_T71 l0 x5_1).f1).toList) == (((rd_T71 l1 x5_1).f1).toList)) || (!((((rd_T71 l0 x5_1).f2).toList) == (((rd_T71 l1 x5_1).f2).toList))))) = true
   · rw [if_pos c7] at H
     have c7b0 : (!((((rd_T71 l0 x5_1).f0).toList) == (((rd_T71 l1 x5_1).f0).toList)) || (!((((rd_T71 l0 x5_1).f1).toList) == (((rd_T71 l1 x5_1).f1).toList)) || (!((((rd_T71 l0 x5_1).f2).toList) == (((rd_T71 l1 x5_1).f2).toList))))) = true := c7
     clear c7
     obtain rfl := si_ H
     have p1173 : 0 ≤ (x5_1 : Int) := od_
     have q1173 : x5_1 < (l0.length : Int) := od_
     obtain ⟨ad1173, e1173, hx1173_0, hx1173_1, hx1173_2⟩ := at_T71 HR0.out x5_1 p1173 q1173
     cases e1173
     replace p1173 := eq_true p1173
     replace q1173 := eq_true q1173
     have p1174 : 0 ≤ (x5_1 : Int) := od_
     have q1174 : x5_1 < (l1.length : Int) := od_
     obtain ⟨ad1174, e1174, hx1174_0, hx1174_1, hx1174_2⟩ := at_T71 HR1.out x5_1 p1174 q1174
     cases e1174
     replace p1174 := eq_true p1174
     replace q1174 := eq_true q1174
     go_wp2
     repeat (go_quiet (fail); try go_wp2)
     go_ret
     exact ⟨rs_, dr_⟩
   rw [if_neg c7] at H
   have c7b0 : (!((((rd_T71 l0 x5_1).f0).toList) == (((rd_T71 l1 x5_1).f0).toList)) || (!((((rd_T71 l0 x5_1).f1).toList) == (((rd_T71 l1 x5_1).f1).toList)) || (!((((rd_T71 l0 x5_1).f2).toList) == (((rd_T71 l1 x5_1).f2).toList))))) = false := by simpa using c7
   clear c7
   have H' := A_ H
   clear H
   have p1173 : 0 ≤ (x5_1 : Int) := od_
   have q1173 : x5_1 < (l0.length : Int) := od_
   obtain ⟨ad1173, e1173, hx1173_0, hx1173_1, hx1173_2⟩ := at_T71 HR0.out x5_1 p1173 q1173
   cases e1173
   replace p1173 := eq_true p1173
   replace q1173 := eq_true q1173
   have p1174 : 0 ≤ (x5_1 : Int) := od_
   have q1174 : x5_1 < (l1.length : Int) := od_
   obtain ⟨ad1174, e1174, hx1174_0, hx1174_1, hx1174_2⟩ := at_T71 HR1.out x5_1 p1174 q1174
   cases e1174
   replace p1174 := eq_true p1174
   replace q1174 := eq_true q1174
   go_wp2
   repeat (go_quiet (fail); try go_wp2)
   go_roundg k1
   case measure => have := HK1.out; omega
   case rel => exact ⟨(wrap64 (x5_1 + 1)), rs_, H', ⟨by have := HK1.out; omega⟩, dr_⟩
def laws_sameRes.f (k : Nat) (l0_0 : List ByteArray) (a0_1 : Bool) (a0_2 : ByteArray) (a0_3 : Int) (l0_4 : List (S71)) (l1_0 : List ByteArray) (a1_1 : Bool) (a1_2 : ByteArray) (a1_3 : Int) (l1_4 : List (S71)) : Option (Bool) := (laws_sameTexts.f k l0_0 l1_0).bind fun t1177 => (if t1177 = true then (if (a0_1 == a1_1) = true then (if a0_2.toList = a1_2.toList then (if a0_3 = a1_3 then ((laws_sameProps.f k l0_4 l1_4).bind fun t1178 => (some t1178)) else (some false)) else (some false)) else (some false)) else (some false))
theorem laws_sameRes.calls (k : Nat) (A0_0 : Option Addr) (c0_0 : Nat) (l0_0 : List ByteArray) (a0_1 : Bool) (a0_2 : ByteArray) (a0_3 : Int) (A0_4 : Option Addr) (c0_4 : Nat) (l0_4 : List (S71)) (A1_0 : Option Addr) (c1_0 : Nat) (l1_0 : List ByteArray) (a1_1 : Bool) (a1_2 : ByteArray) (a1_3 : Int) (A1_4 : Option Addr) (c1_4 : Nat) (l1_4 : List (S71)) (r : Bool) (w : World) (hr0_0 : Kd.C Kd.string w A0_0 l0_0.length l0_0) (hc0_0 : l0_0.length ≤ c0_0) (hr0_4 : Kd.C k71 w A0_4 l0_4.length l0_4) (hc0_4 : l0_4.length ≤ c0_4) (hr1_0 : Kd.C Kd.string w A1_0 l1_0.length l1_0) (hc1_0 : l1_0.length ≤ c1_0) (hr1_4 : Kd.C k71 w A1_4 l1_4.length l1_4) (hc1_4 : l1_4.length ≤ c1_4) (h : laws_sameRes.f k l0_0 a0_1 a0_2 a0_3 l0_4 l1_0 a1_1 a1_2 a1_3 l1_4 = some r) :
 Calls Try.prog 94 #[.agg #[.slice A0_0 l0_0.length c0_0, .bool a0_1, .string a0_2, .int .i64 a0_3, .slice A0_4 l0_4.length c0_4], .agg #[.slice A1_0 l1_0.length c1_0, .bool a1_1, .string a1_2, .int .i64 a1_3, .slice A1_4 l1_4.length c1_4]] w fun e w' => e = .returned (.bool r) ∧ Below w.heap.size w w' := by
 have hu59 := Try.underlying59
 have HR0_0 := A_ hr0_0
 have HC0_0 := A_ hc0_0
 clear hr0_0 hc0_0
 have HR0_4 := A_ hr0_4
 have HC0_4 := A_ hc0_4
 clear hr0_4 hc0_4
 have HR1_0 := A_ hr1_0
 have HC1_0 := A_ hc1_0
 clear hr1_0 hc1_0
 have HR1_4 := A_ hr1_4
 have HC1_4 := A_ hc1_4
 clear hr1_4 hc1_4
 have HB := A_ (Below.refl w.heap.size w)
 have H : ((laws_sameTexts.f k l0_0 l1_0).bind fun t1177 => (if t1177 = true then (if (a0_1 == a1_1) = true then (if a0_2.toList = a1_2.toList then (if a0_3 = a1_3 then ((laws_sameProps.f k l0_4 l1_4).bind fun t1178 => (some t1178)) else (some false)) else (some false)) else (some false)) else (some false))) = some r := h
 clear h
 obtain ⟨t1177, A3, H⟩ := bo_ H
 (try dsimp only at H)
 by_cases c4 : t1177 = true
 · subst c4
   rw [if_pos rfl] at H
   by_cases c5 : (a0_1 == a1_1) = true
   rotate_left
   · rw [if_neg c5] at H
     have c5b0 : (a0_1 == a1_1) = false := by simpa using c5
     (try (have c5b1 : decide (a0_1 = a1_1) = false := by simpa using c5))
     (try (have c5b2 : (a0_1 == a1_1) = false := by simpa using c5))
     (try (have c5b3 : ¬ (a0_1 = a1_1) := by simpa using c5))
     clear c5
     obtain rfl := si_ H
     go_enter Try.func94, Try.ntmps94
     go_wp2_with (first | ((with_reducible refine gd_ (N := 2) rfl ?_); refine bx_ (N := 2) (cs := #[.slice A0_0 l0_0.length c0_0, .bool a0_1, .string a0_2, .int .i64 a0_3, .slice A0_4 l0_4.length c0_4]) (t := 59) ?_; intro gb1175 hg w24 hbox hb; have BK1175 := A_ (hbox); have GW1175 := A_ (ge_ hg bB_ : w.heap.size ≤ gb1175); have GE1175 := A_ (ge_ hg bB_ : w.heap.size ≤ gb1175); replace HB := A_ (below_step bB_ hb); clear hb hbox hg) | ((with_reducible refine gd_ (N := 3) rfl ?_); refine bx_ (N := 3) (cs := #[.slice A1_0 l1_0.length c1_0, .bool a1_1, .string a1_2, .int .i64 a1_3, .slice A1_4 l1_4.length c1_4]) (t := 59) ?_; intro gb1176 hg w25 hbox hb; have BK1176 := A_ (hbox); have GW1176 := A_ (ge_ hg (bG_ GE1175.out) : w.heap.size ≤ gb1176); have GE1176 := A_ (ge_ hg (bG_ GE1175.out) : w.heap.size ≤ gb1176); replace HB := A_ (below_step (bG_ GE1175.out) hb); have NB1175_1176 := A_ (gm_ hg BK1175.out); have NB1176_1175 := A_ (gn_ hg BK1175.out); replace BK1175 := A_ (bw_ BK1175.out hb); clear hb hbox hg; have hnb26 := NB1175_1176.out; have hnc26 := NB1176_1175.out; obtain ⟨hcz27_0, hcz27_1, hcz27_2, hcz27_3, hcz27_4, hfz27_0, hfz27_1, hfz27_2, hfz27_3, hfz27_4⟩ := cz5_ BK1175.out; obtain ⟨hcz28_0, hcz28_1, hcz28_2, hcz28_3, hcz28_4, hfz28_0, hfz28_1, hfz28_2, hfz28_3, hfz28_4⟩ := cz5_ BK1176.out) | ((with_reducible refine gc_ (f := 61) rfl ?_); refine gL_ (some 9) Try.func61 #[.slice A0_0 l0_0.length c0_0, .slice A1_0 l1_0.length c1_0] ?_; (with_reducible refine (laws_sameTexts.calls k _ _ l0_0 _ _ l1_0 true _ ?s1 ?s2 ?s3 ?s4 A3.out).mono ?_); (case s1 => exact cC_ (Kd.C_below HR0_0.out HB.out)); (case s2 => exact HC0_0.out); (case s3 => exact cC_ (Kd.C_below HR1_0.out HB.out)); (case s4 => exact HC1_0.out); rintro e w' ⟨rfl, ⟨nd, rfl⟩⟩; refine ⟨_, rfl, ?_⟩))
     go_ret
     exact ⟨rr_, by repeat (first | (with_reducible first | exact HB.out | apply below_alloc | apply pw_below_drewN | apply below_drew1 | refine below_set ?_ GE1175.out | refine below_set ?_ GE1176.out) | exact HB.out)⟩
   rw [if_pos c5] at H
   have c5b0 : (a0_1 == a1_1) = true := c5
   (try (have c5b1 : decide (a0_1 = a1_1) = true := by simpa using c5))
   (try (have c5b2 : (a0_1 == a1_1) = true := by simpa using c5))
   clear c5
   by_cases c6 : a0_2.toList = a1_2.toList
   rotate_left
   · rw [if_neg c6] at H
     have c6b0 : (a0_2.toList == a1_2.toList) = false := beq_eq_false_iff_ne.mpr c6
     have c6b1 : (a0_2.toList != a1_2.toList) = true := bne_iff_ne.mpr c6
     obtain rfl := si_ H
     go_enter Try.func94, Try.ntmps94
     go_wp2_with (first | ((with_reducible refine gd_ (N := 2) rfl ?_); refine bx_ (N := 2) (cs := #[.slice A0_0 l0_0.length c0_0, .bool a0_1, .string a0_2, .int .i64 a0_3, .slice A0_4 l0_4.length c0_4]) (t := 59) ?_; intro gb1175 hg w19 hbox hb; have BK1175 := A_ (hbox); have GW1175 := A_ (ge_ hg bB_ : w.heap.size ≤ gb1175); have GE1175 := A_ (ge_ hg bB_ : w.heap.size ≤ gb1175); replace HB := A_ (below_step bB_ hb); clear hb hbox hg) | ((with_reducible refine gd_ (N := 3) rfl ?_); refine bx_ (N := 3) (cs := #[.slice A1_0 l1_0.length c1_0, .bool a1_1, .string a1_2, .int .i64 a1_3, .slice A1_4 l1_4.length c1_4]) (t := 59) ?_; intro gb1176 hg w20 hbox hb; have BK1176 := A_ (hbox); have GW1176 := A_ (ge_ hg (bG_ GE1175.out) : w.heap.size ≤ gb1176); have GE1176 := A_ (ge_ hg (bG_ GE1175.out) : w.heap.size ≤ gb1176); replace HB := A_ (below_step (bG_ GE1175.out) hb); have NB1175_1176 := A_ (gm_ hg BK1175.out); have NB1176_1175 := A_ (gn_ hg BK1175.out); replace BK1175 := A_ (bw_ BK1175.out hb); clear hb hbox hg; have hnb21 := NB1175_1176.out; have hnc21 := NB1176_1175.out; obtain ⟨hcz22_0, hcz22_1, hcz22_2, hcz22_3, hcz22_4, hfz22_0, hfz22_1, hfz22_2, hfz22_3, hfz22_4⟩ := cz5_ BK1175.out; obtain ⟨hcz23_0, hcz23_1, hcz23_2, hcz23_3, hcz23_4, hfz23_0, hfz23_1, hfz23_2, hfz23_3, hfz23_4⟩ := cz5_ BK1176.out) | ((with_reducible refine gc_ (f := 61) rfl ?_); refine gL_ (some 9) Try.func61 #[.slice A0_0 l0_0.length c0_0, .slice A1_0 l1_0.length c1_0] ?_; (with_reducible refine (laws_sameTexts.calls k _ _ l0_0 _ _ l1_0 true _ ?s1 ?s2 ?s3 ?s4 A3.out).mono ?_); (case s1 => exact cC_ (Kd.C_below HR0_0.out HB.out)); (case s2 => exact HC0_0.out); (case s3 => exact cC_ (Kd.C_below HR1_0.out HB.out)); (case s4 => exact HC1_0.out); rintro e w' ⟨rfl, ⟨nd, rfl⟩⟩; refine ⟨_, rfl, ?_⟩))
     go_ret
     exact ⟨rr_, by repeat (first | (with_reducible first | exact HB.out | apply below_alloc | apply pw_below_drewN | apply below_drew1 | refine below_set ?_ GE1175.out | refine below_set ?_ GE1176.out) | exact HB.out)⟩
   rw [if_pos c6] at H
   have c6b0 : (a0_2.toList == a1_2.toList) = true := beq_iff_eq.mpr c6
   have c6b1 : (a0_2.toList != a1_2.toList) = false := bne_eq_false_iff_eq.mpr c6
   clear c6
   by_cases c7 : a0_3 = a1_3
   rotate_left
   · rw [if_neg c7] at H
     have c7b0 : (a0_3 == a1_3) = false := beq_eq_false_iff_ne.mpr c7
     have c7b1 : (a0_3 != a1_3) = true := bne_iff_ne.mpr c7
     obtain rfl := si_ H
     go_enter Try.func94, Try.ntmps94
     go_wp2_with (first | ((with_reducible refine gd_ (N := 2) rfl ?_); refine bx_ (N := 2) (cs := #[.slice A0_0 l0_0.length c0_0, .bool a0_1, .string a0_2, .int .i64 a0_3, .slice A0_4 l0_4.length c0_4]) (t := 59) ?_; intro gb1175 hg w14 hbox hb; have BK1175 := A_ (hbox); have GW1175 := A_ (ge_ hg bB_ : w.heap.size ≤ gb1175); have GE1175 := A_ (ge_ hg bB_ : w.heap.size ≤ gb1175); replace HB := A_ (below_step bB_ hb); clear hb hbox hg) | ((with_reducible refine gd_ (N := 3) rfl ?_); refine bx_ (N := 3) (cs := #[.slice A1_0 l1_0.length c1_0, .bool a1_1, .string a1_2, .int .i64 a1_3, .slice A1_4 l1_4.length c1_4]) (t := 59) ?_; intro gb1176 hg w15 hbox hb; have BK1176 := A_ (hbox); have GW1176 := A_ (ge_ hg (bG_ GE1175.out) : w.heap.size ≤ gb1176); have GE1176 := A_ (ge_ hg (bG_ GE1175.out) : w.heap.size ≤ gb1176); replace HB := A_ (below_step (bG_ GE1175.out) hb); have NB1175_1176 := A_ (gm_ hg BK1175.out); have NB1176_1175 := A_ (gn_ hg BK1175.out); replace BK1175 := A_ (bw_ BK1175.out hb); clear hb hbox hg; have hnb16 := NB1175_1176.out; have hnc16 := NB1176_1175.out; obtain ⟨hcz17_0, hcz17_1, hcz17_2, hcz17_3, hcz17_4, hfz17_0, hfz17_1, hfz17_2, hfz17_3, hfz17_4⟩ := cz5_ BK1175.out; obtain ⟨hcz18_0, hcz18_1, hcz18_2, hcz18_3, hcz18_4, hfz18_0, hfz18_1, hfz18_2, hfz18_3, hfz18_4⟩ := cz5_ BK1176.out) | ((with_reducible refine gc_ (f := 61) rfl ?_); refine gL_ (some 9) Try.func61 #[.slice A0_0 l0_0.length c0_0, .slice A1_0 l1_0.length c1_0] ?_; (with_reducible refine (laws_sameTexts.calls k _ _ l0_0 _ _ l1_0 true _ ?s1 ?s2 ?s3 ?s4 A3.out).mono ?_); (case s1 => exact cC_ (Kd.C_below HR0_0.out HB.out)); (case s2 => exact HC0_0.out); (case s3 => exact cC_ (Kd.C_below HR1_0.out HB.out)); (case s4 => exact HC1_0.out); rintro e w' ⟨rfl, ⟨nd, rfl⟩⟩; refine ⟨_, rfl, ?_⟩))
     go_ret
     exact ⟨rr_, by repeat (first | (with_reducible first | exact HB.out | apply below_alloc | apply pw_below_drewN | apply below_drew1 | refine below_set ?_ GE1175.out | refine below_set ?_ GE1176.out) | exact HB.out)⟩
   rw [if_pos c7] at H
   have c7b0 : (a0_3 == a1_3) = true := beq_iff_eq.mpr c7
   have c7b1 : (a0_3 != a1_3) = false := bne_eq_false_iff_eq.mpr c7
   clear c7
   obtain ⟨t1178, A8, H⟩ := bo_ H
   (try dsimp only at H)
   obtain rfl := si_ H
   go_enter Try.func94, Try.ntmps94
   go_wp2_with (first | ((with_reducible refine gd_ (N := 2) rfl ?_); refine bx_ (N := 2) (cs := #[.slice A0_0 l0_0.length c0_0, .bool a0_1, .string a0_2, .int .i64 a0_3, .slice A0_4 l0_4.length c0_4]) (t := 59) ?_; intro gb1175 hg w9 hbox hb; have BK1175 := A_ (hbox); have GW1175 := A_ (ge_ hg bB_ : w.heap.size ≤ gb1175); have GE1175 := A_ (ge_ hg bB_ : w.heap.size ≤ gb1175); replace HB := A_ (below_step bB_ hb); clear hb hbox hg) | ((with_reducible refine gd_ (N := 3) rfl ?_); refine bx_ (N := 3) (cs := #[.slice A1_0 l1_0.length c1_0, .bool a1_1, .string a1_2, .int .i64 a1_3, .slice A1_4 l1_4.length c1_4]) (t := 59) ?_; intro gb1176 hg w10 hbox hb; have BK1176 := A_ (hbox); have GW1176 := A_ (ge_ hg (bG_ GE1175.out) : w.heap.size ≤ gb1176); have GE1176 := A_ (ge_ hg (bG_ GE1175.out) : w.heap.size ≤ gb1176); replace HB := A_ (below_step (bG_ GE1175.out) hb); have NB1175_1176 := A_ (gm_ hg BK1175.out); have NB1176_1175 := A_ (gn_ hg BK1175.out); replace BK1175 := A_ (bw_ BK1175.out hb); clear hb hbox hg; have hnb11 := NB1175_1176.out; have hnc11 := NB1176_1175.out; obtain ⟨hcz12_0, hcz12_1, hcz12_2, hcz12_3, hcz12_4, hfz12_0, hfz12_1, hfz12_2, hfz12_3, hfz12_4⟩ := cz5_ BK1175.out; obtain ⟨hcz13_0, hcz13_1, hcz13_2, hcz13_3, hcz13_4, hfz13_0, hfz13_1, hfz13_2, hfz13_3, hfz13_4⟩ := cz5_ BK1176.out) | ((with_reducible refine gc_ (f := 61) rfl ?_); refine gL_ (some 9) Try.func61 #[.slice A0_0 l0_0.length c0_0, .slice A1_0 l1_0.length c1_0] ?_; (with_reducible refine (laws_sameTexts.calls k _ _ l0_0 _ _ l1_0 true _ ?s1 ?s2 ?s3 ?s4 A3.out).mono ?_); (case s1 => exact cC_ (Kd.C_below HR0_0.out HB.out)); (case s2 => exact HC0_0.out); (case s3 => exact cC_ (Kd.C_below HR1_0.out HB.out)); (case s4 => exact HC1_0.out); rintro e w' ⟨rfl, ⟨nd, rfl⟩⟩; refine ⟨_, rfl, ?_⟩) | (go_at_call 111; (with_reducible refine (laws_sameProps.calls k _ _ l0_4 _ _ l1_4 t1178 _ ?s1 ?s2 ?s3 ?s4 A8.out).mono ?_); (case s1 => repeat (first | exact (Kd.C_below HR0_4.out (by repeat (first | (with_reducible first | exact HB.out | apply below_alloc | apply pw_below_drewN | apply below_drew1 | refine below_set ?_ GE1175.out | refine below_set ?_ GE1176.out) | exact HB.out))) | (with_reducible refine Kd.C_alloc ?_ _) | (with_reducible refine Kd.C_drewN ?_ _) | (with_reducible refine Kd.C_drew ?_))); (case s2 => exact HC0_4.out); (case s3 => repeat (first | exact (Kd.C_below HR1_4.out (by repeat (first | (with_reducible first | exact HB.out | apply below_alloc | apply pw_below_drewN | apply below_drew1 | refine below_set ?_ GE1175.out | refine below_set ?_ GE1176.out) | exact HB.out))) | (with_reducible refine Kd.C_alloc ?_ _) | (with_reducible refine Kd.C_drewN ?_ _) | (with_reducible refine Kd.C_drew ?_))); (case s4 => exact HC1_4.out); rintro e w' ⟨rfl, ⟨nd, rfl⟩⟩))
   go_ret
   exact ⟨rr_, by repeat (first | (with_reducible first | exact HB.out | apply below_alloc | apply pw_below_drewN | apply below_drew1 | refine below_set ?_ GE1175.out | refine below_set ?_ GE1176.out) | exact HB.out)⟩
 · replace c4 := Bool.eq_false_iff.mpr c4
   subst c4
   rw [if_neg nf_] at H
   obtain rfl := si_ H
   go_enter Try.func94, Try.ntmps94
   go_wp2_with (first | ((with_reducible refine gd_ (N := 2) rfl ?_); refine bx_ (N := 2) (cs := #[.slice A0_0 l0_0.length c0_0, .bool a0_1, .string a0_2, .int .i64 a0_3, .slice A0_4 l0_4.length c0_4]) (t := 59) ?_; intro gb1175 hg w29 hbox hb; have BK1175 := A_ (hbox); have GW1175 := A_ (ge_ hg bB_ : w.heap.size ≤ gb1175); have GE1175 := A_ (ge_ hg bB_ : w.heap.size ≤ gb1175); replace HB := A_ (below_step bB_ hb); clear hb hbox hg) | ((with_reducible refine gd_ (N := 3) rfl ?_); refine bx_ (N := 3) (cs := #[.slice A1_0 l1_0.length c1_0, .bool a1_1, .string a1_2, .int .i64 a1_3, .slice A1_4 l1_4.length c1_4]) (t := 59) ?_; intro gb1176 hg w30 hbox hb; have BK1176 := A_ (hbox); have GW1176 := A_ (ge_ hg (bG_ GE1175.out) : w.heap.size ≤ gb1176); have GE1176 := A_ (ge_ hg (bG_ GE1175.out) : w.heap.size ≤ gb1176); replace HB := A_ (below_step (bG_ GE1175.out) hb); have NB1175_1176 := A_ (gm_ hg BK1175.out); have NB1176_1175 := A_ (gn_ hg BK1175.out); replace BK1175 := A_ (bw_ BK1175.out hb); clear hb hbox hg; have hnb31 := NB1175_1176.out; have hnc31 := NB1176_1175.out; obtain ⟨hcz32_0, hcz32_1, hcz32_2, hcz32_3, hcz32_4, hfz32_0, hfz32_1, hfz32_2, hfz32_3, hfz32_4⟩ := cz5_ BK1175.out; obtain ⟨hcz33_0, hcz33_1, hcz33_2, hcz33_3, hcz33_4, hfz33_0, hfz33_1, hfz33_2, hfz33_3, hfz33_4⟩ := cz5_ BK1176.out) | ((with_reducible refine gc_ (f := 61) rfl ?_); refine gL_ (some 9) Try.func61 #[.slice A0_0 l0_0.length c0_0, .slice A1_0 l1_0.length c1_0] ?_; (with_reducible refine (laws_sameTexts.calls k _ _ l0_0 _ _ l1_0 false _ ?s1 ?s2 ?s3 ?s4 A3.out).mono ?_); (case s1 => exact cC_ (Kd.C_below HR0_0.out HB.out)); (case s2 => exact HC0_0.out); (case s3 => exact cC_ (Kd.C_below HR1_0.out HB.out)); (case s4 => exact HC1_0.out); rintro e w' ⟨rfl, ⟨nd, rfl⟩⟩; refine ⟨_, rfl, ?_⟩))
   go_ret
   exact ⟨rr_, by repeat (first | (with_reducible first | exact HB.out | apply below_alloc | apply pw_below_drewN | apply below_drew1 | refine below_set ?_ GE1175.out | refine below_set ?_ GE1176.out) | exact HB.out)⟩
def laws_sameTree.l0 : Nat → List (S59) → List (S59) → Int → Option (Bool)
 | 0, _, _, _ => none
 | k + 1, x0, x1, x5 => if x5 < (x0.length : Int) then (if 0 ≤ x5 then (if x5 < (x1.length : Int) then ((laws_sameRes.f k ((rd_T59 x0 x5).f0) ((rd_T59 x0 x5).f1) ((rd_T59 x0 x5).f2) ((rd_T59 x0 x5).f3) ((rd_T59 x0 x5).f4) ((rd_T59 x1 x5).f0) ((rd_T59 x1 x5).f1) ((rd_T59 x1 x5).f2) ((rd_T59 x1 x5).f3) ((rd_T59 x1 x5).f4)).bind fun t1181 => (if t1181 = true then (laws_sameTree.l0 k x0 x1 (wrap64 (x5 + 1))) else (some false))) else (none)) else (none)) else (some true)
def laws_sameTree.f (k : Nat) (l0 : List (S59)) (l1 : List (S59)) : Option (Bool) := if (l0.length : Int) = (l1.length : Int) then (laws_sameTree.l0 k l0 l1 0) else (some false)
def laws_sameTree.T6 : Bool × List (List Nat × List Nat) := (true, [([], []), ([], []), ([0, 1], [0, 1]), ([2], [2]), ([], []), ([], []), ([4, 5], [4, 5]), ([6], [6]), ([3, 7], [3, 7]), ([8], [8])])
def laws_sameTree.B6 : List Nat := [0, 0, 3, 7, 0, 0, 48, 112, 255, 511]
theorem laws_sameTree.tab6 : rtab .any (opsOf Try.f60 6) = laws_sameTree.T6 := by kernel_rfl
theorem laws_sameTree.bits6 : waitsOk laws_sameTree.T6.2 laws_sameTree.B6 = true := by kernel_rfl
theorem laws_sameTree.calls (k : Nat) (A0 : Option Addr) (c0 : Nat) (l0 : List (S59)) (A1 : Option Addr) (c1 : Nat) (l1 : List (S59)) (r : Bool) (w : World) (hr0 : Kd.C k59 w A0 l0.length l0) (hc0 : l0.length ≤ c0) (hr1 : Kd.C k59 w A1 l1.length l1) (hc1 : l1.length ≤ c1) (h : laws_sameTree.f k l0 l1 = some r) :
 Calls Try.prog 60 #[.slice A0 l0.length c0, .slice A1 l1.length c1] w fun e w' => e = .returned (.bool r) ∧ Below w.heap.size w w' := by
 have hu59 := Try.underlying59
 have HR0 := A_ hr0
 have HC0 := A_ hc0
 clear hr0 hc0
 have HR1 := A_ hr1
 have HC1 := A_ hc1
 clear hr1 hc1
 have HB := A_ (Below.refl w.heap.size w)
 have H : (if (l0.length : Int) = (l1.length : Int) then (laws_sameTree.l0 k l0 l1 0) else (some false)) = some r := h
 clear h
 by_cases c3 : (l0.length : Int) = (l1.length : Int)
 rotate_left
 · rw [if_neg c3] at H
   have c3b0 : ((l0.length : Int) == (l1.length : Int)) = false := beq_eq_false_iff_ne.mpr c3
   have c3b1 : ((l0.length : Int) != (l1.length : Int)) = true := bne_iff_ne.mpr c3
   have c3b2 : (l0.length == l1.length) = false := by first | simpa using c3 | (simp at c3 ⊢; omega)
   obtain rfl := si_ H
   go_enter Try.func60, Try.ntmps60
   go_wp2
   go_ret
   exact ⟨rr_, bB_⟩
 rw [if_pos c3] at H
 have c3b0 : ((l0.length : Int) == (l1.length : Int)) = true := beq_iff_eq.mpr c3
 have c3b1 : ((l0.length : Int) != (l1.length : Int)) = false := bne_eq_false_iff_eq.mpr c3
 have c3b2 : (l0.length == l1.length) = true := by first | simpa using c3 | (simp at c3 ⊢; omega)
 clear c3
 have H' := A_ H
 clear H
 go_enter Try.func60, Try.ntmps60
 go_wp2
 go_loopg [5] k (fun kq v5 w' => ∃ (x5_1 : Int), v5 = .int .i64 x5_1 ∧ Aside0 (laws_sameTree.l0 kq l0 l1 x5_1 = some r) ∧ Aside0 (kq ≤ k) ∧ Aside0 (Below w.heap.size w w'))
 case atStart => exact ⟨(0), rs_, H', ⟨Nat.le_refl _⟩, ⟨bB_⟩⟩
 case round =>
  clear H'
  try clear c1
  try clear p2
  try clear c3
  try clear c3b0
  try clear c3b1
  try clear c3b2
  obtain ⟨x5_1, rfl, HA, HK1, HB⟩ := hrel
  cases gk with
  | zero => exact absurd HA.out (by simp [laws_sameTree.l0])
  | succ k1 =>
   have H := HA.out
   clear HA
   simp only [laws_sameTree.l0] at H
   by_cases c4 : x5_1 < (l0.length : Int)
   rotate_left
   · rw [if_neg c4] at H
     have c4b0 : decide (x5_1 < (l0.length : Int)) = false := decide_eq_false c4
     clear c4
     obtain rfl := si_ H
     go_wp2
     go_ret
     exact ⟨rr_, bB_⟩
   rw [if_pos c4] at H
   have c4b0 : decide (x5_1 < (l0.length : Int)) = true := decide_eq_true c4
   clear c4
   by_cases c5 : 0 ≤ x5_1
   rotate_left
   · exact absurd H (by rw [if_neg c5]; simp)
   rw [if_pos c5] at H
   have c5b0 : decide (0 ≤ x5_1) = true := decide_eq_true c5
   clear c5
   by_cases c6 : x5_1 < (l1.length : Int)
   rotate_left
   · exact absurd H (by rw [if_neg c6]; simp)
   rw [if_pos c6] at H
   have c6b0 : decide (x5_1 < (l1.length : Int)) = true := decide_eq_true c6
   clear c6
   obtain ⟨t1181, A7, H⟩ := bo_ H
   (try dsimp only at H)
   by_cases c8 : t1181 = true
   · subst c8
     rw [if_pos rfl] at H
     have H' := A_ H
     clear H
     try go_wp2
     replace HB := A_ (below_drew1 HB.out)
     have p1179 : 0 ≤ (x5_1 : Int) := od_
     have q1179 : x5_1 < (l0.length : Int) := od_
     obtain ⟨ad1179, A1179_0, c1179_0, A1179_4, c1179_4, e1179, hx1179_0, hx1179_1, hx1179_2, hx1179_3, hx1179_4, hl1179_0, hi1179_0, hl1179_4, hi1179_4⟩ := at_T59 HR0.out x5_1 p1179 q1179
     have hw1179_4 := hx1179_4
     have hw1179_3 := hx1179_3
     have hw1179_2 := hx1179_2
     have hw1179_1 := hx1179_1
     have hw1179_0 := hx1179_0
     cases e1179
     replace hx1179_0 := bc_ HB.out hx1179_0
     replace hx1179_1 := bc_ HB.out hx1179_1
     replace hx1179_2 := bc_ HB.out hx1179_2
     replace hx1179_3 := bc_ HB.out hx1179_3
     replace hx1179_4 := bc_ HB.out hx1179_4
     have HR1179_0 := A_ hi1179_0
     have HC1179_0 := A_ hl1179_0
     clear hi1179_0 hl1179_0
     have HR1179_4 := A_ hi1179_4
     have HC1179_4 := A_ hl1179_4
     clear hi1179_4 hl1179_4
     replace p1179 := eq_true p1179
     replace q1179 := eq_true q1179
     have p1180 : 0 ≤ (x5_1 : Int) := od_
     have q1180 : x5_1 < (l1.length : Int) := od_
     obtain ⟨ad1180, A1180_0, c1180_0, A1180_4, c1180_4, e1180, hx1180_0, hx1180_1, hx1180_2, hx1180_3, hx1180_4, hl1180_0, hi1180_0, hl1180_4, hi1180_4⟩ := at_T59 HR1.out x5_1 p1180 q1180
     have hw1180_4 := hx1180_4
     have hw1180_3 := hx1180_3
     have hw1180_2 := hx1180_2
     have hw1180_1 := hx1180_1
     have hw1180_0 := hx1180_0
     cases e1180
     replace hx1180_0 := bc_ HB.out hx1180_0
     replace hx1180_1 := bc_ HB.out hx1180_1
     replace hx1180_2 := bc_ HB.out hx1180_2
     replace hx1180_3 := bc_ HB.out hx1180_3
     replace hx1180_4 := bc_ HB.out hx1180_4
     have HR1180_0 := A_ hi1180_0
     have HC1180_0 := A_ hl1180_0
     clear hi1180_0 hl1180_0
     have HR1180_4 := A_ hi1180_4
     have HC1180_4 := A_ hl1180_4
     clear hi1180_4 hl1180_4
     replace p1180 := eq_true p1180
     replace q1180 := eq_true q1180
     refine start_ (n := 10) (S := fun w' => w'.cell? (ad1179.add ((x5_1).toNat * 5)) = some (.slice A1179_0 ((rd_T59 l0 x5_1).f0).length c1179_0) ∧ w'.cell? ⟨(ad1179.add ((x5_1).toNat * 5)).block, (ad1179.add ((x5_1).toNat * 5)).off + 1, none⟩ = some (.bool ((rd_T59 l0 x5_1).f1)) ∧ w'.cell? ⟨(ad1179.add ((x5_1).toNat * 5)).block, (ad1179.add ((x5_1).toNat * 5)).off + 2, none⟩ = some (.string ((rd_T59 l0 x5_1).f2)) ∧ w'.cell? ⟨(ad1179.add ((x5_1).toNat * 5)).block, (ad1179.add ((x5_1).toNat * 5)).off + 3, none⟩ = some (.int .i64 ((rd_T59 l0 x5_1).f3)) ∧ w'.cell? ⟨(ad1179.add ((x5_1).toNat * 5)).block, (ad1179.add ((x5_1).toNat * 5)).off + 4, none⟩ = some (.slice A1179_4 ((rd_T59 l0 x5_1).f4).length c1179_4) ∧ w'.cell? (ad1180.add ((x5_1).toNat * 5)) = some (.slice A1180_0 ((rd_T59 l1 x5_1).f0).length c1180_0) ∧ w'.cell? ⟨(ad1180.add ((x5_1).toNat * 5)).block, (ad1180.add ((x5_1).toNat * 5)).off + 1, none⟩ = some (.bool ((rd_T59 l1 x5_1).f1)) ∧ w'.cell? ⟨(ad1180.add ((x5_1).toNat * 5)).block, (ad1180.add ((x5_1).toNat * 5)).off + 2, none⟩ = some (.string ((rd_T59 l1 x5_1).f2)) ∧ w'.cell? ⟨(ad1180.add ((x5_1).toNat * 5)).block, (ad1180.add ((x5_1).toNat * 5)).off + 3, none⟩ = some (.int .i64 ((rd_T59 l1 x5_1).f3)) ∧ w'.cell? ⟨(ad1180.add ((x5_1).toNat * 5)).block, (ad1180.add ((x5_1).toNat * 5)).off + 4, none⟩ = some (.slice A1180_4 ((rd_T59 l1 x5_1).f4).length c1180_4)) (ds := []) #[false, false, false, false, false, false, false, false, false, false] (by kernel_rfl) rfl rfl ⟨(be_ hw1179_0), (be_ hw1179_1), (be_ hw1179_2), (be_ hw1179_3), (be_ hw1179_4), (be_ hw1180_0), (be_ hw1180_1), (be_ hw1180_2), (be_ hw1180_3), (be_ hw1180_4)⟩ (fun hHeld => ?_); refine with_tabW laws_sameTree.tab6 laws_sameTree.bits6 (fun HT_ HW_ => ?_)
     generalize wr.drew = w9 at HB HR1179_0 HR1179_4 HR1180_0 HR1180_4 hx1179_0 hx1179_1 hx1179_2 hx1179_3 hx1179_4 hx1180_0 hx1180_1 hx1180_2 hx1180_3 hx1180_4 hHeld ⊢
     refine pu_ (i := 0) (N := some 17) ?_
     refine pu_ (i := 1) (N := some 18) ?_
     refine pu_ (i := 2) (N := some 19) ?_
     refine pu_ (i := 4) (N := some 21) ?_
     refine pu_ (i := 5) (N := some 22) ?_
     refine pu_ (i := 6) (N := some 23) ?_
     refine tk_ (i := 3) (N := some 20) hHeld ?_
     refine tk_ (i := 7) (N := some 24) hHeld ?_
     refine on_ (i := 8) (N := some 25) (fun K hK => ?_)
     refine goes_ Try.func94 (by kernel_rfl) rfl #[.agg #[.slice A1179_0 ((rd_T59 l0 x5_1).f0).length c1179_0, .bool ((rd_T59 l0 x5_1).f1), .string ((rd_T59 l0 x5_1).f2), .int .i64 ((rd_T59 l0 x5_1).f3), .slice A1179_4 ((rd_T59 l0 x5_1).f4).length c1179_4], .agg #[.slice A1180_0 ((rd_T59 l1 x5_1).f0).length c1180_0, .bool ((rd_T59 l1 x5_1).f1), .string ((rd_T59 l1 x5_1).f2), .int .i64 ((rd_T59 l1 x5_1).f3), .slice A1180_4 ((rd_T59 l1 x5_1).f4).length c1180_4]] (by rfl) rfl rfl ml_ ?_
     with_reducible refine (laws_sameRes.calls k1 _ _ ((rd_T59 l0 x5_1).f0) ((rd_T59 l0 x5_1).f1) ((rd_T59 l0 x5_1).f2) ((rd_T59 l0 x5_1).f3) _ _ ((rd_T59 l0 x5_1).f4) _ _ ((rd_T59 l1 x5_1).f0) ((rd_T59 l1 x5_1).f1) ((rd_T59 l1 x5_1).f2) ((rd_T59 l1 x5_1).f3) _ _ ((rd_T59 l1 x5_1).f4) true _ ?s1 ?s2 ?s3 ?s4 ?s5 ?s6 ?s7 ?s8 A7.out).mono ?_
     (case s1 => exact cC_ (Kd.C_below HR1179_0.out HB.out))
     (case s2 => exact HC1179_0.out)
     (case s3 => exact cC_ (Kd.C_below HR1179_4.out HB.out))
     (case s4 => exact HC1179_4.out)
     (case s5 => exact cC_ (Kd.C_below HR1180_0.out HB.out))
     (case s6 => exact HC1180_0.out)
     (case s7 => exact cC_ (Kd.C_below HR1180_4.out HB.out))
     (case s8 => exact HC1180_4.out)
     rintro e w10 ⟨rfl, hb⟩
     refine ⟨_, rfl, ?_⟩
     replace HB := A_ (below_step bB_ hb)
     (try clear hb)
     (try clear hb2)
     (try clear hk)
     (try clear hi)
     refine hK.out _ _ ⟨(be_ hw1179_0), (be_ hw1179_1), (be_ hw1179_2), (be_ hw1179_3), (be_ hw1179_4), (be_ hw1180_0), (be_ hw1180_1), (be_ hw1180_2), (be_ hw1180_3), (be_ hw1180_4)⟩ (fun hHeld => ?_)
     clear hK K
     refine no_ (some 25) ?_
     refine pu_ (i := 9) (N := some 26) ?_
     refine done_ (done_of HT_.out (by kernel_rfl)) ?_
     (try clear hHeld)
     try go_wp2
     go_roundg k1
     case measure => have := HK1.out; omega
     case rel => exact ⟨(wrap64 (x5_1 + 1)), rs_, H', ⟨by have := HK1.out; omega⟩, ⟨bB_⟩⟩
   · replace c8 := Bool.eq_false_iff.mpr c8
     subst c8
     rw [if_neg nf_] at H
     obtain rfl := si_ H
     try go_wp2
     replace HB := A_ (below_drew1 HB.out)
     have p1179 : 0 ≤ (x5_1 : Int) := od_
     have q1179 : x5_1 < (l0.length : Int) := od_
     obtain ⟨ad1179, A1179_0, c1179_0, A1179_4, c1179_4, e1179, hx1179_0, hx1179_1, hx1179_2, hx1179_3, hx1179_4, hl1179_0, hi1179_0, hl1179_4, hi1179_4⟩ := at_T59 HR0.out x5_1 p1179 q1179
     have hw1179_4 := hx1179_4
     have hw1179_3 := hx1179_3
     have hw1179_2 := hx1179_2
     have hw1179_1 := hx1179_1
     have hw1179_0 := hx1179_0
     cases e1179
     replace hx1179_0 := bc_ HB.out hx1179_0
     replace hx1179_1 := bc_ HB.out hx1179_1
     replace hx1179_2 := bc_ HB.out hx1179_2
     replace hx1179_3 := bc_ HB.out hx1179_3
     replace hx1179_4 := bc_ HB.out hx1179_4
     have HR1179_0 := A_ hi1179_0
     have HC1179_0 := A_ hl1179_0
     clear hi1179_0 hl1179_0
     have HR1179_4 := A_ hi1179_4
     have HC1179_4 := A_ hl1179_4
     clear hi1179_4 hl1179_4
     replace p1179 := eq_true p1179
     replace q1179 := eq_true q1179
     have p1180 : 0 ≤ (x5_1 : Int) := od_
     have q1180 : x5_1 < (l1.length : Int) := od_
     obtain ⟨ad1180, A1180_0, c1180_0, A1180_4, c1180_4, e1180, hx1180_0, hx1180_1, hx1180_2, hx1180_3, hx1180_4, hl1180_0, hi1180_0, hl1180_4, hi1180_4⟩ := at_T59 HR1.out x5_1 p1180 q1180
     have hw1180_4 := hx1180_4
     have hw1180_3 := hx1180_3
     have hw1180_2 := hx1180_2
     have hw1180_1 := hx1180_1
     have hw1180_0 := hx1180_0
     cases e1180
     replace hx1180_0 := bc_ HB.out hx1180_0
     replace hx1180_1 := bc_ HB.out hx1180_1
     replace hx1180_2 := bc_ HB.out hx1180_2
     replace hx1180_3 := bc_ HB.out hx1180_3
     replace hx1180_4 := bc_ HB.out hx1180_4
     have HR1180_0 := A_ hi1180_0
     have HC1180_0 := A_ hl1180_0
     clear hi1180_0 hl1180_0
     have HR1180_4 := A_ hi1180_4
     have HC1180_4 := A_ hl1180_4
     clear hi1180_4 hl1180_4
     replace p1180 := eq_true p1180
     replace q1180 := eq_true q1180
     refine start_ (n := 10) (S := fun w' => w'.cell? (ad1179.add ((x5_1).toNat * 5)) = some (.slice A1179_0 ((rd_T59 l0 x5_1).f0).length c1179_0) ∧ w'.cell? ⟨(ad1179.add ((x5_1).toNat * 5)).block, (ad1179.add ((x5_1).toNat * 5)).off + 1, none⟩ = some (.bool ((rd_T59 l0 x5_1).f1)) ∧ w'.cell? ⟨(ad1179.add ((x5_1).toNat * 5)).block, (ad1179.add ((x5_1).toNat * 5)).off + 2, none⟩ = some (.string ((rd_T59 l0 x5_1).f2)) ∧ w'.cell? ⟨(ad1179.add ((x5_1).toNat * 5)).block, (ad1179.add ((x5_1).toNat * 5)).off + 3, none⟩ = some (.int .i64 ((rd_T59 l0 x5_1).f3)) ∧ w'.cell? ⟨(ad1179.add ((x5_1).toNat * 5)).block, (ad1179.add ((x5_1).toNat * 5)).off + 4, none⟩ = some (.slice A1179_4 ((rd_T59 l0 x5_1).f4).length c1179_4) ∧ w'.cell? (ad1180.add ((x5_1).toNat * 5)) = some (.slice A1180_0 ((rd_T59 l1 x5_1).f0).length c1180_0) ∧ w'.cell? ⟨(ad1180.add ((x5_1).toNat * 5)).block, (ad1180.add ((x5_1).toNat * 5)).off + 1, none⟩ = some (.bool ((rd_T59 l1 x5_1).f1)) ∧ w'.cell? ⟨(ad1180.add ((x5_1).toNat * 5)).block, (ad1180.add ((x5_1).toNat * 5)).off + 2, none⟩ = some (.string ((rd_T59 l1 x5_1).f2)) ∧ w'.cell? ⟨(ad1180.add ((x5_1).toNat * 5)).block, (ad1180.add ((x5_1).toNat * 5)).off + 3, none⟩ = some (.int .i64 ((rd_T59 l1 x5_1).f3)) ∧ w'.cell? ⟨(ad1180.add ((x5_1).toNat * 5)).block, (ad1180.add ((x5_1).toNat * 5)).off + 4, none⟩ = some (.slice A1180_4 ((rd_T59 l1 x5_1).f4).length c1180_4)) (ds := []) #[false, false, false, false, false, false, false, false, false, false] (by kernel_rfl) rfl rfl ⟨(be_ hw1179_0), (be_ hw1179_1), (be_ hw1179_2), (be_ hw1179_3), (be_ hw1179_4), (be_ hw1180_0), (be_ hw1180_1), (be_ hw1180_2), (be_ hw1180_3), (be_ hw1180_4)⟩ (fun hHeld => ?_); refine with_tabW laws_sameTree.tab6 laws_sameTree.bits6 (fun HT_ HW_ => ?_)
     generalize wr.drew = w11 at HB HR1179_0 HR1179_4 HR1180_0 HR1180_4 hx1179_0 hx1179_1 hx1179_2 hx1179_3 hx1179_4 hx1180_0 hx1180_1 hx1180_2 hx1180_3 hx1180_4 hHeld ⊢
     refine pu_ (i := 0) (N := some 17) ?_
     refine pu_ (i := 1) (N := some 18) ?_
     refine pu_ (i := 2) (N := some 19) ?_
     refine pu_ (i := 4) (N := some 21) ?_
     refine pu_ (i := 5) (N := some 22) ?_
     refine pu_ (i := 6) (N := some 23) ?_
     refine tk_ (i := 3) (N := some 20) hHeld ?_
     refine tk_ (i := 7) (N := some 24) hHeld ?_
     refine on_ (i := 8) (N := some 25) (fun K hK => ?_)
     refine goes_ Try.func94 (by kernel_rfl) rfl #[.agg #[.slice A1179_0 ((rd_T59 l0 x5_1).f0).length c1179_0, .bool ((rd_T59 l0 x5_1).f1), .string ((rd_T59 l0 x5_1).f2), .int .i64 ((rd_T59 l0 x5_1).f3), .slice A1179_4 ((rd_T59 l0 x5_1).f4).length c1179_4], .agg #[.slice A1180_0 ((rd_T59 l1 x5_1).f0).length c1180_0, .bool ((rd_T59 l1 x5_1).f1), .string ((rd_T59 l1 x5_1).f2), .int .i64 ((rd_T59 l1 x5_1).f3), .slice A1180_4 ((rd_T59 l1 x5_1).f4).length c1180_4]] (by rfl) rfl rfl ml_ ?_
     with_reducible refine (laws_sameRes.calls k1 _ _ ((rd_T59 l0 x5_1).f0) ((rd_T59 l0 x5_1).f1) ((rd_T59 l0 x5_1).f2) ((rd_T59 l0 x5_1).f3) _ _ ((rd_T59 l0 x5_1).f4) _ _ ((rd_T59 l1 x5_1).f0) ((rd_T59 l1 x5_1).f1) ((rd_T59 l1 x5_1).f2) ((rd_T59 l1 x5_1).f3) _ _ ((rd_T59 l1 x5_1).f4) false _ ?s1 ?s2 ?s3 ?s4 ?s5 ?s6 ?s7 ?s8 A7.out).mono ?_
     (case s1 => exact cC_ (Kd.C_below HR1179_0.out HB.out))
     (case s2 => exact HC1179_0.out)
     (case s3 => exact cC_ (Kd.C_below HR1179_4.out HB.out))
     (case s4 => exact HC1179_4.out)
     (case s5 => exact cC_ (Kd.C_below HR1180_0.out HB.out))
     (case s6 => exact HC1180_0.out)
     (case s7 => exact cC_ (Kd.C_below HR1180_4.out HB.out))
     (case s8 => exact HC1180_4.out)
     rintro e w12 ⟨rfl, hb⟩
     refine ⟨_, rfl, ?_⟩
     replace HB := A_ (below_step bB_ hb)
     (try clear hb)
     (try clear hb2)
     (try clear hk)
     (try clear hi)
     refine hK.out _ _ ⟨(be_ hw1179_0), (be_ hw1179_1), (be_ hw1179_2), (be_ hw1179_3), (be_ hw1179_4), (be_ hw1180_0), (be_ hw1180_1), (be_ hw1180_2), (be_ hw1180_3), (be_ hw1180_4)⟩ (fun hHeld => ?_)
     clear hK K
     refine no_ (some 25) ?_
     refine pu_ (i := 9) (N := some 26) ?_
     refine done_ (done_of HT_.out (by kernel_rfl)) ?_
     (try clear hHeld)
     try go_wp2
     go_ret
     exact ⟨rr_, bB_⟩
end Go.Proofs.Yteabkidfgdmmpaa.Q
