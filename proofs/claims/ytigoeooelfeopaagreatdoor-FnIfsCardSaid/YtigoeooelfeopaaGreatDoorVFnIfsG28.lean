-- PRINTED by print.py (a twelfth state) out of the translation. Not trusted: Lean checks it.
import Derived.Test.YtigoeooelfeopaaGreatDoorVFnIfsG27
set_option maxHeartbeats 8000000
set_option maxRecDepth 100000
namespace Go.Proofs.YtigoeooelfeopaaGreatDoor.Q
open Go.RowKit Go.Proofs.YtigoeooelfeopaaGreatDoorW.PrintWords Go.Proofs.YtigoeooelfeopaaGreatDoorW.PrintLast Go.Proofs.YtigoeooelfeopaaGreatDoorW.PrintMore
attribute [local go_sem] max2_int min2_int max_two min_two max_three min_three max_four min_four   -- for this text's walks alone
set_option linter.unusedVariables false
set_option linter.unusedSimpArgs false
attribute [local go_sem high] eqA43
theorem bIQx110_ {P : Prop} (h : P := by repeat (first | (with_reducible first | exact HB.out | apply below_alloc | apply pw_below_drewN | apply below_drew1) | exact HB.out)) : P := h
theorem bIQx111_ {P : Prop} (h : P := by repeat (first | (with_reducible first | exact HI0.out | apply IsS60.alloc | apply IsS60.drewN | apply IsS60.drew | apply IsS60.set_1 | apply IsS60.set_2) | exact HI0.out)) : P := h
theorem bIQx112_ {P : Prop} (h : P := by repeat (first | (with_reducible first | exact HB.out | apply below_alloc | apply pw_below_drewN | apply below_drew1 | refine below_set ?_ (IsS60.ge HI0.out)) | exact HB.out)) : P := h
def spec_DrawParseIf.f (k : Nat) (l0 : List Int) : Option (ByteArray) := (spec_l1New.f k l0).bind fun bt410 => ((spec_l14Draw.f k bt410.1 bt410.2.1 bt410.2.2).bind fun bt414 => ((spec_IfText.f k bt414.1).bind fun t419 => ((spec_l1Below.f bt410.1 bt414.2.1 bt414.2.2 4).bind fun bt420 => (if bt420.1 = 0 then ((spec_l1Str.f bt410.1 bt420.2.1 bt420.2.2 (([(⟨#[]⟩ : ByteArray), (⟨#[40, 41]⟩ : ByteArray), (⟨#[40, 60, 49, 62, 41, 40, 60, 50, 62, 41]⟩ : ByteArray), (⟨#[40, 60, 49, 62, 41, 32, 32, 40, 60, 50, 62, 41]⟩ : ByteArray), (⟨#[40, 60, 48, 62, 41]⟩ : ByteArray), (⟨#[40, 60, 49, 48, 48, 48, 48, 62, 41]⟩ : ByteArray), (⟨#[40, 78, 111, 116, 32, 60, 49, 62, 41]⟩ : ByteArray), (⟨#[40, 110, 111, 116, 32, 60, 49, 62, 41]⟩ : ByteArray), (⟨#[40, 91, 118, 49, 93, 41]⟩ : ByteArray), (⟨#[40, 91, 34, 34, 93, 41]⟩ : ByteArray), (⟨#[40, 91, 34, 118, 49, 34, 93, 32, 60, 50, 62, 41]⟩ : ByteArray), (⟨#[40, 60, 49, 62, 32, 60, 50, 62, 32, 60, 51, 62, 32, 60, 52, 62, 32, 60, 53, 62, 41]⟩ : ByteArray), (⟨#[40, 60, 49, 62, 41, 32]⟩ : ByteArray), (⟨#[40, 60, 49, 62]⟩ : ByteArray), (⟨#[60, 49, 62]⟩ : ByteArray), (⟨#[40, 78, 111, 116, 32, 78, 111, 116, 32, 60, 49, 62, 41]⟩ : ByteArray), (⟨#[40, 60, 49, 62, 32, 32, 60, 50, 62, 41]⟩ : ByteArray), (⟨#[40, 60, 48, 49, 62, 41]⟩ : ByteArray)] : List ByteArray))).bind fun bt426 => (some bt426.1)) else (if bt420.1 = 1 then ((spec_l1Below.f bt410.1 bt420.2.1 bt420.2.2 (wrap64 ((t419.size : Int) + 1))).bind fun bt429 => (if 0 ≤ bt429.1 then (if bt429.1 ≤ (t419.size : Int) then ((spec_l1Str.f bt410.1 bt429.2.1 bt429.2.2 (([(⟨#[32]⟩ : ByteArray), (⟨#[40]⟩ : ByteArray), (⟨#[41]⟩ : ByteArray), (⟨#[60]⟩ : ByteArray), (⟨#[120]⟩ : ByteArray)] : List ByteArray))).bind fun bt435 => (if (t419.extract 0 (bt429.1 : Int).toNat).size + bt435.1.size ≤ 9223372036854775807 then (if ((t419.extract 0 (bt429.1 : Int).toNat) ++ bt435.1).size + (t419.extract (bt429.1 : Int).toNat t419.size).size ≤ 9223372036854775807 then (some (((t419.extract 0 (bt429.1 : Int).toNat) ++ bt435.1) ++ (t419.extract (bt429.1 : Int).toNat t419.size))) else (none)) else (none))) else (none)) else (none))) else (some t419))))))
def spec_DrawParseIf.T8 : Bool × List (List Nat × List Nat) := (true, [([], []), ([], []), ([0, 1], [0, 1]), ([], []), ([], []), ([3, 4], [3, 4]), ([2, 5], [2, 5]), ([], []), ([], []), ([7, 8], [7, 8]), ([6, 9], [6, 9]), ([10, 5, 0, 1, 2, 3, 4, 5, 6, 7, 8, 9, 10], [10])])
def spec_DrawParseIf.B8 : List Nat := [0, 0, 3, 0, 0, 24, 63, 0, 0, 384, 1023, 2047]
theorem spec_DrawParseIf.tab8 : rtab .any (opsOf Tryz.f7 8) = spec_DrawParseIf.T8 := by kernel_rfl
theorem spec_DrawParseIf.bits8 : waitsOk spec_DrawParseIf.T8.2 spec_DrawParseIf.B8 = true := by kernel_rfl
theorem spec_DrawParseIf.calls (k : Nat) (A0 : Option Addr) (c0 : Nat) (l0 : List Int) (r : ByteArray) (w : World) (hr0 : Kd.C (Kd.int .u8) w A0 l0.length l0) (hc0 : l0.length ≤ c0) (h : spec_DrawParseIf.f k l0 = some r) :
 Calls Tryz.prog 7 #[.slice A0 l0.length c0] w fun e w' => e = .returned (.string r) ∧ Below w.heap.size w w' := by
 have HR0 := A_ hr0
 have HC0 := A_ hc0
 clear hr0 hc0
 have HB := A_ (Below.refl w.heap.size w)
 have H : ((spec_l1New.f k l0).bind fun bt410 => ((spec_l14Draw.f k bt410.1 bt410.2.1 bt410.2.2).bind fun bt414 => ((spec_IfText.f k bt414.1).bind fun t419 => ((spec_l1Below.f bt410.1 bt414.2.1 bt414.2.2 4).bind fun bt420 => (if bt420.1 = 0 then ((spec_l1Str.f bt410.1 bt420.2.1 bt420.2.2 (([(⟨#[]⟩ : ByteArray), (⟨#[40, 41]⟩ : ByteArray), (⟨#[40, 60, 49, 62, 41, 40, 60, 50, 62, 41]⟩ : ByteArray), (⟨#[40, 60, 49, 62, 41, 32, 32, 40, 60, 50, 62, 41]⟩ : ByteArray), (⟨#[40, 60, 48, 62, 41]⟩ : ByteArray), (⟨#[40, 60, 49, 48, 48, 48, 48, 62, 41]⟩ : ByteArray), (⟨#[40, 78, 111, 116, 32, 60, 49, 62, 41]⟩ : ByteArray), (⟨#[40, 110, 111, 116, 32, 60, 49, 62, 41]⟩ : ByteArray), (⟨#[40, 91, 118, 49, 93, 41]⟩ : ByteArray), (⟨#[40, 91, 34, 34, 93, 41]⟩ : ByteArray), (⟨#[40, 91, 34, 118, 49, 34, 93, 32, 60, 50, 62, 41]⟩ : ByteArray), (⟨#[40, 60, 49, 62, 32, 60, 50, 62, 32, 60, 51, 62, 32, 60, 52, 62, 32, 60, 53, 62, 41]⟩ : ByteArray), (⟨#[40, 60, 49, 62, 41, 32]⟩ : ByteArray), (⟨#[40, 60, 49, 62]⟩ : ByteArray), (⟨#[60, 49, 62]⟩ : ByteArray), (⟨#[40, 78, 111, 116, 32, 78, 111, 116, 32, 60, 49, 62, 41]⟩ : ByteArray), (⟨#[40, 60, 49, 62, 32, 32, 60, 50, 62, 41]⟩ : ByteArray), (⟨#[40, 60, 48, 49, 62, 41]⟩ : ByteArray)] : List ByteArray))).bind fun bt426 => (some bt426.1)) else (if bt420.1 = 1 then ((spec_l1Below.f bt410.1 bt420.2.1 bt420.2.2 (wrap64 ((t419.size : Int) + 1))).bind fun bt429 => (if 0 ≤ bt429.1 then (if bt429.1 ≤ (t419.size : Int) then ((spec_l1Str.f bt410.1 bt429.2.1 bt429.2.2 (([(⟨#[32]⟩ : ByteArray), (⟨#[40]⟩ : ByteArray), (⟨#[41]⟩ : ByteArray), (⟨#[60]⟩ : ByteArray), (⟨#[120]⟩ : ByteArray)] : List ByteArray))).bind fun bt435 => (if (t419.extract 0 (bt429.1 : Int).toNat).size + bt435.1.size ≤ 9223372036854775807 then (if ((t419.extract 0 (bt429.1 : Int).toNat) ++ bt435.1).size + (t419.extract (bt429.1 : Int).toNat t419.size).size ≤ 9223372036854775807 then (some (((t419.extract 0 (bt429.1 : Int).toNat) ++ bt435.1) ++ (t419.extract (bt429.1 : Int).toNat t419.size))) else (none)) else (none))) else (none)) else (none))) else (some t419))))))) = some r := h
 clear h
 obtain ⟨⟨t410, t411, t412⟩, A2, H⟩ := bo_ H
 (try dsimp only at H)
 obtain ⟨⟨t414, t417, t418⟩, A3, H⟩ := bo_ H
 (try dsimp only at H)
 obtain ⟨t419, A4, H⟩ := bo_ H
 (try dsimp only at H)
 obtain ⟨⟨t420, t421, t422⟩, A5, H⟩ := bo_ H
 (try dsimp only at H)
 by_cases c6 : t420 = 0
 · rw [if_pos c6] at H
   have c6b0 : (t420 == 0) = true := beq_iff_eq.mpr c6
   have c6b1 : (t420 != 0) = false := bne_eq_false_iff_eq.mpr c6
   clear c6
   obtain ⟨y423, hy423⟩ : ∃ y_ : List ByteArray, y_ = (([(⟨#[]⟩ : ByteArray), (⟨#[40, 41]⟩ : ByteArray), (⟨#[40, 60, 49, 62, 41, 40, 60, 50, 62, 41]⟩ : ByteArray), (⟨#[40, 60, 49, 62, 41, 32, 32, 40, 60, 50, 62, 41]⟩ : ByteArray), (⟨#[40, 60, 48, 62, 41]⟩ : ByteArray), (⟨#[40, 60, 49, 48, 48, 48, 48, 62, 41]⟩ : ByteArray), (⟨#[40, 78, 111, 116, 32, 60, 49, 62, 41]⟩ : ByteArray), (⟨#[40, 110, 111, 116, 32, 60, 49, 62, 41]⟩ : ByteArray), (⟨#[40, 91, 118, 49, 93, 41]⟩ : ByteArray), (⟨#[40, 91, 34, 34, 93, 41]⟩ : ByteArray), (⟨#[40, 91, 34, 118, 49, 34, 93, 32, 60, 50, 62, 41]⟩ : ByteArray), (⟨#[40, 60, 49, 62, 32, 60, 50, 62, 32, 60, 51, 62, 32, 60, 52, 62, 32, 60, 53, 62, 41]⟩ : ByteArray), (⟨#[40, 60, 49, 62, 41, 32]⟩ : ByteArray), (⟨#[40, 60, 49, 62]⟩ : ByteArray), (⟨#[60, 49, 62]⟩ : ByteArray), (⟨#[40, 78, 111, 116, 32, 78, 111, 116, 32, 60, 49, 62, 41]⟩ : ByteArray), (⟨#[40, 60, 49, 62, 32, 32, 60, 50, 62, 41]⟩ : ByteArray), (⟨#[40, 60, 48, 49, 62, 41]⟩ : ByteArray)] : List ByteArray)) := ⟨_, rfl⟩
   replace H : ((spec_l1Str.f t410 t421 t422 y423).bind fun bt426 => (some bt426.1)) = some r := hy_ hy423 H
   have Ny423 := A_ hy423
   clear hy423
   obtain ⟨⟨t426, t427, t428⟩, A7, H⟩ := bo_ H
   (try dsimp only at H)
   obtain rfl := si_ H
   go_enter Tryz.func7, Tryz.ntmps7
   go_wp2_with (first | ((with_reducible refine gc_ (f := 19) rfl ?_); refine gL_ (some 7) Tryz.func19 #[.slice A0 l0.length c0] ?_; (with_reducible refine (spec_l1New.calls k _ _ l0 t410 t411 t412 w _ ?s1 ?s2 ?s3 A2.out).mono ?_); (case s1 => exact bIQx110_); (case s2 => exact HR0.out); (case s3 => exact HC0.out); rintro e w8 ⟨g413, rfl, hi, hb, hb2⟩; refine ⟨_, rfl, ?_⟩; replace HB := A_ (hb); have HI413 := A_ (hi); (try clear hb); (try clear hb2); (try clear hk); (try clear hi)) | ((with_reducible refine gc_ (f := 24) rfl ?_); refine gL_ (some 9) Tryz.func24 #[.pointer (some ⟨g413, 0, none⟩)] ?_; (with_reducible refine (spec_l14Draw.calls k g413 t410 t411 t412 t414 t417 t418 w _ ?s1 ?s2 A3.out).mono ?_); (case s1 => repeat (first | (with_reducible first | exact HI413.out | apply IsS60.alloc | apply IsS60.drewN | apply IsS60.drew | apply IsS60.set_1 | apply IsS60.set_2) | exact HI413.out)); (case s2 => repeat (first | (with_reducible first | exact HB.out | apply below_alloc | apply pw_below_drewN | apply below_drew1 | refine below_set ?_ (IsS60.ge HI413.out)) | exact HB.out)); rintro e w9 ⟨v415, rfl, ho0, hi, hb, hk⟩; refine ⟨_, rfl, ?_⟩; have HO416 := A_ (Kd.S_lower ho0 (below_size (by repeat (first | (with_reducible first | exact HB.out | apply below_alloc | apply pw_below_drewN | apply below_drew1 | refine below_set ?_ (IsS60.ge HI413.out)) | exact HB.out)))); replace HB := A_ (hb); replace HI413 := A_ (hi); (try clear hb); (try clear hb2); (try clear hk); (try clear hi); (try clear ho0); obtain ⟨Ao10, co10, eo10⟩ := Kd.S_slice HO416.out; subst eo10) | ((with_reducible refine gc_ (f := 13) rfl ?_); refine gL_ (some 10) Tryz.func13 #[.slice Ao10 t414.length co10] ?_; (with_reducible refine (spec_IfText.calls k _ _ t414 t419 _ ?s1 ?s2 A4.out).mono ?_); (case s1 => exact cC_ (Kd.S_reads' HO416.out).2.2); (case s2 => exact (Kd.S_reads' HO416.out).2.1); rintro e w11 ⟨rfl, hb⟩; refine ⟨_, rfl, ?_⟩; replace HO416 := A_ (Kd.S_below (vS_ HO416.out) hb); replace HB := A_ (below_step (by repeat (first | (with_reducible first | exact HB.out | apply below_alloc | apply pw_below_drewN | apply below_drew1 | refine below_set ?_ (IsS60.ge HI413.out)) | exact HB.out)) hb); replace HI413 := A_ (IsS60.below (by repeat (first | (with_reducible first | exact HI413.out | apply IsS60.alloc | apply IsS60.drewN | apply IsS60.drew | apply IsS60.set_1 | apply IsS60.set_2) | exact HI413.out)) hb); (try clear hb); (try clear hb2); (try clear hk); (try clear hi)) | ((with_reducible refine gc_ (f := 25) rfl ?_); refine gL_ (some 12) Tryz.func25 #[.pointer (some ⟨g413, 0, none⟩), .int .i64 4] ?_; (with_reducible refine (spec_l1Below.calls g413 t410 t417 t418 4 t420 t421 t422 w _ ?s1 ?s2 A5.out).mono ?_); (case s1 => repeat (first | (with_reducible first | exact HI413.out | apply IsS60.alloc | apply IsS60.drewN | apply IsS60.drew | apply IsS60.set_1 | apply IsS60.set_2) | exact HI413.out)); (case s2 => repeat (first | (with_reducible first | exact HB.out | apply below_alloc | apply pw_below_drewN | apply below_drew1 | refine below_set ?_ (IsS60.ge HI413.out)) | exact HB.out)); rintro e w12 ⟨rfl, hi, hb, hk⟩; refine ⟨_, rfl, ?_⟩; replace HO416 := A_ (Kd.S_mono (Kd.S_keep (IsS60.apartS (show IsS60 w _ g413 t410 t417 t418 from by repeat (first | (with_reducible first | exact HI413.out | apply IsS60.alloc | apply IsS60.drewN | apply IsS60.drew | apply IsS60.set_1 | apply IsS60.set_2) | exact HI413.out)) (vS_ HO416.out) (by decide)) hk (fun _ h => h.2)) (fun _ h => h.1)); replace HB := A_ (hb); replace HI413 := A_ (hi); (try clear hb); (try clear hb2); (try clear hk); (try clear hi)) | ((with_reducible refine gd_ (N := 16) rfl ?_); refine Kd.R_lit Kd.string _ 9 ?hg (N := 16) ?hd (xs := ([(⟨#[]⟩ : ByteArray), (⟨#[40, 41]⟩ : ByteArray), (⟨#[40, 60, 49, 62, 41, 40, 60, 50, 62, 41]⟩ : ByteArray), (⟨#[40, 60, 49, 62, 41, 32, 32, 40, 60, 50, 62, 41]⟩ : ByteArray), (⟨#[40, 60, 48, 62, 41]⟩ : ByteArray), (⟨#[40, 60, 49, 48, 48, 48, 48, 62, 41]⟩ : ByteArray), (⟨#[40, 78, 111, 116, 32, 60, 49, 62, 41]⟩ : ByteArray), (⟨#[40, 110, 111, 116, 32, 60, 49, 62, 41]⟩ : ByteArray), (⟨#[40, 91, 118, 49, 93, 41]⟩ : ByteArray), (⟨#[40, 91, 34, 34, 93, 41]⟩ : ByteArray), (⟨#[40, 91, 34, 118, 49, 34, 93, 32, 60, 50, 62, 41]⟩ : ByteArray), (⟨#[40, 60, 49, 62, 32, 60, 50, 62, 32, 60, 51, 62, 32, 60, 52, 62, 32, 60, 53, 62, 41]⟩ : ByteArray), (⟨#[40, 60, 49, 62, 41, 32]⟩ : ByteArray), (⟨#[40, 60, 49, 62]⟩ : ByteArray), (⟨#[60, 49, 62]⟩ : ByteArray), (⟨#[40, 78, 111, 116, 32, 78, 111, 116, 32, 60, 49, 62, 41]⟩ : ByteArray), (⟨#[40, 60, 49, 62, 32, 32, 60, 50, 62, 41]⟩ : ByteArray), (⟨#[40, 60, 48, 49, 62, 41]⟩ : ByteArray)] : List ByteArray)) (inner := [.string (⟨#[]⟩ : ByteArray), .string (⟨#[40, 41]⟩ : ByteArray), .string (⟨#[40, 60, 49, 62, 41, 40, 60, 50, 62, 41]⟩ : ByteArray), .string (⟨#[40, 60, 49, 62, 41, 32, 32, 40, 60, 50, 62, 41]⟩ : ByteArray), .string (⟨#[40, 60, 48, 62, 41]⟩ : ByteArray), .string (⟨#[40, 60, 49, 48, 48, 48, 48, 62, 41]⟩ : ByteArray), .string (⟨#[40, 78, 111, 116, 32, 60, 49, 62, 41]⟩ : ByteArray), .string (⟨#[40, 110, 111, 116, 32, 60, 49, 62, 41]⟩ : ByteArray), .string (⟨#[40, 91, 118, 49, 93, 41]⟩ : ByteArray), .string (⟨#[40, 91, 34, 34, 93, 41]⟩ : ByteArray), .string (⟨#[40, 91, 34, 118, 49, 34, 93, 32, 60, 50, 62, 41]⟩ : ByteArray), .string (⟨#[40, 60, 49, 62, 32, 60, 50, 62, 32, 60, 51, 62, 32, 60, 52, 62, 32, 60, 53, 62, 41]⟩ : ByteArray), .string (⟨#[40, 60, 49, 62, 41, 32]⟩ : ByteArray), .string (⟨#[40, 60, 49, 62]⟩ : ByteArray), .string (⟨#[60, 49, 62]⟩ : ByteArray), .string (⟨#[40, 78, 111, 116, 32, 78, 111, 116, 32, 60, 49, 62, 41]⟩ : ByteArray), .string (⟨#[40, 60, 49, 62, 32, 32, 60, 50, 62, 41]⟩ : ByteArray), .string (⟨#[40, 60, 48, 49, 62, 41]⟩ : ByteArray)]) (ok := fun _ => True) (okp := fun _ => True) ?hr ?hp (fun _ hk => hk) trivial (Below.refl _ _) (Nat.le_refl _) (by simp) ?_; (case hd => rfl); (case hg => rfl); (case hr => first | (go_simp; done) | (go_simp; rfl)); (case hp => exact (Reps.one (show Kd.M Kd.string _ _ _ (⟨#[]⟩ : ByteArray) [.string (⟨#[]⟩ : ByteArray)] from rfl) (Reps.one (show Kd.M Kd.string _ _ _ (⟨#[40, 41]⟩ : ByteArray) [.string (⟨#[40, 41]⟩ : ByteArray)] from rfl) (Reps.one (show Kd.M Kd.string _ _ _ (⟨#[40, 60, 49, 62, 41, 40, 60, 50, 62, 41]⟩ : ByteArray) [.string (⟨#[40, 60, 49, 62, 41, 40, 60, 50, 62, 41]⟩ : ByteArray)] from rfl) (Reps.one (show Kd.M Kd.string _ _ _ (⟨#[40, 60, 49, 62, 41, 32, 32, 40, 60, 50, 62, 41]⟩ : ByteArray) [.string (⟨#[40, 60, 49, 62, 41, 32, 32, 40, 60, 50, 62, 41]⟩ : ByteArray)] from rfl) (Reps.one (show Kd.M Kd.string _ _ _ (⟨#[40, 60, 48, 62, 41]⟩ : ByteArray) [.string (⟨#[40, 60, 48, 62, 41]⟩ : ByteArray)] from rfl) (Reps.one (show Kd.M Kd.string _ _ _ (⟨#[40, 60, 49, 48, 48, 48, 48, 62, 41]⟩ : ByteArray) [.string (⟨#[40, 60, 49, 48, 48, 48, 48, 62, 41]⟩ : ByteArray)] from rfl) (Reps.one (show Kd.M Kd.string _ _ _ (⟨#[40, 78, 111, 116, 32, 60, 49, 62, 41]⟩ : ByteArray) [.string (⟨#[40, 78, 111, 116, 32, 60, 49, 62, 41]⟩ : ByteArray)] from rfl) (Reps.one (show Kd.M Kd.string _ _ _ (⟨#[40, 110, 111, 116, 32, 60, 49, 62, 41]⟩ : ByteArray) [.string (⟨#[40, 110, 111, 116, 32, 60, 49, 62, 41]⟩ : ByteArray)] from rfl) (Reps.one (show Kd.M Kd.string _ _ _ (⟨#[40, 91, 118, 49, 93, 41]⟩ : ByteArray) [.string (⟨#[40, 91, 118, 49, 93, 41]⟩ : ByteArray)] from rfl) (Reps.one (show Kd.M Kd.string _ _ _ (⟨#[40, 91, 34, 34, 93, 41]⟩ : ByteArray) [.string (⟨#[40, 91, 34, 34, 93, 41]⟩ : ByteArray)] from rfl) (Reps.one (show Kd.M Kd.string _ _ _ (⟨#[40, 91, 34, 118, 49, 34, 93, 32, 60, 50, 62, 41]⟩ : ByteArray) [.string (⟨#[40, 91, 34, 118, 49, 34, 93, 32, 60, 50, 62, 41]⟩ : ByteArray)] from rfl) (Reps.one (show Kd.M Kd.string _ _ _ (⟨#[40, 60, 49, 62, 32, 60, 50, 62, 32, 60, 51, 62, 32, 60, 52, 62, 32, 60, 53, 62, 41]⟩ : ByteArray) [.string (⟨#[40, 60, 49, 62, 32, 60, 50, 62, 32, 60, 51, 62, 32, 60, 52, 62, 32, 60, 53, 62, 41]⟩ : ByteArray)] from rfl) (Reps.one (show Kd.M Kd.string _ _ _ (⟨#[40, 60, 49, 62, 41, 32]⟩ : ByteArray) [.string (⟨#[40, 60, 49, 62, 41, 32]⟩ : ByteArray)] from rfl) (Reps.one (show Kd.M Kd.string _ _ _ (⟨#[40, 60, 49, 62]⟩ : ByteArray) [.string (⟨#[40, 60, 49, 62]⟩ : ByteArray)] from rfl) (Reps.one (show Kd.M Kd.string _ _ _ (⟨#[60, 49, 62]⟩ : ByteArray) [.string (⟨#[60, 49, 62]⟩ : ByteArray)] from rfl) (Reps.one (show Kd.M Kd.string _ _ _ (⟨#[40, 78, 111, 116, 32, 78, 111, 116, 32, 60, 49, 62, 41]⟩ : ByteArray) [.string (⟨#[40, 78, 111, 116, 32, 78, 111, 116, 32, 60, 49, 62, 41]⟩ : ByteArray)] from rfl) (Reps.one (show Kd.M Kd.string _ _ _ (⟨#[40, 60, 49, 62, 32, 32, 60, 50, 62, 41]⟩ : ByteArray) [.string (⟨#[40, 60, 49, 62, 32, 32, 60, 50, 62, 41]⟩ : ByteArray)] from rfl) (Reps.one (show Kd.M Kd.string _ _ _ (⟨#[40, 60, 48, 49, 62, 41]⟩ : ByteArray) [.string (⟨#[40, 60, 48, 49, 62, 41]⟩ : ByteArray)] from rfl) (Reps.none _ _)))))))))))))))))))); intro v424 w13 ho14 hb hg_ hnew_; clear hg_ hnew_; (first | rw [← Ny423.out] at ho14 | (simp only [Int.reduceToNat] at ho14; rw [← Ny423.out] at ho14)); replace HO416 := A_ (Kd.S_below (vS_ HO416.out) hb); have HO425 := A_ (Kd.R_lower ho14 (below_size (by repeat (first | (with_reducible first | exact HB.out | apply below_alloc | apply pw_below_drewN | apply below_drew1 | refine below_set ?_ (IsS60.ge HI413.out)) | exact HB.out)))); replace HB := A_ (below_step (by repeat (first | (with_reducible first | exact HB.out | apply below_alloc | apply pw_below_drewN | apply below_drew1 | refine below_set ?_ (IsS60.ge HI413.out)) | exact HB.out)) hb); replace HI413 := A_ (IsS60.below (by repeat (first | (with_reducible first | exact HI413.out | apply IsS60.alloc | apply IsS60.drewN | apply IsS60.drew | apply IsS60.set_1 | apply IsS60.set_2) | exact HI413.out)) hb); clear hb ho14; obtain ⟨Ao15, co15, eo15⟩ := Kd.R_slice HO425.out; subst eo15) | ((with_reducible refine gc_ (f := 26) rfl ?_); refine gL_ (some 17) Tryz.func26 #[.pointer (some ⟨g413, 0, none⟩), .slice Ao15 y423.length co15] ?_; (with_reducible refine (spec_l1Str.calls g413 t410 t421 t422 _ _ y423 t426 t427 t428 w _ ?s1 ?s2 ?s3 ?s4 ?s5 A7.out).mono ?_); (case s1 => repeat (first | (with_reducible first | exact HI413.out | apply IsS60.alloc | apply IsS60.drewN | apply IsS60.drew | apply IsS60.set_1 | apply IsS60.set_2) | exact HI413.out)); (case s2 => repeat (first | (with_reducible first | exact HB.out | apply below_alloc | apply pw_below_drewN | apply below_drew1 | refine below_set ?_ (IsS60.ge HI413.out)) | exact HB.out)); (case s3 => exact cC_ (Kd.R_reads' HO425.out).2.2); (case s4 => exact (Kd.R_reads' HO425.out).2.1); (case s5 => exact far_slice (IsS60.own_ne HI413.out HO425.out (by decide))); rintro e w16 ⟨rfl, hi, hb, hk⟩; refine ⟨_, rfl, ?_⟩; replace HO416 := A_ (Kd.S_mono (Kd.S_keep (IsS60.apartS (show IsS60 w _ g413 t410 t421 t422 from by repeat (first | (with_reducible first | exact HI413.out | apply IsS60.alloc | apply IsS60.drewN | apply IsS60.drew | apply IsS60.set_1 | apply IsS60.set_2) | exact HI413.out)) (vS_ HO416.out) (by decide)) hk (fun _ h => h.2)) (fun _ h => h.1)); replace HO425 := A_ (Kd.R_mono (Kd.R_keep (IsS60.apart (show IsS60 w _ g413 t410 t421 t422 from by repeat (first | (with_reducible first | exact HI413.out | apply IsS60.alloc | apply IsS60.drewN | apply IsS60.drew | apply IsS60.set_1 | apply IsS60.set_2) | exact HI413.out)) (vR_ HO425.out) (by decide)) hk (fun _ h => h.2)) (fun _ h => h.1)); replace HB := A_ (hb); replace HI413 := A_ (hi); (try clear hb); (try clear hb2); (try clear hk); (try clear hi)))
   go_ret
   exact ⟨rr_, by repeat (first | (with_reducible first | exact HB.out | apply below_alloc | apply pw_below_drewN | apply below_drew1 | refine below_set ?_ (IsS60.ge HI413.out)) | exact HB.out)⟩
 rw [if_neg c6] at H
 have c6b0 : (t420 == 0) = false := beq_eq_false_iff_ne.mpr c6
 have c6b1 : (t420 != 0) = true := bne_iff_ne.mpr c6
 by_cases c17 : t420 = 1
 rotate_left
 · rw [if_neg c17] at H
   have c17b0 : (t420 == 1) = false := beq_eq_false_iff_ne.mpr c17
   have c17b1 : (t420 != 1) = true := bne_iff_ne.mpr c17
   obtain rfl := si_ H
   go_enter Tryz.func7, Tryz.ntmps7
   go_wp2_with (first | ((with_reducible refine gc_ (f := 19) rfl ?_); refine gL_ (some 7) Tryz.func19 #[.slice A0 l0.length c0] ?_; (with_reducible refine (spec_l1New.calls k _ _ l0 t410 t411 t412 w _ ?s1 ?s2 ?s3 A2.out).mono ?_); (case s1 => exact bIQx110_); (case s2 => exact HR0.out); (case s3 => exact HC0.out); rintro e w37 ⟨g413, rfl, hi, hb, hb2⟩; refine ⟨_, rfl, ?_⟩; replace HB := A_ (hb); have HI413 := A_ (hi); (try clear hb); (try clear hb2); (try clear hk); (try clear hi)) | ((with_reducible refine gc_ (f := 24) rfl ?_); refine gL_ (some 9) Tryz.func24 #[.pointer (some ⟨g413, 0, none⟩)] ?_; (with_reducible refine (spec_l14Draw.calls k g413 t410 t411 t412 t414 t417 t418 w _ ?s1 ?s2 A3.out).mono ?_); (case s1 => repeat (first | (with_reducible first | exact HI413.out | apply IsS60.alloc | apply IsS60.drewN | apply IsS60.drew | apply IsS60.set_1 | apply IsS60.set_2) | exact HI413.out)); (case s2 => repeat (first | (with_reducible first | exact HB.out | apply below_alloc | apply pw_below_drewN | apply below_drew1 | refine below_set ?_ (IsS60.ge HI413.out)) | exact HB.out)); rintro e w38 ⟨v415, rfl, ho0, hi, hb, hk⟩; refine ⟨_, rfl, ?_⟩; have HO416 := A_ (Kd.S_lower ho0 (below_size (by repeat (first | (with_reducible first | exact HB.out | apply below_alloc | apply pw_below_drewN | apply below_drew1 | refine below_set ?_ (IsS60.ge HI413.out)) | exact HB.out)))); replace HB := A_ (hb); replace HI413 := A_ (hi); (try clear hb); (try clear hb2); (try clear hk); (try clear hi); (try clear ho0); obtain ⟨Ao39, co39, eo39⟩ := Kd.S_slice HO416.out; subst eo39) | ((with_reducible refine gc_ (f := 13) rfl ?_); refine gL_ (some 10) Tryz.func13 #[.slice Ao39 t414.length co39] ?_; (with_reducible refine (spec_IfText.calls k _ _ t414 t419 _ ?s1 ?s2 A4.out).mono ?_); (case s1 => exact cC_ (Kd.S_reads' HO416.out).2.2); (case s2 => exact (Kd.S_reads' HO416.out).2.1); rintro e w40 ⟨rfl, hb⟩; refine ⟨_, rfl, ?_⟩; replace HO416 := A_ (Kd.S_below (vS_ HO416.out) hb); replace HB := A_ (below_step (by repeat (first | (with_reducible first | exact HB.out | apply below_alloc | apply pw_below_drewN | apply below_drew1 | refine below_set ?_ (IsS60.ge HI413.out)) | exact HB.out)) hb); replace HI413 := A_ (IsS60.below (by repeat (first | (with_reducible first | exact HI413.out | apply IsS60.alloc | apply IsS60.drewN | apply IsS60.drew | apply IsS60.set_1 | apply IsS60.set_2) | exact HI413.out)) hb); (try clear hb); (try clear hb2); (try clear hk); (try clear hi)) | ((with_reducible refine gc_ (f := 25) rfl ?_); refine gL_ (some 12) Tryz.func25 #[.pointer (some ⟨g413, 0, none⟩), .int .i64 4] ?_; (with_reducible refine (spec_l1Below.calls g413 t410 t417 t418 4 t420 t421 t422 w _ ?s1 ?s2 A5.out).mono ?_); (case s1 => repeat (first | (with_reducible first | exact HI413.out | apply IsS60.alloc | apply IsS60.drewN | apply IsS60.drew | apply IsS60.set_1 | apply IsS60.set_2) | exact HI413.out)); (case s2 => repeat (first | (with_reducible first | exact HB.out | apply below_alloc | apply pw_below_drewN | apply below_drew1 | refine below_set ?_ (IsS60.ge HI413.out)) | exact HB.out)); rintro e w41 ⟨rfl, hi, hb, hk⟩; refine ⟨_, rfl, ?_⟩; replace HO416 := A_ (Kd.S_mono (Kd.S_keep (IsS60.apartS (show IsS60 w _ g413 t410 t417 t418 from by repeat (first | (with_reducible first | exact HI413.out | apply IsS60.alloc | apply IsS60.drewN | apply IsS60.drew | apply IsS60.set_1 | apply IsS60.set_2) | exact HI413.out)) (vS_ HO416.out) (by decide)) hk (fun _ h => h.2)) (fun _ h => h.1)); replace HB := A_ (hb); replace HI413 := A_ (hi); (try clear hb); (try clear hb2); (try clear hk); (try clear hi)))
   go_ret
   exact ⟨rr_, by repeat (first | (with_reducible first | exact HB.out | apply below_alloc | apply pw_below_drewN | apply below_drew1 | refine below_set ?_ (IsS60.ge HI413.out)) | exact HB.out)⟩
 rw [if_pos c17] at H
 have c17b0 : (t420 == 1) = true := beq_iff_eq.mpr c17
 have c17b1 : (t420 != 1) = false := bne_eq_false_iff_eq.mpr c17
 clear c17
 obtain ⟨⟨t429, t430, t431⟩, A18, H⟩ := bo_ H
 (try dsimp only at H)
 by_cases c19 : 0 ≤ t429
 rotate_left
 · exact absurd H (by rw [if_neg c19]; simp)
 rw [if_pos c19] at H
 have c19b0 := eq_true c19
 have c19b1 : decide (0 ≤ t429) = true := decide_eq_true c19
 clear c19
 by_cases c20 : t429 ≤ (t419.size : Int)
 rotate_left
 · exact absurd H (by rw [if_neg c20]; simp)
 rw [if_pos c20] at H
 have c20b0 := eq_true c20
 have c20b1 : decide (t429 ≤ (t419.size : Int)) = true := decide_eq_true c20
 clear c20
 obtain ⟨y432, hy432⟩ : ∃ y_ : List ByteArray, y_ = (([(⟨#[32]⟩ : ByteArray), (⟨#[40]⟩ : ByteArray), (⟨#[41]⟩ : ByteArray), (⟨#[60]⟩ : ByteArray), (⟨#[120]⟩ : ByteArray)] : List ByteArray)) := ⟨_, rfl⟩
 replace H : ((spec_l1Str.f t410 t430 t431 y432).bind fun bt435 => (if (t419.extract 0 (t429 : Int).toNat).size + bt435.1.size ≤ 9223372036854775807 then (if ((t419.extract 0 (t429 : Int).toNat) ++ bt435.1).size + (t419.extract (t429 : Int).toNat t419.size).size ≤ 9223372036854775807 then (some (((t419.extract 0 (t429 : Int).toNat) ++ bt435.1) ++ (t419.extract (t429 : Int).toNat t419.size))) else (none)) else (none))) = some r := hy_ hy432 H
 have Ny432 := A_ hy432
 clear hy432
 obtain ⟨⟨t435, t436, t437⟩, A21, H⟩ := bo_ H
 (try dsimp only at H)
 by_cases c22 : (t419.extract 0 (t429 : Int).toNat).size + t435.size ≤ 9223372036854775807
 rotate_left
 · exact absurd H (by rw [if_neg c22]; simp)
 rw [if_pos c22] at H
 have c22b0 := eq_true c22
 have c22b1 : decide ((t419.extract 0 (t429 : Int).toNat).size + t435.size ≤ 9223372036854775807) = true := decide_eq_true c22
 try have c22b2 : (9223372036854775807 < (t419.extract 0 (t429 : Int).toNat).size + t435.size) = False := eq_false (Nat.not_lt.2 c22)
 have c22b5 : (9223372036854775807 < (t429).toNat + t435.size) = False := eq_false (by have h_ := c22; have h_part : t429 ≤ (t419.size : Int) := od_; have h0_ : 0 ≤ t429 := od_; rw [ByteArray.size_extract] at h_; omega)
 have c23b0 := eq_true (od_ : 0 ≤ t429)
 have c24b0 := eq_true (od_ : t429 ≤ (t419.size : Int))
 by_cases c25 : ((t419.extract 0 (t429 : Int).toNat) ++ t435).size + (t419.extract (t429 : Int).toNat t419.size).size ≤ 9223372036854775807
 rotate_left
 · exact absurd H (by rw [if_neg c25]; simp)
 rw [if_pos c25] at H
 have c25b0 := eq_true c25
 have c25b1 : decide (((t419.extract 0 (t429 : Int).toNat) ++ t435).size + (t419.extract (t429 : Int).toNat t419.size).size ≤ 9223372036854775807) = true := decide_eq_true c25
 try have c25b2 : (9223372036854775807 < ((t419.extract 0 (t429 : Int).toNat) ++ t435).size + (t419.extract (t429 : Int).toNat t419.size).size) = False := eq_false (Nat.not_lt.2 c25)
 have c25b5 : (9223372036854775807 < (t429).toNat + t435.size + (t419.size - (t429).toNat)) = False := eq_false (by have h_ := c25; have h_part : t429 ≤ (t419.size : Int) := od_; have h0_ : 0 ≤ t429 := od_; simp only [ByteArray.size_append, ByteArray.size_extract] at h_; omega)
 try have c25b3 : (9223372036854775807 < (t419.extract 0 (t429 : Int).toNat).size + t435.size + (t419.extract (t429 : Int).toNat t419.size).size) = False := eq_false (Nat.not_lt.2 (by have h_ := c25; simp only [ByteArray.size_append] at h_; exact h_))
 obtain rfl := si_ H
 go_enter Tryz.func7, Tryz.ntmps7
 try go_wp2_with (first | ((with_reducible refine gc_ (f := 19) rfl ?_); refine gL_ (some 7) Tryz.func19 #[.slice A0 l0.length c0] ?_; (with_reducible refine (spec_l1New.calls k _ _ l0 t410 t411 t412 w _ ?s1 ?s2 ?s3 A2.out).mono ?_); (case s1 => exact bIQx110_); (case s2 => exact HR0.out); (case s3 => exact HC0.out); rintro e w26 ⟨g413, rfl, hi, hb, hb2⟩; refine ⟨_, rfl, ?_⟩; replace HB := A_ (hb); have HI413 := A_ (hi); (try clear hb); (try clear hb2); (try clear hk); (try clear hi)) | ((with_reducible refine gc_ (f := 24) rfl ?_); refine gL_ (some 9) Tryz.func24 #[.pointer (some ⟨g413, 0, none⟩)] ?_; (with_reducible refine (spec_l14Draw.calls k g413 t410 t411 t412 t414 t417 t418 w _ ?s1 ?s2 A3.out).mono ?_); (case s1 => repeat (first | (with_reducible first | exact HI413.out | apply IsS60.alloc | apply IsS60.drewN | apply IsS60.drew | apply IsS60.set_1 | apply IsS60.set_2) | exact HI413.out)); (case s2 => repeat (first | (with_reducible first | exact HB.out | apply below_alloc | apply pw_below_drewN | apply below_drew1 | refine below_set ?_ (IsS60.ge HI413.out)) | exact HB.out)); rintro e w27 ⟨v415, rfl, ho0, hi, hb, hk⟩; refine ⟨_, rfl, ?_⟩; have HO416 := A_ (Kd.S_lower ho0 (below_size (by repeat (first | (with_reducible first | exact HB.out | apply below_alloc | apply pw_below_drewN | apply below_drew1 | refine below_set ?_ (IsS60.ge HI413.out)) | exact HB.out)))); replace HB := A_ (hb); replace HI413 := A_ (hi); (try clear hb); (try clear hb2); (try clear hk); (try clear hi); (try clear ho0); obtain ⟨Ao28, co28, eo28⟩ := Kd.S_slice HO416.out; subst eo28) | ((with_reducible refine gc_ (f := 13) rfl ?_); refine gL_ (some 10) Tryz.func13 #[.slice Ao28 t414.length co28] ?_; (with_reducible refine (spec_IfText.calls k _ _ t414 t419 _ ?s1 ?s2 A4.out).mono ?_); (case s1 => exact cC_ (Kd.S_reads' HO416.out).2.2); (case s2 => exact (Kd.S_reads' HO416.out).2.1); rintro e w29 ⟨rfl, hb⟩; refine ⟨_, rfl, ?_⟩; replace HO416 := A_ (Kd.S_below (vS_ HO416.out) hb); replace HB := A_ (below_step (by repeat (first | (with_reducible first | exact HB.out | apply below_alloc | apply pw_below_drewN | apply below_drew1 | refine below_set ?_ (IsS60.ge HI413.out)) | exact HB.out)) hb); replace HI413 := A_ (IsS60.below (by repeat (first | (with_reducible first | exact HI413.out | apply IsS60.alloc | apply IsS60.drewN | apply IsS60.drew | apply IsS60.set_1 | apply IsS60.set_2) | exact HI413.out)) hb); (try clear hb); (try clear hb2); (try clear hk); (try clear hi)) | ((with_reducible refine gc_ (f := 25) rfl ?_); refine gL_ (some 12) Tryz.func25 #[.pointer (some ⟨g413, 0, none⟩), .int .i64 4] ?_; (with_reducible refine (spec_l1Below.calls g413 t410 t417 t418 4 t420 t421 t422 w _ ?s1 ?s2 A5.out).mono ?_); (case s1 => repeat (first | (with_reducible first | exact HI413.out | apply IsS60.alloc | apply IsS60.drewN | apply IsS60.drew | apply IsS60.set_1 | apply IsS60.set_2) | exact HI413.out)); (case s2 => repeat (first | (with_reducible first | exact HB.out | apply below_alloc | apply pw_below_drewN | apply below_drew1 | refine below_set ?_ (IsS60.ge HI413.out)) | exact HB.out)); rintro e w30 ⟨rfl, hi, hb, hk⟩; refine ⟨_, rfl, ?_⟩; replace HO416 := A_ (Kd.S_mono (Kd.S_keep (IsS60.apartS (show IsS60 w _ g413 t410 t417 t418 from by repeat (first | (with_reducible first | exact HI413.out | apply IsS60.alloc | apply IsS60.drewN | apply IsS60.drew | apply IsS60.set_1 | apply IsS60.set_2) | exact HI413.out)) (vS_ HO416.out) (by decide)) hk (fun _ h => h.2)) (fun _ h => h.1)); replace HB := A_ (hb); replace HI413 := A_ (hi); (try clear hb); (try clear hb2); (try clear hk); (try clear hi)) | ((with_reducible refine gc_ (f := 25) rfl ?_); refine gL_ (some 24) Tryz.func25 #[.pointer (some ⟨g413, 0, none⟩), .int .i64 (wrap64 ((t419.size : Int) + 1))] ?_; (with_reducible refine (spec_l1Below.calls g413 t410 t421 t422 (wrap64 ((t419.size : Int) + 1)) t429 t430 t431 w _ ?s1 ?s2 A18.out).mono ?_); (case s1 => repeat (first | (with_reducible first | exact HI413.out | apply IsS60.alloc | apply IsS60.drewN | apply IsS60.drew | apply IsS60.set_1 | apply IsS60.set_2) | exact HI413.out)); (case s2 => repeat (first | (with_reducible first | exact HB.out | apply below_alloc | apply pw_below_drewN | apply below_drew1 | refine below_set ?_ (IsS60.ge HI413.out)) | exact HB.out)); rintro e w31 ⟨rfl, hi, hb, hk⟩; refine ⟨_, rfl, ?_⟩; replace HO416 := A_ (Kd.S_mono (Kd.S_keep (IsS60.apartS (show IsS60 w _ g413 t410 t421 t422 from by repeat (first | (with_reducible first | exact HI413.out | apply IsS60.alloc | apply IsS60.drewN | apply IsS60.drew | apply IsS60.set_1 | apply IsS60.set_2) | exact HI413.out)) (vS_ HO416.out) (by decide)) hk (fun _ h => h.2)) (fun _ h => h.1)); replace HB := A_ (hb); replace HI413 := A_ (hi); (try clear hb); (try clear hb2); (try clear hk); (try clear hi)))
 replace HO416 := A_ (Kd.S_drew HO416.out)
 replace HI413 := A_ (IsS60.drew HI413.out)
 replace HB := A_ (below_drew1 HB.out)
 refine start_ (n := 12) (S := fun w' => True) (ds := []) #[false, false, false, false, false, false, false, false, false, false, false, false] (by kernel_rfl) rfl rfl trivial (fun hHeld => ?_); refine with_tabW spec_DrawParseIf.tab8 spec_DrawParseIf.bits8 (fun HT_ HW_ => ?_)
 generalize w31.drew = w32 at HO416 HI413 HB hHeld ⊢
 refine pu_ (i := 0) (N := some 25) ?_
 refine pu_ (i := 1) (N := some 26) ?_
 refine pu_ (i := 2) (N := some 27) ?_
 refine pu_ (i := 3) (N := some 28) ?_
 refine pu_ (i := 7) (N := some 32) ?_
 refine pu_ (i := 8) (N := some 33) ?_
 refine pu_ (i := 9) (N := some 34) ?_
 refine on_ (i := 4) (N := some 29) (fun K hK => ?_)
 refine Kd.R_lit_step Kd.string _ 9 ?hg (N := 29) ?hd (xs := ([(⟨#[32]⟩ : ByteArray), (⟨#[40]⟩ : ByteArray), (⟨#[41]⟩ : ByteArray), (⟨#[60]⟩ : ByteArray), (⟨#[120]⟩ : ByteArray)] : List ByteArray)) (inner := [.string (⟨#[32]⟩ : ByteArray), .string (⟨#[40]⟩ : ByteArray), .string (⟨#[41]⟩ : ByteArray), .string (⟨#[60]⟩ : ByteArray), .string (⟨#[120]⟩ : ByteArray)]) (ok := fun _ => True) (okp := fun _ => True) ?hr ?hp (fun _ hk => hk) trivial (Below.refl _ _) (Nat.le_refl _) (by simp) ?_; (case hd => rfl); (case hg => rfl); (case hr => first | (go_simp; done) | (go_simp; rfl)); (case hp => exact (Reps.one (show Kd.M Kd.string _ _ _ (⟨#[32]⟩ : ByteArray) [.string (⟨#[32]⟩ : ByteArray)] from rfl) (Reps.one (show Kd.M Kd.string _ _ _ (⟨#[40]⟩ : ByteArray) [.string (⟨#[40]⟩ : ByteArray)] from rfl) (Reps.one (show Kd.M Kd.string _ _ _ (⟨#[41]⟩ : ByteArray) [.string (⟨#[41]⟩ : ByteArray)] from rfl) (Reps.one (show Kd.M Kd.string _ _ _ (⟨#[60]⟩ : ByteArray) [.string (⟨#[60]⟩ : ByteArray)] from rfl) (Reps.one (show Kd.M Kd.string _ _ _ (⟨#[120]⟩ : ByteArray) [.string (⟨#[120]⟩ : ByteArray)] from rfl) (Reps.none _ _)))))))
 intro v433 w33 ho34 hb hg_ hnew_
 clear hg_ hnew_
 (first | rw [← Ny432.out] at ho34 | (simp only [Int.reduceToNat] at ho34; rw [← Ny432.out] at ho34))
 replace HO416 := A_ (Kd.S_below (vS_ HO416.out) hb)
 have HO434 := A_ (Kd.R_lower ho34 (below_size (by repeat (first | (with_reducible first | exact HB.out | apply below_alloc | apply pw_below_drewN | apply below_drew1 | refine below_set ?_ (IsS60.ge HI413.out)) | exact HB.out))))
 replace HB := A_ (below_step (by repeat (first | (with_reducible first | exact HB.out | apply below_alloc | apply pw_below_drewN | apply below_drew1 | refine below_set ?_ (IsS60.ge HI413.out)) | exact HB.out)) hb)
 replace HI413 := A_ (IsS60.below (by repeat (first | (with_reducible first | exact HI413.out | apply IsS60.alloc | apply IsS60.drewN | apply IsS60.drew | apply IsS60.set_1 | apply IsS60.set_2) | exact HI413.out)) hb)
 clear hb ho34
 obtain ⟨Ao35, co35, eo35⟩ := Kd.R_slice HO434.out
 (first | subst eo35 | (injection eo35 with f1_ f2_ f3_; have f4_ := f1_.symm; have f5_ := f3_.symm; clear f1_ f2_ f3_; subst f4_; subst f5_))
 refine hK.out _ _ trivial (fun hHeld => ?_)
 clear hK K
 refine no_ (some 29) ?_
 refine on_ (i := 5) (N := some 30) (fun K hK => ?_)
 refine goes_ Tryz.func26 (by kernel_rfl) rfl #[.pointer (some ⟨g413, 0, none⟩), .slice Ao35 y432.length co35] (by rfl) rfl rfl ml_ ?_
 with_reducible refine (spec_l1Str.calls g413 t410 t430 t431 _ _ y432 t435 t436 t437 w _ ?s1 ?s2 ?s3 ?s4 ?s5 A21.out).mono ?_
 (case s1 => repeat (first | (with_reducible first | exact HI413.out | apply IsS60.alloc | apply IsS60.drewN | apply IsS60.drew | apply IsS60.set_1 | apply IsS60.set_2) | exact HI413.out))
 (case s2 => repeat (first | (with_reducible first | exact HB.out | apply below_alloc | apply pw_below_drewN | apply below_drew1 | refine below_set ?_ (IsS60.ge HI413.out)) | exact HB.out))
 (case s3 => exact cC_ (Kd.R_reads' HO434.out).2.2)
 (case s4 => exact (Kd.R_reads' HO434.out).2.1)
 (case s5 => exact far_slice (IsS60.own_ne HI413.out HO434.out (by decide)))
 rintro e w36 ⟨rfl, hi, hb, hk⟩
 refine ⟨_, rfl, ?_⟩
 replace HO416 := A_ (Kd.S_mono (Kd.S_keep (IsS60.apartS (show IsS60 w _ g413 t410 t430 t431 from by repeat (first | (with_reducible first | exact HI413.out | apply IsS60.alloc | apply IsS60.drewN | apply IsS60.drew | apply IsS60.set_1 | apply IsS60.set_2) | exact HI413.out)) (vS_ HO416.out) (by decide)) hk (fun _ h => h.2)) (fun _ h => h.1))
 replace HO434 := A_ (Kd.R_mono (Kd.R_keep (IsS60.apart (show IsS60 w _ g413 t410 t430 t431 from by repeat (first | (with_reducible first | exact HI413.out | apply IsS60.alloc | apply IsS60.drewN | apply IsS60.drew | apply IsS60.set_1 | apply IsS60.set_2) | exact HI413.out)) (vR_ HO434.out) (by decide)) hk (fun _ h => h.2)) (fun _ h => h.1))
 replace HB := A_ (hb)
 replace HI413 := A_ (hi)
 (try clear hb)
 (try clear hb2)
 (try clear hk)
 (try clear hi)
 refine hK.out _ _ trivial (fun hHeld => ?_)
 clear hK K
 refine no_ (some 30) ?_
 refine pu_ (i := 6) (N := some 31) ?_
 refine pu_ (i := 10) (N := some 35) ?_
 refine pu_ (i := 11) (N := some 2) ?_
 refine done_ (done_of HT_.out (by kernel_rfl)) ?_
 (try clear hHeld)
 try go_wp2
 go_ret
 exact ⟨rr_, by repeat (first | (with_reducible first | exact HB.out | apply below_alloc | apply pw_below_drewN | apply below_drew1 | refine below_set ?_ (IsS60.ge HI413.out)) | exact HB.out)⟩
def spec_l13Tokens.l0 : Nat → List Int → Int → List Int → Int → Int → Option (List Int × Int × Int)
 | 0, _, _, _, _, _ => none
 | k + 1, x3, x4, x1000, x1001, x1002 => if x4 > 0 then ((spec_l1Below.f x1000 x1001 x1002 9).bind fun bt444 => (if x3.length < 17592186044416 then (spec_l13Tokens.l0 k (x3 ++ [wrap64 (1 + bt444.1)]) (wrap64 (x4 - 1)) x1000 bt444.2.1 bt444.2.2) else (none))) else (some (x3, x1001, x1002))
def spec_l13Tokens.f (k : Nat) (s0_0 : List Int) (s0_1 : Int) (s0_2 : Int) : Option (List Int × Int × Int) := (spec_l1Below.f s0_0 s0_1 s0_2 6).bind fun bt441 => (spec_l13Tokens.l0 k (([] : List Int)) bt441.1 s0_0 bt441.2.1 bt441.2.2)
theorem spec_l13Tokens.calls (k : Nat) (g : Nat) (s0_0 : List Int) (s0_1 : Int) (s0_2 : Int) (r1 : List Int) (r2 : Int) (r3 : Int) (w0 w : World) (hI : IsS60 w0 w g s0_0 s0_1 s0_2) (hB : Below w0.heap.size w0 w) (h : spec_l13Tokens.f k s0_0 s0_1 s0_2 = some (r1, r2, r3)) :
 Calls Tryz.prog 31 #[.pointer (some ⟨g, 0, none⟩)] w fun e w' => ∃ v0_ : Value, e = .returned (v0_) ∧ Kd.R (Kd.int .i64) 3 w' w.heap.size (fun _ => True) v0_ r1 ∧ IsS60 w0 w' g s0_0 r2 r3 ∧ Below w0.heap.size w0 w' ∧ KeepBut w w' g none := by
 have HI0 := A_ hI
 have HK := A_ (KeepBut.refl w g none)
 have HL := A_ hB.size
 clear hI
 have HW0 := A_ hB.size
 have HB := A_ hB
 clear hB
 have H : ((spec_l1Below.f s0_0 s0_1 s0_2 6).bind fun bt441 => (spec_l13Tokens.l0 k (([] : List Int)) bt441.1 s0_0 bt441.2.1 bt441.2.2)) = some (r1, r2, r3) := h
 clear h
 obtain ⟨y438, hy438⟩ : ∃ y_ : List Int, y_ = (([] : List Int)) := ⟨_, rfl⟩
 replace H : ((spec_l1Below.f s0_0 s0_1 s0_2 6).bind fun bt441 => (spec_l13Tokens.l0 k y438 bt441.1 s0_0 bt441.2.1 bt441.2.2)) = some (r1, r2, r3) := hy_ hy438 H
 have Ny438 := A_ hy438
 clear hy438
 obtain ⟨⟨t441, t442, t443⟩, A2, H⟩ := bo_ H
 (try dsimp only at H)
 have H' := A_ H
 clear H
 go_enter Tryz.func31, Tryz.ntmps31
 go_wp2_with (first | ((with_reducible refine gd_ (N := 5) rfl ?_); refine Kd.R_lit (Kd.int .i64) _ 3 ?hg (N := 5) ?hd (xs := ([] : List Int)) (inner := []) (ok := fun _ => True) (okp := fun _ => True) ?hr ?hp (fun _ hk => hk) trivial (Below.refl _ _) (Nat.le_refl _) (by simp) ?_; (case hd => rfl); (case hg => rfl); (case hr => first | (go_simp; done) | (go_simp; rfl)); (case hp => exact (Reps.none _ _)); intro v439 w3 ho4 hb hg_ hnew_; clear hg_ hnew_; (first | rw [← Ny438.out] at ho4 | (simp only [Int.reduceToNat] at ho4; rw [← Ny438.out] at ho4)); have HO440 := A_ (Kd.R_lower ho4 (keep_size (w := w) (g := g) (row := none) bK_)); replace HK := A_ (KeepBut.trans bK_ (KeepBut.of_below hb g none) (.inl rfl)); replace HB := A_ (below_step bIQx112_ hb); replace HI0 := A_ (IsS60.below bIQx111_ hb); clear hb ho4) | ((with_reducible refine gc_ (f := 25) rfl ?_); refine gL_ (some 7) Tryz.func25 #[.pointer (some ⟨g, 0, none⟩), .int .i64 6] ?_; (with_reducible refine (spec_l1Below.calls g s0_0 s0_1 s0_2 6 t441 t442 t443 w0 _ ?s1 ?s2 A2.out).mono ?_); (case s1 => exact bIQx111_); (case s2 => exact bIQx112_); rintro e w5 ⟨rfl, hi, hb, hk⟩; refine ⟨_, rfl, ?_⟩; replace HO440 := A_ (Kd.R_mono (Kd.R_keep (IsS60.apart (show IsS60 w0 _ g s0_0 s0_1 s0_2 from bIQx111_) (vR_ HO440.out) (by decide)) hk (fun _ h => h.2)) (fun _ h => h.1)); replace HK := A_ (KeepBut.trans bK_ hk (.inl rfl)); replace HB := A_ (hb); replace HI0 := A_ (hi); (try clear hb); (try clear hk); (try clear hi)))
 go_loopg [3, 4] k (fun kq v3 v4 w' => ∃ (x3_1 : List Int) (x4_1 : Int) (x1001_1 : Int) (x1002_1 : Int), v4 = .int .i64 x4_1 ∧ Aside0 (spec_l13Tokens.l0 kq x3_1 x4_1 s0_0 x1001_1 x1002_1 = some (r1, r2, r3)) ∧ Aside0 (kq ≤ k) ∧ Aside0 (Kd.R (Kd.int .i64) 3 w' w.heap.size (fun _ => True) v3 x3_1) ∧ Aside0 (IsS60 w0 w' g s0_0 x1001_1 x1002_1) ∧ Aside0 (KeepBut w w' g none) ∧ Aside0 (Below w0.heap.size w0 w'))
 case atStart => exact ⟨(y438), (t441), (t442), (t443), rs_, H', ⟨Nat.le_refl _⟩, ⟨vR_ HO440.out⟩, ⟨bIQx111_⟩, ⟨bK_⟩, ⟨bIQx112_⟩⟩
 case round =>
  clear H'
  try clear c2
  try clear p2
  try clear c3
  obtain ⟨x3_1, x4_1, x1001_1, x1002_1, rfl, HA, HK1, HO_3, HI0, HK, HB⟩ := hrel
  cases gk with
  | zero => exact absurd HA.out (by simp [spec_l13Tokens.l0])
  | succ k1 =>
   have H := HA.out
   clear HA
   simp only [spec_l13Tokens.l0] at H
   by_cases c6 : x4_1 > 0
   rotate_left
   · rw [if_neg c6] at H
     have c6b0 : decide (0 < x4_1) = false := decide_eq_false c6
     clear c6
     simp only [Option.some.injEq, Prod.mk.injEq] at H
     obtain ⟨rfl, rfl, rfl⟩ := H
     go_wp2
     go_ret
     exact ⟨_, rr_, by (with_reducible repeat (first | apply Kd.R_alloc | apply Kd.R_drewN | apply Kd.R_drew)); exact HO_3.out, bIQx111_, bIQx112_, bK_⟩
   rw [if_pos c6] at H
   have c6b0 : decide (0 < x4_1) = true := decide_eq_true c6
   clear c6
   obtain ⟨⟨t444, t445, t446⟩, A7, H⟩ := bo_ H
   (try dsimp only at H)
   by_cases c8 : x3_1.length < 17592186044416
   rotate_left
   · exact absurd H (by rw [if_neg c8]; simp)
   rw [if_pos c8] at H
   have LMc8 := A_ c8
   clear c8
   obtain ⟨y447, hy447⟩ : ∃ y_ : List Int, y_ = (x3_1 ++ [wrap64 (1 + t444)]) := ⟨_, rfl⟩
   replace H : (spec_l13Tokens.l0 k1 y447 (wrap64 (x4_1 - 1)) s0_0 t445 t446) = some (r1, r2, r3) := hy_ hy447 H
   have Ny447 := A_ hy447
   clear hy447
   have H' := A_ H
   clear H
   go_wp2_with (first | ((with_reducible refine gc_ (f := 25) rfl ?_); refine gL_ (some 14) Tryz.func25 #[.pointer (some ⟨g, 0, none⟩), .int .i64 9] ?_; (with_reducible refine (spec_l1Below.calls g s0_0 x1001_1 x1002_1 9 t444 t445 t446 w0 _ ?s1 ?s2 A7.out).mono ?_); (case s1 => exact bIQx111_); (case s2 => exact bIQx112_); rintro e w9 ⟨rfl, hi, hb, hk⟩; refine ⟨_, rfl, ?_⟩; replace HO_3 := A_ (Kd.R_mono (Kd.R_keep (IsS60.apart (show IsS60 w0 _ g s0_0 x1001_1 x1002_1 from bIQx111_) (vR_ HO_3.out) (by decide)) hk (fun _ h => h.2)) (fun _ h => h.1)); replace HK := A_ (KeepBut.trans bK_ hk (.inl rfl)); replace HB := A_ (hb); replace HI0 := A_ (hi); (try clear hb); (try clear hk); (try clear hi)) | ((with_reducible refine gate_builtin (b := .append) (xs := #[.tmp 12, .tmp 16]) rfl ?_); at_builtin; refine Kd.R_append (Kd.int .i64) w.heap.size rfl (.tmp 12) (.tmp 16) 30 3 (.int .i64 0) 8 rfl Tryz.underlying30 info3 rfl (by decide) (by omega) u3 x3_1 (wrap64 (1 + t444)) [.int .i64 (wrap64 (1 + t444))] (fun _ => True) (fun _ => False) rfl rfl ?aP (fun _ hk => hk.elim) ?aF ?aO (Below.refl _ _) ?aS ?aL ?_; (case aP => exact rfl); (case aF => exact (fun _ _ => trivial)); (case aO => exact (vR_ HO_3.out)); (case aS => exact (keep_size (w := w) (g := g) (row := none) bK_)); (case aL => have := LMc8.out; omega); intro v448 w10 ho hb hg hat; rw [← Ny447.out] at ho; replace HB := A_ (below_weaken bIQx112_ HL.out hb); replace HI0 := A_ (IsS60.grown bIQx111_ hg (IsS60.own_ne HI0.out HO_3.out (by decide))); replace HK := A_ (KeepBut.trans bK_ (KeepBut.of_grown hg g) (Kd.R_base2 HO_3.out)); have HO449 := A_ (ho); clear HO_3; clear ho hb hg hat))
   go_roundg k1
   case measure => have := HK1.out; omega
   case rel => exact ⟨(y447), (wrap64 (x4_1 - 1)), (t445), (t446), rs_, H', ⟨by have := HK1.out; omega⟩, ⟨vR_ HO449.out⟩, ⟨bIQx111_⟩, ⟨bK_⟩, ⟨bIQx112_⟩⟩
def spec_DrawEvalIf.f (k : Nat) (l0 : List Int) : Option ((List (List (S43))) × List Int × ByteArray) := (spec_l1New.f k l0).bind fun bt450 => ((spec_l14Any.f k bt450.1 bt450.2.1 bt450.2.2).bind fun bt454 => ((spec_l13Tokens.f k bt450.1 bt454.2.1 bt454.2.2).bind fun bt459 => ((spec_l1Str.f bt450.1 bt459.2.1 bt459.2.2 (([(⟨#[34, 118, 49, 34]⟩ : ByteArray), (⟨#[34, 118, 50, 34]⟩ : ByteArray), (⟨#[]⟩ : ByteArray)] : List ByteArray))).bind fun bt467 => (some (bt454.1, bt459.1, bt467.1)))))
theorem spec_DrawEvalIf.calls (k : Nat) (A0 : Option Addr) (c0 : Nat) (l0 : List Int) (r1 : List (List (S43))) (r2 : List Int) (r3 : ByteArray) (w : World) (hr0 : Kd.C (Kd.int .u8) w A0 l0.length l0) (hc0 : l0.length ≤ c0) (h : spec_DrawEvalIf.f k l0 = some (r1, r2, r3)) :
 Calls Tryz.prog 10 #[.slice A0 l0.length c0] w fun e w' => ∃ v0_ v1_ : Value, e = .returned (.tuple #[v0_, v1_, .string r3]) ∧ Kd.S (Kd.slice 43 k43) 41 w' w.heap.size (fun _ => True) v0_ r1 ∧ Kd.R (Kd.int .i64) 3 w' w.heap.size (fun _ => True) v1_ r2 ∧ Below w.heap.size w w' := by
 have HR0 := A_ hr0
 have HC0 := A_ hc0
 clear hr0 hc0
 have HB := A_ (Below.refl w.heap.size w)
 have H : ((spec_l1New.f k l0).bind fun bt450 => ((spec_l14Any.f k bt450.1 bt450.2.1 bt450.2.2).bind fun bt454 => ((spec_l13Tokens.f k bt450.1 bt454.2.1 bt454.2.2).bind fun bt459 => ((spec_l1Str.f bt450.1 bt459.2.1 bt459.2.2 (([(⟨#[34, 118, 49, 34]⟩ : ByteArray), (⟨#[34, 118, 50, 34]⟩ : ByteArray), (⟨#[]⟩ : ByteArray)] : List ByteArray))).bind fun bt467 => (some (bt454.1, bt459.1, bt467.1)))))) = some (r1, r2, r3) := h
 clear h
 obtain ⟨⟨t450, t451, t452⟩, A2, H⟩ := bo_ H
 (try dsimp only at H)
 obtain ⟨⟨t454, t457, t458⟩, A3, H⟩ := bo_ H
 (try dsimp only at H)
 obtain ⟨⟨t459, t462, t463⟩, A4, H⟩ := bo_ H
 (try dsimp only at H)
 obtain ⟨y464, hy464⟩ : ∃ y_ : List ByteArray, y_ = (([(⟨#[34, 118, 49, 34]⟩ : ByteArray), (⟨#[34, 118, 50, 34]⟩ : ByteArray), (⟨#[]⟩ : ByteArray)] : List ByteArray)) := ⟨_, rfl⟩
 replace H : ((spec_l1Str.f t450 t462 t463 y464).bind fun bt467 => (some (t454, t459, bt467.1))) = some (r1, r2, r3) := hy_ hy464 H
 have Ny464 := A_ hy464
 clear hy464
 obtain ⟨⟨t467, t468, t469⟩, A5, H⟩ := bo_ H
 (try dsimp only at H)
 simp only [Option.some.injEq, Prod.mk.injEq] at H
 obtain ⟨rfl, rfl, rfl⟩ := H
 go_enter Tryz.func10, Tryz.ntmps10
 go_wp2_with (first | ((with_reducible refine gc_ (f := 19) rfl ?_); refine gL_ (some 8) Tryz.func19 #[.slice A0 l0.length c0] ?_; (with_reducible refine (spec_l1New.calls k _ _ l0 t450 t451 t452 w _ ?s1 ?s2 ?s3 A2.out).mono ?_); (case s1 => exact bIQx110_); (case s2 => exact HR0.out); (case s3 => exact HC0.out); rintro e w6 ⟨g453, rfl, hi, hb, hb2⟩; refine ⟨_, rfl, ?_⟩; replace HB := A_ (hb); have HI453 := A_ (hi); (try clear hb); (try clear hb2); (try clear hk); (try clear hi)) | ((with_reducible refine gc_ (f := 20) rfl ?_); refine gL_ (some 10) Tryz.func20 #[.pointer (some ⟨g453, 0, none⟩)] ?_; (with_reducible refine (spec_l14Any.calls k g453 t450 t451 t452 t454 t457 t458 w _ ?s1 ?s2 A3.out).mono ?_); (case s1 => repeat (first | (with_reducible first | exact HI453.out | apply IsS60.alloc | apply IsS60.drewN | apply IsS60.drew | apply IsS60.set_1 | apply IsS60.set_2) | exact HI453.out)); (case s2 => repeat (first | (with_reducible first | exact HB.out | apply below_alloc | apply pw_below_drewN | apply below_drew1 | refine below_set ?_ (IsS60.ge HI453.out)) | exact HB.out)); rintro e w7 ⟨v455, rfl, ho0, hi, hb, hk⟩; refine ⟨_, rfl, ?_⟩; have HO456 := A_ (Kd.S_lower ho0 (below_size (by repeat (first | (with_reducible first | exact HB.out | apply below_alloc | apply pw_below_drewN | apply below_drew1 | refine below_set ?_ (IsS60.ge HI453.out)) | exact HB.out)))); replace HB := A_ (hb); replace HI453 := A_ (hi); (try clear hb); (try clear hb2); (try clear hk); (try clear hi); (try clear ho0)) | ((with_reducible refine gc_ (f := 31) rfl ?_); refine gL_ (some 13) Tryz.func31 #[.pointer (some ⟨g453, 0, none⟩)] ?_; (with_reducible refine (spec_l13Tokens.calls k g453 t450 t457 t458 t459 t462 t463 w _ ?s1 ?s2 A4.out).mono ?_); (case s1 => repeat (first | (with_reducible first | exact HI453.out | apply IsS60.alloc | apply IsS60.drewN | apply IsS60.drew | apply IsS60.set_1 | apply IsS60.set_2) | exact HI453.out)); (case s2 => repeat (first | (with_reducible first | exact HB.out | apply below_alloc | apply pw_below_drewN | apply below_drew1 | refine below_set ?_ (IsS60.ge HI453.out)) | exact HB.out)); rintro e w8 ⟨v460, rfl, ho0, hi, hb, hk⟩; refine ⟨_, rfl, ?_⟩; replace HO456 := A_ (Kd.S_mono (Kd.S_keep (IsS60.apartS (show IsS60 w _ g453 t450 t457 t458 from by repeat (first | (with_reducible first | exact HI453.out | apply IsS60.alloc | apply IsS60.drewN | apply IsS60.drew | apply IsS60.set_1 | apply IsS60.set_2) | exact HI453.out)) (vS_ HO456.out) (by decide)) hk (fun _ h => h.2)) (fun _ h => h.1)); have HO461 := A_ (Kd.R_lower ho0 (below_size (by repeat (first | (with_reducible first | exact HB.out | apply below_alloc | apply pw_below_drewN | apply below_drew1 | refine below_set ?_ (IsS60.ge HI453.out)) | exact HB.out)))); replace HB := A_ (hb); replace HI453 := A_ (hi); (try clear hb); (try clear hb2); (try clear hk); (try clear hi); (try clear ho0)) | ((with_reducible refine gd_ (N := 15) rfl ?_); refine Kd.R_lit Kd.string _ 9 ?hg (N := 15) ?hd (xs := ([(⟨#[34, 118, 49, 34]⟩ : ByteArray), (⟨#[34, 118, 50, 34]⟩ : ByteArray), (⟨#[]⟩ : ByteArray)] : List ByteArray)) (inner := [.string (⟨#[34, 118, 49, 34]⟩ : ByteArray), .string (⟨#[34, 118, 50, 34]⟩ : ByteArray), .string (⟨#[]⟩ : ByteArray)]) (ok := fun _ => True) (okp := fun _ => True) ?hr ?hp (fun _ hk => hk) trivial (Below.refl _ _) (Nat.le_refl _) (by simp) ?_; (case hd => rfl); (case hg => rfl); (case hr => first | (go_simp; done) | (go_simp; rfl)); (case hp => exact (Reps.one (show Kd.M Kd.string _ _ _ (⟨#[34, 118, 49, 34]⟩ : ByteArray) [.string (⟨#[34, 118, 49, 34]⟩ : ByteArray)] from rfl) (Reps.one (show Kd.M Kd.string _ _ _ (⟨#[34, 118, 50, 34]⟩ : ByteArray) [.string (⟨#[34, 118, 50, 34]⟩ : ByteArray)] from rfl) (Reps.one (show Kd.M Kd.string _ _ _ (⟨#[]⟩ : ByteArray) [.string (⟨#[]⟩ : ByteArray)] from rfl) (Reps.none _ _))))); intro v465 w9 ho10 hb hg_ hnew_; clear hg_ hnew_; (first | rw [← Ny464.out] at ho10 | (simp only [Int.reduceToNat] at ho10; rw [← Ny464.out] at ho10)); replace HO456 := A_ (Kd.S_below (vS_ HO456.out) hb); replace HO461 := A_ (Kd.R_below (vR_ HO461.out) hb); have HO466 := A_ (Kd.R_lower ho10 (below_size (by repeat (first | (with_reducible first | exact HB.out | apply below_alloc | apply pw_below_drewN | apply below_drew1 | refine below_set ?_ (IsS60.ge HI453.out)) | exact HB.out)))); replace HB := A_ (below_step (by repeat (first | (with_reducible first | exact HB.out | apply below_alloc | apply pw_below_drewN | apply below_drew1 | refine below_set ?_ (IsS60.ge HI453.out)) | exact HB.out)) hb); replace HI453 := A_ (IsS60.below (by repeat (first | (with_reducible first | exact HI453.out | apply IsS60.alloc | apply IsS60.drewN | apply IsS60.drew | apply IsS60.set_1 | apply IsS60.set_2) | exact HI453.out)) hb); clear hb ho10; obtain ⟨Ao11, co11, eo11⟩ := Kd.R_slice HO466.out; subst eo11) | ((with_reducible refine gc_ (f := 26) rfl ?_); refine gL_ (some 16) Tryz.func26 #[.pointer (some ⟨g453, 0, none⟩), .slice Ao11 y464.length co11] ?_; (with_reducible refine (spec_l1Str.calls g453 t450 t462 t463 _ _ y464 t467 t468 t469 w _ ?s1 ?s2 ?s3 ?s4 ?s5 A5.out).mono ?_); (case s1 => repeat (first | (with_reducible first | exact HI453.out | apply IsS60.alloc | apply IsS60.drewN | apply IsS60.drew | apply IsS60.set_1 | apply IsS60.set_2) | exact HI453.out)); (case s2 => repeat (first | (with_reducible first | exact HB.out | apply below_alloc | apply pw_below_drewN | apply below_drew1 | refine below_set ?_ (IsS60.ge HI453.out)) | exact HB.out)); (case s3 => exact cC_ (Kd.R_reads' HO466.out).2.2); (case s4 => exact (Kd.R_reads' HO466.out).2.1); (case s5 => exact far_slice (IsS60.own_ne HI453.out HO466.out (by decide))); rintro e w12 ⟨rfl, hi, hb, hk⟩; refine ⟨_, rfl, ?_⟩; replace HO456 := A_ (Kd.S_mono (Kd.S_keep (IsS60.apartS (show IsS60 w _ g453 t450 t462 t463 from by repeat (first | (with_reducible first | exact HI453.out | apply IsS60.alloc | apply IsS60.drewN | apply IsS60.drew | apply IsS60.set_1 | apply IsS60.set_2) | exact HI453.out)) (vS_ HO456.out) (by decide)) hk (fun _ h => h.2)) (fun _ h => h.1)); replace HO461 := A_ (Kd.R_mono (Kd.R_keep (IsS60.apart (show IsS60 w _ g453 t450 t462 t463 from by repeat (first | (with_reducible first | exact HI453.out | apply IsS60.alloc | apply IsS60.drewN | apply IsS60.drew | apply IsS60.set_1 | apply IsS60.set_2) | exact HI453.out)) (vR_ HO461.out) (by decide)) hk (fun _ h => h.2)) (fun _ h => h.1)); replace HO466 := A_ (Kd.R_mono (Kd.R_keep (IsS60.apart (show IsS60 w _ g453 t450 t462 t463 from by repeat (first | (with_reducible first | exact HI453.out | apply IsS60.alloc | apply IsS60.drewN | apply IsS60.drew | apply IsS60.set_1 | apply IsS60.set_2) | exact HI453.out)) (vR_ HO466.out) (by decide)) hk (fun _ h => h.2)) (fun _ h => h.1)); replace HB := A_ (hb); replace HI453 := A_ (hi); (try clear hb); (try clear hb2); (try clear hk); (try clear hi)))
 go_ret3
 exact ⟨_, _, rr_, by (with_reducible repeat (first | apply Kd.S_alloc | apply Kd.S_drewN | apply Kd.S_drew)); exact HO456.out, by (with_reducible repeat (first | apply Kd.R_alloc | apply Kd.R_drewN | apply Kd.R_drew)); exact HO461.out, by repeat (first | (with_reducible first | exact HB.out | apply below_alloc | apply pw_below_drewN | apply below_drew1 | refine below_set ?_ (IsS60.ge HI453.out)) | exact HB.out)⟩
def spec_DrawSubmitted.f (k : Nat) (l0 : List Int) : Option ((List (List (S43)))) := (spec_l1New.f k l0).bind fun bt470 => ((spec_l14Any.f k bt470.1 bt470.2.1 bt470.2.2).bind fun bt474 => (some bt474.1))
theorem spec_DrawSubmitted.calls (k : Nat) (A0 : Option Addr) (c0 : Nat) (l0 : List Int) (r : List (List (S43))) (w : World) (hr0 : Kd.C (Kd.int .u8) w A0 l0.length l0) (hc0 : l0.length ≤ c0) (h : spec_DrawSubmitted.f k l0 = some r) :
 Calls Tryz.prog 11 #[.slice A0 l0.length c0] w fun e w' => ∃ v0_ : Value, e = .returned (v0_) ∧ Kd.S (Kd.slice 43 k43) 41 w' w.heap.size (fun _ => True) v0_ r ∧ Below w.heap.size w w' := by
 have HR0 := A_ hr0
 have HC0 := A_ hc0
 clear hr0 hc0
 have HB := A_ (Below.refl w.heap.size w)
 have H : ((spec_l1New.f k l0).bind fun bt470 => ((spec_l14Any.f k bt470.1 bt470.2.1 bt470.2.2).bind fun bt474 => (some bt474.1))) = some r := h
 clear h
 obtain ⟨⟨t470, t471, t472⟩, A2, H⟩ := bo_ H
 (try dsimp only at H)
 obtain ⟨⟨t474, t477, t478⟩, A3, H⟩ := bo_ H
 (try dsimp only at H)
 obtain rfl := si_ H
 go_enter Tryz.func11, Tryz.ntmps11
 go_wp2_with (first | ((with_reducible refine gc_ (f := 19) rfl ?_); refine gL_ (some 5) Tryz.func19 #[.slice A0 l0.length c0] ?_; (with_reducible refine (spec_l1New.calls k _ _ l0 t470 t471 t472 w _ ?s1 ?s2 ?s3 A2.out).mono ?_); (case s1 => exact bIQx110_); (case s2 => exact HR0.out); (case s3 => exact HC0.out); rintro e w4 ⟨g473, rfl, hi, hb, hb2⟩; refine ⟨_, rfl, ?_⟩; replace HB := A_ (hb); have HI473 := A_ (hi); (try clear hb); (try clear hb2); (try clear hk); (try clear hi)) | ((with_reducible refine gc_ (f := 20) rfl ?_); refine gL_ (some 7) Tryz.func20 #[.pointer (some ⟨g473, 0, none⟩)] ?_; (with_reducible refine (spec_l14Any.calls k g473 t470 t471 t472 t474 t477 t478 w _ ?s1 ?s2 A3.out).mono ?_); (case s1 => repeat (first | (with_reducible first | exact HI473.out | apply IsS60.alloc | apply IsS60.drewN | apply IsS60.drew | apply IsS60.set_1 | apply IsS60.set_2) | exact HI473.out)); (case s2 => repeat (first | (with_reducible first | exact HB.out | apply below_alloc | apply pw_below_drewN | apply below_drew1 | refine below_set ?_ (IsS60.ge HI473.out)) | exact HB.out)); rintro e w5 ⟨v475, rfl, ho0, hi, hb, hk⟩; refine ⟨_, rfl, ?_⟩; have HO476 := A_ (Kd.S_lower ho0 (below_size (by repeat (first | (with_reducible first | exact HB.out | apply below_alloc | apply pw_below_drewN | apply below_drew1 | refine below_set ?_ (IsS60.ge HI473.out)) | exact HB.out)))); replace HB := A_ (hb); replace HI473 := A_ (hi); (try clear hb); (try clear hb2); (try clear hk); (try clear hi); (try clear ho0)))
 go_ret
 exact ⟨_, rr_, by (with_reducible repeat (first | apply Kd.S_alloc | apply Kd.S_drewN | apply Kd.S_drew)); exact HO476.out, by repeat (first | (with_reducible first | exact HB.out | apply below_alloc | apply pw_below_drewN | apply below_drew1 | refine below_set ?_ (IsS60.ge HI473.out)) | exact HB.out)⟩
mutual
def laws_sameIf.l0 : Nat → List (List (S43)) → List (List (S43)) → Int → Option (Bool)
 | 0, _, _, _ => none
 | k + 1, x0, x1, x5 => if x5 < (x0.length : Int) then (if 0 ≤ x5 then (if x5 < (x1.length : Int) then (if ((rd_L5 x0 x5).length : Int) = ((rd_L5 x1 x5).length : Int) then (laws_sameIf.l1 k x0 x1 x5 0) else (some false)) else (none)) else (none)) else (some true)
def laws_sameIf.l1 : Nat → List (List (S43)) → List (List (S43)) → Int → Int → Option (Bool)
 | 0, _, _, _, _ => none
 | k + 1, x0, x1, x5, x6 => if 0 ≤ x5 then (if x5 < (x0.length : Int) then (if x6 < ((rd_L5 x0 x5).length : Int) then (if 0 ≤ x6 then (if x5 < (x1.length : Int) then (if x6 < ((rd_L5 x1 x5).length : Int) then (if (!(((rd_T43 (rd_L5 x0 x5) x6).f0) == ((rd_T43 (rd_L5 x1 x5) x6).f0)) || (!(((rd_T43 (rd_L5 x0 x5) x6).f1) == ((rd_T43 (rd_L5 x1 x5) x6).f1)) || (!((((rd_T43 (rd_L5 x0 x5) x6).f2).toList) == (((rd_T43 (rd_L5 x1 x5) x6).f2).toList))))) = true then (some false) else (laws_sameIf.l1 k x0 x1 x5 (wrap64 (x6 + 1)))) else (none)) else (none)) else (none)) else (laws_sameIf.l0 k x0 x1 (wrap64 (x5 + 1)))) else (none)) else (none)
end
def laws_sameIf.f (k : Nat) (l0 : List (List (S43))) (l1 : List (List (S43))) : Option (Bool) := if (l0.length : Int) = (l1.length : Int) then (laws_sameIf.l0 k l0 l1 0) else (some false)
theorem laws_sameIf.calls (k : Nat) (A0 : Option Addr) (c0 : Nat) (l0 : List (List (S43))) (A1 : Option Addr) (c1 : Nat) (l1 : List (List (S43))) (r : Bool) (w : World) (hr0 : Kd.C (Kd.slice 43 k43) w A0 l0.length l0) (hc0 : l0.length ≤ c0) (hr1 : Kd.C (Kd.slice 43 k43) w A1 l1.length l1) (hc1 : l1.length ≤ c1) (h : laws_sameIf.f k l0 l1 = some r) :
 Calls Tryz.prog 12 #[.slice A0 l0.length c0, .slice A1 l1.length c1] w fun e w' => e = .returned (.bool r) ∧ Drawn0 w w' := by
 have hu43 := Tryz.underlying43
 have HR0 := A_ hr0
 have HC0 := A_ hc0
 clear hr0 hc0
 have HR1 := A_ hr1
 have HC1 := A_ hc1
 clear hr1 hc1
 have H : (if (l0.length : Int) = (l1.length : Int) then (laws_sameIf.l0 k l0 l1 0) else (some false)) = some r := h
 clear h
 by_cases c3 : (l0.length : Int) = (l1.length : Int)
 rotate_left
 · rw [if_neg c3] at H
   have c3b0 : ((l0.length : Int) == (l1.length : Int)) = false := beq_eq_false_iff_ne.mpr c3
   have c3b1 : ((l0.length : Int) != (l1.length : Int)) = true := bne_iff_ne.mpr c3
   have c3b2 : (l0.length == l1.length) = false := by first | simpa using c3 | (simp at c3 ⊢; omega)
   obtain rfl := si_ H
   go_enter Tryz.func12, Tryz.ntmps12
   go_wp2
   repeat (go_quiet (fail); try go_wp2)
   go_ret
   exact ⟨rs_, dr_⟩
 rw [if_pos c3] at H
 have c3b0 : ((l0.length : Int) == (l1.length : Int)) = true := beq_iff_eq.mpr c3
 have c3b1 : ((l0.length : Int) != (l1.length : Int)) = false := bne_eq_false_iff_eq.mpr c3
 have c3b2 : (l0.length == l1.length) = true := by first | simpa using c3 | (simp at c3 ⊢; omega)
 clear c3
 have H' := A_ H
 clear H
 go_enter Tryz.func12, Tryz.ntmps12
 go_wp2
 repeat (go_quiet (fail); try go_wp2)
 go_loopg [5] k (fun kq v5 w' => ∃ (x5_1 : Int), v5 = .int .i64 x5_1 ∧ Aside0 (laws_sameIf.l0 kq l0 l1 x5_1 = some r) ∧ Aside0 (kq ≤ k) ∧ Drawn0 w w')
 case atStart => exact ⟨(0), rs_, H', ⟨Nat.le_refl _⟩, dr_⟩
 case round =>
  clear H'
  try clear c1
  try clear p2
  try clear c3
  try clear c3b0
  try clear c3b1
  try clear c3b2
  obtain ⟨x5_1, rfl, HA, HK1, ⟨m1, rfl⟩⟩ := hrel
  cases gk with
  | zero => exact absurd HA.out (by simp [laws_sameIf.l0])
  | succ k1 =>
   have H := HA.out
   clear HA
   simp only [laws_sameIf.l0] at H
   by_cases c4 : x5_1 < (l0.length : Int)
   rotate_left
   · rw [if_neg c4] at H
     have c4b0 : decide (x5_1 < (l0.length : Int)) = false := decide_eq_false c4
     clear c4
     obtain rfl := si_ H
     go_wp2
     repeat (go_quiet (fail); try go_wp2)
     go_ret
     exact ⟨rs_, dr_⟩
   rw [if_pos c4] at H
   have c4b0 : decide (x5_1 < (l0.length : Int)) = true := decide_eq_true c4
   clear c4
   by_cases c5 : 0 ≤ x5_1
   rotate_left
   · exact absurd H (by rw [if_neg c5]; simp)
   rw [if_pos c5] at H
   have c5b0 : decide (0 ≤ x5_1) = true := decide_eq_true c5
   clear c5
   by_cases c6 : x5_1 < (l1.length : Int)
   rotate_left
   · exact absurd H (by rw [if_neg c6]; simp)
   rw [if_pos c6] at H
   have c6b0 : decide (x5_1 < (l1.length : Int)) = true := decide_eq_true c6
   clear c6
   by_cases c7 : ((rd_L5 l0 x5_1).length : Int) = ((rd_L5 l1 x5_1).length : Int)
   rotate_left
   · rw [if_neg c7] at H
     have c7b0 : (((rd_L5 l0 x5_1).length : Int) == ((rd_L5 l1 x5_1).length : Int)) = false := beq_eq_false_iff_ne.mpr c7
     have c7b1 : (((rd_L5 l0 x5_1).length : Int) != ((rd_L5 l1 x5_1).length : Int)) = true := bne_iff_ne.mpr c7
     have c7b2 : ((rd_L5 l0 x5_1).length == (rd_L5 l1 x5_1).length) = false := by first | simpa using c7 | (simp at c7 ⊢; omega)
     obtain rfl := si_ H
     have p479 : 0 ≤ (x5_1 : Int) := od_
     have q479 : x5_1 < (l0.length : Int) := od_
     obtain ⟨ad479, A479_0, c479_0, e479, hx479_0, hl479_0, hi479_0⟩ := at_L5 HR0.out x5_1 p479 q479
     cases e479
     have HR479_0 := A_ hi479_0
     have HC479_0 := A_ hl479_0
     clear hi479_0 hl479_0
     replace p479 := eq_true p479
     replace q479 := eq_true q479
     have p480 : 0 ≤ (x5_1 : Int) := od_
     have q480 : x5_1 < (l1.length : Int) := od_
     obtain ⟨ad480, A480_0, c480_0, e480, hx480_0, hl480_0, hi480_0⟩ := at_L5 HR1.out x5_1 p480 q480
     cases e480
     have HR480_0 := A_ hi480_0
     have HC480_0 := A_ hl480_0
     clear hi480_0 hl480_0
     replace p480 := eq_true p480
     replace q480 := eq_true q480
     go_wp2
     repeat (go_quiet (fail); try go_wp2)
     go_ret
     exact ⟨rs_, dr_⟩
   rw [if_pos c7] at H
   have c7b0 : (((rd_L5 l0 x5_1).length : Int) == ((rd_L5 l1 x5_1).length : Int)) = true := beq_iff_eq.mpr c7
   have c7b1 : (((rd_L5 l0 x5_1).length : Int) != ((rd_L5 l1 x5_1).length : Int)) = false := bne_eq_false_iff_eq.mpr c7
   have c7b2 : ((rd_L5 l0 x5_1).length == (rd_L5 l1 x5_1).length) = true := by first | simpa using c7 | (simp at c7 ⊢; omega)
   clear c7
   have H' := A_ H
   clear H
   have p479 : 0 ≤ (x5_1 : Int) := od_
   have q479 : x5_1 < (l0.length : Int) := od_
   obtain ⟨ad479, A479_0, c479_0, e479, hx479_0, hl479_0, hi479_0⟩ := at_L5 HR0.out x5_1 p479 q479
   cases e479
   have HR479_0 := A_ hi479_0
   have HC479_0 := A_ hl479_0
   clear hi479_0 hl479_0
   replace p479 := eq_true p479
   replace q479 := eq_true q479
   have p480 : 0 ≤ (x5_1 : Int) := od_
   have q480 : x5_1 < (l1.length : Int) := od_
   obtain ⟨ad480, A480_0, c480_0, e480, hx480_0, hl480_0, hi480_0⟩ := at_L5 HR1.out x5_1 p480 q480
   cases e480
   have HR480_0 := A_ hi480_0
   have HC480_0 := A_ hl480_0
   clear hi480_0 hl480_0
   replace p480 := eq_true p480
   replace q480 := eq_true q480
   go_wp2
   repeat (go_quiet (fail); try go_wp2)
   go_loopg [6] k1 (fun kq v6 w' => ∃ (x6_2 : Int), v6 = .int .i64 x6_2 ∧ Aside0 (laws_sameIf.l1 kq l0 l1 x5_1 x6_2 = some r) ∧ Aside0 (kq ≤ k1) ∧ Drawn0 w w')
   case atStart => exact ⟨(0), rs_, H', ⟨Nat.le_refl _⟩, dr_⟩
   case round =>
    clear H'
    try clear c1
    try clear p2
    try clear c3
    try clear c3b0
    try clear c3b1
    try clear c3b2
    try clear c4
    try clear c4b0
    try clear p4
    try clear q4
    try clear hx4
    try clear c5
    try clear c5b0
    try clear c6
    try clear c6b0
    try clear c7
    try clear c7b0
    try clear c7b1
    try clear c7b2
    try clear hx479_0
    try clear hx480_0
    try clear p2
    try clear p479
    try clear p480
    try clear q479
    try clear q480
    obtain ⟨x6_2, rfl, HA, HK2, ⟨m2, rfl⟩⟩ := hrel
    cases gk with
    | zero => exact absurd HA.out (by simp [laws_sameIf.l1])
    | succ k2 =>
     have H := HA.out
     clear HA
     simp only [laws_sameIf.l1] at H
     by_cases c8 : 0 ≤ x5_1
     rotate_left
     · exact absurd H (by rw [if_neg c8]; simp)
     rw [if_pos c8] at H
     have c8b0 : decide (0 ≤ x5_1) = true := decide_eq_true c8
     clear c8
     by_cases c9 : x5_1 < (l0.length : Int)
     rotate_left
     · exact absurd H (by rw [if_neg c9]; simp)
     rw [if_pos c9] at H
     have c9b0 : decide (x5_1 < (l0.length : Int)) = true := decide_eq_true c9
     clear c9
     by_cases c10 : x6_2 < ((rd_L5 l0 x5_1).length : Int)
     rotate_left
     · rw [if_neg c10] at H
       have c10b0 : decide (x6_2 < ((rd_L5 l0 x5_1).length : Int)) = false := decide_eq_false c10
       clear c10
       have H' := A_ H
       clear H
       have p481 : 0 ≤ (x5_1 : Int) := od_
       have q481 : x5_1 < (l0.length : Int) := od_
       obtain ⟨ad481, A481_0, c481_0, e481, hx481_0, hl481_0, hi481_0⟩ := at_L5 HR0.out x5_1 p481 q481
       obtain rfl : ad479 = ad481 := (by injection e481)
       have HR481_0 := A_ hi481_0
       have HC481_0 := A_ hl481_0
       clear hi481_0 hl481_0
       replace p481 := eq_true p481
       replace q481 := eq_true q481
       go_wp2
       repeat (go_quiet (fail); try go_wp2)
       go_roundg k2
       case measure => have := HK1.out; have := HK2.out; omega
       case rel => exact ⟨(wrap64 (x5_1 + 1)), rs_, H', ⟨by have := HK1.out; have := HK2.out; omega⟩, dr_⟩
     rw [if_pos c10] at H
     have c10b0 : decide (x6_2 < ((rd_L5 l0 x5_1).length : Int)) = true := decide_eq_true c10
     clear c10
     by_cases c11 : 0 ≤ x6_2
     rotate_left
     · exact absurd H (by rw [if_neg c11]; simp)
     rw [if_pos c11] at H
     have c11b0 : decide (0 ≤ x6_2) = true := decide_eq_true c11
     clear c11
     by_cases c12 : x5_1 < (l1.length : Int)
     rotate_left
     · exact absurd H (by rw [if_neg c12]; simp)
     rw [if_pos c12] at H
     have c12b0 : decide (x5_1 < (l1.length : Int)) = true := decide_eq_true c12
     clear c12
     by_cases c13 : x6_2 < ((rd_L5 l1 x5_1).length : Int)
     rotate_left
     · exact absurd H (by rw [if_neg c13]; simp)
     rw [if_pos c13] at H
     have c13b0 : decide (x6_2 < ((rd_L5 l1 x5_1).length : Int)) = true := decide_eq_true c13
     clear c13
     by_cases c14 : (!(((rd_T43 (rd_L5 l0 x5_1) x6_2).f0) == ((rd_T43 (rd_L5 l1 x5_1) x6_2).f0)) || (!(((rd_T43 (rd_L5 l0 x5_1) x6_2).f1) == ((rd_T43 (rd_L5 l1 x5_1) x6_2).f1)) || (!((((rd_T43 (rd_L5 l0 x5_1) x6_2).f2).toList) == (((rd_T43 (rd_L5 l1 x5_1) x6_2).f2).toList))))) = true
     · rw [if_pos c14] at H
       have c14b0 : (!(((rd_T43 (rd_L5 l0 x5_1) x6_2).f0) == ((rd_T43 (rd_L5 l1 x5_1) x6_2).f0)) || (!(((rd_T43 (rd_L5 l0 x5_1) x6_2).f1) == ((rd_T43 (rd_L5 l1 x5_1) x6_2).f1)) || (!((((rd_T43 (rd_L5 l0 x5_1) x6_2).f2).toList) == (((rd_T43 (rd_L5 l1 x5_1) x6_2).f2).toList))))) = true := c14
       clear c14
       obtain rfl := si_ H
       have p481 : 0 ≤ (x5_1 : Int) := od_
       have q481 : x5_1 < (l0.length : Int) := od_
       obtain ⟨ad481, A481_0, c481_0, e481, hx481_0, hl481_0, hi481_0⟩ := at_L5 HR0.out x5_1 p481 q481
       obtain rfl : ad479 = ad481 := (by injection e481)
       have HR481_0 := A_ hi481_0
       have HC481_0 := A_ hl481_0
       clear hi481_0 hl481_0
       replace p481 := eq_true p481
       replace q481 := eq_true q481
       have p482 : 0 ≤ (x5_1 : Int) := od_
       have q482 : x5_1 < (l0.length : Int) := od_
       obtain ⟨ad482, A482_0, c482_0, e482, hx482_0, hl482_0, hi482_0⟩ := at_L5 HR0.out x5_1 p482 q482
       obtain rfl : ad479 = ad482 := (by injection e482)
       have HR482_0 := A_ hi482_0
       have HC482_0 := A_ hl482_0
       clear hi482_0 hl482_0
       replace p482 := eq_true p482
       replace q482 := eq_true q482
       have ea_ := Option.some.inj (hx481_0.symm.trans hx482_0)
       injection ea_ with ea_ en_ ec_
       subst ea_
       subst ec_
       clear en_
       have p483 : 0 ≤ (x6_2 : Int) := od_
       have q483 : x6_2 < ((rd_L5 l0 x5_1).length : Int) := od_
       obtain ⟨ad483, e483, hx483_0, hx483_1, hx483_2⟩ := at_T43 HR482_0.out x6_2 p483 q483
       cases e483
       replace p483 := eq_true p483
       replace q483 := eq_true q483
       have p484 : 0 ≤ (x5_1 : Int) := od_
       have q484 : x5_1 < (l1.length : Int) := od_
       obtain ⟨ad484, A484_0, c484_0, e484, hx484_0, hl484_0, hi484_0⟩ := at_L5 HR1.out x5_1 p484 q484
       obtain rfl : ad480 = ad484 := (by injection e484)
       have HR484_0 := A_ hi484_0
       have HC484_0 := A_ hl484_0
       clear hi484_0 hl484_0
       replace p484 := eq_true p484
       replace q484 := eq_true q484
       have p485 : 0 ≤ (x6_2 : Int) := od_
       have q485 : x6_2 < ((rd_L5 l1 x5_1).length : Int) := od_
       obtain ⟨ad485, e485, hx485_0, hx485_1, hx485_2⟩ := at_T43 HR484_0.out x6_2 p485 q485
       cases e485
       replace p485 := eq_true p485
       replace q485 := eq_true q485
       go_wp2
       repeat (go_quiet (fail); try go_wp2)
       go_ret
       exact ⟨rs_, dr_⟩
     rw [if_neg c14] at H
     have c14b0 : (!(((rd_T43 (rd_L5 l0 x5_1) x6_2).f0) == ((rd_T43 (rd_L5 l1 x5_1) x6_2).f0)) || (!(((rd_T43 (rd_L5 l0 x5_1) x6_2).f1) == ((rd_T43 (rd_L5 l1 x5_1) x6_2).f1)) || (!((((rd_T43 (rd_L5 l0 x5_1) x6_2).f2).toList) == (((rd_T43 (rd_L5 l1 x5_1) x6_2).f2).toList))))) = false := by simpa using c14
     clear c14
     have H' := A_ H
     clear H
     have p481 : 0 ≤ (x5_1 : Int) := od_
     have q481 : x5_1 < (l0.length : Int) := od_
     obtain ⟨ad481, A481_0, c481_0, e481, hx481_0, hl481_0, hi481_0⟩ := at_L5 HR0.out x5_1 p481 q481
     obtain rfl : ad479 = ad481 := (by injection e481)
     have HR481_0 := A_ hi481_0
     have HC481_0 := A_ hl481_0
     clear hi481_0 hl481_0
     replace p481 := eq_true p481
     replace q481 := eq_true q481
     have p482 : 0 ≤ (x5_1 : Int) := od_
     have q482 : x5_1 < (l0.length : Int) := od_
     obtain ⟨ad482, A482_0, c482_0, e482, hx482_0, hl482_0, hi482_0⟩ := at_L5 HR0.out x5_1 p482 q482
     obtain rfl : ad479 = ad482 := (by injection e482)
     have HR482_0 := A_ hi482_0
     have HC482_0 := A_ hl482_0
     clear hi482_0 hl482_0
     replace p482 := eq_true p482
     replace q482 := eq_true q482
     have ea_ := Option.some.inj (hx481_0.symm.trans hx482_0)
     injection ea_ with ea_ en_ ec_
     subst ea_
     subst ec_
     clear en_
     have p483 : 0 ≤ (x6_2 : Int) := od_
     have q483 : x6_2 < ((rd_L5 l0 x5_1).length : Int) := od_
     obtain ⟨ad483, e483, hx483_0, hx483_1, hx483_2⟩ := at_T43 HR482_0.out x6_2 p483 q483
     cases e483
     replace p483 := eq_true p483
     replace q483 := eq_true q483
     have p484 : 0 ≤ (x5_1 : Int) := od_
     have q484 : x5_1 < (l1.length : Int) := od_
     obtain ⟨ad484, A484_0, c484_0, e484, hx484_0, hl484_0, hi484_0⟩ := at_L5 HR1.out x5_1 p484 q484
     obtain rfl : ad480 = ad484 := (by injection e484)
     have HR484_0 := A_ hi484_0
     have HC484_0 := A_ hl484_0
     clear hi484_0 hl484_0
     replace p484 := eq_true p484
     replace q484 := eq_true q484
     have p485 : 0 ≤ (x6_2 : Int) := od_
     have q485 : x6_2 < ((rd_L5 l1 x5_1).length : Int) := od_
     obtain ⟨ad485, e485, hx485_0, hx485_1, hx485_2⟩ := at_T43 HR484_0.out x6_2 p485 q485
     cases e485
     replace p485 := eq_true p485
     replace q485 := eq_true q485
     go_wp2
     repeat (go_quiet (fail); try go_wp2)
     go_roundg k2
     case measure => have := HK1.out; have := HK2.out; omega
     case rel => exact ⟨(wrap64 (x6_2 + 1)), rs_, H', ⟨by have := HK1.out; have := HK2.out; omega⟩, dr_⟩
set_option maxHeartbeats 8000000
set_option maxRecDepth 100000
def impl_hasInt.l0 : Nat → Int → List Int → Int → Int → Option (Bool)
 | 0, _, _, _, _ => none
 | k + 1, x1, x7, x8, x9 => if x9 < x8 then (if 0 ≤ x9 then (if x9 < (x7.length : Int) then (if (rd x7 x9) = x1 then (some true) else (impl_hasInt.l0 k x1 x7 x8 (wrap64 (x9 + 1)))) else (none)) else (none)) else (some false)
def impl_hasInt.f (k : Nat) (l0 : List Int) (a1 : Int) : Option (Bool) := impl_hasInt.l0 k a1 l0 (l0.length : Int) 0
theorem impl_hasInt.calls (k : Nat) (A0 : Option Addr) (c0 : Nat) (l0 : List Int) (a1 : Int) (r : Bool) (w : World) (hr0 : Kd.C (Kd.int .i64) w A0 l0.length l0) (hc0 : l0.length ≤ c0) (h : impl_hasInt.f k l0 a1 = some r) :
 Calls Tryz.prog 34 #[.slice A0 l0.length c0, .int .i64 a1] w fun e w' => e = .returned (.bool r) ∧ Drawn0 w w' := by
 have HR0 := A_ hr0
 have HC0 := A_ hc0
 clear hr0 hc0
 have H : (impl_hasInt.l0 k a1 l0 (l0.length : Int) 0) = some r := h
 clear h
 have H' := A_ H
 clear H
 go_enter Tryz.func34, Tryz.ntmps34
 go_wp2
 go_loopg [9] k (fun kq v9 w' => ∃ (x9_1 : Int), v9 = .int .i64 x9_1 ∧ Aside0 (impl_hasInt.l0 kq a1 l0 (l0.length : Int) x9_1 = some r) ∧ Aside0 (kq ≤ k) ∧ Drawn0 w w')
 case atStart => exact ⟨(0), rs_, H', ⟨Nat.le_refl _⟩, dr_⟩
 case round =>
  clear H'
  try clear p2
  obtain ⟨x9_1, rfl, HA, HK1, ⟨m1, rfl⟩⟩ := hrel
  cases gk with
  | zero => exact absurd HA.out (by simp [impl_hasInt.l0])
  | succ k1 =>
   have H := HA.out
   clear HA
   simp only [impl_hasInt.l0] at H
   by_cases c3 : x9_1 < (l0.length : Int)
   rotate_left
   · rw [if_neg c3] at H
     have c3b0 : decide (x9_1 < (l0.length : Int)) = false := decide_eq_false c3
     clear c3
     obtain rfl := si_ H
     go_wp2
     go_ret
     exact ⟨rs_, dr_⟩
   rw [if_pos c3] at H
   have c3b0 : decide (x9_1 < (l0.length : Int)) = true := decide_eq_true c3
   clear c3
   by_cases c4 : 0 ≤ x9_1
   rotate_left
   · exact absurd H (by rw [if_neg c4]; simp)
   rw [if_pos c4] at H
   have c4b0 : decide (0 ≤ x9_1) = true := decide_eq_true c4
   clear c4
   by_cases c5 : x9_1 < (l0.length : Int)
   rotate_left
   · exact absurd H (by rw [if_neg c5]; simp)
   rw [if_pos c5] at H
   have c5b0 : decide (x9_1 < (l0.length : Int)) = true := decide_eq_true c5
   clear c5
   by_cases c6 : (rd l0 x9_1) = a1
   · rw [if_pos c6] at H
     have c6b0 : ((rd l0 x9_1) == a1) = true := beq_iff_eq.mpr c6
     have c6b1 : ((rd l0 x9_1) != a1) = false := bne_eq_false_iff_eq.mpr c6
     clear c6
     obtain rfl := si_ H
     have p486 : 0 ≤ (x9_1 : Int) := od_
     have q486 : x9_1 < (l0.length : Int) := od_
     obtain ⟨ad486, e486, hx486_0⟩ := Kd.at_int HR0.out x9_1 p486 q486
     cases e486
     replace p486 := eq_true p486
     replace q486 := eq_true q486
     go_wp2
     go_ret
     exact ⟨rs_, dr_⟩
   rw [if_neg c6] at H
   have c6b0 : ((rd l0 x9_1) == a1) = false := beq_eq_false_iff_ne.mpr c6
   have c6b1 : ((rd l0 x9_1) != a1) = true := bne_iff_ne.mpr c6
   have H' := A_ H
   clear H
   have p486 : 0 ≤ (x9_1 : Int) := od_
   have q486 : x9_1 < (l0.length : Int) := od_
   obtain ⟨ad486, e486, hx486_0⟩ := Kd.at_int HR0.out x9_1 p486 q486
   cases e486
   replace p486 := eq_true p486
   replace q486 := eq_true q486
   go_wp2
   go_roundg k1
   case measure => have := HK1.out; omega
   case rel => exact ⟨(wrap64 (x9_1 + 1)), rs_, H', ⟨by have := HK1.out; omega⟩, dr_⟩
mutual
def impl_EvalIf.l0 : Nat → List Int → ByteArray → List (List (S43)) → Int → Int → Option (Bool)
 | 0, _, _, _, _, _ => none
 | k + 1, x1, x2, x13, x14, x15 => if x15 < x14 then (if 0 ≤ x15 then (if x15 < (x13.length : Int) then (impl_EvalIf.l1 k x1 x2 true x13 x14 x15 (rd_L5 x13 x15) ((rd_L5 x13 x15).length : Int) 0) else (none)) else (none)) else (some false)
def impl_EvalIf.l1 : Nat → List Int → ByteArray → Bool → List (List (S43)) → Int → Int → List (S43) → Int → Int → Option (Bool)
 | 0, _, _, _, _, _, _, _, _, _ => none
 | k + 1, x1, x2, x9, x13, x14, x15, x19, x20, x21 => if x21 < x20 then (if 0 ≤ x21 then (if x21 < (x19.length : Int) then (if ((rd_T43 x19 x21).f1) = 0 then (if x9 = true then (impl_EvalIf.l1 k x1 x2 ((((rd_T43 x19 x21).f2).toList == x2.toList) != ((rd_T43 x19 x21).f0)) x13 x14 x15 x19 x20 (wrap64 (x21 + 1))) else (impl_EvalIf.l1 k x1 x2 false x13 x14 x15 x19 x20 (wrap64 (x21 + 1)))) else ((impl_hasInt.f k x1 ((rd_T43 x19 x21).f1)).bind fun t490 => (if x9 = true then (impl_EvalIf.l1 k x1 x2 (t490 != ((rd_T43 x19 x21).f0)) x13 x14 x15 x19 x20 (wrap64 (x21 + 1))) else (impl_EvalIf.l1 k x1 x2 false x13 x14 x15 x19 x20 (wrap64 (x21 + 1)))))) else (none)) else (none)) else (if x9 = true then (some true) else (impl_EvalIf.l0 k x1 x2 x13 x14 (wrap64 (x15 + 1))))
end
def impl_EvalIf.f (k : Nat) (l0 : List (List (S43))) (l1 : List Int) (a2 : ByteArray) : Option (Bool) := impl_EvalIf.l0 k l1 a2 l0 (l0.length : Int) 0
theorem impl_EvalIf.calls (k : Nat) (A0 : Option Addr) (c0 : Nat) (l0 : List (List (S43))) (A1 : Option Addr) (c1 : Nat) (l1 : List Int) (a2 : ByteArray) (r : Bool) (w : World) (hr0 : Kd.C (Kd.slice 43 k43) w A0 l0.length l0) (hc0 : l0.length ≤ c0) (hr1 : Kd.C (Kd.int .i64) w A1 l1.length l1) (hc1 : l1.length ≤ c1) (h : impl_EvalIf.f k l0 l1 a2 = some r) :
 Calls Tryz.prog 14 #[.slice A0 l0.length c0, .slice A1 l1.length c1, .string a2] w fun e w' => e = .returned (.bool r) ∧ Below w.heap.size w w' := by
 have hu43 := Tryz.underlying43
 have HR0 := A_ hr0
 have HC0 := A_ hc0
 clear hr0 hc0
 have HR1 := A_ hr1
 have HC1 := A_ hc1
 clear hr1 hc1
 have HB := A_ (Below.refl w.heap.size w)
 have H : (impl_EvalIf.l0 k l1 a2 l0 (l0.length : Int) 0) = some r := h
 clear h
 have H' := A_ H
 clear H
 go_enter Tryz.func14, Tryz.ntmps14
 go_wp2
 go_loopg [15] k (fun kq v15 w' => ∃ (x15_1 : Int), v15 = .int .i64 x15_1 ∧ Aside0 (impl_EvalIf.l0 kq l1 a2 l0 (l0.length : Int) x15_1 = some r) ∧ Aside0 (kq ≤ k) ∧ Aside0 (Below w.heap.size w w'))
 case atStart => exact ⟨(0), rs_, H', ⟨Nat.le_refl _⟩, ⟨bB_⟩⟩
 case round =>
  clear H'
  try clear c1
  try clear p2
  obtain ⟨x15_1, rfl, HA, HK1, HB⟩ := hrel
  cases gk with
  | zero => exact absurd HA.out (by simp [impl_EvalIf.l0])
  | succ k1 =>
   have H := HA.out
   clear HA
   simp only [impl_EvalIf.l0] at H
   by_cases c4 : x15_1 < (l0.length : Int)
   rotate_left
   · rw [if_neg c4] at H
     have c4b0 : decide (x15_1 < (l0.length : Int)) = false := decide_eq_false c4
     clear c4
     obtain rfl := si_ H
     go_wp2
     go_ret
     exact ⟨rr_, bB_⟩
   rw [if_pos c4] at H
   have c4b0 : decide (x15_1 < (l0.length : Int)) = true := decide_eq_true c4
   clear c4
   by_cases c5 : 0 ≤ x15_1
   rotate_left
   · exact absurd H (by rw [if_neg c5]; simp)
   rw [if_pos c5] at H
   have c5b0 : decide (0 ≤ x15_1) = true := decide_eq_true c5
   clear c5
   by_cases c6 : x15_1 < (l0.length : Int)
   rotate_left
   · exact absurd H (by rw [if_neg c6]; simp)
   rw [if_pos c6] at H
   have c6b0 : decide (x15_1 < (l0.length : Int)) = true := decide_eq_true c6
   clear c6
   have H' := A_ H
   clear H
   have p487 : 0 ≤ (x15_1 : Int) := od_
   have q487 : x15_1 < (l0.length : Int) := od_
   obtain ⟨ad487, A487_0, c487_0, e487, hx487_0, hl487_0, hi487_0⟩ := at_L5 HR0.out x15_1 p487 q487
   cases e487
   replace hx487_0 := bc_ HB.out hx487_0
   have HR487_0 := A_ hi487_0
   have HC487_0 := A_ hl487_0
   clear hi487_0 hl487_0
   replace p487 := eq_true p487
   replace q487 := eq_true q487
   go_wp2
   go_loopg [9, 21] k1 (fun kq v9 v21 w' => ∃ (x9_2 : Bool) (x21_2 : Int), v9 = .bool x9_2 ∧ v21 = .int .i64 x21_2 ∧ Aside0 (impl_EvalIf.l1 kq l1 a2 x9_2 l0 (l0.length : Int) x15_1 (rd_L5 l0 x15_1) ((rd_L5 l0 x15_1).length : Int) x21_2 = some r) ∧ Aside0 (kq ≤ k1) ∧ Aside0 (Below w.heap.size w w'))
   case atStart => exact ⟨(true), (0), rs_, rs_, H', ⟨Nat.le_refl _⟩, ⟨bB_⟩⟩
   case round =>
    clear H'
    try clear c1
    try clear p2
    try clear c4
    try clear c4b0
    try clear p4
    try clear q4
    try clear hx4
    try clear c5
    try clear c5b0
    try clear c6
    try clear c6b0
    try clear hx487_0
    try clear p2
    try clear p487
    try clear q487
    obtain ⟨x9_2, x21_2, rfl, rfl, HA, HK2, HB⟩ := hrel
    cases gk with
    | zero => exact absurd HA.out (by simp [impl_EvalIf.l1])
    | succ k2 =>
     have H := HA.out
     clear HA
     simp only [impl_EvalIf.l1] at H
     by_cases c7 : x21_2 < ((rd_L5 l0 x15_1).length : Int)
     rotate_left
     · rw [if_neg c7] at H
       have c7b0 : decide (x21_2 < ((rd_L5 l0 x15_1).length : Int)) = false := decide_eq_false c7
       clear c7
       by_cases c22 : x9_2 = true
       · subst c22
         rw [if_pos rfl] at H
         obtain rfl := si_ H
         go_wp2
         go_ret
         exact ⟨rr_, bB_⟩
       · replace c22 := Bool.eq_false_iff.mpr c22
         subst c22
         rw [if_neg nf_] at H
         have H' := A_ H
         clear H
         go_wp2
         go_roundg k2
         case measure => have := HK1.out; have := HK2.out; omega
         case rel => exact ⟨(wrap64 (x15_1 + 1)), rs_, H', ⟨by have := HK1.out; have := HK2.out; omega⟩, ⟨bB_⟩⟩
     rw [if_pos c7] at H
     have c7b0 : decide (x21_2 < ((rd_L5 l0 x15_1).length : Int)) = true := decide_eq_true c7
     clear c7
     by_cases c8 : 0 ≤ x21_2
     rotate_left
     · exact absurd H (by rw [if_neg c8]; simp)
     rw [if_pos c8] at H
     have c8b0 : decide (0 ≤ x21_2) = true := decide_eq_true c8
     clear c8
     by_cases c9 : x21_2 < ((rd_L5 l0 x15_1).length : Int)
     rotate_left
     · exact absurd H (by rw [if_neg c9]; simp)
     rw [if_pos c9] at H
     have c9b0 : decide (x21_2 < ((rd_L5 l0 x15_1).length : Int)) = true := decide_eq_true c9
     clear c9
     by_cases c10 : ((rd_T43 (rd_L5 l0 x15_1) x21_2).f1) = 0
     · rw [if_pos c10] at H
       have c10b0 : (((rd_T43 (rd_L5 l0 x15_1) x21_2).f1) == 0) = true := beq_iff_eq.mpr c10
       have c10b1 : (((rd_T43 (rd_L5 l0 x15_1) x21_2).f1) != 0) = false := bne_eq_false_iff_eq.mpr c10
       clear c10
       by_cases c11 : x9_2 = true
       · subst c11
         rw [if_pos rfl] at H
         have H' := A_ H
         clear H
         have p488 : 0 ≤ (x21_2 : Int) := od_
         have q488 : x21_2 < ((rd_L5 l0 x15_1).length : Int) := od_
         obtain ⟨ad488, e488, hx488_0, hx488_1, hx488_2⟩ := at_T43 HR487_0.out x21_2 p488 q488
         cases e488
         replace hx488_0 := bc_ HB.out hx488_0
         replace hx488_1 := bc_ HB.out hx488_1
         replace hx488_2 := bc_ HB.out hx488_2
         replace p488 := eq_true p488
         replace q488 := eq_true q488
         go_wp2_with (first | ((with_reducible refine gd_ (N := 11) rfl ?_); refine bx_ (N := 11) (cs := #[.bool false, .int .i64 0, .string (⟨#[]⟩ : ByteArray)]) (t := 43) ?_; intro gb489 hg w12 hbox hb; have BK489 := A_ (hbox); have GW489 := A_ (ge_ hg bB_ : w.heap.size ≤ gb489); have GE489 := A_ (ge_ hg bB_ : w.heap.size ≤ gb489); replace HB := A_ (below_step bB_ hb); clear hb hbox hg; obtain ⟨hcz13_0, hcz13_1, hcz13_2, hfz13_0, hfz13_1, hfz13_2⟩ := cz3_ BK489.out))
         go_roundg k2
         case measure => have := HK1.out; have := HK2.out; omega
         case rel => exact ⟨(((((rd_T43 (rd_L5 l0 x15_1) x21_2).f2).toList == a2.toList) != ((rd_T43 (rd_L5 l0 x15_1) x21_2).f0))), (wrap64 (x21_2 + 1)), rs_, rs_, H', ⟨by have := HK1.out; have := HK2.out; omega⟩, ⟨bG_ GE489.out⟩⟩
       · replace c11 := Bool.eq_false_iff.mpr c11
         subst c11
         rw [if_neg nf_] at H
         have H' := A_ H
         clear H
         have p488 : 0 ≤ (x21_2 : Int) := od_
         have q488 : x21_2 < ((rd_L5 l0 x15_1).length : Int) := od_
         obtain ⟨ad488, e488, hx488_0, hx488_1, hx488_2⟩ := at_T43 HR487_0.out x21_2 p488 q488
         cases e488
         replace hx488_0 := bc_ HB.out hx488_0
         replace hx488_1 := bc_ HB.out hx488_1
         replace hx488_2 := bc_ HB.out hx488_2
         replace p488 := eq_true p488
         replace q488 := eq_true q488
         go_wp2_with (first | ((with_reducible refine gd_ (N := 11) rfl ?_); refine bx_ (N := 11) (cs := #[.bool false, .int .i64 0, .string (⟨#[]⟩ : ByteArray)]) (t := 43) ?_; intro gb489 hg w14 hbox hb; have BK489 := A_ (hbox); have GW489 := A_ (ge_ hg bB_ : w.heap.size ≤ gb489); have GE489 := A_ (ge_ hg bB_ : w.heap.size ≤ gb489); replace HB := A_ (below_step bB_ hb); clear hb hbox hg; obtain ⟨hcz15_0, hcz15_1, hcz15_2, hfz15_0, hfz15_1, hfz15_2⟩ := cz3_ BK489.out))
         go_roundg k2
         case measure => have := HK1.out; have := HK2.out; omega
         case rel => exact ⟨(false), (wrap64 (x21_2 + 1)), rs_, rs_, H', ⟨by have := HK1.out; have := HK2.out; omega⟩, ⟨bG_ GE489.out⟩⟩
     rw [if_neg c10] at H
     have c10b0 : (((rd_T43 (rd_L5 l0 x15_1) x21_2).f1) == 0) = false := beq_eq_false_iff_ne.mpr c10
     have c10b1 : (((rd_T43 (rd_L5 l0 x15_1) x21_2).f1) != 0) = true := bne_iff_ne.mpr c10
     obtain ⟨t490, A16, H⟩ := bo_ H
     (try dsimp only at H)
     by_cases c17 : x9_2 = true
     · subst c17
       rw [if_pos rfl] at H
       have H' := A_ H
       clear H
       have p488 : 0 ≤ (x21_2 : Int) := od_
       have q488 : x21_2 < ((rd_L5 l0 x15_1).length : Int) := od_
       obtain ⟨ad488, e488, hx488_0, hx488_1, hx488_2⟩ := at_T43 HR487_0.out x21_2 p488 q488
       cases e488
       replace hx488_0 := bc_ HB.out hx488_0
       replace hx488_1 := bc_ HB.out hx488_1
       replace hx488_2 := bc_ HB.out hx488_2
       replace p488 := eq_true p488
       replace q488 := eq_true q488
       go_wp2_with (first | ((with_reducible refine gd_ (N := 11) rfl ?_); refine bx_ (N := 11) (cs := #[.bool false, .int .i64 0, .string (⟨#[]⟩ : ByteArray)]) (t := 43) ?_; intro gb489 hg w18 hbox hb; have BK489 := A_ (hbox); have GW489 := A_ (ge_ hg bB_ : w.heap.size ≤ gb489); have GE489 := A_ (ge_ hg bB_ : w.heap.size ≤ gb489); replace HB := A_ (below_step bB_ hb); clear hb hbox hg; obtain ⟨hcz19_0, hcz19_1, hcz19_2, hfz19_0, hfz19_1, hfz19_2⟩ := cz3_ BK489.out) | ((with_reducible refine gc_ (f := 34) rfl ?_); refine gL_ (some 35) Tryz.func34 #[.slice A1 l1.length c1, .int .i64 ((rd_T43 (rd_L5 l0 x15_1) x21_2).f1)] ?_; (with_reducible refine (impl_hasInt.calls k2 _ _ l1 ((rd_T43 (rd_L5 l0 x15_1) x21_2).f1) t490 _ ?s1 ?s2 A16.out).mono ?_); (case s1 => exact Kd.C_below HR1.out (bG_ GE489.out)); (case s2 => exact HC1.out); rintro e w' ⟨rfl, ⟨nd, rfl⟩⟩; refine ⟨_, rfl, ?_⟩))
       go_roundg k2
       case measure => have := HK1.out; have := HK2.out; omega
       case rel => exact ⟨((t490 != ((rd_T43 (rd_L5 l0 x15_1) x21_2).f0))), (wrap64 (x21_2 + 1)), rs_, rs_, H', ⟨by have := HK1.out; have := HK2.out; omega⟩, ⟨bG_ GE489.out⟩⟩
     · replace c17 := Bool.eq_false_iff.mpr c17
       subst c17
       rw [if_neg nf_] at H
       have H' := A_ H
       clear H
       have p488 : 0 ≤ (x21_2 : Int) := od_
       have q488 : x21_2 < ((rd_L5 l0 x15_1).length : Int) := od_
       obtain ⟨ad488, e488, hx488_0, hx488_1, hx488_2⟩ := at_T43 HR487_0.out x21_2 p488 q488
       cases e488
       replace hx488_0 := bc_ HB.out hx488_0
       replace hx488_1 := bc_ HB.out hx488_1
       replace hx488_2 := bc_ HB.out hx488_2
       replace p488 := eq_true p488
       replace q488 := eq_true q488
       go_wp2_with (first | ((with_reducible refine gd_ (N := 11) rfl ?_); refine bx_ (N := 11) (cs := #[.bool false, .int .i64 0, .string (⟨#[]⟩ : ByteArray)]) (t := 43) ?_; intro gb489 hg w20 hbox hb; have BK489 := A_ (hbox); have GW489 := A_ (ge_ hg bB_ : w.heap.size ≤ gb489); have GE489 := A_ (ge_ hg bB_ : w.heap.size ≤ gb489); replace HB := A_ (below_step bB_ hb); clear hb hbox hg; obtain ⟨hcz21_0, hcz21_1, hcz21_2, hfz21_0, hfz21_1, hfz21_2⟩ := cz3_ BK489.out) | ((with_reducible refine gc_ (f := 34) rfl ?_); refine gL_ (some 35) Tryz.func34 #[.slice A1 l1.length c1, .int .i64 ((rd_T43 (rd_L5 l0 x15_1) x21_2).f1)] ?_; (with_reducible refine (impl_hasInt.calls k2 _ _ l1 ((rd_T43 (rd_L5 l0 x15_1) x21_2).f1) t490 _ ?s1 ?s2 A16.out).mono ?_); (case s1 => exact Kd.C_below HR1.out (bG_ GE489.out)); (case s2 => exact HC1.out); rintro e w' ⟨rfl, ⟨nd, rfl⟩⟩; refine ⟨_, rfl, ?_⟩))
       go_roundg k2
       case measure => have := HK1.out; have := HK2.out; omega
       case rel => exact ⟨(false), (wrap64 (x21_2 + 1)), rs_, rs_, H', ⟨by have := HK1.out; have := HK2.out; omega⟩, ⟨bG_ GE489.out⟩⟩
def spec_l13Has.l0 : Nat → List Int → Int → Int → Option (Bool)
 | 0, _, _, _ => none
 | k + 1, x0, x1, x5 => if x5 < (x0.length : Int) then (if 0 ≤ x5 then (if (rd x0 x5) = x1 then (some true) else (spec_l13Has.l0 k x0 x1 (wrap64 (x5 + 1)))) else (none)) else (some false)
def spec_l13Has.f (k : Nat) (l0 : List Int) (a1 : Int) : Option (Bool) := spec_l13Has.l0 k l0 a1 0
theorem spec_l13Has.calls (k : Nat) (A0 : Option Addr) (c0 : Nat) (l0 : List Int) (a1 : Int) (r : Bool) (w : World) (hr0 : Kd.C (Kd.int .i64) w A0 l0.length l0) (hc0 : l0.length ≤ c0) (h : spec_l13Has.f k l0 a1 = some r) :
 Calls Tryz.prog 35 #[.slice A0 l0.length c0, .int .i64 a1] w fun e w' => e = .returned (.bool r) ∧ Drawn0 w w' := by
 have HR0 := A_ hr0
 have HC0 := A_ hc0
 clear hr0 hc0
 have H : (spec_l13Has.l0 k l0 a1 0) = some r := h
 clear h
 have H' := A_ H
 clear H
 go_enter Tryz.func35, Tryz.ntmps35
 go_wp2
 go_loopg [5] k (fun kq v5 w' => ∃ (x5_1 : Int), v5 = .int .i64 x5_1 ∧ Aside0 (spec_l13Has.l0 kq l0 a1 x5_1 = some r) ∧ Aside0 (kq ≤ k) ∧ Drawn0 w w')
 case atStart => exact ⟨(0), rs_, H', ⟨Nat.le_refl _⟩, dr_⟩
 case round =>
  clear H'
  try clear p2
  obtain ⟨x5_1, rfl, HA, HK1, ⟨m1, rfl⟩⟩ := hrel
  cases gk with
  | zero => exact absurd HA.out (by simp [spec_l13Has.l0])
  | succ k1 =>
   have H := HA.out
   clear HA
   simp only [spec_l13Has.l0] at H
   by_cases c3 : x5_1 < (l0.length : Int)
   rotate_left
   · rw [if_neg c3] at H
     have c3b0 : decide (x5_1 < (l0.length : Int)) = false := decide_eq_false c3
     clear c3
     obtain rfl := si_ H
     go_wp2
     go_ret
     exact ⟨rs_, dr_⟩
   rw [if_pos c3] at H
   have c3b0 : decide (x5_1 < (l0.length : Int)) = true := decide_eq_true c3
   clear c3
   by_cases c4 : 0 ≤ x5_1
   rotate_left
   · exact absurd H (by rw [if_neg c4]; simp)
   rw [if_pos c4] at H
   have c4b0 : decide (0 ≤ x5_1) = true := decide_eq_true c4
   clear c4
   by_cases c5 : (rd l0 x5_1) = a1
   · rw [if_pos c5] at H
     have c5b0 : ((rd l0 x5_1) == a1) = true := beq_iff_eq.mpr c5
     have c5b1 : ((rd l0 x5_1) != a1) = false := bne_eq_false_iff_eq.mpr c5
     clear c5
     obtain rfl := si_ H
     have p491 : 0 ≤ (x5_1 : Int) := od_
     have q491 : x5_1 < (l0.length : Int) := od_
     obtain ⟨ad491, e491, hx491_0⟩ := Kd.at_int HR0.out x5_1 p491 q491
     cases e491
     replace p491 := eq_true p491
     replace q491 := eq_true q491
     go_wp2
     go_ret
     exact ⟨rs_, dr_⟩
   rw [if_neg c5] at H
   have c5b0 : ((rd l0 x5_1) == a1) = false := beq_eq_false_iff_ne.mpr c5
   have c5b1 : ((rd l0 x5_1) != a1) = true := bne_iff_ne.mpr c5
   have H' := A_ H
   clear H
   have p491 : 0 ≤ (x5_1 : Int) := od_
   have q491 : x5_1 < (l0.length : Int) := od_
   obtain ⟨ad491, e491, hx491_0⟩ := Kd.at_int HR0.out x5_1 p491 q491
   cases e491
   replace p491 := eq_true p491
   replace q491 := eq_true q491
   go_wp2
   go_roundg k1
   case measure => have := HK1.out; omega
   case rel => exact ⟨(wrap64 (x5_1 + 1)), rs_, H', ⟨by have := HK1.out; omega⟩, dr_⟩
end Go.Proofs.YtigoeooelfeopaaGreatDoor.Q
