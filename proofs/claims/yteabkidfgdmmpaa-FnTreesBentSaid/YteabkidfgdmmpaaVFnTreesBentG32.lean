-- PRINTED by print.py (a twelfth state) out of the translation. Not trusted: Lean checks it.
import Derived.Test.YteabkidfgdmmpaaVFnTreesBentG31
set_option maxHeartbeats 8000000
set_option maxRecDepth 100000
namespace Go.Proofs.Yteabkidfgdmmpaa.Q
open Go.RowKit Go.Proofs.YteabkidfgdmmpaaW.PrintWords Go.Proofs.YteabkidfgdmmpaaW.PrintLast Go.Proofs.YteabkidfgdmmpaaW.PrintMore
attribute [local go_sem] max2_int min2_int max_two min_two max_three min_three max_four min_four   -- for this text's walks alone
set_option linter.unusedVariables false
set_option linter.unusedSimpArgs false
theorem bIQx291_ {P : Prop} (h : P := by repeat (first | (with_reducible first | exact HI0.out | apply IsS94.alloc | apply IsS94.drewN | apply IsS94.drew | apply IsS94.set_1 | apply IsS94.set_2) | exact HI0.out)) : P := h
theorem bIQx292_ {P : Prop} (h : P := by repeat (first | (with_reducible first | exact HB.out | apply below_alloc | apply pw_below_drewN | apply below_drew1 | refine below_set ?_ (IsS94.ge HI0.out)) | exact HB.out)) : P := h
def spec_l10Any.l0 : Nat → List (S59) → Int → List Int → Int → Int → Option ((List (S59)) × Int × Int)
 | 0, _, _, _, _, _ => none
 | k + 1, x3, x5, x1000, x1001, x1002 => if x5 < 12 then ((spec_NumText.f k (wrap64 (10 + x5))).bind fun t1067 => (if 1 + t1067.size ≤ 9223372036854775807 then (if x3.length < 1759218604441 then (spec_l10Any.l0 k (x3 ++ [(⟨(([(⟨#[122]⟩ : ByteArray) ++ t1067] : List ByteArray)), false, (⟨#[]⟩ : ByteArray), 0, ([] : List (S71))⟩ : S59)]) (wrap64 (x5 + 1)) x1000 x1001 x1002) else (none)) else (none))) else (some (x3, x1001, x1002))
def spec_l10Any.f (k : Nat) (s0_0 : List Int) (s0_1 : Int) (s0_2 : Int) : Option ((List (S59)) × Int × Int) := (spec_l10Draw.f k s0_0 s0_1 s0_2).bind fun bt1024 => (if (bt1024.1.length : Int) = 0 then (some (bt1024.1, bt1024.2.1, bt1024.2.2)) else ((spec_l1Below.f s0_0 bt1024.2.1 bt1024.2.2 (bt1024.1.length : Int)).bind fun bt1029 => ((spec_l1Below.f s0_0 bt1029.2.1 bt1029.2.2 14).bind fun bt1032 => (if bt1032.1 = 0 then ((spec_l2Any.f k s0_0 bt1032.2.1 bt1032.2.2).bind fun bt1035 => (if 0 ≤ bt1029.1 then (if bt1029.1 < (bt1024.1.length : Int) then (some ((bt1024.1.set (bt1029.1 : Int).toNat (⟨bt1035.1, (rd_T59 bt1024.1 bt1029.1).f1, (rd_T59 bt1024.1 bt1029.1).f2, (rd_T59 bt1024.1 bt1029.1).f3, (rd_T59 bt1024.1 bt1029.1).f4⟩ : S59)), bt1035.2.1, bt1035.2.2)) else (none)) else (none))) else (if bt1032.1 = 1 then (if 0 ≤ bt1029.1 then (if bt1029.1 < (bt1024.1.length : Int) then (some ((bt1024.1.set (bt1029.1 : Int).toNat (⟨(rd_T59 bt1024.1 bt1029.1).f0, !((rd_T59 bt1024.1 bt1029.1).f1), (rd_T59 bt1024.1 bt1029.1).f2, (rd_T59 bt1024.1 bt1029.1).f3, (rd_T59 bt1024.1 bt1029.1).f4⟩ : S59)), bt1032.2.1, bt1032.2.2)) else (none)) else (none)) else (if bt1032.1 = 2 then ((spec_l1Below.f s0_0 bt1032.2.1 bt1032.2.2 2).bind fun bt1043 => (if 0 ≤ (wrap64 (200 + bt1043.1)) then (if (wrap64 (200 + bt1043.1) : Int).toNat ≤ 281474976710656 then (if 0 ≤ bt1029.1 then (if bt1029.1 < (bt1024.1.length : Int) then (some ((bt1024.1.set (bt1029.1 : Int).toNat (⟨(rd_T59 bt1024.1 bt1029.1).f0, (rd_T59 bt1024.1 bt1029.1).f1, strOfNums (List.replicate (wrap64 (200 + bt1043.1) : Int).toNat 0), (rd_T59 bt1024.1 bt1029.1).f3, (rd_T59 bt1024.1 bt1029.1).f4⟩ : S59)), bt1043.2.1, bt1043.2.2)) else (none)) else (none)) else (none)) else (none))) else (if bt1032.1 = 3 then ((spec_l1Int.f s0_0 bt1032.2.1 bt1032.2.2 (([(-1), 99999, 100000] : List Int))).bind fun bt1053 => (if 0 ≤ bt1029.1 then (if bt1029.1 < (bt1024.1.length : Int) then (some ((bt1024.1.set (bt1029.1 : Int).toNat (⟨(rd_T59 bt1024.1 bt1029.1).f0, (rd_T59 bt1024.1 bt1029.1).f1, (rd_T59 bt1024.1 bt1029.1).f2, bt1053.1, (rd_T59 bt1024.1 bt1029.1).f4⟩ : S59)), bt1053.2.1, bt1053.2.2)) else (none)) else (none))) else (if bt1032.1 = 4 then (if 0 ≤ bt1029.1 then (if bt1029.1 < (bt1024.1.length : Int) then ((spec_l10OneProp.f s0_0 bt1032.2.1 bt1032.2.2).bind fun bt1058 => (if ((rd_T59 bt1024.1 bt1029.1).f4).length < 2932031007402 then (some ((bt1024.1.set (bt1029.1 : Int).toNat (⟨(rd_T59 bt1024.1 bt1029.1).f0, (rd_T59 bt1024.1 bt1029.1).f1, (rd_T59 bt1024.1 bt1029.1).f2, (rd_T59 bt1024.1 bt1029.1).f3, (((rd_T59 bt1024.1 bt1029.1).f4) ++ [(⟨bt1058.1, bt1058.2.1, bt1058.2.2.1⟩ : S71)])⟩ : S59)), bt1058.2.2.2.1, bt1058.2.2.2.2)) else (none))) else (none)) else (none)) else (if bt1032.1 = 5 then (spec_l10Any.l0 k bt1024.1 0 s0_0 bt1032.2.1 bt1032.2.2) else (some (bt1024.1, bt1032.2.1, bt1032.2.2)))))))))))
def spec_l10Any.T15 : Bool × List (List Nat × List Nat) := (true, [([], []), ([], []), ([], []), ([], []), ([2, 3], [2, 3]), ([4], [4]), ([5], [5]), ([], []), ([7], [7]), ([8], [8]), ([6, 9, 8], [6, 9]), ([0, 1, 0, 1, 2, 3, 4, 5, 6, 7, 8, 9, 10], [0, 1]), ([11, 0, 1, 2, 3, 4, 5, 6, 7, 8, 9, 10], [11]), ([12, 10, 10, 0, 1, 2, 3, 4, 5, 6, 7, 8, 9, 10], [10, 12])])
def spec_l10Any.B15 : List Nat := [0, 0, 0, 0, 12, 28, 60, 0, 128, 384, 1020, 2047, 4095, 8191]
theorem spec_l10Any.tab15 : rtab .any (opsOf Try.f88 15) = spec_l10Any.T15 := by kernel_rfl
theorem spec_l10Any.bits15 : waitsOk spec_l10Any.T15.2 spec_l10Any.B15 = true := by kernel_rfl
theorem spec_l10Any.calls (k : Nat) (g : Nat) (s0_0 : List Int) (s0_1 : Int) (s0_2 : Int) (r1 : List (S59)) (r2 : Int) (r3 : Int) (w0 w : World) (hI : IsS94 w0 w g s0_0 s0_1 s0_2) (hB : Below w0.heap.size w0 w) (h : spec_l10Any.f k s0_0 s0_1 s0_2 = some (r1, r2, r3)) :
 Calls Try.prog 88 #[.pointer (some ⟨g, 0, none⟩)] w fun e w' => ∃ v0_ : Value, e = .returned (v0_) ∧ Kd.S k59 59 w' w.heap.size (fun _ => True) v0_ r1 ∧ IsS94 w0 w' g s0_0 r2 r3 ∧ Below w0.heap.size w0 w' ∧ KeepBut w w' g none := by
 have hu59 := Try.underlying59
 have HI0 := A_ hI
 have HK := A_ (KeepBut.refl w g none)
 have HL := A_ hB.size
 clear hI
 have HW0 := A_ hB.size
 have HB := A_ hB
 clear hB
 have H : ((spec_l10Draw.f k s0_0 s0_1 s0_2).bind fun bt1024 => (if (bt1024.1.length : Int) = 0 then (some (bt1024.1, bt1024.2.1, bt1024.2.2)) else ((spec_l1Below.f s0_0 bt1024.2.1 bt1024.2.2 (bt1024.1.length : Int)).bind fun bt1029 => ((spec_l1Below.f s0_0 bt1029.2.1 bt1029.2.2 14).bind fun bt1032 => (if bt1032.1 = 0 then ((spec_l2Any.f k s0_0 bt1032.2.1 bt1032.2.2).bind fun bt1035 => (if 0 ≤ bt1029.1 then (if bt1029.1 < (bt1024.1.length : Int) then (some ((bt1024.1.set (bt1029.1 : Int).toNat (⟨bt1035.1, (rd_T59 bt1024.1 bt1029.1).f1, (rd_T59 bt1024.1 bt1029.1).f2, (rd_T59 bt1024.1 bt1029.1).f3, (rd_T59 bt1024.1 bt1029.1).f4⟩ : S59)), bt1035.2.1, bt1035.2.2)) else (none)) else (none))) else (if bt1032.1 = 1 then (if 0 ≤ bt1029.1 then (if bt1029.1 < (bt1024.1.length : Int) then (some ((bt1024.1.set (bt1029.1 : Int).toNat (⟨(rd_T59 bt1024.1 bt1029.1).f0, !((rd_T59 bt1024.1 bt1029.1).f1), (rd_T59 bt1024.1 bt1029.1).f2, (rd_T59 bt1024.1 bt1029.1).f3, (rd_T59 bt1024.1 bt1029.1).f4⟩ : S59)), bt1032.2.1, bt1032.2.2)) else (none)) else (none)) else (if bt1032.1 = 2 then ((spec_l1Below.f s0_0 bt1032.2.1 bt1032.2.2 2).bind fun bt1043 => (if 0 ≤ (wrap64 (200 + bt1043.1)) then (if (wrap64 (200 + bt1043.1) : Int).toNat ≤ 281474976710656 then (if 0 ≤ bt1029.1 then (if bt1029.1 < (bt1024.1.length : Int) then (some ((bt1024.1.set (bt1029.1 : Int).toNat (⟨(rd_T59 bt1024.1 bt1029.1).f0, (rd_T59 bt1024.1 bt1029.1).f1, strOfNums (List.replicate (wrap64 (200 + bt1043.1) : Int).toNat 0), (rd_T59 bt1024.1 bt1029.1).f3, (rd_T59 bt1024.1 bt1029.1).f4⟩ : S59)), bt1043.2.1, bt1043.2.2)) else (none)) else (none)) else (none)) else (none))) else (if bt1032.1 = 3 then ((spec_l1Int.f s0_0 bt1032.2.1 bt1032.2.2 (([(-1), 99999, 100000] : List Int))).bind fun bt1053 => (if 0 ≤ bt1029.1 then (if bt1029.1 < (bt1024.1.length : Int) then (some ((bt1024.1.set (bt1029.1 : Int).toNat (⟨(rd_T59 bt1024.1 bt1029.1).f0, (rd_T59 bt1024.1 bt1029.1).f1, (rd_T59 bt1024.1 bt1029.1).f2, bt1053.1, (rd_T59 bt1024.1 bt1029.1).f4⟩ : S59)), bt1053.2.1, bt1053.2.2)) else (none)) else (none))) else (if bt1032.1 = 4 then (if 0 ≤ bt1029.1 then (if bt1029.1 < (bt1024.1.length : Int) then ((spec_l10OneProp.f s0_0 bt1032.2.1 bt1032.2.2).bind fun bt1058 => (if ((rd_T59 bt1024.1 bt1029.1).f4).length < 2932031007402 then (some ((bt1024.1.set (bt1029.1 : Int).toNat (⟨(rd_T59 bt1024.1 bt1029.1).f0, (rd_T59 bt1024.1 bt1029.1).f1, (rd_T59 bt1024.1 bt1029.1).f2, (rd_T59 bt1024.1 bt1029.1).f3, (((rd_T59 bt1024.1 bt1029.1).f4) ++ [(⟨bt1058.1, bt1058.2.1, bt1058.2.2.1⟩ : S71)])⟩ : S59)), bt1058.2.2.2.1, bt1058.2.2.2.2)) else (none))) else (none)) else (none)) else (if bt1032.1 = 5 then (spec_l10Any.l0 k bt1024.1 0 s0_0 bt1032.2.1 bt1032.2.2) else (some (bt1024.1, bt1032.2.1, bt1032.2.2)))))))))))) = some (r1, r2, r3) := h
 clear h
 obtain ⟨⟨t1024, t1027, t1028⟩, A2, H⟩ := bo_ H
 (try dsimp only at H)
 by_cases c3 : (t1024.length : Int) = 0
 · rw [if_pos c3] at H
   have c3b0 : ((t1024.length : Int) == 0) = true := beq_iff_eq.mpr c3
   have c3b1 : ((t1024.length : Int) != 0) = false := bne_eq_false_iff_eq.mpr c3
   clear c3
   simp only [Option.some.injEq, Prod.mk.injEq] at H
   obtain ⟨rfl, rfl, rfl⟩ := H
   go_enter Try.func88, Try.ntmps88
   go_wp2_with (first | ((with_reducible refine gc_ (f := 86) rfl ?_); refine gL_ (some 7) Try.func86 #[.pointer (some ⟨g, 0, none⟩)] ?_; (with_reducible refine (spec_l10Draw.calls k g s0_0 s0_1 s0_2 t1024 t1027 t1028 w0 _ ?s1 ?s2 A2.out).mono ?_); (case s1 => exact bIQx291_); (case s2 => exact bIQx292_); rintro e w4 ⟨v1025, rfl, ho0, hi, hb, hk⟩; refine ⟨_, rfl, ?_⟩; have HO1026 := A_ (Kd.S_lower ho0 (keep_size (w := w) (g := g) (row := none) bK_)); replace HK := A_ (KeepBut.trans bK_ hk (.inl rfl)); replace HB := A_ (hb); replace HI0 := A_ (hi); (try clear hb); (try clear hk); (try clear hi); (try clear ho0); obtain ⟨Ao5, co5, eo5⟩ := Kd.S_slice HO1026.out; subst eo5))
   go_ret
   exact ⟨_, rr_, by (with_reducible repeat (first | apply Kd.S_alloc | apply Kd.S_drewN | apply Kd.S_drew)); exact HO1026.out, bIQx291_, bIQx292_, bK_⟩
 rw [if_neg c3] at H
 have c3b0 : ((t1024.length : Int) == 0) = false := beq_eq_false_iff_ne.mpr c3
 have c3b1 : ((t1024.length : Int) != 0) = true := bne_iff_ne.mpr c3
 have c3b2 : ¬ (t1024 = []) := fun h_ => c3 (by rw [h_]; rfl)
 obtain ⟨⟨t1029, t1030, t1031⟩, A6, H⟩ := bo_ H
 (try dsimp only at H)
 obtain ⟨⟨t1032, t1033, t1034⟩, A7, H⟩ := bo_ H
 (try dsimp only at H)
 by_cases c8 : t1032 = 0
 · rw [if_pos c8] at H
   have c8b0 : (t1032 == 0) = true := beq_iff_eq.mpr c8
   have c8b1 : (t1032 != 0) = false := bne_eq_false_iff_eq.mpr c8
   clear c8
   obtain ⟨⟨t1035, t1038, t1039⟩, A9, H⟩ := bo_ H
   (try dsimp only at H)
   by_cases c10 : 0 ≤ t1029
   rotate_left
   · exact absurd H (by rw [if_neg c10]; simp)
   rw [if_pos c10] at H
   have c10b0 : decide (0 ≤ t1029) = true := decide_eq_true c10
   clear c10
   by_cases c11 : t1029 < (t1024.length : Int)
   rotate_left
   · exact absurd H (by rw [if_neg c11]; simp)
   rw [if_pos c11] at H
   have c11b0 : decide (t1029 < (t1024.length : Int)) = true := decide_eq_true c11
   clear c11
   obtain ⟨y1040, hy1040⟩ : ∃ y_ : List (S59), y_ = (t1024.set (t1029 : Int).toNat (⟨t1035, (rd_T59 t1024 t1029).f1, (rd_T59 t1024 t1029).f2, (rd_T59 t1024 t1029).f3, (rd_T59 t1024 t1029).f4⟩ : S59)) := ⟨_, rfl⟩
   replace H : (some (y1040, t1038, t1039)) = some (r1, r2, r3) := hy_ hy1040 H
   have Ny1040 := A_ hy1040
   clear hy1040
   simp only [Option.some.injEq, Prod.mk.injEq] at H
   obtain ⟨rfl, rfl, rfl⟩ := H
   go_enter Try.func88, Try.ntmps88
   go_wp2_with (first | ((with_reducible refine gc_ (f := 86) rfl ?_); refine gL_ (some 7) Try.func86 #[.pointer (some ⟨g, 0, none⟩)] ?_; (with_reducible refine (spec_l10Draw.calls k g s0_0 s0_1 s0_2 t1024 t1027 t1028 w0 _ ?s1 ?s2 A2.out).mono ?_); (case s1 => exact bIQx291_); (case s2 => exact bIQx292_); rintro e w13 ⟨v1025, rfl, ho0, hi, hb, hk⟩; refine ⟨_, rfl, ?_⟩; have HO1026 := A_ (Kd.S_lower ho0 (keep_size (w := w) (g := g) (row := none) bK_)); replace HK := A_ (KeepBut.trans bK_ hk (.inl rfl)); replace HB := A_ (hb); replace HI0 := A_ (hi); (try clear hb); (try clear hk); (try clear hi); (try clear ho0); obtain ⟨Ao14, co14, eo14⟩ := Kd.S_slice HO1026.out; subst eo14) | ((with_reducible refine gc_ (f := 102) rfl ?_); refine gL_ (some 15) Try.func102 #[.pointer (some ⟨g, 0, none⟩), .int .i64 (t1024.length : Int)] ?_; (with_reducible refine (spec_l1Below.calls g s0_0 t1027 t1028 (t1024.length : Int) t1029 t1030 t1031 w0 _ ?s1 ?s2 A6.out).mono ?_); (case s1 => exact bIQx291_); (case s2 => exact bIQx292_); rintro e w15 ⟨rfl, hi, hb, hk⟩; refine ⟨_, rfl, ?_⟩; replace HO1026 := A_ (Kd.S_mono (Kd.S_keep (IsS94.apartS (show IsS94 w0 _ g s0_0 t1027 t1028 from bIQx291_) (vS_ HO1026.out) (by decide)) hk (fun _ h => h.2)) (fun _ h => h.1)); replace HK := A_ (KeepBut.trans bK_ hk (.inl rfl)); replace HB := A_ (hb); replace HI0 := A_ (hi); (try clear hb); (try clear hk); (try clear hi)) | ((with_reducible refine gc_ (f := 102) rfl ?_); refine gL_ (some 17) Try.func102 #[.pointer (some ⟨g, 0, none⟩), .int .i64 14] ?_; (with_reducible refine (spec_l1Below.calls g s0_0 t1030 t1031 14 t1032 t1033 t1034 w0 _ ?s1 ?s2 A7.out).mono ?_); (case s1 => exact bIQx291_); (case s2 => exact bIQx292_); rintro e w16 ⟨rfl, hi, hb, hk⟩; refine ⟨_, rfl, ?_⟩; replace HO1026 := A_ (Kd.S_mono (Kd.S_keep (IsS94.apartS (show IsS94 w0 _ g s0_0 t1030 t1031 from bIQx291_) (vS_ HO1026.out) (by decide)) hk (fun _ h => h.2)) (fun _ h => h.1)); replace HK := A_ (KeepBut.trans bK_ hk (.inl rfl)); replace HB := A_ (hb); replace HI0 := A_ (hi); (try clear hb); (try clear hk); (try clear hi)) | ((with_reducible refine gc_ (f := 93) rfl ?_); refine gL_ (some 23) Try.func93 #[.pointer (some ⟨g, 0, none⟩)] ?_; (with_reducible refine (spec_l2Any.calls k g s0_0 t1033 t1034 t1035 t1038 t1039 w0 _ ?s1 ?s2 A9.out).mono ?_); (case s1 => exact bIQx291_); (case s2 => exact bIQx292_); rintro e w17 ⟨v1036, rfl, ho0, hi, hb, hk⟩; refine ⟨_, rfl, ?_⟩; replace HO1026 := A_ (Kd.S_mono (Kd.S_told (Kd.S_oldK (IsS94.apartS (show IsS94 w0 _ g s0_0 t1033 t1034 from bIQx291_) (vS_ HO1026.out) (by decide)) hk) (kb_ ho0)) (fun _ h_ => h_.1)); have HO1037 := A_ (Kd.R_lower ho0 (keep_size (w := w) (g := g) (row := none) bK_)); replace HK := A_ (KeepBut.trans bK_ hk (.inl rfl)); replace HB := A_ (hb); replace HI0 := A_ (hi); (try clear hb); (try clear hk); (try clear hi); (try clear ho0); have p12 : 0 ≤ (t1029 : Int) := od_; have q12 : (t1029 : Int) < ((t1024.length : Int) : Int) := od_; obtain ⟨go12, co12, eo12, gb12, gl12, cl12, HG12⟩ := Kd.S_form HO1026.out (by omega); (first | cases eo12 | (injection eo12 with ea_ en_ ec_; (first | subst ea_ | (injection ea_ with ea_; subst ea_)); subst ec_; clear en_)); have GB12 := A_ gb12; have GG12 := A_ HG12; clear gb12 gl12 HG12; obtain ⟨_, ce12, hcl12, hM12, hcc12, hfr12, _, _⟩ := Kd.S_elem HO1026.out z59 (t1029 : Int) p12 q12; obtain ⟨ve12_0, ve12_4, rfl, ge12_0, ge12_4⟩ := k59_openM hM12; have hx12_0 : w17.cell? ⟨go12, (t1029 : Int).toNat * 5, none⟩ = some (ve12_0) := hcc12 0 _ rfl; have hx12_1 : w17.cell? ⟨go12, (t1029 : Int).toNat * 5 + 1, none⟩ = some (.bool ((rd_T59 t1024 t1029).f1)) := hcc12 1 _ rfl; have hx12_2 : w17.cell? ⟨go12, (t1029 : Int).toNat * 5 + 2, none⟩ = some (.string ((rd_T59 t1024 t1029).f2)) := hcc12 2 _ rfl; have hx12_3 : w17.cell? ⟨go12, (t1029 : Int).toNat * 5 + 3, none⟩ = some (.int .i64 ((rd_T59 t1024 t1029).f3)) := hcc12 3 _ rfl; have hx12_4 : w17.cell? ⟨go12, (t1029 : Int).toNat * 5 + 4, none⟩ = some (ve12_4) := hcc12 4 _ rfl; have hf12_0 : w17.frozen? ⟨go12, (t1029 : Int).toNat * 5, none⟩ = false := hfr12 0; have hf12_1 : w17.frozen? ⟨go12, (t1029 : Int).toNat * 5 + 1, none⟩ = false := hfr12 1; have hf12_2 : w17.frozen? ⟨go12, (t1029 : Int).toNat * 5 + 2, none⟩ = false := hfr12 2; have hf12_3 : w17.frozen? ⟨go12, (t1029 : Int).toNat * 5 + 3, none⟩ = false := hfr12 3; have hf12_4 : w17.frozen? ⟨go12, (t1029 : Int).toNat * 5 + 4, none⟩ = false := hfr12 4; (try clear hcl12); (try clear hcc12); (try clear hfr12); (try clear hM12); replace p12 := eq_true p12; replace q12 := eq_true q12; obtain ⟨Ao20, co20, eo20⟩ := Kd.R_slice HO1037.out; subst eo20; have n_ := A_ (Kd.S_mono (ok' := (fun k_ => some k_ ≠ (.slice Ao20 t1035.length co20 : Value).ownBlock)) HO1026.out (fun k_ hk => hk.2)); clear HO1026; have HO1026 := n_; clear n_; have HX18 := A_ (show Kd.S k59 59 w17 w.heap.size (fun k_ => ((fun _ => True)) k_ ∧ ¬ ((fun k_ => some k_ = (.slice Ao20 t1035.length co20 : Value).ownBlock)) k_) (.slice (some ⟨go12, 0, none⟩) t1024.length co14) t1024 from (by (with_reducible repeat (first | apply Kd.S_alloc | apply Kd.S_drewN | apply Kd.S_drew)); exact Kd.S_mono HO1026.out (fun k_ hk => ⟨trivial, fun e_ => hk e_⟩))); obtain ⟨oki18, ce18, hcl18, hM18, hcc18, hfr18, hoki18, hH18⟩ := Kd.S_elem HX18.out z59 (t1029 : Int) od_ (by have h_ : (t1029 : Int) < ((t1024.length : Int) : Int) := od_; first | exact h_ | (have e_ := (Kd.S_reads' HO1026.out).1; omega) | simpa using h_); obtain ⟨ve18_0, ve18_4, rfl, ge18_0, ge18_4⟩ := k59_openM hM18; have HP18 := Kd.S_seg hH18 od_ (by have h_ : (t1029 : Int) < ((t1024.length : Int) : Int) := od_; first | exact h_ | (have e_ := (Kd.S_reads' HO1026.out).1; omega) | simpa using h_) (seg := [.slice Ao20 t1035.length co20]) (j := 0) (show 1 ≤ 5 from by decide) (x' := (⟨t1035, (rd_T59 t1024 t1029).f1, (rd_T59 t1024 t1029).f2, (rd_T59 t1024 t1029).f3, (rd_T59 t1024 t1029).f4⟩ : S59)) (k59_mkM _ _ _ (⟨t1035, (rd_T59 t1024 t1029).f1, (rd_T59 t1024 t1029).f2, (rd_T59 t1024 t1029).f3, (rd_T59 t1024 t1029).f4⟩ : S59) (Kd.R_mono (Kd.R_tight rfl (Kd.R_mono (ok' := fun k_ => ((fun _ => True)) k_ ∧ k_ ≠ go12) (Kd.R_apart' (HO1037.out) (Kd.S_typed HO1026.out) (by decide)) (fun k_ hk => ⟨trivial, fun e_ => (hk.2) (by rw [e_]; rfl)⟩))) (fun _ h_ => Or.inr (h_))) (Kd.R_mono ge18_4 (fun _ h_ => Or.inl h_))) (fun _ hk => hk) (fun k_ hk_ => ((Kd.R_mono (ok' := fun k_ => ((fun _ => True)) k_ ∧ k_ ≠ go12) (Kd.R_apart' (HO1037.out) (Kd.S_typed HO1026.out) (by decide)) (fun k_ hk => ⟨trivial, fun e_ => (hk.2) (by rw [e_]; rfl)⟩))).1 k_ hk_.symm); have hx18_0 := hcc18 0 _ rfl; (try simp only [show (k59).sz = 5 from rfl, Nat.mul_one, Nat.add_zero] at hx18_0); have hf18_0 := hfr18 0; (try simp only [show (k59).sz = 5 from rfl, Nat.mul_one, Nat.add_zero] at hf18_0); (try clear hcl18); (try clear hcc18); (try clear hfr18); (try clear hM18); (try clear hoki18); (try clear hH18)) | ((with_reducible refine gate_store (t := 22) (p := 25) rfl ?_); refine store_event (t := 22) (p := 25) (v := ?vo_w19) (w1 := (w17.setCell ⟨go12, (t1029 : Int).toNat * 5, none⟩ (.slice Ao20 t1035.length co20))) ?hg ?ho ?hn ?hr ?_; (case ho => rfl); (case hg => rfl); (case hn => rfl); (case hr => first | (go_simp; done) | (go_simp; rfl)); intro w19 hw; have hg : w17.grownBy w19 (some go12) := (by rw [hw]; exact HP18.2); have hp_ : Kd.S k59 59 w19 w.heap.size (fun _ => True) (.slice (some ⟨go12, 0, none⟩) t1024.length co14) y1040 := (by rw [hw, Ny1040.out]; exact HP18.1); clear HP18; replace HI0 := A_ (IsS94.grown bIQx291_ hg (IsS94.own_neS HI0.out HO1026.out (by decide))); replace HB := A_ ((by rw [hw]; exact below_set (HB.out) (Nat.le_trans HL.out GB12.out) : Below w0.heap.size w0 w19)); replace HK := A_ (KeepBut.trans bK_ (KeepBut.of_grown hg g) (Kd.S_base2 HO1026.out)); replace HO1026 := A_ (hp_); clear HO1037; clear hg hw hp_))
   go_ret
   exact ⟨_, rr_, by (with_reducible repeat (first | apply Kd.S_alloc | apply Kd.S_drewN | apply Kd.S_drew)); exact HO1026.out, bIQx291_, bIQx292_, bK_⟩
 rw [if_neg c8] at H
 have c8b0 : (t1032 == 0) = false := beq_eq_false_iff_ne.mpr c8
 have c8b1 : (t1032 != 0) = true := bne_iff_ne.mpr c8
 by_cases c21 : t1032 = 1
 · rw [if_pos c21] at H
   have c21b0 : (t1032 == 1) = true := beq_iff_eq.mpr c21
   have c21b1 : (t1032 != 1) = false := bne_eq_false_iff_eq.mpr c21
   clear c21
   by_cases c22 : 0 ≤ t1029
   rotate_left
   · exact absurd H (by rw [if_neg c22]; simp)
   rw [if_pos c22] at H
   have c22b0 : decide (0 ≤ t1029) = true := decide_eq_true c22
   clear c22
   by_cases c23 : t1029 < (t1024.length : Int)
   rotate_left
   · exact absurd H (by rw [if_neg c23]; simp)
   rw [if_pos c23] at H
   have c23b0 : decide (t1029 < (t1024.length : Int)) = true := decide_eq_true c23
   clear c23
   obtain ⟨y1042, hy1042⟩ : ∃ y_ : List (S59), y_ = (t1024.set (t1029 : Int).toNat (⟨(rd_T59 t1024 t1029).f0, !((rd_T59 t1024 t1029).f1), (rd_T59 t1024 t1029).f2, (rd_T59 t1024 t1029).f3, (rd_T59 t1024 t1029).f4⟩ : S59)) := ⟨_, rfl⟩
   replace H : (some (y1042, t1033, t1034)) = some (r1, r2, r3) := hy_ hy1042 H
   have Ny1042 := A_ hy1042
   clear hy1042
   simp only [Option.some.injEq, Prod.mk.injEq] at H
   obtain ⟨rfl, rfl, rfl⟩ := H
   go_enter Try.func88, Try.ntmps88
   go_wp2_with (first | ((with_reducible refine gc_ (f := 86) rfl ?_); refine gL_ (some 7) Try.func86 #[.pointer (some ⟨g, 0, none⟩)] ?_; (with_reducible refine (spec_l10Draw.calls k g s0_0 s0_1 s0_2 t1024 t1027 t1028 w0 _ ?s1 ?s2 A2.out).mono ?_); (case s1 => exact bIQx291_); (case s2 => exact bIQx292_); rintro e w25 ⟨v1025, rfl, ho0, hi, hb, hk⟩; refine ⟨_, rfl, ?_⟩; have HO1026 := A_ (Kd.S_lower ho0 (keep_size (w := w) (g := g) (row := none) bK_)); replace HK := A_ (KeepBut.trans bK_ hk (.inl rfl)); replace HB := A_ (hb); replace HI0 := A_ (hi); (try clear hb); (try clear hk); (try clear hi); (try clear ho0); obtain ⟨Ao26, co26, eo26⟩ := Kd.S_slice HO1026.out; subst eo26) | ((with_reducible refine gc_ (f := 102) rfl ?_); refine gL_ (some 15) Try.func102 #[.pointer (some ⟨g, 0, none⟩), .int .i64 (t1024.length : Int)] ?_; (with_reducible refine (spec_l1Below.calls g s0_0 t1027 t1028 (t1024.length : Int) t1029 t1030 t1031 w0 _ ?s1 ?s2 A6.out).mono ?_); (case s1 => exact bIQx291_); (case s2 => exact bIQx292_); rintro e w27 ⟨rfl, hi, hb, hk⟩; refine ⟨_, rfl, ?_⟩; replace HO1026 := A_ (Kd.S_mono (Kd.S_keep (IsS94.apartS (show IsS94 w0 _ g s0_0 t1027 t1028 from bIQx291_) (vS_ HO1026.out) (by decide)) hk (fun _ h => h.2)) (fun _ h => h.1)); replace HK := A_ (KeepBut.trans bK_ hk (.inl rfl)); replace HB := A_ (hb); replace HI0 := A_ (hi); (try clear hb); (try clear hk); (try clear hi)) | ((with_reducible refine gc_ (f := 102) rfl ?_); refine gL_ (some 17) Try.func102 #[.pointer (some ⟨g, 0, none⟩), .int .i64 14] ?_; (with_reducible refine (spec_l1Below.calls g s0_0 t1030 t1031 14 t1032 t1033 t1034 w0 _ ?s1 ?s2 A7.out).mono ?_); (case s1 => exact bIQx291_); (case s2 => exact bIQx292_); rintro e w28 ⟨rfl, hi, hb, hk⟩; refine ⟨_, rfl, ?_⟩; replace HO1026 := A_ (Kd.S_mono (Kd.S_keep (IsS94.apartS (show IsS94 w0 _ g s0_0 t1030 t1031 from bIQx291_) (vS_ HO1026.out) (by decide)) hk (fun _ h => h.2)) (fun _ h => h.1)); replace HK := A_ (KeepBut.trans bK_ hk (.inl rfl)); replace HB := A_ (hb); replace HI0 := A_ (hi); (try clear hb); (try clear hk); (try clear hi); have p1041 : 0 ≤ (t1029 : Int) := od_; have q1041 : t1029 < (t1024.length : Int) := od_; obtain ⟨ad1041, A1041_0, c1041_0, A1041_4, c1041_4, e1041, hx1041_0, hx1041_1, hx1041_2, hx1041_3, hx1041_4, hl1041_0, hi1041_0, hl1041_4, hi1041_4⟩ := at_T59 (Kd.S_reads' HO1026.out).2.2 t1029 p1041 q1041; cases e1041; obtain ⟨ce1041, hce1041, hMe1041, hcc1041⟩ := Kd.S_get HO1026.out z59 t1029 p1041 (by first | exact q1041 | exact od_ | (have e_ := (Kd.S_reads' HO1026.out).1; omega)); obtain ⟨ve1041_0, ve1041_4, rfl, ge1041_0, ge1041_4⟩ := k59_openM hMe1041; have hv1041_0 := hcc1041 0 _ rfl; rw [Nat.add_zero] at hv1041_0; replace hv1041_0 := Option.some.inj (hv1041_0.symm.trans hx1041_0); rw [hv1041_0] at ge1041_0; have HL1041_0 := A_ (show Kd.R Kd.string 9 _ _ _ _ ((rd_T59 t1024 t1029).f0) from ge1041_0); clear hv1041_0 ge1041_0; have HX1041_0 := A_ hx1041_0; have hv1041_4 := hcc1041 4 _ rfl; rw [add_field _ _ 4 (by omega)] at hv1041_4; replace hv1041_4 := Option.some.inj (hv1041_4.symm.trans hx1041_4); rw [hv1041_4] at ge1041_4; have HL1041_4 := A_ (show Kd.R k71 71 _ _ _ _ ((rd_T59 t1024 t1029).f4) from ge1041_4); clear hv1041_4 ge1041_4; have HX1041_4 := A_ hx1041_4; clear hcc1041 hce1041; have HR1041_0 := A_ hi1041_0; have HC1041_0 := A_ hl1041_0; clear hi1041_0 hl1041_0; have HR1041_4 := A_ hi1041_4; have HC1041_4 := A_ hl1041_4; clear hi1041_4 hl1041_4; replace p1041 := eq_true p1041; replace q1041 := eq_true q1041; have p24 : 0 ≤ (t1029 : Int) := od_; have q24 : (t1029 : Int) < ((t1024.length : Int) : Int) := od_; obtain ⟨go24, co24, eo24, gb24, gl24, cl24, HG24⟩ := Kd.S_form HO1026.out (by omega); (first | cases eo24 | (injection eo24 with ea_ en_ ec_; (first | subst ea_ | (injection ea_ with ea_; subst ea_)); subst ec_; clear en_)); have GB24 := A_ gb24; have GG24 := A_ HG24; clear gb24 gl24 HG24; (first | simp only [add_plain] at hx1041_0 | skip); (first | simp only [add_plain] at hx1041_1 | skip); (first | simp only [add_plain] at hx1041_2 | skip); (first | simp only [add_plain] at hx1041_3 | skip); (first | simp only [add_plain] at hx1041_4 | skip); obtain ⟨_, ce24, hcl24, hM24, hcc24, hfr24, _, _⟩ := Kd.S_elem HO1026.out z59 (t1029 : Int) p24 q24; obtain ⟨ve24_0, ve24_4, rfl, ge24_0, ge24_4⟩ := k59_openM hM24; have hx24_0 : w28.cell? ⟨go24, (t1029 : Int).toNat * 5, none⟩ = some (ve24_0) := hcc24 0 _ rfl; have hx24_1 : w28.cell? ⟨go24, (t1029 : Int).toNat * 5 + 1, none⟩ = some (.bool ((rd_T59 t1024 t1029).f1)) := hcc24 1 _ rfl; have hx24_2 : w28.cell? ⟨go24, (t1029 : Int).toNat * 5 + 2, none⟩ = some (.string ((rd_T59 t1024 t1029).f2)) := hcc24 2 _ rfl; have hx24_3 : w28.cell? ⟨go24, (t1029 : Int).toNat * 5 + 3, none⟩ = some (.int .i64 ((rd_T59 t1024 t1029).f3)) := hcc24 3 _ rfl; have hx24_4 : w28.cell? ⟨go24, (t1029 : Int).toNat * 5 + 4, none⟩ = some (ve24_4) := hcc24 4 _ rfl; have hf24_0 : w28.frozen? ⟨go24, (t1029 : Int).toNat * 5, none⟩ = false := hfr24 0; have hf24_1 : w28.frozen? ⟨go24, (t1029 : Int).toNat * 5 + 1, none⟩ = false := hfr24 1; have hf24_2 : w28.frozen? ⟨go24, (t1029 : Int).toNat * 5 + 2, none⟩ = false := hfr24 2; have hf24_3 : w28.frozen? ⟨go24, (t1029 : Int).toNat * 5 + 3, none⟩ = false := hfr24 3; have hf24_4 : w28.frozen? ⟨go24, (t1029 : Int).toNat * 5 + 4, none⟩ = false := hfr24 4; (try clear hcl24); (try clear hcc24); (try clear hfr24); (try clear hM24); replace p24 := eq_true p24; replace q24 := eq_true q24; have HX29 := A_ (show Kd.S k59 59 w28 w.heap.size (fun k_ => ((fun _ => True)) k_ ∧ ¬ ((fun _ => False)) k_) (.slice (some ⟨go24, 0, none⟩) t1024.length co26) t1024 from (by (with_reducible repeat (first | apply Kd.S_alloc | apply Kd.S_drewN | apply Kd.S_drew)); exact Kd.S_mono HO1026.out (fun k_ hk => ⟨trivial, fun e_ => e_⟩))); obtain ⟨oki29, ce29, hcl29, hM29, hcc29, hfr29, hoki29, hH29⟩ := Kd.S_elem HX29.out z59 (t1029 : Int) od_ (by have h_ : (t1029 : Int) < ((t1024.length : Int) : Int) := od_; first | exact h_ | (have e_ := (Kd.S_reads' HO1026.out).1; omega) | simpa using h_); obtain ⟨ve29_0, ve29_4, rfl, ge29_0, ge29_4⟩ := k59_openM hM29; have HP29 := Kd.S_seg hH29 od_ (by have h_ : (t1029 : Int) < ((t1024.length : Int) : Int) := od_; first | exact h_ | (have e_ := (Kd.S_reads' HO1026.out).1; omega) | simpa using h_) (seg := [.bool (!((rd_T59 t1024 t1029).f1))]) (j := 1) (show 2 ≤ 5 from by decide) (x' := (⟨(rd_T59 t1024 t1029).f0, !((rd_T59 t1024 t1029).f1), (rd_T59 t1024 t1029).f2, (rd_T59 t1024 t1029).f3, (rd_T59 t1024 t1029).f4⟩ : S59)) (k59_mkM _ _ _ (⟨(rd_T59 t1024 t1029).f0, !((rd_T59 t1024 t1029).f1), (rd_T59 t1024 t1029).f2, (rd_T59 t1024 t1029).f3, (rd_T59 t1024 t1029).f4⟩ : S59) (Kd.R_mono ge29_0 (fun _ h_ => Or.inl h_)) (Kd.R_mono ge29_4 (fun _ h_ => Or.inl h_))) (fun _ hk => hk) (fun k_ hk_ => hk_.elim); have hx29_1 := hcc29 1 _ rfl; (try simp only [show (k59).sz = 5 from rfl, Nat.mul_one, Nat.add_zero] at hx29_1); have hf29_1 := hfr29 1; (try simp only [show (k59).sz = 5 from rfl, Nat.mul_one, Nat.add_zero] at hf29_1); (try clear hcl29); (try clear hcc29); (try clear hfr29); (try clear hM29); (try clear hoki29); (try clear hH29)) | ((with_reducible refine gate_store (t := 4) (p := 37) rfl ?_); refine store_event (t := 4) (p := 37) (v := ?vo_w30) (w1 := (w28.setCell ⟨go24, (t1029 : Int).toNat * 5 + 1, none⟩ (.bool (!((rd_T59 t1024 t1029).f1))))) ?hg ?ho ?hn ?hr ?_; (case ho => rfl); (case hg => rfl); (case hn => rfl); (case hr => first | (go_simp; done) | (go_simp; rfl)); intro w30 hw; have hg : w28.grownBy w30 (some go24) := (by rw [hw]; exact HP29.2); have hp_ : Kd.S k59 59 w30 w.heap.size (fun _ => True) (.slice (some ⟨go24, 0, none⟩) t1024.length co26) y1042 := (by rw [hw, Ny1042.out]; exact HP29.1); clear HP29; replace HI0 := A_ (IsS94.grown bIQx291_ hg (IsS94.own_neS HI0.out HO1026.out (by decide))); replace HL1041_0 := A_ (Kd.R_after (v := (.slice (some ⟨go24, 0, none⟩) t1024.length co26)) (v1 := (.slice (some ⟨go24, 0, none⟩) t1024.length co26)) (ok := (fun _ => True)) (vR_ HL1041_0.out) hg (.inl rfl)); replace HL1041_4 := A_ (Kd.R_after (v := (.slice (some ⟨go24, 0, none⟩) t1024.length co26)) (v1 := (.slice (some ⟨go24, 0, none⟩) t1024.length co26)) (ok := (fun _ => True)) (vR_ HL1041_4.out) hg (.inl rfl)); replace HB := A_ ((by rw [hw]; exact below_set (HB.out) (Nat.le_trans HL.out GB24.out) : Below w0.heap.size w0 w30)); replace HK := A_ (KeepBut.trans bK_ (KeepBut.of_grown hg g) (Kd.S_base2 HO1026.out)); replace HO1026 := A_ (hp_); clear hg hw hp_))
   go_ret
   exact ⟨_, rr_, by (with_reducible repeat (first | apply Kd.S_alloc | apply Kd.S_drewN | apply Kd.S_drew)); exact HO1026.out, bIQx291_, bIQx292_, bK_⟩
 rw [if_neg c21] at H
 have c21b0 : (t1032 == 1) = false := beq_eq_false_iff_ne.mpr c21
 have c21b1 : (t1032 != 1) = true := bne_iff_ne.mpr c21
 by_cases c31 : t1032 = 2
 · rw [if_pos c31] at H
   have c31b0 : (t1032 == 2) = true := beq_iff_eq.mpr c31
   have c31b1 : (t1032 != 2) = false := bne_eq_false_iff_eq.mpr c31
   clear c31
   obtain ⟨⟨t1043, t1044, t1045⟩, A32, H⟩ := bo_ H
   (try dsimp only at H)
   obtain ⟨ji33, hji33⟩ : ∃ j_ : Int, (wrap64 (200 + t1043)) = j_ := ⟨_, rfl⟩
   replace H : (if 0 ≤ (ji33) then (if (ji33 : Int).toNat ≤ 281474976710656 then (if 0 ≤ t1029 then (if t1029 < (t1024.length : Int) then (some ((t1024.set (t1029 : Int).toNat (⟨(rd_T59 t1024 t1029).f0, (rd_T59 t1024 t1029).f1, strOfNums (List.replicate (ji33 : Int).toNat 0), (rd_T59 t1024 t1029).f3, (rd_T59 t1024 t1029).f4⟩ : S59)), t1044, t1045)) else (none)) else (none)) else (none)) else (none)) = some (r1, r2, r3) := by first | (rw [hji33] at H; exact H) | (simp only [hji33] at H ⊢; exact H)
   (try rw [hji33] at A2)
   (try rw [hji33] at A6)
   (try rw [hji33] at A7)
   (try rw [hji33] at A32)
   have hji33w : (IntKind.i64.wrap (200 + t1043)) = ji33 := (i64_w _).trans hji33
   by_cases c34 : 0 ≤ (ji33)
   rotate_left
   · exact absurd H (by rw [if_neg c34]; simp)
   rw [if_pos c34] at H
   have c34b0 := eq_true c34
   have c34b1 : decide (0 ≤ (ji33)) = true := decide_eq_true c34
   clear c34
   by_cases c35 : (ji33 : Int).toNat ≤ 281474976710656
   rotate_left
   · exact absurd H (by rw [if_neg c35]; simp)
   rw [if_pos c35] at H
   have c35b0 := eq_true c35
   have c35b1 : decide ((ji33 : Int).toNat ≤ 281474976710656) = true := decide_eq_true c35
   clear c35
   obtain ⟨y1046, hy1046⟩ : ∃ y_ : List Int, y_ = (List.replicate (ji33 : Int).toNat 0) := ⟨_, rfl⟩
   replace H : (if 0 ≤ t1029 then (if t1029 < (t1024.length : Int) then (some ((t1024.set (t1029 : Int).toNat (⟨(rd_T59 t1024 t1029).f0, (rd_T59 t1024 t1029).f1, strOfNums y1046, (rd_T59 t1024 t1029).f3, (rd_T59 t1024 t1029).f4⟩ : S59)), t1044, t1045)) else (none)) else (none)) = some (r1, r2, r3) := hy_ hy1046 H
   have Ny1046 := A_ hy1046
   clear hy1046
   by_cases c36 : 0 ≤ t1029
   rotate_left
   · exact absurd H (by rw [if_neg c36]; simp)
   rw [if_pos c36] at H
   have c36b0 : decide (0 ≤ t1029) = true := decide_eq_true c36
   clear c36
   by_cases c37 : t1029 < (t1024.length : Int)
   rotate_left
   · exact absurd H (by rw [if_neg c37]; simp)
   rw [if_pos c37] at H
   have c37b0 : decide (t1029 < (t1024.length : Int)) = true := decide_eq_true c37
   clear c37
   obtain ⟨y1049, hy1049⟩ : ∃ y_ : List (S59), y_ = (t1024.set (t1029 : Int).toNat (⟨(rd_T59 t1024 t1029).f0, (rd_T59 t1024 t1029).f1, strOfNums y1046, (rd_T59 t1024 t1029).f3, (rd_T59 t1024 t1029).f4⟩ : S59)) := ⟨_, rfl⟩
   replace H : (some (y1049, t1044, t1045)) = some (r1, r2, r3) := hy_ hy1049 H
   have Ny1049 := A_ hy1049
   clear hy1049
   simp only [Option.some.injEq, Prod.mk.injEq] at H
   obtain ⟨rfl, rfl, rfl⟩ := H
   go_enter Try.func88, Try.ntmps88
   go_wp2_with (first | ((with_reducible refine gc_ (f := 86) rfl ?_); refine gL_ (some 7) Try.func86 #[.pointer (some ⟨g, 0, none⟩)] ?_; (with_reducible refine (spec_l10Draw.calls k g s0_0 s0_1 s0_2 t1024 t1027 t1028 w0 _ ?s1 ?s2 A2.out).mono ?_); (case s1 => exact bIQx291_); (case s2 => exact bIQx292_); rintro e w39 ⟨v1025, rfl, ho0, hi, hb, hk⟩; refine ⟨_, rfl, ?_⟩; have HO1026 := A_ (Kd.S_lower ho0 (keep_size (w := w) (g := g) (row := none) bK_)); replace HK := A_ (KeepBut.trans bK_ hk (.inl rfl)); replace HB := A_ (hb); replace HI0 := A_ (hi); (try clear hb); (try clear hk); (try clear hi); (try clear ho0); obtain ⟨Ao40, co40, eo40⟩ := Kd.S_slice HO1026.out; subst eo40) | ((with_reducible refine gc_ (f := 102) rfl ?_); refine gL_ (some 15) Try.func102 #[.pointer (some ⟨g, 0, none⟩), .int .i64 (t1024.length : Int)] ?_; (with_reducible refine (spec_l1Below.calls g s0_0 t1027 t1028 (t1024.length : Int) t1029 t1030 t1031 w0 _ ?s1 ?s2 A6.out).mono ?_); (case s1 => exact bIQx291_); (case s2 => exact bIQx292_); rintro e w41 ⟨rfl, hi, hb, hk⟩; refine ⟨_, rfl, ?_⟩; replace HO1026 := A_ (Kd.S_mono (Kd.S_keep (IsS94.apartS (show IsS94 w0 _ g s0_0 t1027 t1028 from bIQx291_) (vS_ HO1026.out) (by decide)) hk (fun _ h => h.2)) (fun _ h => h.1)); replace HK := A_ (KeepBut.trans bK_ hk (.inl rfl)); replace HB := A_ (hb); replace HI0 := A_ (hi); (try clear hb); (try clear hk); (try clear hi)) | ((with_reducible refine gc_ (f := 102) rfl ?_); refine gL_ (some 17) Try.func102 #[.pointer (some ⟨g, 0, none⟩), .int .i64 14] ?_; (with_reducible refine (spec_l1Below.calls g s0_0 t1030 t1031 14 t1032 t1033 t1034 w0 _ ?s1 ?s2 A7.out).mono ?_); (case s1 => exact bIQx291_); (case s2 => exact bIQx292_); rintro e w42 ⟨rfl, hi, hb, hk⟩; refine ⟨_, rfl, ?_⟩; replace HO1026 := A_ (Kd.S_mono (Kd.S_keep (IsS94.apartS (show IsS94 w0 _ g s0_0 t1030 t1031 from bIQx291_) (vS_ HO1026.out) (by decide)) hk (fun _ h => h.2)) (fun _ h => h.1)); replace HK := A_ (KeepBut.trans bK_ hk (.inl rfl)); replace HB := A_ (hb); replace HI0 := A_ (hi); (try clear hb); (try clear hk); (try clear hi)) | ((with_reducible refine gc_ (f := 102) rfl ?_); refine gL_ (some 43) Try.func102 #[.pointer (some ⟨g, 0, none⟩), .int .i64 2] ?_; (with_reducible refine (spec_l1Below.calls g s0_0 t1033 t1034 2 t1043 t1044 t1045 w0 _ ?s1 ?s2 A32.out).mono ?_); (case s1 => exact bIQx291_); (case s2 => exact bIQx292_); rintro e w43 ⟨rfl, hi, hb, hk⟩; refine ⟨_, rfl, ?_⟩; replace HO1026 := A_ (Kd.S_mono (Kd.S_keep (IsS94.apartS (show IsS94 w0 _ g s0_0 t1033 t1034 from bIQx291_) (vS_ HO1026.out) (by decide)) hk (fun _ h => h.2)) (fun _ h => h.1)); replace HK := A_ (KeepBut.trans bK_ hk (.inl rfl)); replace HB := A_ (hb); replace HI0 := A_ (hi); (try clear hb); (try clear hk); (try clear hi)) | ((with_reducible refine gd_ (N := 45) rfl ?_); refine Kd.R_make (Kd.int .u8) _ 5 rfl (N := 45) rfl 54 _ _ rfl ji33 rfl rfl Try.underlying54 (.int .u8 0) 1 info5 rfl (by decide) (by omega) 0 (ok := fun _ => True) (okp := fun _ => True) rfl (fun _ hk => hk) trivial od_ (Nat.le_trans (Nat.mul_le_mul_right _ (od_ : ji33.toNat ≤ 281474976710656)) (by omega)) (Below.refl _ _) (Nat.le_refl _) ?_; intro v1047 w44 ho45 hb hg_ hnew_; clear hg_ hnew_; (first | rw [← Ny1046.out] at ho45 | (simp only [Int.reduceToNat] at ho45; rw [← Ny1046.out] at ho45)); replace HO1026 := A_ (Kd.S_below (vS_ HO1026.out) hb); have HO1048 := A_ (Kd.R_lower ho45 (keep_size (w := w) (g := g) (row := none) bK_)); replace HK := A_ (KeepBut.trans bK_ (KeepBut.of_below hb g none) (.inl rfl)); replace HB := A_ (below_step bIQx292_ hb); replace HI0 := A_ (IsS94.below bIQx291_ hb); clear hb ho45; have hcv46 := own_string (P := Try.prog) Try.underlying54 Try.underlying5 Try.underlying9 (Kd.own_of_R HO1048.out); have p38 : 0 ≤ (t1029 : Int) := od_; have q38 : (t1029 : Int) < ((t1024.length : Int) : Int) := od_; obtain ⟨go38, co38, eo38, gb38, gl38, cl38, HG38⟩ := Kd.S_form HO1026.out (by omega); (first | cases eo38 | (injection eo38 with ea_ en_ ec_; (first | subst ea_ | (injection ea_ with ea_; subst ea_)); subst ec_; clear en_)); have GB38 := A_ gb38; have GG38 := A_ HG38; clear gb38 gl38 HG38; obtain ⟨_, ce38, hcl38, hM38, hcc38, hfr38, _, _⟩ := Kd.S_elem HO1026.out z59 (t1029 : Int) p38 q38; obtain ⟨ve38_0, ve38_4, rfl, ge38_0, ge38_4⟩ := k59_openM hM38; have hx38_0 : w44.cell? ⟨go38, (t1029 : Int).toNat * 5, none⟩ = some (ve38_0) := hcc38 0 _ rfl; have hx38_1 : w44.cell? ⟨go38, (t1029 : Int).toNat * 5 + 1, none⟩ = some (.bool ((rd_T59 t1024 t1029).f1)) := hcc38 1 _ rfl; have hx38_2 : w44.cell? ⟨go38, (t1029 : Int).toNat * 5 + 2, none⟩ = some (.string ((rd_T59 t1024 t1029).f2)) := hcc38 2 _ rfl; have hx38_3 : w44.cell? ⟨go38, (t1029 : Int).toNat * 5 + 3, none⟩ = some (.int .i64 ((rd_T59 t1024 t1029).f3)) := hcc38 3 _ rfl; have hx38_4 : w44.cell? ⟨go38, (t1029 : Int).toNat * 5 + 4, none⟩ = some (ve38_4) := hcc38 4 _ rfl; have hf38_0 : w44.frozen? ⟨go38, (t1029 : Int).toNat * 5, none⟩ = false := hfr38 0; have hf38_1 : w44.frozen? ⟨go38, (t1029 : Int).toNat * 5 + 1, none⟩ = false := hfr38 1; have hf38_2 : w44.frozen? ⟨go38, (t1029 : Int).toNat * 5 + 2, none⟩ = false := hfr38 2; have hf38_3 : w44.frozen? ⟨go38, (t1029 : Int).toNat * 5 + 3, none⟩ = false := hfr38 3; have hf38_4 : w44.frozen? ⟨go38, (t1029 : Int).toNat * 5 + 4, none⟩ = false := hfr38 4; (try clear hcl38); (try clear hcc38); (try clear hfr38); (try clear hM38); replace p38 := eq_true p38; replace q38 := eq_true q38; have HX47 := A_ (show Kd.S k59 59 w44 w.heap.size (fun k_ => ((fun _ => True)) k_ ∧ ¬ ((fun _ => False)) k_) (.slice (some ⟨go38, 0, none⟩) t1024.length co40) t1024 from (by (with_reducible repeat (first | apply Kd.S_alloc | apply Kd.S_drewN | apply Kd.S_drew)); exact Kd.S_mono HO1026.out (fun k_ hk => ⟨trivial, fun e_ => e_⟩))); obtain ⟨oki47, ce47, hcl47, hM47, hcc47, hfr47, hoki47, hH47⟩ := Kd.S_elem HX47.out z59 (t1029 : Int) od_ (by have h_ : (t1029 : Int) < ((t1024.length : Int) : Int) := od_; first | exact h_ | (have e_ := (Kd.S_reads' HO1026.out).1; omega) | simpa using h_); obtain ⟨ve47_0, ve47_4, rfl, ge47_0, ge47_4⟩ := k59_openM hM47; have HP47 := Kd.S_seg hH47 od_ (by have h_ : (t1029 : Int) < ((t1024.length : Int) : Int) := od_; first | exact h_ | (have e_ := (Kd.S_reads' HO1026.out).1; omega) | simpa using h_) (seg := [.string (strOfNums y1046)]) (j := 2) (show 3 ≤ 5 from by decide) (x' := (⟨(rd_T59 t1024 t1029).f0, (rd_T59 t1024 t1029).f1, strOfNums y1046, (rd_T59 t1024 t1029).f3, (rd_T59 t1024 t1029).f4⟩ : S59)) (k59_mkM _ _ _ (⟨(rd_T59 t1024 t1029).f0, (rd_T59 t1024 t1029).f1, strOfNums y1046, (rd_T59 t1024 t1029).f3, (rd_T59 t1024 t1029).f4⟩ : S59) (Kd.R_mono ge47_0 (fun _ h_ => Or.inl h_)) (Kd.R_mono ge47_4 (fun _ h_ => Or.inl h_))) (fun _ hk => hk) (fun k_ hk_ => hk_.elim); have hx47_2 := hcc47 2 _ rfl; (try simp only [show (k59).sz = 5 from rfl, Nat.mul_one, Nat.add_zero] at hx47_2); have hf47_2 := hfr47 2; (try simp only [show (k59).sz = 5 from rfl, Nat.mul_one, Nat.add_zero] at hf47_2); (try clear hcl47); (try clear hcc47); (try clear hfr47); (try clear hM47); (try clear hoki47); (try clear hH47)) | ((with_reducible refine gate_store (t := 9) (p := 48) rfl ?_); refine store_event (t := 9) (p := 48) (v := ?vo_w48) (w1 := (w44.setCell ⟨go38, (t1029 : Int).toNat * 5 + 2, none⟩ (.string (strOfNums y1046)))) ?hg ?ho ?hn ?hr ?_; (case ho => rfl); (case hg => rfl); (case hn => rfl); (case hr => first | (go_simp; done) | (go_simp; rfl)); intro w48 hw; have hg : w44.grownBy w48 (some go38) := (by rw [hw]; exact HP47.2); have hp_ : Kd.S k59 59 w48 w.heap.size (fun _ => True) (.slice (some ⟨go38, 0, none⟩) t1024.length co40) y1049 := (by rw [hw, Ny1049.out]; exact HP47.1); clear HP47; replace HI0 := A_ (IsS94.grown bIQx291_ hg (IsS94.own_neS HI0.out HO1026.out (by decide))); replace HO1048 := A_ (Kd.R_over' (v := (.slice (some ⟨go38, 0, none⟩) t1024.length co40)) (vR_ HO1048.out) (Kd.S_typed HO1026.out) (by decide) hg); replace HB := A_ ((by rw [hw]; exact below_set (HB.out) (Nat.le_trans HL.out GB38.out) : Below w0.heap.size w0 w48)); replace HK := A_ (KeepBut.trans bK_ (KeepBut.of_grown hg g) (Kd.S_base2 HO1026.out)); replace HO1026 := A_ (hp_); clear hg hw hp_))
   go_ret
   exact ⟨_, by first | rfl | (simp [errW_none, errW_some] <;> rfl) | (simp only [← hji33]; first | rfl | (simp [errW_none, errW_some] <;> rfl)) | (simp [*, errW_none, errW_some] <;> rfl), by (with_reducible repeat (first | apply Kd.S_alloc | apply Kd.S_drewN | apply Kd.S_drew)); exact HO1026.out, bIQx291_, bIQx292_, bK_⟩
 rw [if_neg c31] at H
 have c31b0 : (t1032 == 2) = false := beq_eq_false_iff_ne.mpr c31
 have c31b1 : (t1032 != 2) = true := bne_iff_ne.mpr c31
 by_cases c49 : t1032 = 3
 · rw [if_pos c49] at H
   have c49b0 : (t1032 == 3) = true := beq_iff_eq.mpr c49
   have c49b1 : (t1032 != 3) = false := bne_eq_false_iff_eq.mpr c49
   clear c49
   obtain ⟨y1050, hy1050⟩ : ∃ y_ : List Int, y_ = (([(-1), 99999, 100000] : List Int)) := ⟨_, rfl⟩
   replace H : ((spec_l1Int.f s0_0 t1033 t1034 y1050).bind fun bt1053 => (if 0 ≤ t1029 then (if t1029 < (t1024.length : Int) then (some ((t1024.set (t1029 : Int).toNat (⟨(rd_T59 t1024 t1029).f0, (rd_T59 t1024 t1029).f1, (rd_T59 t1024 t1029).f2, bt1053.1, (rd_T59 t1024 t1029).f4⟩ : S59)), bt1053.2.1, bt1053.2.2)) else (none)) else (none))) = some (r1, r2, r3) := hy_ hy1050 H
   have Ny1050 := A_ hy1050
   clear hy1050
   obtain ⟨⟨t1053, t1054, t1055⟩, A50, H⟩ := bo_ H
   (try dsimp only at H)
   by_cases c51 : 0 ≤ t1029
   rotate_left
   · exact absurd H (by rw [if_neg c51]; simp)
   rw [if_pos c51] at H
   have c51b0 : decide (0 ≤ t1029) = true := decide_eq_true c51
   clear c51
   by_cases c52 : t1029 < (t1024.length : Int)
   rotate_left
   · exact absurd H (by rw [if_neg c52]; simp)
   rw [if_pos c52] at H
   have c52b0 : decide (t1029 < (t1024.length : Int)) = true := decide_eq_true c52
   clear c52
   obtain ⟨y1056, hy1056⟩ : ∃ y_ : List (S59), y_ = (t1024.set (t1029 : Int).toNat (⟨(rd_T59 t1024 t1029).f0, (rd_T59 t1024 t1029).f1, (rd_T59 t1024 t1029).f2, t1053, (rd_T59 t1024 t1029).f4⟩ : S59)) := ⟨_, rfl⟩
   replace H : (some (y1056, t1054, t1055)) = some (r1, r2, r3) := hy_ hy1056 H
   have Ny1056 := A_ hy1056
   clear hy1056
   simp only [Option.some.injEq, Prod.mk.injEq] at H
   obtain ⟨rfl, rfl, rfl⟩ := H
   go_enter Try.func88, Try.ntmps88
   go_wp2_with (first | ((with_reducible refine gc_ (f := 86) rfl ?_); refine gL_ (some 7) Try.func86 #[.pointer (some ⟨g, 0, none⟩)] ?_; (with_reducible refine (spec_l10Draw.calls k g s0_0 s0_1 s0_2 t1024 t1027 t1028 w0 _ ?s1 ?s2 A2.out).mono ?_); (case s1 => exact bIQx291_); (case s2 => exact bIQx292_); rintro e w54 ⟨v1025, rfl, ho0, hi, hb, hk⟩; refine ⟨_, rfl, ?_⟩; have HO1026 := A_ (Kd.S_lower ho0 (keep_size (w := w) (g := g) (row := none) bK_)); replace HK := A_ (KeepBut.trans bK_ hk (.inl rfl)); replace HB := A_ (hb); replace HI0 := A_ (hi); (try clear hb); (try clear hk); (try clear hi); (try clear ho0); obtain ⟨Ao55, co55, eo55⟩ := Kd.S_slice HO1026.out; subst eo55) | ((with_reducible refine gc_ (f := 102) rfl ?_); refine gL_ (some 15) Try.func102 #[.pointer (some ⟨g, 0, none⟩), .int .i64 (t1024.length : Int)] ?_; (with_reducible refine (spec_l1Below.calls g s0_0 t1027 t1028 (t1024.length : Int) t1029 t1030 t1031 w0 _ ?s1 ?s2 A6.out).mono ?_); (case s1 => exact bIQx291_); (case s2 => exact bIQx292_); rintro e w56 ⟨rfl, hi, hb, hk⟩; refine ⟨_, rfl, ?_⟩; replace HO1026 := A_ (Kd.S_mono (Kd.S_keep (IsS94.apartS (show IsS94 w0 _ g s0_0 t1027 t1028 from bIQx291_) (vS_ HO1026.out) (by decide)) hk (fun _ h => h.2)) (fun _ h => h.1)); replace HK := A_ (KeepBut.trans bK_ hk (.inl rfl)); replace HB := A_ (hb); replace HI0 := A_ (hi); (try clear hb); (try clear hk); (try clear hi)) | ((with_reducible refine gc_ (f := 102) rfl ?_); refine gL_ (some 17) Try.func102 #[.pointer (some ⟨g, 0, none⟩), .int .i64 14] ?_; (with_reducible refine (spec_l1Below.calls g s0_0 t1030 t1031 14 t1032 t1033 t1034 w0 _ ?s1 ?s2 A7.out).mono ?_); (case s1 => exact bIQx291_); (case s2 => exact bIQx292_); rintro e w57 ⟨rfl, hi, hb, hk⟩; refine ⟨_, rfl, ?_⟩; replace HO1026 := A_ (Kd.S_mono (Kd.S_keep (IsS94.apartS (show IsS94 w0 _ g s0_0 t1030 t1031 from bIQx291_) (vS_ HO1026.out) (by decide)) hk (fun _ h => h.2)) (fun _ h => h.1)); replace HK := A_ (KeepBut.trans bK_ hk (.inl rfl)); replace HB := A_ (hb); replace HI0 := A_ (hi); (try clear hb); (try clear hk); (try clear hi)) | ((with_reducible refine gd_ (N := 54) rfl ?_); refine Kd.R_lit (Kd.int .i64) _ 3 ?hg (N := 54) ?hd (xs := ([(-1), 99999, 100000] : List Int)) (inner := [.int .i64 (-1), .int .i64 99999, .int .i64 100000]) (ok := fun _ => True) (okp := fun _ => True) ?hr ?hp (fun _ hk => hk) trivial (Below.refl _ _) (Nat.le_refl _) (by simp) ?_; (case hd => rfl); (case hg => rfl); (case hr => first | (go_simp; done) | (go_simp; rfl)); (case hp => exact (Reps.one (show Kd.M (Kd.int .i64) _ _ _ (-1) [.int .i64 (-1)] from rfl) (Reps.one (show Kd.M (Kd.int .i64) _ _ _ 99999 [.int .i64 99999] from rfl) (Reps.one (show Kd.M (Kd.int .i64) _ _ _ 100000 [.int .i64 100000] from rfl) (Reps.none _ _))))); intro v1051 w58 ho59 hb hg_ hnew_; clear hg_ hnew_; (first | rw [← Ny1050.out] at ho59 | (simp only [Int.reduceToNat] at ho59; rw [← Ny1050.out] at ho59)); replace HO1026 := A_ (Kd.S_below (vS_ HO1026.out) hb); have HO1052 := A_ (Kd.R_lower ho59 (keep_size (w := w) (g := g) (row := none) bK_)); replace HK := A_ (KeepBut.trans bK_ (KeepBut.of_below hb g none) (.inl rfl)); replace HB := A_ (below_step bIQx292_ hb); replace HI0 := A_ (IsS94.below bIQx291_ hb); clear hb ho59; obtain ⟨Ao60, co60, eo60⟩ := Kd.R_slice HO1052.out; subst eo60) | ((with_reducible refine gc_ (f := 107) rfl ?_); refine gL_ (some 55) Try.func107 #[.pointer (some ⟨g, 0, none⟩), .slice Ao60 y1050.length co60] ?_; (with_reducible refine (spec_l1Int.calls g s0_0 t1033 t1034 _ _ y1050 t1053 t1054 t1055 w0 _ ?s1 ?s2 ?s3 ?s4 ?s5 A50.out).mono ?_); (case s1 => exact bIQx291_); (case s2 => exact bIQx292_); (case s3 => exact cC_ (Kd.R_reads' HO1052.out).2.2); (case s4 => exact (Kd.R_reads' HO1052.out).2.1); (case s5 => exact far_slice (IsS94.own_ne HI0.out HO1052.out (by decide))); rintro e w61 ⟨rfl, hi, hb, hk⟩; refine ⟨_, rfl, ?_⟩; replace HO1026 := A_ (Kd.S_mono (Kd.S_keep (IsS94.apartS (show IsS94 w0 _ g s0_0 t1033 t1034 from bIQx291_) (vS_ HO1026.out) (by decide)) hk (fun _ h => h.2)) (fun _ h => h.1)); replace HO1052 := A_ (Kd.R_mono (Kd.R_keep (IsS94.apart (show IsS94 w0 _ g s0_0 t1033 t1034 from bIQx291_) (vR_ HO1052.out) (by decide)) hk (fun _ h => h.2)) (fun _ h => h.1)); replace HK := A_ (KeepBut.trans bK_ hk (.inl rfl)); replace HB := A_ (hb); replace HI0 := A_ (hi); (try clear hb); (try clear hk); (try clear hi); have p53 : 0 ≤ (t1029 : Int) := od_; have q53 : (t1029 : Int) < ((t1024.length : Int) : Int) := od_; obtain ⟨go53, co53, eo53, gb53, gl53, cl53, HG53⟩ := Kd.S_form HO1026.out (by omega); (first | cases eo53 | (injection eo53 with ea_ en_ ec_; (first | subst ea_ | (injection ea_ with ea_; subst ea_)); subst ec_; clear en_)); have GB53 := A_ gb53; have GG53 := A_ HG53; clear gb53 gl53 HG53; obtain ⟨_, ce53, hcl53, hM53, hcc53, hfr53, _, _⟩ := Kd.S_elem HO1026.out z59 (t1029 : Int) p53 q53; obtain ⟨ve53_0, ve53_4, rfl, ge53_0, ge53_4⟩ := k59_openM hM53; have hx53_0 : w61.cell? ⟨go53, (t1029 : Int).toNat * 5, none⟩ = some (ve53_0) := hcc53 0 _ rfl; have hx53_1 : w61.cell? ⟨go53, (t1029 : Int).toNat * 5 + 1, none⟩ = some (.bool ((rd_T59 t1024 t1029).f1)) := hcc53 1 _ rfl; have hx53_2 : w61.cell? ⟨go53, (t1029 : Int).toNat * 5 + 2, none⟩ = some (.string ((rd_T59 t1024 t1029).f2)) := hcc53 2 _ rfl; have hx53_3 : w61.cell? ⟨go53, (t1029 : Int).toNat * 5 + 3, none⟩ = some (.int .i64 ((rd_T59 t1024 t1029).f3)) := hcc53 3 _ rfl; have hx53_4 : w61.cell? ⟨go53, (t1029 : Int).toNat * 5 + 4, none⟩ = some (ve53_4) := hcc53 4 _ rfl; have hf53_0 : w61.frozen? ⟨go53, (t1029 : Int).toNat * 5, none⟩ = false := hfr53 0; have hf53_1 : w61.frozen? ⟨go53, (t1029 : Int).toNat * 5 + 1, none⟩ = false := hfr53 1; have hf53_2 : w61.frozen? ⟨go53, (t1029 : Int).toNat * 5 + 2, none⟩ = false := hfr53 2; have hf53_3 : w61.frozen? ⟨go53, (t1029 : Int).toNat * 5 + 3, none⟩ = false := hfr53 3; have hf53_4 : w61.frozen? ⟨go53, (t1029 : Int).toNat * 5 + 4, none⟩ = false := hfr53 4; (try clear hcl53); (try clear hcc53); (try clear hfr53); (try clear hM53); replace p53 := eq_true p53; replace q53 := eq_true q53; have HX62 := A_ (show Kd.S k59 59 w61 w.heap.size (fun k_ => ((fun _ => True)) k_ ∧ ¬ ((fun _ => False)) k_) (.slice (some ⟨go53, 0, none⟩) t1024.length co55) t1024 from (by (with_reducible repeat (first | apply Kd.S_alloc | apply Kd.S_drewN | apply Kd.S_drew)); exact Kd.S_mono HO1026.out (fun k_ hk => ⟨trivial, fun e_ => e_⟩))); obtain ⟨oki62, ce62, hcl62, hM62, hcc62, hfr62, hoki62, hH62⟩ := Kd.S_elem HX62.out z59 (t1029 : Int) od_ (by have h_ : (t1029 : Int) < ((t1024.length : Int) : Int) := od_; first | exact h_ | (have e_ := (Kd.S_reads' HO1026.out).1; omega) | simpa using h_); obtain ⟨ve62_0, ve62_4, rfl, ge62_0, ge62_4⟩ := k59_openM hM62; have HP62 := Kd.S_seg hH62 od_ (by have h_ : (t1029 : Int) < ((t1024.length : Int) : Int) := od_; first | exact h_ | (have e_ := (Kd.S_reads' HO1026.out).1; omega) | simpa using h_) (seg := [.int .i64 t1053]) (j := 3) (show 4 ≤ 5 from by decide) (x' := (⟨(rd_T59 t1024 t1029).f0, (rd_T59 t1024 t1029).f1, (rd_T59 t1024 t1029).f2, t1053, (rd_T59 t1024 t1029).f4⟩ : S59)) (k59_mkM _ _ _ (⟨(rd_T59 t1024 t1029).f0, (rd_T59 t1024 t1029).f1, (rd_T59 t1024 t1029).f2, t1053, (rd_T59 t1024 t1029).f4⟩ : S59) (Kd.R_mono ge62_0 (fun _ h_ => Or.inl h_)) (Kd.R_mono ge62_4 (fun _ h_ => Or.inl h_))) (fun _ hk => hk) (fun k_ hk_ => hk_.elim); have hx62_3 := hcc62 3 _ rfl; (try simp only [show (k59).sz = 5 from rfl, Nat.mul_one, Nat.add_zero] at hx62_3); have hf62_3 := hfr62 3; (try simp only [show (k59).sz = 5 from rfl, Nat.mul_one, Nat.add_zero] at hf62_3); (try clear hcl62); (try clear hcc62); (try clear hfr62); (try clear hM62); (try clear hoki62); (try clear hH62)) | ((with_reducible refine gate_store (t := 3) (p := 57) rfl ?_); refine store_event (t := 3) (p := 57) (v := ?vo_w63) (w1 := (w61.setCell ⟨go53, (t1029 : Int).toNat * 5 + 3, none⟩ (.int .i64 t1053))) ?hg ?ho ?hn ?hr ?_; (case ho => rfl); (case hg => rfl); (case hn => rfl); (case hr => first | (go_simp; done) | (go_simp; rfl)); intro w63 hw; have hg : w61.grownBy w63 (some go53) := (by rw [hw]; exact HP62.2); have hp_ : Kd.S k59 59 w63 w.heap.size (fun _ => True) (.slice (some ⟨go53, 0, none⟩) t1024.length co55) y1056 := (by rw [hw, Ny1056.out]; exact HP62.1); clear HP62; replace HI0 := A_ (IsS94.grown bIQx291_ hg (IsS94.own_neS HI0.out HO1026.out (by decide))); replace HO1052 := A_ (Kd.R_over' (v := (.slice (some ⟨go53, 0, none⟩) t1024.length co55)) (vR_ HO1052.out) (Kd.S_typed HO1026.out) (by decide) hg); replace HB := A_ ((by rw [hw]; exact below_set (HB.out) (Nat.le_trans HL.out GB53.out) : Below w0.heap.size w0 w63)); replace HK := A_ (KeepBut.trans bK_ (KeepBut.of_grown hg g) (Kd.S_base2 HO1026.out)); replace HO1026 := A_ (hp_); clear hg hw hp_))
   go_ret
   exact ⟨_, rr_, by (with_reducible repeat (first | apply Kd.S_alloc | apply Kd.S_drewN | apply Kd.S_drew)); exact HO1026.out, bIQx291_, bIQx292_, bK_⟩
 rw [if_neg c49] at H
 have c49b0 : (t1032 == 3) = false := beq_eq_false_iff_ne.mpr c49
 have c49b1 : (t1032 != 3) = true := bne_iff_ne.mpr c49
 by_cases c64 : t1032 = 4
 rotate_left
 · rw [if_neg c64] at H
   have c64b0 : (t1032 == 4) = false := beq_eq_false_iff_ne.mpr c64
   have c64b1 : (t1032 != 4) = true := bne_iff_ne.mpr c64
   by_cases c81 : t1032 = 5
   rotate_left
   · rw [if_neg c81] at H
     have c81b0 : (t1032 == 5) = false := beq_eq_false_iff_ne.mpr c81
     have c81b1 : (t1032 != 5) = true := bne_iff_ne.mpr c81
     simp only [Option.some.injEq, Prod.mk.injEq] at H
     obtain ⟨rfl, rfl, rfl⟩ := H
     go_enter Try.func88, Try.ntmps88
     go_wp2_with (first | ((with_reducible refine gc_ (f := 86) rfl ?_); refine gL_ (some 7) Try.func86 #[.pointer (some ⟨g, 0, none⟩)] ?_; (with_reducible refine (spec_l10Draw.calls k g s0_0 s0_1 s0_2 t1024 t1027 t1028 w0 _ ?s1 ?s2 A2.out).mono ?_); (case s1 => exact bIQx291_); (case s2 => exact bIQx292_); rintro e w95 ⟨v1025, rfl, ho0, hi, hb, hk⟩; refine ⟨_, rfl, ?_⟩; have HO1026 := A_ (Kd.S_lower ho0 (keep_size (w := w) (g := g) (row := none) bK_)); replace HK := A_ (KeepBut.trans bK_ hk (.inl rfl)); replace HB := A_ (hb); replace HI0 := A_ (hi); (try clear hb); (try clear hk); (try clear hi); (try clear ho0); obtain ⟨Ao96, co96, eo96⟩ := Kd.S_slice HO1026.out; subst eo96) | ((with_reducible refine gc_ (f := 102) rfl ?_); refine gL_ (some 15) Try.func102 #[.pointer (some ⟨g, 0, none⟩), .int .i64 (t1024.length : Int)] ?_; (with_reducible refine (spec_l1Below.calls g s0_0 t1027 t1028 (t1024.length : Int) t1029 t1030 t1031 w0 _ ?s1 ?s2 A6.out).mono ?_); (case s1 => exact bIQx291_); (case s2 => exact bIQx292_); rintro e w97 ⟨rfl, hi, hb, hk⟩; refine ⟨_, rfl, ?_⟩; replace HO1026 := A_ (Kd.S_mono (Kd.S_keep (IsS94.apartS (show IsS94 w0 _ g s0_0 t1027 t1028 from bIQx291_) (vS_ HO1026.out) (by decide)) hk (fun _ h => h.2)) (fun _ h => h.1)); replace HK := A_ (KeepBut.trans bK_ hk (.inl rfl)); replace HB := A_ (hb); replace HI0 := A_ (hi); (try clear hb); (try clear hk); (try clear hi)) | ((with_reducible refine gc_ (f := 102) rfl ?_); refine gL_ (some 17) Try.func102 #[.pointer (some ⟨g, 0, none⟩), .int .i64 14] ?_; (with_reducible refine (spec_l1Below.calls g s0_0 t1030 t1031 14 t1032 t1033 t1034 w0 _ ?s1 ?s2 A7.out).mono ?_); (case s1 => exact bIQx291_); (case s2 => exact bIQx292_); rintro e w98 ⟨rfl, hi, hb, hk⟩; refine ⟨_, rfl, ?_⟩; replace HO1026 := A_ (Kd.S_mono (Kd.S_keep (IsS94.apartS (show IsS94 w0 _ g s0_0 t1030 t1031 from bIQx291_) (vS_ HO1026.out) (by decide)) hk (fun _ h => h.2)) (fun _ h => h.1)); replace HK := A_ (KeepBut.trans bK_ hk (.inl rfl)); replace HB := A_ (hb); replace HI0 := A_ (hi); (try clear hb); (try clear hk); (try clear hi)))
     go_ret
     exact ⟨_, rr_, by (with_reducible repeat (first | apply Kd.S_alloc | apply Kd.S_drewN | apply Kd.S_drew)); exact HO1026.out, bIQx291_, bIQx292_, bK_⟩
   rw [if_pos c81] at H
   have c81b0 : (t1032 == 5) = true := beq_iff_eq.mpr c81
   have c81b1 : (t1032 != 5) = false := bne_eq_false_iff_eq.mpr c81
   clear c81
   have H' := A_ H
   clear H
   go_enter Try.func88, Try.ntmps88
   go_wp2_with (first | ((with_reducible refine gc_ (f := 86) rfl ?_); refine gL_ (some 7) Try.func86 #[.pointer (some ⟨g, 0, none⟩)] ?_; (with_reducible refine (spec_l10Draw.calls k g s0_0 s0_1 s0_2 t1024 t1027 t1028 w0 _ ?s1 ?s2 A2.out).mono ?_); (case s1 => exact bIQx291_); (case s2 => exact bIQx292_); rintro e w82 ⟨v1025, rfl, ho0, hi, hb, hk⟩; refine ⟨_, rfl, ?_⟩; have HO1026 := A_ (Kd.S_lower ho0 (keep_size (w := w) (g := g) (row := none) bK_)); replace HK := A_ (KeepBut.trans bK_ hk (.inl rfl)); replace HB := A_ (hb); replace HI0 := A_ (hi); (try clear hb); (try clear hk); (try clear hi); (try clear ho0); obtain ⟨Ao83, co83, eo83⟩ := Kd.S_slice HO1026.out; subst eo83) | ((with_reducible refine gc_ (f := 102) rfl ?_); refine gL_ (some 15) Try.func102 #[.pointer (some ⟨g, 0, none⟩), .int .i64 (t1024.length : Int)] ?_; (with_reducible refine (spec_l1Below.calls g s0_0 t1027 t1028 (t1024.length : Int) t1029 t1030 t1031 w0 _ ?s1 ?s2 A6.out).mono ?_); (case s1 => exact bIQx291_); (case s2 => exact bIQx292_); rintro e w84 ⟨rfl, hi, hb, hk⟩; refine ⟨_, rfl, ?_⟩; replace HO1026 := A_ (Kd.S_mono (Kd.S_keep (IsS94.apartS (show IsS94 w0 _ g s0_0 t1027 t1028 from bIQx291_) (vS_ HO1026.out) (by decide)) hk (fun _ h => h.2)) (fun _ h => h.1)); replace HK := A_ (KeepBut.trans bK_ hk (.inl rfl)); replace HB := A_ (hb); replace HI0 := A_ (hi); (try clear hb); (try clear hk); (try clear hi)) | ((with_reducible refine gc_ (f := 102) rfl ?_); refine gL_ (some 17) Try.func102 #[.pointer (some ⟨g, 0, none⟩), .int .i64 14] ?_; (with_reducible refine (spec_l1Below.calls g s0_0 t1030 t1031 14 t1032 t1033 t1034 w0 _ ?s1 ?s2 A7.out).mono ?_); (case s1 => exact bIQx291_); (case s2 => exact bIQx292_); rintro e w85 ⟨rfl, hi, hb, hk⟩; refine ⟨_, rfl, ?_⟩; replace HO1026 := A_ (Kd.S_mono (Kd.S_keep (IsS94.apartS (show IsS94 w0 _ g s0_0 t1030 t1031 from bIQx291_) (vS_ HO1026.out) (by decide)) hk (fun _ h => h.2)) (fun _ h => h.1)); replace HK := A_ (KeepBut.trans bK_ hk (.inl rfl)); replace HB := A_ (hb); replace HI0 := A_ (hi); (try clear hb); (try clear hk); (try clear hi)))
   go_loopg [3, 5] k (fun kq v3 v5 w' => ∃ (x3_1 : List (S59)) (x5_1 : Int), v5 = .int .i64 x5_1 ∧ Aside0 (spec_l10Any.l0 kq x3_1 x5_1 s0_0 t1033 t1034 = some (r1, r2, r3)) ∧ Aside0 (kq ≤ k) ∧ Aside0 (Kd.S k59 59 w' w.heap.size (fun _ => True) v3 x3_1) ∧ Aside0 (IsS94 w0 w' g s0_0 t1033 t1034) ∧ Aside0 (KeepBut w w' g none) ∧ Aside0 (Below w0.heap.size w0 w'))
   case atStart => exact ⟨(t1024), (0), rs_, H', ⟨Nat.le_refl _⟩, ⟨vS_ HO1026.out⟩, ⟨bIQx291_⟩, ⟨bK_⟩, ⟨bIQx292_⟩⟩
   case round =>
    clear H'
    try clear c1
    try clear p1
    try clear q1
    try clear hx1
    try clear hf1
    try clear c2
    try clear p2
    try clear q2
    try clear hx2
    try clear hf2
    try clear c3
    try clear c3b0
    try clear c3b1
    try clear c3b2
    try clear p3
    try clear q3
    try clear hx3
    try clear hf3
    try clear c4
    try clear hx4
    try clear hcv4
    try clear hf4
    try clear c5
    try clear p5
    try clear q5
    try clear hx5
    try clear hf5
    try clear c6
    try clear p6
    try clear q6
    try clear hx6
    try clear hf6
    try clear c7
    try clear hx7
    try clear hf7
    try clear c8
    try clear c8b0
    try clear c8b1
    try clear c9
    try clear c10
    try clear c10b0
    try clear p10
    try clear q10
    try clear hx10
    try clear c11
    try clear c11b0
    try clear c12
    try clear p12
    try clear q12
    try clear hx12
    try clear hf12
    try clear c18
    try clear hx18
    try clear hf18
    try clear c21
    try clear c21b0
    try clear c21b1
    try clear c22
    try clear c22b0
    try clear c23
    try clear c23b0
    try clear c24
    try clear p24
    try clear q24
    try clear hx24
    try clear hf24
    try clear c29
    try clear hx29
    try clear hf29
    try clear c31
    try clear c31b0
    try clear c31b1
    try clear c34
    try clear c34b0
    try clear c34b1
    try clear c35
    try clear c35b0
    try clear c35b1
    try clear c36
    try clear c36b0
    try clear c37
    try clear c37b0
    try clear c38
    try clear p38
    try clear q38
    try clear hx38
    try clear hf38
    try clear hcv46
    try clear c47
    try clear hx47
    try clear hf47
    try clear c49
    try clear c49b0
    try clear c49b1
    try clear c51
    try clear c51b0
    try clear c52
    try clear c52b0
    try clear c53
    try clear p53
    try clear q53
    try clear hx53
    try clear hf53
    try clear c62
    try clear hx62
    try clear hf62
    try clear c64
    try clear c64b0
    try clear c64b1
    try clear p64
    try clear c65
    try clear c65b0
    try clear c66
    try clear c66b0
    try clear c68
    try clear p69
    try clear q69
    try clear c76
    try clear c78
    try clear hx78
    try clear hf78
    try clear c81
    try clear c81b0
    try clear c81b1
    try clear hx1041_0
    try clear hx1041_1
    try clear hx1041_2
    try clear hx1041_3
    try clear hx1041_4
    try clear hx1057_0
    try clear hx1057_1
    try clear hx1057_2
    try clear hx1057_3
    try clear hx1057_4
    try clear hx12_0
    try clear hx12_1
    try clear hx12_2
    try clear hx12_3
    try clear hx12_4
    try clear hx18_0
    try clear hx24_0
    try clear hx24_1
    try clear hx24_2
    try clear hx24_3
    try clear hx24_4
    try clear hx29_1
    try clear hx38_0
    try clear hx38_1
    try clear hx38_2
    try clear hx38_3
    try clear hx38_4
    try clear hx47_2
    try clear hx53_0
    try clear hx53_1
    try clear hx53_2
    try clear hx53_3
    try clear hx53_4
    try clear hx62_3
    try clear hx78_0
    try clear p1041
    try clear p1057
    try clear p12
    try clear p24
    try clear p38
    try clear p53
    try clear p69
    try clear q1041
    try clear q1057
    try clear q12
    try clear q24
    try clear q38
    try clear q53
    try clear q69
    obtain ⟨x3_1, x5_1, rfl, HA, HK1, HO_3, HI0, HK, HB⟩ := hrel
    cases gk with
    | zero => exact absurd HA.out (by simp [spec_l10Any.l0])
    | succ k1 =>
     have H := HA.out
     clear HA
     simp only [spec_l10Any.l0] at H
     by_cases c86 : x5_1 < 12
     rotate_left
     · rw [if_neg c86] at H
       have c86b0 : decide (x5_1 < 12) = false := decide_eq_false c86
       clear c86
       simp only [Option.some.injEq, Prod.mk.injEq] at H
       obtain ⟨rfl, rfl, rfl⟩ := H
       go_wp2
       go_ret
       exact ⟨_, rr_, by (with_reducible repeat (first | apply Kd.S_alloc | apply Kd.S_drewN | apply Kd.S_drew)); exact HO_3.out, bIQx291_, bIQx292_, bK_⟩
     rw [if_pos c86] at H
     have c86b0 : decide (x5_1 < 12) = true := decide_eq_true c86
     clear c86
     obtain ⟨t1067, A87, H⟩ := bo_ H
     (try dsimp only at H)
     by_cases c88 : 1 + t1067.size ≤ 9223372036854775807
     rotate_left
     · exact absurd H (by rw [if_neg c88]; simp)
     rw [if_pos c88] at H
     have c88b0 := eq_true c88
     have c88b1 : decide (1 + t1067.size ≤ 9223372036854775807) = true := decide_eq_true c88
     try have c88b2 : (9223372036854775807 < 1 + t1067.size) = False := eq_false (Nat.not_lt.2 c88)
     obtain ⟨y1068, hy1068⟩ : ∃ y_ : List ByteArray, y_ = (([(⟨#[122]⟩ : ByteArray) ++ t1067] : List ByteArray)) := ⟨_, rfl⟩
     replace H : (if x3_1.length < 1759218604441 then (spec_l10Any.l0 k1 (x3_1 ++ [(⟨y1068, false, (⟨#[]⟩ : ByteArray), 0, ([] : List (S71))⟩ : S59)]) (wrap64 (x5_1 + 1)) s0_0 t1033 t1034) else (none)) = some (r1, r2, r3) := hy_ hy1068 H
     have Ny1068 := A_ hy1068
     clear hy1068
     by_cases c89 : x3_1.length < 1759218604441
     rotate_left
     · exact absurd H (by rw [if_neg c89]; simp)
     rw [if_pos c89] at H
     have LMc89 := A_ c89
     clear c89
     obtain ⟨y1071, hy1071⟩ : ∃ y_ : List (S59), y_ = (x3_1 ++ [(⟨y1068, false, (⟨#[]⟩ : ByteArray), 0, ([] : List (S71))⟩ : S59)]) := ⟨_, rfl⟩
     replace H : (spec_l10Any.l0 k1 y1071 (wrap64 (x5_1 + 1)) s0_0 t1033 t1034) = some (r1, r2, r3) := hy_ hy1071 H
     have Ny1071 := A_ hy1071
     clear hy1071
     have H' := A_ H
     clear H
     go_wp2_with (first | ((with_reducible refine gc_ (f := 109) rfl ?_); refine gL_ (some 82) Try.func109 #[.int .i64 (wrap64 (10 + x5_1))] ?_; (with_reducible refine (spec_NumText.calls k1 (wrap64 (10 + x5_1)) t1067 _ A87.out).mono ?_); rintro e w90 ⟨rfl, hb⟩; refine ⟨_, rfl, ?_⟩; replace HO_3 := A_ (Kd.S_below (vS_ HO_3.out) hb); replace HK := A_ (KeepBut.trans bK_ (KeepBut.of_below hb g none) (.inl rfl)); replace HB := A_ (below_step bIQx292_ hb); replace HI0 := A_ (IsS94.below bIQx291_ hb); (try clear hb)) | ((with_reducible refine gd_ (N := 84) rfl ?_); refine Kd.R_lit Kd.string _ 9 ?hg (N := 84) ?hd (xs := ([(⟨#[122]⟩ : ByteArray) ++ t1067] : List ByteArray)) (inner := [.string ((⟨#[122]⟩ : ByteArray) ++ t1067)]) (ok := fun _ => True) (okp := fun _ => True) ?hr ?hp (fun _ hk => hk) trivial (Below.refl _ _) (Nat.le_refl _) (by simp) ?_; (case hd => rfl); (case hg => rfl); (case hr => first | (go_simp; done) | (go_simp; rfl)); (case hp => exact (Reps.one (show Kd.M Kd.string _ _ _ ((⟨#[122]⟩ : ByteArray) ++ t1067) [.string ((⟨#[122]⟩ : ByteArray) ++ t1067)] from rfl) (Reps.none _ _))); intro v1069 w91 ho92 hb hg_ hnew_; clear hg_ hnew_; (first | rw [← Ny1068.out] at ho92 | (simp only [Int.reduceToNat] at ho92; rw [← Ny1068.out] at ho92)); replace HO_3 := A_ (Kd.S_elder' (vS_ HO_3.out) (kb_ ho92) hb); have HO1070 := A_ (Kd.R_lower ho92 (keep_size (w := w) (g := g) (row := none) bK_)); replace HK := A_ (KeepBut.trans bK_ (KeepBut.of_below hb g none) (.inl rfl)); replace HB := A_ (below_step bIQx292_ hb); replace HI0 := A_ (IsS94.below bIQx291_ hb); clear hb ho92; obtain ⟨Ao93, co93, eo93⟩ := Kd.R_slice HO1070.out; subst eo93) | ((with_reducible refine gate_builtin (b := .append) (xs := #[.tmp 79, .tmp 86]) rfl ?_); at_builtin; refine Kd.S_append k59 w.heap.size rfl (.tmp 79) (.tmp 86) 40 59 (.agg #[(.slice none 0 0), (.bool false), (.string ⟨#[]⟩), (.int .i64 0), (.slice none 0 0)]) 80 rfl Try.underlying40 info59 rfl (by decide) (by omega) u3 x3_1 (⟨y1068, false, (⟨#[]⟩ : ByteArray), 0, ([] : List (S71))⟩ : S59) [.slice Ao93 y1068.length co93, .bool false, .string (⟨#[]⟩ : ByteArray), .int .i64 0, .slice none 0 0] (fun _ => True) (fun k_ => some k_ = (.slice Ao93 y1068.length co93 : Value).ownBlock) rfl rfl ?aP (fun k_ hk_ => ((Kd.R_mono (ok' := fun k_ => ((fun _ => True)) k_ ∧ some k_ ≠ (u3 : Value).ownBlock) (Kd.R_apart' (HO1070.out) (Kd.S_typed HO_3.out) (by decide)) (fun k_ hk => ⟨trivial, hk.2⟩))).1 k_ hk_.symm) ?aF ?aO (Below.refl _ _) ?aS ?aL ?_; (case aP => exact k59_mkM _ _ _ (⟨y1068, false, (⟨#[]⟩ : ByteArray), 0, ([] : List (S71))⟩ : S59) (Kd.R_mono (Kd.R_tight rfl (Kd.R_mono (ok' := fun k_ => ((fun _ => True)) k_ ∧ some k_ ≠ (u3 : Value).ownBlock) (Kd.R_apart' (HO1070.out) (Kd.S_typed HO_3.out) (by decide)) (fun k_ hk => ⟨trivial, hk.2⟩))) (fun _ h_ => h_)) (Kd.R_nil _ _ _ _ _)); (case aF => exact (fun _ _ => trivial)); (case aO => exact (by (with_reducible repeat (first | apply Kd.S_alloc | apply Kd.S_drewN | apply Kd.S_drew)); exact Kd.S_mono HO_3.out (fun k_ hk => ⟨trivial, fun e_ => hk.2 e_⟩))); (case aS => exact (keep_size (w := w) (g := g) (row := none) bK_)); (case aL => have := LMc89.out; omega); intro v1072 w94 ho hb hg hat; rw [← Ny1071.out] at ho; replace HB := A_ (below_weaken bIQx292_ HL.out hb); replace HI0 := A_ (IsS94.grown bIQx291_ hg (IsS94.own_neS HI0.out HO_3.out (by decide))); replace HK := A_ (KeepBut.trans bK_ (KeepBut.of_grown hg g) (Kd.S_base2 HO_3.out)); have HO1073 := A_ (ho); clear HO_3 HO1070; clear ho hb hg hat))
     go_roundg k1
     case measure => have := HK1.out; omega
     case rel => exact ⟨(y1071), (wrap64 (x5_1 + 1)), rs_, H', ⟨by have := HK1.out; omega⟩, ⟨vS_ HO1073.out⟩, ⟨bIQx291_⟩, ⟨bK_⟩, ⟨bIQx292_⟩⟩
 rw [if_pos c64] at H
 have c64b0 : (t1032 == 4) = true := beq_iff_eq.mpr c64
 have c64b1 : (t1032 != 4) = false := bne_eq_false_iff_eq.mpr c64
 clear c64
 by_cases c65 : 0 ≤ t1029
 rotate_left
 · exact absurd H (by rw [if_neg c65]; simp)
 rw [if_pos c65] at H
 have c65b0 : decide (0 ≤ t1029) = true := decide_eq_true c65
 clear c65
 by_cases c66 : t1029 < (t1024.length : Int)
 rotate_left
 · exact absurd H (by rw [if_neg c66]; simp)
 rw [if_pos c66] at H
 have c66b0 : decide (t1029 < (t1024.length : Int)) = true := decide_eq_true c66
 clear c66
 obtain ⟨⟨t1058, t1059, t1060, t1061, t1062⟩, A67, H⟩ := bo_ H
 (try dsimp only at H)
 by_cases c68 : ((rd_T59 t1024 t1029).f4).length < 2932031007402
 rotate_left
 · exact absurd H (by rw [if_neg c68]; simp)
 rw [if_pos c68] at H
 have LMc68 := A_ c68
 clear c68
 obtain ⟨y1063, hy1063⟩ : ∃ y_ : List (S71), y_ = (((rd_T59 t1024 t1029).f4) ++ [(⟨t1058, t1059, t1060⟩ : S71)]) := ⟨_, rfl⟩
 replace H : (some ((t1024.set (t1029 : Int).toNat (⟨(rd_T59 t1024 t1029).f0, (rd_T59 t1024 t1029).f1, (rd_T59 t1024 t1029).f2, (rd_T59 t1024 t1029).f3, y1063⟩ : S59)), t1061, t1062)) = some (r1, r2, r3) := hy_ hy1063 H
 have Ny1063 := A_ hy1063
 clear hy1063
 obtain ⟨y1066, hy1066⟩ : ∃ y_ : List (S59), y_ = (t1024.set (t1029 : Int).toNat (⟨(rd_T59 t1024 t1029).f0, (rd_T59 t1024 t1029).f1, (rd_T59 t1024 t1029).f2, (rd_T59 t1024 t1029).f3, y1063⟩ : S59)) := ⟨_, rfl⟩
 replace H : (some (y1066, t1061, t1062)) = some (r1, r2, r3) := hy_ hy1066 H
 have Ny1066 := A_ hy1066
 clear hy1066
 simp only [Option.some.injEq, Prod.mk.injEq] at H
 obtain ⟨rfl, rfl, rfl⟩ := H
 go_enter Try.func88, Try.ntmps88
 try go_wp2_with (first | ((with_reducible refine gc_ (f := 86) rfl ?_); refine gL_ (some 7) Try.func86 #[.pointer (some ⟨g, 0, none⟩)] ?_; (with_reducible refine (spec_l10Draw.calls k g s0_0 s0_1 s0_2 t1024 t1027 t1028 w0 _ ?s1 ?s2 A2.out).mono ?_); (case s1 => exact bIQx291_); (case s2 => exact bIQx292_); rintro e w70 ⟨v1025, rfl, ho0, hi, hb, hk⟩; refine ⟨_, rfl, ?_⟩; have HO1026 := A_ (Kd.S_lower ho0 (keep_size (w := w) (g := g) (row := none) bK_)); replace HK := A_ (KeepBut.trans bK_ hk (.inl rfl)); replace HB := A_ (hb); replace HI0 := A_ (hi); (try clear hb); (try clear hk); (try clear hi); (try clear ho0); obtain ⟨Ao71, co71, eo71⟩ := Kd.S_slice HO1026.out; subst eo71) | ((with_reducible refine gc_ (f := 102) rfl ?_); refine gL_ (some 15) Try.func102 #[.pointer (some ⟨g, 0, none⟩), .int .i64 (t1024.length : Int)] ?_; (with_reducible refine (spec_l1Below.calls g s0_0 t1027 t1028 (t1024.length : Int) t1029 t1030 t1031 w0 _ ?s1 ?s2 A6.out).mono ?_); (case s1 => exact bIQx291_); (case s2 => exact bIQx292_); rintro e w72 ⟨rfl, hi, hb, hk⟩; refine ⟨_, rfl, ?_⟩; replace HO1026 := A_ (Kd.S_mono (Kd.S_keep (IsS94.apartS (show IsS94 w0 _ g s0_0 t1027 t1028 from bIQx291_) (vS_ HO1026.out) (by decide)) hk (fun _ h => h.2)) (fun _ h => h.1)); replace HK := A_ (KeepBut.trans bK_ hk (.inl rfl)); replace HB := A_ (hb); replace HI0 := A_ (hi); (try clear hb); (try clear hk); (try clear hi)) | ((with_reducible refine gc_ (f := 102) rfl ?_); refine gL_ (some 17) Try.func102 #[.pointer (some ⟨g, 0, none⟩), .int .i64 14] ?_; (with_reducible refine (spec_l1Below.calls g s0_0 t1030 t1031 14 t1032 t1033 t1034 w0 _ ?s1 ?s2 A7.out).mono ?_); (case s1 => exact bIQx291_); (case s2 => exact bIQx292_); rintro e w73 ⟨rfl, hi, hb, hk⟩; refine ⟨_, rfl, ?_⟩; replace HO1026 := A_ (Kd.S_mono (Kd.S_keep (IsS94.apartS (show IsS94 w0 _ g s0_0 t1030 t1031 from bIQx291_) (vS_ HO1026.out) (by decide)) hk (fun _ h => h.2)) (fun _ h => h.1)); replace HK := A_ (KeepBut.trans bK_ hk (.inl rfl)); replace HB := A_ (hb); replace HI0 := A_ (hi); (try clear hb); (try clear hk); (try clear hi)))
 replace HO1026 := A_ (Kd.S_drew HO1026.out)
 replace HI0 := A_ (IsS94.drew HI0.out)
 replace HK := A_ (keep_drew HK.out)
 replace HB := A_ (below_drew1 HB.out)
 have p1057 : 0 ≤ (t1029 : Int) := od_
 have q1057 : t1029 < (t1024.length : Int) := od_
 obtain ⟨ad1057, A1057_0, c1057_0, A1057_4, c1057_4, e1057, hx1057_0, hx1057_1, hx1057_2, hx1057_3, hx1057_4, hl1057_0, hi1057_0, hl1057_4, hi1057_4⟩ := at_T59 (Kd.S_reads' HO1026.out).2.2 t1029 p1057 q1057
 cases e1057
 obtain ⟨ce1057, hce1057, hMe1057, hcc1057⟩ := Kd.S_get HO1026.out z59 t1029 p1057 (by first | exact q1057 | exact od_ | (have e_ := (Kd.S_reads' HO1026.out).1; omega))
 obtain ⟨ve1057_0, ve1057_4, rfl, ge1057_0, ge1057_4⟩ := k59_openM hMe1057
 have hv1057_0 := hcc1057 0 _ rfl
 rw [Nat.add_zero] at hv1057_0
 replace hv1057_0 := Option.some.inj (hv1057_0.symm.trans hx1057_0)
 rw [hv1057_0] at ge1057_0
 have HL1057_0 := A_ (show Kd.R Kd.string 9 _ _ _ _ ((rd_T59 t1024 t1029).f0) from ge1057_0)
 clear hv1057_0 ge1057_0
 have HX1057_0 := A_ hx1057_0
 have hv1057_4 := hcc1057 4 _ rfl
 rw [add_field _ _ 4 (by omega)] at hv1057_4
 replace hv1057_4 := Option.some.inj (hv1057_4.symm.trans hx1057_4)
 rw [hv1057_4] at ge1057_4
 have HL1057_4 := A_ (show Kd.R k71 71 _ _ _ _ ((rd_T59 t1024 t1029).f4) from ge1057_4)
 clear hv1057_4 ge1057_4
 have HX1057_4 := A_ hx1057_4
 clear hcc1057 hce1057
 have HR1057_0 := A_ hi1057_0
 have HC1057_0 := A_ hl1057_0
 clear hi1057_0 hl1057_0
 have HR1057_4 := A_ hi1057_4
 have HC1057_4 := A_ hl1057_4
 clear hi1057_4 hl1057_4
 replace p1057 := eq_true p1057
 replace q1057 := eq_true q1057
 refine start_ (n := 14) (S := fun w' => w'.cell? (ad1057.add ((t1029).toNat * 5)) = some (.slice A1057_0 ((rd_T59 t1024 t1029).f0).length c1057_0) ∧ w'.cell? ⟨(ad1057.add ((t1029).toNat * 5)).block, (ad1057.add ((t1029).toNat * 5)).off + 1, none⟩ = some (.bool ((rd_T59 t1024 t1029).f1)) ∧ w'.cell? ⟨(ad1057.add ((t1029).toNat * 5)).block, (ad1057.add ((t1029).toNat * 5)).off + 2, none⟩ = some (.string ((rd_T59 t1024 t1029).f2)) ∧ w'.cell? ⟨(ad1057.add ((t1029).toNat * 5)).block, (ad1057.add ((t1029).toNat * 5)).off + 3, none⟩ = some (.int .i64 ((rd_T59 t1024 t1029).f3)) ∧ w'.cell? ⟨(ad1057.add ((t1029).toNat * 5)).block, (ad1057.add ((t1029).toNat * 5)).off + 4, none⟩ = some (.slice A1057_4 ((rd_T59 t1024 t1029).f4).length c1057_4)) (ds := [13]) #[false, false, false, false, false, false, false, false, false, false, false, false, false, false] (by kernel_rfl) rfl rfl ⟨hx1057_0, hx1057_1, hx1057_2, hx1057_3, hx1057_4⟩ (fun hHeld => ?_); refine with_tabW spec_l10Any.tab15 spec_l10Any.bits15 (fun HT_ HW_ => ?_)
 generalize w73.drew = w74 at HO1026 HI0 HK HB HL1057_0 HL1057_4 HR1057_0 HR1057_4 HX1057_0 HX1057_4 hx1057_0 hx1057_1 hx1057_2 hx1057_3 hx1057_4 hHeld ⊢
 refine pu_ (i := 0) (N := some 60) ?_
 refine pu_ (i := 1) (N := some 61) ?_
 refine pu_ (i := 2) (N := some 62) ?_
 refine pu_ (i := 3) (N := some 63) ?_
 refine pu_ (i := 4) (N := some 64) ?_
 refine pu_ (i := 5) (N := some 65) ?_
 refine pu_ (i := 7) (N := some 67) ?_
 refine tk_ (i := 6) (N := some 66) hHeld ?_
 refine on_ (i := 8) (N := some 68) (fun K hK => ?_)
 refine goes_ Try.func108 (by kernel_rfl) rfl #[.pointer (some ⟨g, 0, none⟩)] (by rfl) rfl rfl ml_ ?_
 with_reducible refine (spec_l10OneProp.calls g s0_0 t1033 t1034 t1058 t1059 t1060 t1061 t1062 w0 _ ?s1 ?s2 A67.out).mono ?_
 (case s1 => exact bIQx291_)
 (case s2 => exact bIQx292_)
 rintro e w75 ⟨rfl, hi, hb, hk⟩
 have HS0_ := keep_cell hk (hHeld.1) (by first | (rw [add_block]; exact Kd.own_blk (IsS94.own_neS HI0.out HO1026.out (by decide))) | (show (Addr.add _ _).block ≠ _; rw [add_block]; exact Kd.own_blk (IsS94.own_neS HI0.out HO1026.out (by decide))) | exact Kd.own_blk (IsS94.own_neS HI0.out HO1026.out (by decide)))
 have HS1_ := keep_cell hk (hHeld.2.1) (by first | (rw [add_block]; exact Kd.own_blk (IsS94.own_neS HI0.out HO1026.out (by decide))) | (show (Addr.add _ _).block ≠ _; rw [add_block]; exact Kd.own_blk (IsS94.own_neS HI0.out HO1026.out (by decide))) | exact Kd.own_blk (IsS94.own_neS HI0.out HO1026.out (by decide)))
 have HS2_ := keep_cell hk (hHeld.2.2.1) (by first | (rw [add_block]; exact Kd.own_blk (IsS94.own_neS HI0.out HO1026.out (by decide))) | (show (Addr.add _ _).block ≠ _; rw [add_block]; exact Kd.own_blk (IsS94.own_neS HI0.out HO1026.out (by decide))) | exact Kd.own_blk (IsS94.own_neS HI0.out HO1026.out (by decide)))
 have HS3_ := keep_cell hk (hHeld.2.2.2.1) (by first | (rw [add_block]; exact Kd.own_blk (IsS94.own_neS HI0.out HO1026.out (by decide))) | (show (Addr.add _ _).block ≠ _; rw [add_block]; exact Kd.own_blk (IsS94.own_neS HI0.out HO1026.out (by decide))) | exact Kd.own_blk (IsS94.own_neS HI0.out HO1026.out (by decide)))
 have HS4_ := keep_cell hk (hHeld.2.2.2.2) (by first | (rw [add_block]; exact Kd.own_blk (IsS94.own_neS HI0.out HO1026.out (by decide))) | (show (Addr.add _ _).block ≠ _; rw [add_block]; exact Kd.own_blk (IsS94.own_neS HI0.out HO1026.out (by decide))) | exact Kd.own_blk (IsS94.own_neS HI0.out HO1026.out (by decide)))
 refine ⟨_, rfl, ?_⟩
 replace HL1057_0 := A_ (Kd.R_mono (Kd.R_keep (IsS94.apart (show IsS94 w0 _ g s0_0 t1033 t1034 from bIQx291_) (vR_ HL1057_0.out) (by decide)) hk (fun _ h => h.2)) (fun _ h => h.1))
 replace HX1057_0 := A_ (keep_cell hk HX1057_0.out (by first | (rw [add_block]; exact Kd.own_blk (IsS94.own_neS HI0.out HO1026.out (by decide))) | (show (Addr.add _ _).block ≠ _; rw [add_block]; exact Kd.own_blk (IsS94.own_neS HI0.out HO1026.out (by decide))) | exact Kd.own_blk (IsS94.own_neS HI0.out HO1026.out (by decide)) | (dsimp only; exact Kd.own_blk (IsS94.own_neS HI0.out HO1026.out (by decide)))))
 replace HL1057_4 := A_ (Kd.R_mono (Kd.R_keep (IsS94.apart (show IsS94 w0 _ g s0_0 t1033 t1034 from bIQx291_) (vR_ HL1057_4.out) (by decide)) hk (fun _ h => h.2)) (fun _ h => h.1))
 replace HX1057_4 := A_ (keep_cell hk HX1057_4.out (by first | (rw [add_block]; exact Kd.own_blk (IsS94.own_neS HI0.out HO1026.out (by decide))) | (show (Addr.add _ _).block ≠ _; rw [add_block]; exact Kd.own_blk (IsS94.own_neS HI0.out HO1026.out (by decide))) | exact Kd.own_blk (IsS94.own_neS HI0.out HO1026.out (by decide)) | (dsimp only; exact Kd.own_blk (IsS94.own_neS HI0.out HO1026.out (by decide)))))
 replace HO1026 := A_ (Kd.S_mono (Kd.S_keep (IsS94.apartS (show IsS94 w0 _ g s0_0 t1033 t1034 from bIQx291_) (vS_ HO1026.out) (by decide)) hk (fun _ h => h.2)) (fun _ h => h.1))
 replace HK := A_ (KeepBut.trans bK_ hk (.inl rfl))
 replace HB := A_ (hb)
 replace HI0 := A_ (hi)
 (try clear hb)
 (try clear hb2)
 (try clear hk)
 (try clear hi)
 obtain ⟨go76, co76, eo76, gb76, gl76, cl76, HG76⟩ := Kd.S_form HO1026.out (by have h_ : (t1029 : Int) < ((t1024.length : Int) : Int) := od_; have h2_ : 0 ≤ (t1029 : Int) := od_; omega)
 (first | cases eo76 | (injection eo76 with ea_ en_ ec_; (first | subst ea_ | (injection ea_ with ea_; subst ea_)); subst ec_; clear en_))
 have GB76 := A_ gb76
 have GG76 := A_ HG76
 clear gb76 gl76 HG76
 (first | simp only [add_plain] at hx1057_0 | skip)
 (first | simp only [add_plain] at hx1057_1 | skip)
 (first | simp only [add_plain] at hx1057_2 | skip)
 (first | simp only [add_plain] at hx1057_3 | skip)
 (first | simp only [add_plain] at hx1057_4 | skip)
 obtain ⟨oki76, ce76, hcl76, hM76, hcc76, _, _, hH76⟩ := Kd.S_elem HO1026.out z59 (t1029 : Int) od_ (by have h_ : (t1029 : Int) < ((t1024.length : Int) : Int) := od_; first | exact h_ | (have e_ := (Kd.S_reads' HO1026.out).1; omega) | simpa using h_)
 obtain ⟨ve76_0, ve76_4, rfl, ge76_0, ge76_4⟩ := k59_openM hM76
 have hv76 := hcc76 4 _ rfl
 have hX76 := HX1057_4.out
 (try simp only [add_plain] at hX76)
 (try simp only [Nat.add_zero] at hv76)
 replace hv76 := Option.some.inj (hv76.symm.trans hX76)
 subst hv76
 clear hX76 hcc76 hcl76
 have UU76 := A_ (show Kd.R k71 71 _ w.heap.size oki76 (.slice A1057_4 ((rd_T59 t1024 t1029).f4).length c1057_4) ((rd_T59 t1024 t1029).f4) from ge76_4)
 have HH76 := A_ hH76
 have HN76 := A_ (Kd.S_reads' HO1026.out).1
 have HE76_0 := A_ ge76_0
 clear hH76 ge76_0 ge76_4
 refine hK.out _ _ ⟨HS0_, HS1_, HS2_, HS3_, HS4_⟩ (fun hHeld => ?_)
 clear hK K
 refine no_ (some 68) ?_
 refine on_ (i := 9) (N := some 69) (fun K hK => ?_)
 refine value_ (w1 := ?_) (v := ?_) (by rfl) rfl ?_ ?_
 rotate_left 2
 · go_simp
   constructor
   · rfl
   · rfl
 refine hK.out _ _ ⟨(World.cell?_alloc_lt _ _ _ (World.block_lt_of_cell? _ _ (hHeld.1))).trans (hHeld.1), (World.cell?_alloc_lt _ _ _ (World.block_lt_of_cell? _ _ (hHeld.2.1))).trans (hHeld.2.1), (World.cell?_alloc_lt _ _ _ (World.block_lt_of_cell? _ _ (hHeld.2.2.1))).trans (hHeld.2.2.1), (World.cell?_alloc_lt _ _ _ (World.block_lt_of_cell? _ _ (hHeld.2.2.2.1))).trans (hHeld.2.2.2.1), (World.cell?_alloc_lt _ _ _ (World.block_lt_of_cell? _ _ (hHeld.2.2.2.2))).trans (hHeld.2.2.2.2)⟩ (fun hHeld => ?_)
 clear hK K
 refine no_ (some 69) ?_
 refine on_ (i := 10) (N := some 70) (fun K hK => ?_)
 refine Kd.R_append_step k71 w.heap.size (by rfl) (.tmp 66) (.tmp 69) 31 71 (.agg #[(.string ⟨#[]⟩), (.string ⟨#[]⟩), (.string ⟨#[]⟩)]) 48 rfl Try.underlying31 info71 rfl (by decide) (by omega) (.slice A1057_4 ((rd_T59 t1024 t1029).f4).length c1057_4) ((rd_T59 t1024 t1029).f4) (⟨t1058, t1059, t1060⟩ : S71) [.string t1058, .string t1059, .string t1060] (fun k_ => oki76 k_ ∨ ((fun _ => True)) k_ ∧ w75.heap.size ≤ k_) (fun _ => False) rfl rfl ?aP (fun _ hk => hk.elim) ?aF ?aO (Below.refl _ _) ?aS ?aL ?_
 (case aP => exact k71_mkM _ _ _ (⟨t1058, t1059, t1060⟩ : S71))
 (case aF => exact (fun k_ hk => .inr ⟨trivial, hk⟩))
 (case aO => exact (by (with_reducible repeat (first | apply Kd.R_alloc | apply Kd.R_drewN | apply Kd.R_drew)); exact Kd.R_mono UU76.out (fun _ hk => .inl hk)))
 (case aS => exact (keep_size (w := w) (g := g) (row := none) bK_))
 (case aL => have := LMc68.out; omega)
 intro v1064 w77 ho hb hg hat
 (first | have HS0_ := cell_grown hg (hHeld.1) (by first | (rw [add_block]; exact (fun e_ => ((HL1057_4.out.1 _ e_.symm).2) rfl)) | (show some (Addr.add _ _).block ≠ _; rw [add_block]; exact (fun e_ => ((HL1057_4.out.1 _ e_.symm).2) rfl)) | exact (fun e_ => ((HL1057_4.out.1 _ e_.symm).2) rfl)) | have HS0_ := cell_grown hg (cell_unalloc (hHeld.1) (by first | (rw [add_block]; exact Kd.S_lt HO1026.out _ rfl) | (show (Addr.add _ _).block < _; rw [add_block]; exact Kd.S_lt HO1026.out _ rfl) | exact Kd.S_lt HO1026.out _ rfl)) (by first | (rw [add_block]; exact (fun e_ => ((HL1057_4.out.1 _ e_.symm).2) rfl)) | (show some (Addr.add _ _).block ≠ _; rw [add_block]; exact (fun e_ => ((HL1057_4.out.1 _ e_.symm).2) rfl)) | exact (fun e_ => ((HL1057_4.out.1 _ e_.symm).2) rfl)))
 (first | have HS1_ := cell_grown hg (hHeld.2.1) (by first | (rw [add_block]; exact (fun e_ => ((HL1057_4.out.1 _ e_.symm).2) rfl)) | (show some (Addr.add _ _).block ≠ _; rw [add_block]; exact (fun e_ => ((HL1057_4.out.1 _ e_.symm).2) rfl)) | exact (fun e_ => ((HL1057_4.out.1 _ e_.symm).2) rfl)) | have HS1_ := cell_grown hg (cell_unalloc (hHeld.2.1) (by first | (rw [add_block]; exact Kd.S_lt HO1026.out _ rfl) | (show (Addr.add _ _).block < _; rw [add_block]; exact Kd.S_lt HO1026.out _ rfl) | exact Kd.S_lt HO1026.out _ rfl)) (by first | (rw [add_block]; exact (fun e_ => ((HL1057_4.out.1 _ e_.symm).2) rfl)) | (show some (Addr.add _ _).block ≠ _; rw [add_block]; exact (fun e_ => ((HL1057_4.out.1 _ e_.symm).2) rfl)) | exact (fun e_ => ((HL1057_4.out.1 _ e_.symm).2) rfl)))
 (first | have HS2_ := cell_grown hg (hHeld.2.2.1) (by first | (rw [add_block]; exact (fun e_ => ((HL1057_4.out.1 _ e_.symm).2) rfl)) | (show some (Addr.add _ _).block ≠ _; rw [add_block]; exact (fun e_ => ((HL1057_4.out.1 _ e_.symm).2) rfl)) | exact (fun e_ => ((HL1057_4.out.1 _ e_.symm).2) rfl)) | have HS2_ := cell_grown hg (cell_unalloc (hHeld.2.2.1) (by first | (rw [add_block]; exact Kd.S_lt HO1026.out _ rfl) | (show (Addr.add _ _).block < _; rw [add_block]; exact Kd.S_lt HO1026.out _ rfl) | exact Kd.S_lt HO1026.out _ rfl)) (by first | (rw [add_block]; exact (fun e_ => ((HL1057_4.out.1 _ e_.symm).2) rfl)) | (show some (Addr.add _ _).block ≠ _; rw [add_block]; exact (fun e_ => ((HL1057_4.out.1 _ e_.symm).2) rfl)) | exact (fun e_ => ((HL1057_4.out.1 _ e_.symm).2) rfl)))
 (first | have HS3_ := cell_grown hg (hHeld.2.2.2.1) (by first | (rw [add_block]; exact (fun e_ => ((HL1057_4.out.1 _ e_.symm).2) rfl)) | (show some (Addr.add _ _).block ≠ _; rw [add_block]; exact (fun e_ => ((HL1057_4.out.1 _ e_.symm).2) rfl)) | exact (fun e_ => ((HL1057_4.out.1 _ e_.symm).2) rfl)) | have HS3_ := cell_grown hg (cell_unalloc (hHeld.2.2.2.1) (by first | (rw [add_block]; exact Kd.S_lt HO1026.out _ rfl) | (show (Addr.add _ _).block < _; rw [add_block]; exact Kd.S_lt HO1026.out _ rfl) | exact Kd.S_lt HO1026.out _ rfl)) (by first | (rw [add_block]; exact (fun e_ => ((HL1057_4.out.1 _ e_.symm).2) rfl)) | (show some (Addr.add _ _).block ≠ _; rw [add_block]; exact (fun e_ => ((HL1057_4.out.1 _ e_.symm).2) rfl)) | exact (fun e_ => ((HL1057_4.out.1 _ e_.symm).2) rfl)))
 (first | have HS4_ := cell_grown hg (hHeld.2.2.2.2) (by first | (rw [add_block]; exact (fun e_ => ((HL1057_4.out.1 _ e_.symm).2) rfl)) | (show some (Addr.add _ _).block ≠ _; rw [add_block]; exact (fun e_ => ((HL1057_4.out.1 _ e_.symm).2) rfl)) | exact (fun e_ => ((HL1057_4.out.1 _ e_.symm).2) rfl)) | have HS4_ := cell_grown hg (cell_unalloc (hHeld.2.2.2.2) (by first | (rw [add_block]; exact Kd.S_lt HO1026.out _ rfl) | (show (Addr.add _ _).block < _; rw [add_block]; exact Kd.S_lt HO1026.out _ rfl) | exact Kd.S_lt HO1026.out _ rfl)) (by first | (rw [add_block]; exact (fun e_ => ((HL1057_4.out.1 _ e_.symm).2) rfl)) | (show some (Addr.add _ _).block ≠ _; rw [add_block]; exact (fun e_ => ((HL1057_4.out.1 _ e_.symm).2) rfl)) | exact (fun e_ => ((HL1057_4.out.1 _ e_.symm).2) rfl)))
 rw [← Ny1063.out] at ho
 replace HB := A_ (below_weaken bIQx292_ HL.out hb)
 replace HI0 := A_ (IsS94.grown bIQx291_ hg (IsS94.own_ne HI0.out HL1057_4.out (by decide)))
 replace HK := A_ (KeepBut.trans bK_ (KeepBut.of_grown hg g) (Kd.R_base2 HL1057_4.out))
 replace HH76 := A_ (Kd.H_grown (Kd.H_widen (by repeat (first | exact HH76.out | refine Kd.H_alloc ?_ _ | refine Kd.H_drewN ?_ _ | refine Kd.H_drew ?_))) hg (fun k_ e_ => .inl (UU76.out.1 k_ e_)))
 replace HE76_0 := A_ (Kd.R_over' (v := (.slice A1057_4 ((rd_T59 t1024 t1029).f4).length c1057_4)) (vR_ HE76_0.out) (Kd.R_typed UU76.out) (by decide) hg)
 have HO1065 := A_ (ho)
 clear HO1026 UU76 HL1057_0 HL1057_4
 clear ho hb hg hat
 have p69 : 0 ≤ (t1029 : Int) := od_
 have q69 : (t1029 : Int) < ((t1024.length : Int) : Int) := od_
 replace p69 := eq_true p69
 replace q69 := eq_true q69
 obtain ⟨Ao80, co80, eo80⟩ := Kd.R_slice HO1065.out
 (first | subst eo80 | (injection eo80 with f1_ f2_ f3_; have f4_ := f1_.symm; have f5_ := f3_.symm; clear f1_ f2_ f3_; subst f4_; subst f5_))
 obtain ⟨_, _, hraw78, _, _, hcc78, _⟩ := Kd.H_raw HH76.out od_ (by have h_ : (t1029 : Int) < ((t1024.length : Int) : Int) := od_; first | exact h_ | (have e_ := (HN76.out); omega) | simpa using h_)
 obtain ⟨_, hfr78⟩ := Kd.H_at HH76.out od_ (by have h_ : (t1029 : Int) < ((t1024.length : Int) : Int) := od_; first | exact h_ | (have e_ := (HN76.out); omega) | simpa using h_)
 have hx78_0 := hcc78 4 _ rfl
 have hf78_0 := hfr78 4
 (try rw [show (k59).sz = 5 from rfl] at hx78_0)
 (try rw [show (k59).sz = 5 from rfl] at hf78_0)
 have HP78 := Kd.S_seg0 HH76.out od_ (by have h_ : (t1029 : Int) < ((t1024.length : Int) : Int) := od_; first | exact h_ | (have e_ := (HN76.out); omega) | simpa using h_) (seg := [.slice Ao80 y1063.length co80]) (j := 4) (show 5 ≤ 5 from by decide) (x' := (⟨(rd_T59 t1024 t1029).f0, (rd_T59 t1024 t1029).f1, (rd_T59 t1024 t1029).f2, (rd_T59 t1024 t1029).f3, y1063⟩ : S59)) (k59_mkM _ _ _ (⟨(rd_T59 t1024 t1029).f0, (rd_T59 t1024 t1029).f1, (rd_T59 t1024 t1029).f2, (rd_T59 t1024 t1029).f3, y1063⟩ : S59) (Kd.R_mono HE76_0.out (fun _ h_ => .inl h_)) HO1065.out) (fun _ hk => hk)
 clear hcc78 hfr78
 have HN0_go76 := A_ (show g ≠ go76 from by have h_ := IsS94.own_ne HI0.out hraw78 (by decide); intro e_; exact h_ (by rw [e_]; rfl))
 have HS78 := HP78.1
 rw [← Ny1066.out] at HS78
 have HQ78 := A_ HS78
 obtain ⟨_, hgg78⟩ := Kd.R_typed hraw78 go76 rfl
 have GG78_ := A_ hgg78
 clear HP78 HS78 hgg78
 refine hK.out _ _ ⟨HS0_, HS1_, HS2_, HS3_, HS4_⟩ (fun hHeld => ?_)
 clear hK K
 refine no_ (some 70) ?_
 refine pu_ (i := 11) (N := some 71) ?_
 refine pu_ (i := 12) (N := some 72) ?_
 refine last_ (i := 13) (N := none) #[true, true, true, true, true, true, true, true, true, true, true, true, true, true] rfl rfl (one_of HT_.out (by kernel_rfl)) (by decide) (fun K hK => ?_)
 refine skip_ (w1 := ?_) (by rfl) rfl ?_ ?_
 rotate_left
 · go_simp
   rfl
 refine hK.out _ _ ?_
 clear hK K
 refine done_ (done_of HT_.out (by kernel_rfl)) ?_
 (try clear hHeld)
 try go_wp2
 go_ret
 exact ⟨_, rr_, by (with_reducible repeat (first | apply Kd.S_alloc | apply Kd.S_drewN | apply Kd.S_drew)); exact HQ78.out, by repeat (first | (with_reducible first | exact HI0.out | apply IsS94.alloc | apply IsS94.drewN | apply IsS94.drew | apply IsS94.set_1 | apply IsS94.set_2 | refine IsS94.far ?_ HN0_go76.out _) | exact HI0.out), by repeat (first | (with_reducible first | exact HB.out | apply below_alloc | apply pw_below_drewN | apply below_drew1 | refine below_set ?_ (Nat.le_trans HL.out GB76.out) | refine below_set ?_ (IsS94.ge HI0.out)) | exact HB.out), by repeat (first | (with_reducible first | exact HK.out | apply KeepBut.set_ | apply keep_drewN | apply keep_drew | apply keep_alloc | refine keep_far ?_ GB76.out _) | exact HK.out)⟩
def spec_DrawTreeOk.f (k : Nat) (l0 : List Int) : Option ((List (S59))) := (spec_l1New.f k l0).bind fun bt1074 => ((spec_l10Any.f k bt1074.1 bt1074.2.1 bt1074.2.2).bind fun bt1078 => (some bt1078.1))
theorem spec_DrawTreeOk.calls (k : Nat) (A0 : Option Addr) (c0 : Nat) (l0 : List Int) (r : List (S59)) (w : World) (hr0 : Kd.C (Kd.int .u8) w A0 l0.length l0) (hc0 : l0.length ≤ c0) (h : spec_DrawTreeOk.f k l0 = some r) :
 Calls Try.prog 54 #[.slice A0 l0.length c0] w fun e w' => ∃ v0_ : Value, e = .returned (v0_) ∧ Kd.S k59 59 w' w.heap.size (fun _ => True) v0_ r ∧ Below w.heap.size w w' := by
 have HR0 := A_ hr0
 have HC0 := A_ hc0
 clear hr0 hc0
 have HB := A_ (Below.refl w.heap.size w)
 have H : ((spec_l1New.f k l0).bind fun bt1074 => ((spec_l10Any.f k bt1074.1 bt1074.2.1 bt1074.2.2).bind fun bt1078 => (some bt1078.1))) = some r := h
 clear h
 obtain ⟨⟨t1074, t1075, t1076⟩, A2, H⟩ := bo_ H
 (try dsimp only at H)
 obtain ⟨⟨t1078, t1081, t1082⟩, A3, H⟩ := bo_ H
 (try dsimp only at H)
 obtain rfl := si_ H
 go_enter Try.func54, Try.ntmps54
 go_wp2_with (first | ((with_reducible refine gc_ (f := 85) rfl ?_); refine gL_ (some 5) Try.func85 #[.slice A0 l0.length c0] ?_; (with_reducible refine (spec_l1New.calls k _ _ l0 t1074 t1075 t1076 w _ ?s1 ?s2 ?s3 A2.out).mono ?_); (case s1 => repeat (first | (with_reducible first | exact HB.out | apply below_alloc | apply pw_below_drewN | apply below_drew1) | exact HB.out)); (case s2 => exact HR0.out); (case s3 => exact HC0.out); rintro e w4 ⟨g1077, rfl, hi, hb, hb2⟩; refine ⟨_, rfl, ?_⟩; replace HB := A_ (hb); have HI1077 := A_ (hi); (try clear hb); (try clear hb2); (try clear hk); (try clear hi)) | ((with_reducible refine gc_ (f := 88) rfl ?_); refine gL_ (some 7) Try.func88 #[.pointer (some ⟨g1077, 0, none⟩)] ?_; (with_reducible refine (spec_l10Any.calls k g1077 t1074 t1075 t1076 t1078 t1081 t1082 w _ ?s1 ?s2 A3.out).mono ?_); (case s1 => repeat (first | (with_reducible first | exact HI1077.out | apply IsS94.alloc | apply IsS94.drewN | apply IsS94.drew | apply IsS94.set_1 | apply IsS94.set_2) | exact HI1077.out)); (case s2 => repeat (first | (with_reducible first | exact HB.out | apply below_alloc | apply pw_below_drewN | apply below_drew1 | refine below_set ?_ (IsS94.ge HI1077.out)) | exact HB.out)); rintro e w5 ⟨v1079, rfl, ho0, hi, hb, hk⟩; refine ⟨_, rfl, ?_⟩; have HO1080 := A_ (Kd.S_lower ho0 (below_size (by repeat (first | (with_reducible first | exact HB.out | apply below_alloc | apply pw_below_drewN | apply below_drew1 | refine below_set ?_ (IsS94.ge HI1077.out)) | exact HB.out)))); replace HB := A_ (hb); replace HI1077 := A_ (hi); (try clear hb); (try clear hb2); (try clear hk); (try clear hi); (try clear ho0)))
 go_ret
 exact ⟨_, rr_, by (with_reducible repeat (first | apply Kd.S_alloc | apply Kd.S_drewN | apply Kd.S_drew)); exact HO1080.out, by repeat (first | (with_reducible first | exact HB.out | apply below_alloc | apply pw_below_drewN | apply below_drew1 | refine below_set ?_ (IsS94.ge HI1077.out)) | exact HB.out)⟩
end Go.Proofs.Yteabkidfgdmmpaa.Q
