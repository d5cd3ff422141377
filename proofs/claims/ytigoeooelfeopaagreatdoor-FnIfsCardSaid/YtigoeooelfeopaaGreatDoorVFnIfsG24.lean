-- PRINTED by print.py (a twelfth state) out of the translation. Not trusted: Lean checks it.
import Derived.Test.YtigoeooelfeopaaGreatDoorVFnIfsG23
set_option maxHeartbeats 8000000
set_option maxRecDepth 100000
namespace Go.Proofs.YtigoeooelfeopaaGreatDoor.Q
open Go.RowKit Go.Proofs.YtigoeooelfeopaaGreatDoorW.PrintWords Go.Proofs.YtigoeooelfeopaaGreatDoorW.PrintLast Go.Proofs.YtigoeooelfeopaaGreatDoorW.PrintMore
attribute [local go_sem] max2_int min2_int max_two min_two max_three min_three max_four min_four   -- for this text's walks alone
set_option linter.unusedVariables false
set_option linter.unusedSimpArgs false
def spec_DrawIfText.f (k : Nat) (l0 : List Int) : Option ((List (List (S43)))) := (spec_l1New.f k l0).bind fun bt210 => ((spec_l14Any.f k bt210.1 bt210.2.1 bt210.2.2).bind fun bt214 => (some bt214.1))
theorem spec_DrawIfText.calls (k : Nat) (A0 : Option Addr) (c0 : Nat) (l0 : List Int) (r : List (List (S43))) (w : World) (hr0 : Kd.C (Kd.int .u8) w A0 l0.length l0) (hc0 : l0.length ≤ c0) (h : spec_DrawIfText.f k l0 = some r) :
 Calls Tryz.prog 5 #[.slice A0 l0.length c0] w fun e w' => ∃ v0_ : Value, e = .returned (v0_) ∧ Kd.S (Kd.slice 43 k43) 41 w' w.heap.size (fun _ => True) v0_ r ∧ Below w.heap.size w w' := by
 have HR0 := A_ hr0
 have HC0 := A_ hc0
 clear hr0 hc0
 have HB := A_ (Below.refl w.heap.size w)
 have H : ((spec_l1New.f k l0).bind fun bt210 => ((spec_l14Any.f k bt210.1 bt210.2.1 bt210.2.2).bind fun bt214 => (some bt214.1))) = some r := h
 clear h
 obtain ⟨⟨t210, t211, t212⟩, A2, H⟩ := bo_ H
 (try dsimp only at H)
 obtain ⟨⟨t214, t217, t218⟩, A3, H⟩ := bo_ H
 (try dsimp only at H)
 obtain rfl := si_ H
 go_enter Tryz.func5, Tryz.ntmps5
 go_wp2_with (first | ((with_reducible refine gc_ (f := 19) rfl ?_); refine gL_ (some 5) Tryz.func19 #[.slice A0 l0.length c0] ?_; (with_reducible refine (spec_l1New.calls k _ _ l0 t210 t211 t212 w _ ?s1 ?s2 ?s3 A2.out).mono ?_); (case s1 => repeat (first | (with_reducible first | exact HB.out | apply below_alloc | apply pw_below_drewN | apply below_drew1) | exact HB.out)); (case s2 => exact HR0.out); (case s3 => exact HC0.out); rintro e w4 ⟨g213, rfl, hi, hb, hb2⟩; refine ⟨_, rfl, ?_⟩; replace HB := A_ (hb); have HI213 := A_ (hi); (try clear hb); (try clear hb2); (try clear hk); (try clear hi)) | ((with_reducible refine gc_ (f := 20) rfl ?_); refine gL_ (some 7) Tryz.func20 #[.pointer (some ⟨g213, 0, none⟩)] ?_; (with_reducible refine (spec_l14Any.calls k g213 t210 t211 t212 t214 t217 t218 w _ ?s1 ?s2 A3.out).mono ?_); (case s1 => repeat (first | (with_reducible first | exact HI213.out | apply IsS60.alloc | apply IsS60.drewN | apply IsS60.drew | apply IsS60.set_1 | apply IsS60.set_2) | exact HI213.out)); (case s2 => repeat (first | (with_reducible first | exact HB.out | apply below_alloc | apply pw_below_drewN | apply below_drew1 | refine below_set ?_ (IsS60.ge HI213.out)) | exact HB.out)); rintro e w5 ⟨v215, rfl, ho0, hi, hb, hk⟩; refine ⟨_, rfl, ?_⟩; have HO216 := A_ (Kd.S_lower ho0 (below_size (by repeat (first | (with_reducible first | exact HB.out | apply below_alloc | apply pw_below_drewN | apply below_drew1 | refine below_set ?_ (IsS60.ge HI213.out)) | exact HB.out)))); replace HB := A_ (hb); replace HI213 := A_ (hi); (try clear hb); (try clear hb2); (try clear hk); (try clear hi); (try clear ho0)))
 go_ret
 exact ⟨_, rr_, by (with_reducible repeat (first | apply Kd.S_alloc | apply Kd.S_drewN | apply Kd.S_drew)); exact HO216.out, by repeat (first | (with_reducible first | exact HB.out | apply below_alloc | apply pw_below_drewN | apply below_drew1 | refine below_set ?_ (IsS60.ge HI213.out)) | exact HB.out)⟩
def impl_in.f (a0 : Int) (a1 : Int) (a2 : Int) : Option (Bool) := if a0 ≥ a1 then (some (decide (a0 ≤ a2))) else (some false)
theorem impl_in.calls (a0 : Int) (a1 : Int) (a2 : Int) (r : Bool) (w : World) (h : impl_in.f a0 a1 a2 = some r) :
 Calls Tryz.prog 73 #[.int .i64 a0, .int .i64 a1, .int .i64 a2] w fun e w' => e = .returned (.bool r) ∧ Drawn0 w w' := by
 have H : (if a0 ≥ a1 then (some (decide (a0 ≤ a2))) else (some false)) = some r := h
 clear h
 by_cases c4 : a0 ≥ a1
 · rw [if_pos c4] at H
   have c4b0 : decide (a1 ≤ a0) = true := decide_eq_true c4
   clear c4
   obtain rfl := si_ H
   go_enter Tryz.func73, Tryz.ntmps73
   go_wp2
   go_ret
   exact ⟨rs_, dr_⟩
 rw [if_neg c4] at H
 have c4b0 : decide (a1 ≤ a0) = false := decide_eq_false c4
 clear c4
 obtain rfl := si_ H
 go_enter Tryz.func73, Tryz.ntmps73
 go_wp2
 go_ret
 exact ⟨rs_, dr_⟩
def impl_isPlain.f (a0 : Int) : Option (Bool) := if a0 ≥ 32 then (some (decide (a0 ≤ 126))) else (some false)
theorem impl_isPlain.calls (a0 : Int) (r : Bool) (w : World) (h : impl_isPlain.f a0 = some r) :
 Calls Tryz.prog 87 #[.int .u8 a0] w fun e w' => e = .returned (.bool r) ∧ Drawn0 w w' := by
 have H : (if a0 ≥ 32 then (some (decide (a0 ≤ 126))) else (some false)) = some r := h
 clear h
 by_cases c2 : a0 ≥ 32
 · rw [if_pos c2] at H
   have c2b0 : decide (32 ≤ a0) = true := decide_eq_true c2
   clear c2
   obtain rfl := si_ H
   go_enter Tryz.func87, Tryz.ntmps87
   go_wp2
   go_ret
   exact ⟨rs_, dr_⟩
 rw [if_neg c2] at H
 have c2b0 : decide (32 ≤ a0) = false := decide_eq_false c2
 clear c2
 obtain rfl := si_ H
 go_enter Tryz.func87, Tryz.ntmps87
 go_wp2
 go_ret
 exact ⟨rs_, dr_⟩
def impl_Plain.l0 : Nat → ByteArray → Int → Option (Bool)
 | 0, _, _ => none
 | k + 1, x0, x3 => if x3 < (x0.size : Int) then (if 0 ≤ x3 then ((impl_isPlain.f (bt x0 x3)).bind fun t219 => (if t219 = true then (impl_Plain.l0 k x0 (wrap64 (x3 + 1))) else (some false))) else (none)) else (some true)
def impl_Plain.f (k : Nat) (a0 : ByteArray) : Option (Bool) := impl_Plain.l0 k a0 0
theorem impl_Plain.calls (k : Nat) (a0 : ByteArray) (r : Bool) (w : World) (h : impl_Plain.f k a0 = some r) :
 Calls Tryz.prog 74 #[.string a0] w fun e w' => e = .returned (.bool r) ∧ Drawn0 w w' := by
 have H : (impl_Plain.l0 k a0 0) = some r := h
 clear h
 have H' := A_ H
 clear H
 go_enter Tryz.func74, Tryz.ntmps74
 go_wp2
 go_loopg [3] k (fun kq v3 w' => ∃ (x3_1 : Int), v3 = .int .i64 x3_1 ∧ Aside0 (impl_Plain.l0 kq a0 x3_1 = some r) ∧ Aside0 (kq ≤ k) ∧ Drawn0 w w')
 case atStart => exact ⟨(0), rs_, H', ⟨Nat.le_refl _⟩, dr_⟩
 case round =>
  clear H'
  obtain ⟨x3_1, rfl, HA, HK1, ⟨m1, rfl⟩⟩ := hrel
  cases gk with
  | zero => exact absurd HA.out (by simp [impl_Plain.l0])
  | succ k1 =>
   have H := HA.out
   clear HA
   simp only [impl_Plain.l0] at H
   by_cases c2 : x3_1 < (a0.size : Int)
   rotate_left
   · rw [if_neg c2] at H
     have c2b0 : decide (x3_1 < (a0.size : Int)) = false := decide_eq_false c2
     clear c2
     obtain rfl := si_ H
     go_wp2
     go_ret
     exact ⟨rs_, dr_⟩
   rw [if_pos c2] at H
   have c2b0 : decide (x3_1 < (a0.size : Int)) = true := decide_eq_true c2
   clear c2
   by_cases c3 : 0 ≤ x3_1
   rotate_left
   · exact absurd H (by rw [if_neg c3]; simp)
   rw [if_pos c3] at H
   have c3b0 : decide (0 ≤ x3_1) = true := decide_eq_true c3
   clear c3
   obtain ⟨t219, A5, H⟩ := bo_ H
   (try dsimp only at H)
   by_cases c6 : t219 = true
   · subst c6
     rw [if_pos rfl] at H
     have H' := A_ H
     clear H
     have p4 : 0 ≤ (x3_1 : Int) := od_
     have q4 : x3_1 < (a0.size : Int) := od_
     have hx4 := bt_at a0 x3_1
     replace p4 := eq_true p4
     replace q4 := eq_true q4
     go_wp2_with (first | ((with_reducible refine gc_ (f := 87) rfl ?_); refine gL_ (some 13) Tryz.func87 #[.int .u8 (bt a0 x3_1)] ?_; (with_reducible refine (impl_isPlain.calls (bt a0 x3_1) true _ A5.out).mono ?_); rintro e w' ⟨rfl, ⟨nd, rfl⟩⟩; refine ⟨_, rfl, ?_⟩))
     go_roundg k1
     case measure => have := HK1.out; omega
     case rel => exact ⟨(wrap64 (x3_1 + 1)), rs_, H', ⟨by have := HK1.out; omega⟩, dr_⟩
   · replace c6 := Bool.eq_false_iff.mpr c6
     subst c6
     rw [if_neg nf_] at H
     obtain rfl := si_ H
     have p4 : 0 ≤ (x3_1 : Int) := od_
     have q4 : x3_1 < (a0.size : Int) := od_
     have hx4 := bt_at a0 x3_1
     replace p4 := eq_true p4
     replace q4 := eq_true q4
     go_wp2_with (first | ((with_reducible refine gc_ (f := 87) rfl ?_); refine gL_ (some 13) Tryz.func87 #[.int .u8 (bt a0 x3_1)] ?_; (with_reducible refine (impl_isPlain.calls (bt a0 x3_1) false _ A5.out).mono ?_); rintro e w' ⟨rfl, ⟨nd, rfl⟩⟩; refine ⟨_, rfl, ?_⟩))
     go_ret
     exact ⟨rs_, dr_⟩
def impl_tagAt.f (k : Nat) (a0 : ByteArray) (a1 : Int) : Option (ByteArray × ByteArray × Bool) := (strings_CutPrefix.f a0 (⟨#[34]⟩ : ByteArray)).bind fun bt220 => ((strings_Cut.f bt220.1 (⟨#[34]⟩ : ByteArray)).bind fun bt222 => (if bt220.2 = true then (if bt222.2.2 = true then ((impl_in.f (bt222.1.size : Int) a1 10).bind fun t225 => (if t225 = true then ((impl_Plain.f k bt222.1).bind fun t226 => (if t226 = true then (if 0 ≤ (wrap64 ((bt222.1.size : Int) + 2)) then (if (wrap64 ((bt222.1.size : Int) + 2)) ≤ (a0.size : Int) then (some (a0.extract 0 ((wrap64 ((bt222.1.size : Int) + 2)) : Int).toNat, bt222.2.1, true)) else (none)) else (none)) else (some ((⟨#[]⟩ : ByteArray), (⟨#[]⟩ : ByteArray), false)))) else (some ((⟨#[]⟩ : ByteArray), (⟨#[]⟩ : ByteArray), false)))) else (some ((⟨#[]⟩ : ByteArray), (⟨#[]⟩ : ByteArray), false))) else (some ((⟨#[]⟩ : ByteArray), (⟨#[]⟩ : ByteArray), false))))
theorem impl_tagAt.calls (k : Nat) (a0 : ByteArray) (a1 : Int) (r1 : ByteArray) (r2 : ByteArray) (r3 : Bool) (w : World) (hGM : GM w) (h : impl_tagAt.f k a0 a1 = some (r1, r2, r3)) :
 Calls Tryz.prog 60 #[.string a0, .int .i64 a1] w fun e w' => e = .returned (.tuple #[.string r1, .string r2, .bool r3]) ∧ Below w.heap.size w w' := by
 have HGM := A_ hGM
 clear hGM
 have HB := A_ (Below.refl w.heap.size w)
 have H : ((strings_CutPrefix.f a0 (⟨#[34]⟩ : ByteArray)).bind fun bt220 => ((strings_Cut.f bt220.1 (⟨#[34]⟩ : ByteArray)).bind fun bt222 => (if bt220.2 = true then (if bt222.2.2 = true then ((impl_in.f (bt222.1.size : Int) a1 10).bind fun t225 => (if t225 = true then ((impl_Plain.f k bt222.1).bind fun t226 => (if t226 = true then (if 0 ≤ (wrap64 ((bt222.1.size : Int) + 2)) then (if (wrap64 ((bt222.1.size : Int) + 2)) ≤ (a0.size : Int) then (some (a0.extract 0 ((wrap64 ((bt222.1.size : Int) + 2)) : Int).toNat, bt222.2.1, true)) else (none)) else (none)) else (some ((⟨#[]⟩ : ByteArray), (⟨#[]⟩ : ByteArray), false)))) else (some ((⟨#[]⟩ : ByteArray), (⟨#[]⟩ : ByteArray), false)))) else (some ((⟨#[]⟩ : ByteArray), (⟨#[]⟩ : ByteArray), false))) else (some ((⟨#[]⟩ : ByteArray), (⟨#[]⟩ : ByteArray), false))))) = some (r1, r2, r3) := h
 clear h
 obtain ⟨⟨t220, t221⟩, A3, H⟩ := bo_ H
 (try dsimp only at H)
 obtain ⟨⟨t222, t223, t224⟩, A4, H⟩ := bo_ H
 (try dsimp only at H)
 by_cases c5 : t221 = true
 · subst c5
   rw [if_pos rfl] at H
   by_cases c6 : t224 = true
   · subst c6
     rw [if_pos rfl] at H
     obtain ⟨t225, A7, H⟩ := bo_ H
     (try dsimp only at H)
     by_cases c8 : t225 = true
     · subst c8
       rw [if_pos rfl] at H
       obtain ⟨t226, A9, H⟩ := bo_ H
       (try dsimp only at H)
       by_cases c10 : t226 = true
       · subst c10
         rw [if_pos rfl] at H
         obtain ⟨ji11, hji11⟩ : ∃ j_ : Int, (wrap64 ((t222.size : Int) + 2)) = j_ := ⟨_, rfl⟩
         replace H : (if 0 ≤ (ji11) then (if (ji11) ≤ (a0.size : Int) then (some (a0.extract 0 ((ji11) : Int).toNat, t223, true)) else (none)) else (none)) = some (r1, r2, r3) := by first | (rw [hji11] at H; exact H) | (simp only [hji11] at H ⊢; exact H)
         (try rw [hji11] at A3)
         (try rw [hji11] at A4)
         (try rw [hji11] at A7)
         (try rw [hji11] at A9)
         have hji11w : (IntKind.i64.wrap ((t222.size : Int) + 2)) = ji11 := (i64_w _).trans hji11
         by_cases c12 : 0 ≤ (ji11)
         rotate_left
         · exact absurd H (by rw [if_neg c12]; simp)
         rw [if_pos c12] at H
         have c12b0 := eq_true c12
         have c12b1 : decide (0 ≤ (ji11)) = true := decide_eq_true c12
         clear c12
         by_cases c13 : (ji11) ≤ (a0.size : Int)
         rotate_left
         · exact absurd H (by rw [if_neg c13]; simp)
         rw [if_pos c13] at H
         have c13b0 := eq_true c13
         have c13b1 : decide ((ji11) ≤ (a0.size : Int)) = true := decide_eq_true c13
         clear c13
         simp only [Option.some.injEq, Prod.mk.injEq] at H
         obtain ⟨rfl, rfl, rfl⟩ := H
         go_enter Tryz.func60, Tryz.ntmps60
         go_wp2_with (first | ((with_reducible refine gc_ (f := 44) rfl ?_); refine gL_ (some 14) Tryz.func44 #[.string a0, .string (⟨#[34]⟩ : ByteArray)] ?_; (with_reducible refine (strings_CutPrefix.calls a0 (⟨#[34]⟩ : ByteArray) t220 true _ A3.out).mono ?_); rintro e w14 ⟨rfl, hb⟩; refine ⟨_, rfl, ?_⟩; replace HB := A_ (below_step bB_ hb); (try clear hb)) | ((with_reducible refine gc_ (f := 58) rfl ?_); refine gL_ (some 19) Tryz.func58 #[.string t220, .string (⟨#[34]⟩ : ByteArray)] ?_; (with_reducible refine (strings_Cut.calls t220 (⟨#[34]⟩ : ByteArray) t222 t223 true _ ?gM11 A4.out).mono ?_); (case gM11 => exact gM_ HGM.out bB_); rintro e w15 ⟨rfl, hb⟩; refine ⟨_, rfl, ?_⟩; replace HB := A_ (below_step bB_ hb); (try clear hb)) | (go_at_call 73; (with_reducible refine (impl_in.calls (t222.size : Int) a1 10 true _ A7.out).mono ?_); rintro e w' ⟨rfl, ⟨nd, rfl⟩⟩) | (go_at_call 74; (with_reducible refine (impl_Plain.calls k t222 true _ A9.out).mono ?_); rintro e w' ⟨rfl, ⟨nd, rfl⟩⟩))
         go_ret3
         exact ⟨by first | rfl | (simp [errW_none, errW_some] <;> rfl) | (simp only [← hji11]; first | rfl | (simp [errW_none, errW_some] <;> rfl)) | (simp [*, errW_none, errW_some] <;> rfl), bB_⟩
       · replace c10 := Bool.eq_false_iff.mpr c10
         subst c10
         rw [if_neg nf_] at H
         simp only [Option.some.injEq, Prod.mk.injEq] at H
         obtain ⟨rfl, rfl, rfl⟩ := H
         go_enter Tryz.func60, Tryz.ntmps60
         go_wp2_with (first | ((with_reducible refine gc_ (f := 44) rfl ?_); refine gL_ (some 14) Tryz.func44 #[.string a0, .string (⟨#[34]⟩ : ByteArray)] ?_; (with_reducible refine (strings_CutPrefix.calls a0 (⟨#[34]⟩ : ByteArray) t220 true _ A3.out).mono ?_); rintro e w16 ⟨rfl, hb⟩; refine ⟨_, rfl, ?_⟩; replace HB := A_ (below_step bB_ hb); (try clear hb)) | ((with_reducible refine gc_ (f := 58) rfl ?_); refine gL_ (some 19) Tryz.func58 #[.string t220, .string (⟨#[34]⟩ : ByteArray)] ?_; (with_reducible refine (strings_Cut.calls t220 (⟨#[34]⟩ : ByteArray) t222 t223 true _ ?gM12 A4.out).mono ?_); (case gM12 => exact gM_ HGM.out bB_); rintro e w17 ⟨rfl, hb⟩; refine ⟨_, rfl, ?_⟩; replace HB := A_ (below_step bB_ hb); (try clear hb)) | (go_at_call 73; (with_reducible refine (impl_in.calls (t222.size : Int) a1 10 true _ A7.out).mono ?_); rintro e w' ⟨rfl, ⟨nd, rfl⟩⟩) | (go_at_call 74; (with_reducible refine (impl_Plain.calls k t222 false _ A9.out).mono ?_); rintro e w' ⟨rfl, ⟨nd, rfl⟩⟩))
         go_ret3
         exact ⟨rr_, bB_⟩
     · replace c8 := Bool.eq_false_iff.mpr c8
       subst c8
       rw [if_neg nf_] at H
       simp only [Option.some.injEq, Prod.mk.injEq] at H
       obtain ⟨rfl, rfl, rfl⟩ := H
       go_enter Tryz.func60, Tryz.ntmps60
       go_wp2_with (first | ((with_reducible refine gc_ (f := 44) rfl ?_); refine gL_ (some 14) Tryz.func44 #[.string a0, .string (⟨#[34]⟩ : ByteArray)] ?_; (with_reducible refine (strings_CutPrefix.calls a0 (⟨#[34]⟩ : ByteArray) t220 true _ A3.out).mono ?_); rintro e w18 ⟨rfl, hb⟩; refine ⟨_, rfl, ?_⟩; replace HB := A_ (below_step bB_ hb); (try clear hb)) | ((with_reducible refine gc_ (f := 58) rfl ?_); refine gL_ (some 19) Tryz.func58 #[.string t220, .string (⟨#[34]⟩ : ByteArray)] ?_; (with_reducible refine (strings_Cut.calls t220 (⟨#[34]⟩ : ByteArray) t222 t223 true _ ?gM13 A4.out).mono ?_); (case gM13 => exact gM_ HGM.out bB_); rintro e w19 ⟨rfl, hb⟩; refine ⟨_, rfl, ?_⟩; replace HB := A_ (below_step bB_ hb); (try clear hb)) | (go_at_call 73; (with_reducible refine (impl_in.calls (t222.size : Int) a1 10 false _ A7.out).mono ?_); rintro e w' ⟨rfl, ⟨nd, rfl⟩⟩))
       go_ret3
       exact ⟨rr_, bB_⟩
   · replace c6 := Bool.eq_false_iff.mpr c6
     subst c6
     rw [if_neg nf_] at H
     simp only [Option.some.injEq, Prod.mk.injEq] at H
     obtain ⟨rfl, rfl, rfl⟩ := H
     go_enter Tryz.func60, Tryz.ntmps60
     go_wp2_with (first | ((with_reducible refine gc_ (f := 44) rfl ?_); refine gL_ (some 14) Tryz.func44 #[.string a0, .string (⟨#[34]⟩ : ByteArray)] ?_; (with_reducible refine (strings_CutPrefix.calls a0 (⟨#[34]⟩ : ByteArray) t220 true _ A3.out).mono ?_); rintro e w20 ⟨rfl, hb⟩; refine ⟨_, rfl, ?_⟩; replace HB := A_ (below_step bB_ hb); (try clear hb)) | ((with_reducible refine gc_ (f := 58) rfl ?_); refine gL_ (some 19) Tryz.func58 #[.string t220, .string (⟨#[34]⟩ : ByteArray)] ?_; (with_reducible refine (strings_Cut.calls t220 (⟨#[34]⟩ : ByteArray) t222 t223 false _ ?gM14 A4.out).mono ?_); (case gM14 => exact gM_ HGM.out bB_); rintro e w21 ⟨rfl, hb⟩; refine ⟨_, rfl, ?_⟩; replace HB := A_ (below_step bB_ hb); (try clear hb)))
     go_ret3
     exact ⟨rr_, bB_⟩
 · replace c5 := Bool.eq_false_iff.mpr c5
   subst c5
   rw [if_neg nf_] at H
   simp only [Option.some.injEq, Prod.mk.injEq] at H
   obtain ⟨rfl, rfl, rfl⟩ := H
   go_enter Tryz.func60, Tryz.ntmps60
   go_wp2_with (first | ((with_reducible refine gc_ (f := 44) rfl ?_); refine gL_ (some 14) Tryz.func44 #[.string a0, .string (⟨#[34]⟩ : ByteArray)] ?_; (with_reducible refine (strings_CutPrefix.calls a0 (⟨#[34]⟩ : ByteArray) t220 false _ A3.out).mono ?_); rintro e w22 ⟨rfl, hb⟩; refine ⟨_, rfl, ?_⟩; replace HB := A_ (below_step bB_ hb); (try clear hb)) | ((with_reducible refine gc_ (f := 58) rfl ?_); refine gL_ (some 19) Tryz.func58 #[.string t220, .string (⟨#[34]⟩ : ByteArray)] ?_; (with_reducible refine (strings_Cut.calls t220 (⟨#[34]⟩ : ByteArray) t222 t223 t224 _ ?gM15 A4.out).mono ?_); (case gM15 => exact gM_ HGM.out bB_); rintro e w23 ⟨rfl, hb⟩; refine ⟨_, rfl, ?_⟩; replace HB := A_ (below_step bB_ hb); (try clear hb)))
   go_ret3
   exact ⟨rr_, bB_⟩
def impl_condAt.f (k : Nat) (a0 : ByteArray) : Option (Bool × Int × ByteArray × ByteArray × Bool) := (strings_CutPrefix.f a0 (⟨#[78, 111, 116, 32]⟩ : ByteArray)).bind fun bt229 => ((strings_CutPrefix.f bt229.1 (⟨#[60]⟩ : ByteArray)).bind fun bt231 => (if bt231.2 = true then ((strings_Cut.f bt231.1 (⟨#[62]⟩ : ByteArray)).bind fun bt233 => ((impl_ParseNum.f bt233.1 9999).bind fun bt236 => (if bt233.2.2 = true then (if bt236.2 = true then (some (bt229.2, bt236.1, (⟨#[]⟩ : ByteArray), bt233.2.1, decide (bt236.1 > 0))) else (some (bt229.2, bt236.1, (⟨#[]⟩ : ByteArray), bt233.2.1, false))) else (some (bt229.2, bt236.1, (⟨#[]⟩ : ByteArray), bt233.2.1, false))))) else ((strings_CutPrefix.f bt229.1 (⟨#[91]⟩ : ByteArray)).bind fun bt238 => ((impl_tagAt.f k bt238.1 1).bind fun bt240 => ((strings_CutPrefix.f bt240.2.1 (⟨#[93]⟩ : ByteArray)).bind fun bt243 => (if bt238.2 = true then (if bt240.2.2 = true then (some (bt229.2, 0, bt240.1, bt243.1, bt243.2)) else (some (bt229.2, 0, bt240.1, bt243.1, false))) else (some (bt229.2, 0, bt240.1, bt243.1, false))))))))
theorem impl_condAt.calls (k : Nat) (a0 : ByteArray) (r1 : Bool) (r2 : Int) (r3 : ByteArray) (r4 : ByteArray) (r5 : Bool) (w : World) (hGT : GT w) (hGM : GM w) (hGE : GE w) (h : impl_condAt.f k a0 = some (r1, r2, r3, r4, r5)) :
 Calls Tryz.prog 45 #[.string a0] w fun e w' => e = .returned (.tuple #[.agg #[.bool r1, .int .i64 r2, .string r3], .string r4, .bool r5]) ∧ Below w.heap.size w w' := by
 have HGT := A_ hGT
 have HGM := A_ hGM
 have HGE := A_ hGE
 clear hGT hGM hGE
 have hu43 := Tryz.underlying43
 have HB := A_ (Below.refl w.heap.size w)
 have H : ((strings_CutPrefix.f a0 (⟨#[78, 111, 116, 32]⟩ : ByteArray)).bind fun bt229 => ((strings_CutPrefix.f bt229.1 (⟨#[60]⟩ : ByteArray)).bind fun bt231 => (if bt231.2 = true then ((strings_Cut.f bt231.1 (⟨#[62]⟩ : ByteArray)).bind fun bt233 => ((impl_ParseNum.f bt233.1 9999).bind fun bt236 => (if bt233.2.2 = true then (if bt236.2 = true then (some (bt229.2, bt236.1, (⟨#[]⟩ : ByteArray), bt233.2.1, decide (bt236.1 > 0))) else (some (bt229.2, bt236.1, (⟨#[]⟩ : ByteArray), bt233.2.1, false))) else (some (bt229.2, bt236.1, (⟨#[]⟩ : ByteArray), bt233.2.1, false))))) else ((strings_CutPrefix.f bt229.1 (⟨#[91]⟩ : ByteArray)).bind fun bt238 => ((impl_tagAt.f k bt238.1 1).bind fun bt240 => ((strings_CutPrefix.f bt240.2.1 (⟨#[93]⟩ : ByteArray)).bind fun bt243 => (if bt238.2 = true then (if bt240.2.2 = true then (some (bt229.2, 0, bt240.1, bt243.1, bt243.2)) else (some (bt229.2, 0, bt240.1, bt243.1, false))) else (some (bt229.2, 0, bt240.1, bt243.1, false))))))))) = some (r1, r2, r3, r4, r5) := h
 clear h
 obtain ⟨⟨t229, t230⟩, A2, H⟩ := bo_ H
 (try dsimp only at H)
 obtain ⟨⟨t231, t232⟩, A3, H⟩ := bo_ H
 (try dsimp only at H)
 by_cases c4 : t232 = true
 · subst c4
   rw [if_pos rfl] at H
   obtain ⟨⟨t233, t234, t235⟩, A5, H⟩ := bo_ H
   (try dsimp only at H)
   obtain ⟨⟨t236, t237⟩, A6, H⟩ := bo_ H
   (try dsimp only at H)
   by_cases c7 : t235 = true
   · subst c7
     rw [if_pos rfl] at H
     by_cases c8 : t237 = true
     · subst c8
       rw [if_pos rfl] at H
       simp only [Option.some.injEq, Prod.mk.injEq] at H
       obtain ⟨rfl, rfl, rfl, rfl, rfl⟩ := H
       go_enter Tryz.func45, Tryz.ntmps45
       go_wp2_with (first | ((with_reducible refine gd_ (N := 2) rfl ?_); refine bx_ (N := 2) (cs := #[.bool false, .int .i64 0, .string (⟨#[]⟩ : ByteArray)]) (t := 43) ?_; intro gb227 hg w9 hbox hb; have BK227 := A_ (hbox); have GW227 := A_ (ge_ hg bB_ : w.heap.size ≤ gb227); have GE227 := A_ (ge_ hg bB_ : w.heap.size ≤ gb227); replace HB := A_ (below_step bB_ hb); clear hb hbox hg) | ((with_reducible refine gd_ (N := 5) rfl ?_); refine bx_ (N := 5) (cs := #[.bool false, .int .i64 0, .string (⟨#[]⟩ : ByteArray)]) (t := 43) ?_; intro gb228 hg w10 hbox hb; have BK228 := A_ (hbox); have GW228 := A_ (ge_ hg (bG_ GE227.out) : w.heap.size ≤ gb228); have GE228 := A_ (ge_ hg (bG_ GE227.out) : w.heap.size ≤ gb228); replace HB := A_ (below_step (bG_ GE227.out) hb); have NB227_228 := A_ (gm_ hg BK227.out); have NB228_227 := A_ (gn_ hg BK227.out); replace BK227 := A_ (bw_ BK227.out hb); clear hb hbox hg) | ((with_reducible refine gc_ (f := 44) rfl ?_); refine gL_ (some 21) Tryz.func44 #[.string a0, .string (⟨#[78, 111, 116, 32]⟩ : ByteArray)] ?_; (with_reducible refine (strings_CutPrefix.calls a0 (⟨#[78, 111, 116, 32]⟩ : ByteArray) t229 t230 _ A2.out).mono ?_); rintro e w11 ⟨rfl, hb⟩; refine ⟨_, rfl, ?_⟩; replace BK227 := A_ (bw_ BK227.out hb); replace BK228 := A_ (bw_ BK228.out hb); replace HB := A_ (below_step (by repeat (first | (with_reducible first | exact HB.out | apply below_alloc | apply pw_below_drewN | apply below_drew1 | refine below_set ?_ GE227.out | refine below_set ?_ GE228.out) | exact HB.out)) hb); (try clear hb); have hnb12 := NB228_227.out; have hnc12 := NB227_228.out; obtain ⟨hcz13_0, hcz13_1, hcz13_2, hfz13_0, hfz13_1, hfz13_2⟩ := cz3_ BK228.out) | ((with_reducible refine gc_ (f := 44) rfl ?_); refine gL_ (some 27) Tryz.func44 #[.string t229, .string (⟨#[60]⟩ : ByteArray)] ?_; (with_reducible refine (strings_CutPrefix.calls t229 (⟨#[60]⟩ : ByteArray) t231 true _ A3.out).mono ?_); rintro e w14 ⟨rfl, hb⟩; refine ⟨_, rfl, ?_⟩; replace BK227 := A_ (blk_below (g := gb227) (o := .cells #[.bool false, .int .i64 0, .string (⟨#[]⟩ : ByteArray)] 43 (0, 0)) (by (with_reducible repeat (first | refine blk_drewN ?_ _ | refine blk_drew ?_ | refine blk_alloc ?_ _)); refine blk_far ?_ NB227_228.out _; (with_reducible repeat (first | refine blk_drewN ?_ _ | refine blk_drew ?_ | refine blk_alloc ?_ _)); exact BK227.out) hb); replace BK228 := A_ (blk_below (g := gb228) (o := .cells #[.bool t230, .int .i64 0, .string (⟨#[]⟩ : ByteArray)] 43 (0, 0)) (by (with_reducible repeat (first | refine blk_drewN ?_ _ | refine blk_drew ?_ | refine blk_alloc ?_ _)); refine blk_put (cs := #[.bool false, .int .i64 0, .string (⟨#[]⟩ : ByteArray)]) ?_ 0 _ rfl; (with_reducible repeat (first | refine blk_drewN ?_ _ | refine blk_drew ?_ | refine blk_alloc ?_ _)); exact BK228.out) hb); replace HB := A_ (below_step (by repeat (first | (with_reducible first | exact HB.out | apply below_alloc | apply pw_below_drewN | apply below_drew1 | refine below_set ?_ GE227.out | refine below_set ?_ GE228.out) | exact HB.out)) hb); (try clear hb)) | ((with_reducible refine gc_ (f := 58) rfl ?_); refine gL_ (some 33) Tryz.func58 #[.string t231, .string (⟨#[62]⟩ : ByteArray)] ?_; (with_reducible refine (strings_Cut.calls t231 (⟨#[62]⟩ : ByteArray) t233 t234 true _ ?gM16 A5.out).mono ?_); (case gM16 => exact gM_ HGM.out (by repeat (first | (with_reducible first | exact HB.out | apply below_alloc | apply pw_below_drewN | apply below_drew1 | refine below_set ?_ GE227.out | refine below_set ?_ GE228.out) | exact HB.out))); rintro e w15 ⟨rfl, hb⟩; refine ⟨_, rfl, ?_⟩; replace BK227 := A_ (bw_ BK227.out hb); replace BK228 := A_ (bw_ BK228.out hb); replace HB := A_ (below_step (by repeat (first | (with_reducible first | exact HB.out | apply below_alloc | apply pw_below_drewN | apply below_drew1 | refine below_set ?_ GE227.out | refine below_set ?_ GE228.out) | exact HB.out)) hb); (try clear hb)) | ((with_reducible refine gc_ (f := 59) rfl ?_); refine gL_ (some 39) Tryz.func59 #[.string t233, .int .i64 9999] ?_; (with_reducible refine (impl_ParseNum.calls t233 9999 t236 true _ ?gT17 ?gE17 A6.out).mono ?_); (case gT17 => exact gT_ HGT.out (by repeat (first | (with_reducible first | exact HB.out | apply below_alloc | apply pw_below_drewN | apply below_drew1 | refine below_set ?_ GE227.out | refine below_set ?_ GE228.out) | exact HB.out))); (case gE17 => exact gE_ HGE.out (by repeat (first | (with_reducible first | exact HB.out | apply below_alloc | apply pw_below_drewN | apply below_drew1 | refine below_set ?_ GE227.out | refine below_set ?_ GE228.out) | exact HB.out))); rintro e w16 ⟨rfl, hb⟩; refine ⟨_, rfl, ?_⟩; replace BK227 := A_ (bw_ BK227.out hb); replace BK228 := A_ (bw_ BK228.out hb); replace HB := A_ (below_step (by repeat (first | (with_reducible first | exact HB.out | apply below_alloc | apply pw_below_drewN | apply below_drew1 | refine below_set ?_ GE227.out | refine below_set ?_ GE228.out) | exact HB.out)) hb); (try clear hb); obtain ⟨hcz17_0, hcz17_1, hcz17_2, hfz17_0, hfz17_1, hfz17_2⟩ := cz3_ BK228.out; obtain ⟨hcz18_0, hcz18_1, hcz18_2, hfz18_0, hfz18_1, hfz18_2⟩ := cz3_ BK227.out))
       refine bodyPost_ret (results_ctt rfl _ _ gb227 43 #[.bool t230, .int .i64 t236, .string (⟨#[]⟩ : ByteArray)] (0, 0) _ rfl (by (with_reducible repeat (first | refine blk_drewN ?_ _ | refine blk_drew ?_ | refine blk_alloc ?_ _)); refine blk_put (cs := #[.bool t230, .int .i64 t236, .string (⟨#[]⟩ : ByteArray)]) ?_ 2 _ rfl; (with_reducible repeat (first | refine blk_drewN ?_ _ | refine blk_drew ?_ | refine blk_alloc ?_ _)); refine blk_put (cs := #[.bool t230, .int .i64 0, .string (⟨#[]⟩ : ByteArray)]) ?_ 1 _ rfl; (with_reducible repeat (first | refine blk_drewN ?_ _ | refine blk_drew ?_ | refine blk_alloc ?_ _)); refine blk_put (cs := #[.bool false, .int .i64 0, .string (⟨#[]⟩ : ByteArray)]) ?_ 0 _ rfl; (with_reducible repeat (first | refine blk_drewN ?_ _ | refine blk_drew ?_ | refine blk_alloc ?_ _)); refine blk_far ?_ NB227_228.out _; (with_reducible repeat (first | refine blk_drewN ?_ _ | refine blk_drew ?_ | refine blk_alloc ?_ _)); exact BK227.out) Tryz.underlying43 rfl (by kernel_rfl)) rfl ?_
       exact ⟨rr_, by repeat (first | (with_reducible first | exact HB.out | apply below_alloc | apply pw_below_drewN | apply below_drew1 | refine below_set ?_ GE227.out | refine below_set ?_ GE228.out) | exact HB.out)⟩
     · replace c8 := Bool.eq_false_iff.mpr c8
       subst c8
       rw [if_neg nf_] at H
       simp only [Option.some.injEq, Prod.mk.injEq] at H
       obtain ⟨rfl, rfl, rfl, rfl, rfl⟩ := H
       go_enter Tryz.func45, Tryz.ntmps45
       go_wp2_with (first | ((with_reducible refine gd_ (N := 2) rfl ?_); refine bx_ (N := 2) (cs := #[.bool false, .int .i64 0, .string (⟨#[]⟩ : ByteArray)]) (t := 43) ?_; intro gb227 hg w19 hbox hb; have BK227 := A_ (hbox); have GW227 := A_ (ge_ hg bB_ : w.heap.size ≤ gb227); have GE227 := A_ (ge_ hg bB_ : w.heap.size ≤ gb227); replace HB := A_ (below_step bB_ hb); clear hb hbox hg) | ((with_reducible refine gd_ (N := 5) rfl ?_); refine bx_ (N := 5) (cs := #[.bool false, .int .i64 0, .string (⟨#[]⟩ : ByteArray)]) (t := 43) ?_; intro gb228 hg w20 hbox hb; have BK228 := A_ (hbox); have GW228 := A_ (ge_ hg (bG_ GE227.out) : w.heap.size ≤ gb228); have GE228 := A_ (ge_ hg (bG_ GE227.out) : w.heap.size ≤ gb228); replace HB := A_ (below_step (bG_ GE227.out) hb); have NB227_228 := A_ (gm_ hg BK227.out); have NB228_227 := A_ (gn_ hg BK227.out); replace BK227 := A_ (bw_ BK227.out hb); clear hb hbox hg) | ((with_reducible refine gc_ (f := 44) rfl ?_); refine gL_ (some 21) Tryz.func44 #[.string a0, .string (⟨#[78, 111, 116, 32]⟩ : ByteArray)] ?_; (with_reducible refine (strings_CutPrefix.calls a0 (⟨#[78, 111, 116, 32]⟩ : ByteArray) t229 t230 _ A2.out).mono ?_); rintro e w21 ⟨rfl, hb⟩; refine ⟨_, rfl, ?_⟩; replace BK227 := A_ (bw_ BK227.out hb); replace BK228 := A_ (bw_ BK228.out hb); replace HB := A_ (below_step (by repeat (first | (with_reducible first | exact HB.out | apply below_alloc | apply pw_below_drewN | apply below_drew1 | refine below_set ?_ GE227.out | refine below_set ?_ GE228.out) | exact HB.out)) hb); (try clear hb); have hnb22 := NB228_227.out; have hnc22 := NB227_228.out; obtain ⟨hcz23_0, hcz23_1, hcz23_2, hfz23_0, hfz23_1, hfz23_2⟩ := cz3_ BK228.out) | ((with_reducible refine gc_ (f := 44) rfl ?_); refine gL_ (some 27) Tryz.func44 #[.string t229, .string (⟨#[60]⟩ : ByteArray)] ?_; (with_reducible refine (strings_CutPrefix.calls t229 (⟨#[60]⟩ : ByteArray) t231 true _ A3.out).mono ?_); rintro e w24 ⟨rfl, hb⟩; refine ⟨_, rfl, ?_⟩; replace BK227 := A_ (blk_below (g := gb227) (o := .cells #[.bool false, .int .i64 0, .string (⟨#[]⟩ : ByteArray)] 43 (0, 0)) (by (with_reducible repeat (first | refine blk_drewN ?_ _ | refine blk_drew ?_ | refine blk_alloc ?_ _)); refine blk_far ?_ NB227_228.out _; (with_reducible repeat (first | refine blk_drewN ?_ _ | refine blk_drew ?_ | refine blk_alloc ?_ _)); exact BK227.out) hb); replace BK228 := A_ (blk_below (g := gb228) (o := .cells #[.bool t230, .int .i64 0, .string (⟨#[]⟩ : ByteArray)] 43 (0, 0)) (by (with_reducible repeat (first | refine blk_drewN ?_ _ | refine blk_drew ?_ | refine blk_alloc ?_ _)); refine blk_put (cs := #[.bool false, .int .i64 0, .string (⟨#[]⟩ : ByteArray)]) ?_ 0 _ rfl; (with_reducible repeat (first | refine blk_drewN ?_ _ | refine blk_drew ?_ | refine blk_alloc ?_ _)); exact BK228.out) hb); replace HB := A_ (below_step (by repeat (first | (with_reducible first | exact HB.out | apply below_alloc | apply pw_below_drewN | apply below_drew1 | refine below_set ?_ GE227.out | refine below_set ?_ GE228.out) | exact HB.out)) hb); (try clear hb)) | ((with_reducible refine gc_ (f := 58) rfl ?_); refine gL_ (some 33) Tryz.func58 #[.string t231, .string (⟨#[62]⟩ : ByteArray)] ?_; (with_reducible refine (strings_Cut.calls t231 (⟨#[62]⟩ : ByteArray) t233 t234 true _ ?gM18 A5.out).mono ?_); (case gM18 => exact gM_ HGM.out (by repeat (first | (with_reducible first | exact HB.out | apply below_alloc | apply pw_below_drewN | apply below_drew1 | refine below_set ?_ GE227.out | refine below_set ?_ GE228.out) | exact HB.out))); rintro e w25 ⟨rfl, hb⟩; refine ⟨_, rfl, ?_⟩; replace BK227 := A_ (bw_ BK227.out hb); replace BK228 := A_ (bw_ BK228.out hb); replace HB := A_ (below_step (by repeat (first | (with_reducible first | exact HB.out | apply below_alloc | apply pw_below_drewN | apply below_drew1 | refine below_set ?_ GE227.out | refine below_set ?_ GE228.out) | exact HB.out)) hb); (try clear hb)) | ((with_reducible refine gc_ (f := 59) rfl ?_); refine gL_ (some 39) Tryz.func59 #[.string t233, .int .i64 9999] ?_; (with_reducible refine (impl_ParseNum.calls t233 9999 t236 false _ ?gT19 ?gE19 A6.out).mono ?_); (case gT19 => exact gT_ HGT.out (by repeat (first | (with_reducible first | exact HB.out | apply below_alloc | apply pw_below_drewN | apply below_drew1 | refine below_set ?_ GE227.out | refine below_set ?_ GE228.out) | exact HB.out))); (case gE19 => exact gE_ HGE.out (by repeat (first | (with_reducible first | exact HB.out | apply below_alloc | apply pw_below_drewN | apply below_drew1 | refine below_set ?_ GE227.out | refine below_set ?_ GE228.out) | exact HB.out))); rintro e w26 ⟨rfl, hb⟩; refine ⟨_, rfl, ?_⟩; replace BK227 := A_ (bw_ BK227.out hb); replace BK228 := A_ (bw_ BK228.out hb); replace HB := A_ (below_step (by repeat (first | (with_reducible first | exact HB.out | apply below_alloc | apply pw_below_drewN | apply below_drew1 | refine below_set ?_ GE227.out | refine below_set ?_ GE228.out) | exact HB.out)) hb); (try clear hb); obtain ⟨hcz27_0, hcz27_1, hcz27_2, hfz27_0, hfz27_1, hfz27_2⟩ := cz3_ BK228.out; obtain ⟨hcz28_0, hcz28_1, hcz28_2, hfz28_0, hfz28_1, hfz28_2⟩ := cz3_ BK227.out))
       refine bodyPost_ret (results_ctt rfl _ _ gb227 43 #[.bool t230, .int .i64 t236, .string (⟨#[]⟩ : ByteArray)] (0, 0) _ rfl (by (with_reducible repeat (first | refine blk_drewN ?_ _ | refine blk_drew ?_ | refine blk_alloc ?_ _)); refine blk_put (cs := #[.bool t230, .int .i64 t236, .string (⟨#[]⟩ : ByteArray)]) ?_ 2 _ rfl; (with_reducible repeat (first | refine blk_drewN ?_ _ | refine blk_drew ?_ | refine blk_alloc ?_ _)); refine blk_put (cs := #[.bool t230, .int .i64 0, .string (⟨#[]⟩ : ByteArray)]) ?_ 1 _ rfl; (with_reducible repeat (first | refine blk_drewN ?_ _ | refine blk_drew ?_ | refine blk_alloc ?_ _)); refine blk_put (cs := #[.bool false, .int .i64 0, .string (⟨#[]⟩ : ByteArray)]) ?_ 0 _ rfl; (with_reducible repeat (first | refine blk_drewN ?_ _ | refine blk_drew ?_ | refine blk_alloc ?_ _)); refine blk_far ?_ NB227_228.out _; (with_reducible repeat (first | refine blk_drewN ?_ _ | refine blk_drew ?_ | refine blk_alloc ?_ _)); exact BK227.out) Tryz.underlying43 rfl (by kernel_rfl)) rfl ?_
       exact ⟨rr_, by repeat (first | (with_reducible first | exact HB.out | apply below_alloc | apply pw_below_drewN | apply below_drew1 | refine below_set ?_ GE227.out | refine below_set ?_ GE228.out) | exact HB.out)⟩
   · replace c7 := Bool.eq_false_iff.mpr c7
     subst c7
     rw [if_neg nf_] at H
     simp only [Option.some.injEq, Prod.mk.injEq] at H
     obtain ⟨rfl, rfl, rfl, rfl, rfl⟩ := H
     go_enter Tryz.func45, Tryz.ntmps45
     go_wp2_with (first | ((with_reducible refine gd_ (N := 2) rfl ?_); refine bx_ (N := 2) (cs := #[.bool false, .int .i64 0, .string (⟨#[]⟩ : ByteArray)]) (t := 43) ?_; intro gb227 hg w29 hbox hb; have BK227 := A_ (hbox); have GW227 := A_ (ge_ hg bB_ : w.heap.size ≤ gb227); have GE227 := A_ (ge_ hg bB_ : w.heap.size ≤ gb227); replace HB := A_ (below_step bB_ hb); clear hb hbox hg) | ((with_reducible refine gd_ (N := 5) rfl ?_); refine bx_ (N := 5) (cs := #[.bool false, .int .i64 0, .string (⟨#[]⟩ : ByteArray)]) (t := 43) ?_; intro gb228 hg w30 hbox hb; have BK228 := A_ (hbox); have GW228 := A_ (ge_ hg (bG_ GE227.out) : w.heap.size ≤ gb228); have GE228 := A_ (ge_ hg (bG_ GE227.out) : w.heap.size ≤ gb228); replace HB := A_ (below_step (bG_ GE227.out) hb); have NB227_228 := A_ (gm_ hg BK227.out); have NB228_227 := A_ (gn_ hg BK227.out); replace BK227 := A_ (bw_ BK227.out hb); clear hb hbox hg) | ((with_reducible refine gc_ (f := 44) rfl ?_); refine gL_ (some 21) Tryz.func44 #[.string a0, .string (⟨#[78, 111, 116, 32]⟩ : ByteArray)] ?_; (with_reducible refine (strings_CutPrefix.calls a0 (⟨#[78, 111, 116, 32]⟩ : ByteArray) t229 t230 _ A2.out).mono ?_); rintro e w31 ⟨rfl, hb⟩; refine ⟨_, rfl, ?_⟩; replace BK227 := A_ (bw_ BK227.out hb); replace BK228 := A_ (bw_ BK228.out hb); replace HB := A_ (below_step (by repeat (first | (with_reducible first | exact HB.out | apply below_alloc | apply pw_below_drewN | apply below_drew1 | refine below_set ?_ GE227.out | refine below_set ?_ GE228.out) | exact HB.out)) hb); (try clear hb); have hnb32 := NB228_227.out; have hnc32 := NB227_228.out; obtain ⟨hcz33_0, hcz33_1, hcz33_2, hfz33_0, hfz33_1, hfz33_2⟩ := cz3_ BK228.out) | ((with_reducible refine gc_ (f := 44) rfl ?_); refine gL_ (some 27) Tryz.func44 #[.string t229, .string (⟨#[60]⟩ : ByteArray)] ?_; (with_reducible refine (strings_CutPrefix.calls t229 (⟨#[60]⟩ : ByteArray) t231 true _ A3.out).mono ?_); rintro e w34 ⟨rfl, hb⟩; refine ⟨_, rfl, ?_⟩; replace BK227 := A_ (blk_below (g := gb227) (o := .cells #[.bool false, .int .i64 0, .string (⟨#[]⟩ : ByteArray)] 43 (0, 0)) (by (with_reducible repeat (first | refine blk_drewN ?_ _ | refine blk_drew ?_ | refine blk_alloc ?_ _)); refine blk_far ?_ NB227_228.out _; (with_reducible repeat (first | refine blk_drewN ?_ _ | refine blk_drew ?_ | refine blk_alloc ?_ _)); exact BK227.out) hb); replace BK228 := A_ (blk_below (g := gb228) (o := .cells #[.bool t230, .int .i64 0, .string (⟨#[]⟩ : ByteArray)] 43 (0, 0)) (by (with_reducible repeat (first | refine blk_drewN ?_ _ | refine blk_drew ?_ | refine blk_alloc ?_ _)); refine blk_put (cs := #[.bool false, .int .i64 0, .string (⟨#[]⟩ : ByteArray)]) ?_ 0 _ rfl; (with_reducible repeat (first | refine blk_drewN ?_ _ | refine blk_drew ?_ | refine blk_alloc ?_ _)); exact BK228.out) hb); replace HB := A_ (below_step (by repeat (first | (with_reducible first | exact HB.out | apply below_alloc | apply pw_below_drewN | apply below_drew1 | refine below_set ?_ GE227.out | refine below_set ?_ GE228.out) | exact HB.out)) hb); (try clear hb)) | ((with_reducible refine gc_ (f := 58) rfl ?_); refine gL_ (some 33) Tryz.func58 #[.string t231, .string (⟨#[62]⟩ : ByteArray)] ?_; (with_reducible refine (strings_Cut.calls t231 (⟨#[62]⟩ : ByteArray) t233 t234 false _ ?gM20 A5.out).mono ?_); (case gM20 => exact gM_ HGM.out (by repeat (first | (with_reducible first | exact HB.out | apply below_alloc | apply pw_below_drewN | apply below_drew1 | refine below_set ?_ GE227.out | refine below_set ?_ GE228.out) | exact HB.out))); rintro e w35 ⟨rfl, hb⟩; refine ⟨_, rfl, ?_⟩; replace BK227 := A_ (bw_ BK227.out hb); replace BK228 := A_ (bw_ BK228.out hb); replace HB := A_ (below_step (by repeat (first | (with_reducible first | exact HB.out | apply below_alloc | apply pw_below_drewN | apply below_drew1 | refine below_set ?_ GE227.out | refine below_set ?_ GE228.out) | exact HB.out)) hb); (try clear hb)) | ((with_reducible refine gc_ (f := 59) rfl ?_); refine gL_ (some 39) Tryz.func59 #[.string t233, .int .i64 9999] ?_; (with_reducible refine (impl_ParseNum.calls t233 9999 t236 t237 _ ?gT21 ?gE21 A6.out).mono ?_); (case gT21 => exact gT_ HGT.out (by repeat (first | (with_reducible first | exact HB.out | apply below_alloc | apply pw_below_drewN | apply below_drew1 | refine below_set ?_ GE227.out | refine below_set ?_ GE228.out) | exact HB.out))); (case gE21 => exact gE_ HGE.out (by repeat (first | (with_reducible first | exact HB.out | apply below_alloc | apply pw_below_drewN | apply below_drew1 | refine below_set ?_ GE227.out | refine below_set ?_ GE228.out) | exact HB.out))); rintro e w36 ⟨rfl, hb⟩; refine ⟨_, rfl, ?_⟩; replace BK227 := A_ (bw_ BK227.out hb); replace BK228 := A_ (bw_ BK228.out hb); replace HB := A_ (below_step (by repeat (first | (with_reducible first | exact HB.out | apply below_alloc | apply pw_below_drewN | apply below_drew1 | refine below_set ?_ GE227.out | refine below_set ?_ GE228.out) | exact HB.out)) hb); (try clear hb); obtain ⟨hcz37_0, hcz37_1, hcz37_2, hfz37_0, hfz37_1, hfz37_2⟩ := cz3_ BK228.out; obtain ⟨hcz38_0, hcz38_1, hcz38_2, hfz38_0, hfz38_1, hfz38_2⟩ := cz3_ BK227.out))
     refine bodyPost_ret (results_ctt rfl _ _ gb227 43 #[.bool t230, .int .i64 t236, .string (⟨#[]⟩ : ByteArray)] (0, 0) _ rfl (by (with_reducible repeat (first | refine blk_drewN ?_ _ | refine blk_drew ?_ | refine blk_alloc ?_ _)); refine blk_put (cs := #[.bool t230, .int .i64 t236, .string (⟨#[]⟩ : ByteArray)]) ?_ 2 _ rfl; (with_reducible repeat (first | refine blk_drewN ?_ _ | refine blk_drew ?_ | refine blk_alloc ?_ _)); refine blk_put (cs := #[.bool t230, .int .i64 0, .string (⟨#[]⟩ : ByteArray)]) ?_ 1 _ rfl; (with_reducible repeat (first | refine blk_drewN ?_ _ | refine blk_drew ?_ | refine blk_alloc ?_ _)); refine blk_put (cs := #[.bool false, .int .i64 0, .string (⟨#[]⟩ : ByteArray)]) ?_ 0 _ rfl; (with_reducible repeat (first | refine blk_drewN ?_ _ | refine blk_drew ?_ | refine blk_alloc ?_ _)); refine blk_far ?_ NB227_228.out _; (with_reducible repeat (first | refine blk_drewN ?_ _ | refine blk_drew ?_ | refine blk_alloc ?_ _)); exact BK227.out) Tryz.underlying43 rfl (by kernel_rfl)) rfl ?_
     exact ⟨rr_, by repeat (first | (with_reducible first | exact HB.out | apply below_alloc | apply pw_below_drewN | apply below_drew1 | refine below_set ?_ GE227.out | refine below_set ?_ GE228.out) | exact HB.out)⟩
 · replace c4 := Bool.eq_false_iff.mpr c4
   subst c4
   rw [if_neg nf_] at H
   obtain ⟨⟨t238, t239⟩, A39, H⟩ := bo_ H
   (try dsimp only at H)
   obtain ⟨⟨t240, t241, t242⟩, A40, H⟩ := bo_ H
   (try dsimp only at H)
   obtain ⟨⟨t243, t244⟩, A41, H⟩ := bo_ H
   (try dsimp only at H)
   by_cases c42 : t239 = true
   · subst c42
     rw [if_pos rfl] at H
     by_cases c43 : t242 = true
     · subst c43
       rw [if_pos rfl] at H
       simp only [Option.some.injEq, Prod.mk.injEq] at H
       obtain ⟨rfl, rfl, rfl, rfl, rfl⟩ := H
       go_enter Tryz.func45, Tryz.ntmps45
       go_wp2_with (first | ((with_reducible refine gd_ (N := 2) rfl ?_); refine bx_ (N := 2) (cs := #[.bool false, .int .i64 0, .string (⟨#[]⟩ : ByteArray)]) (t := 43) ?_; intro gb227 hg w44 hbox hb; have BK227 := A_ (hbox); have GW227 := A_ (ge_ hg bB_ : w.heap.size ≤ gb227); have GE227 := A_ (ge_ hg bB_ : w.heap.size ≤ gb227); replace HB := A_ (below_step bB_ hb); clear hb hbox hg) | ((with_reducible refine gd_ (N := 5) rfl ?_); refine bx_ (N := 5) (cs := #[.bool false, .int .i64 0, .string (⟨#[]⟩ : ByteArray)]) (t := 43) ?_; intro gb228 hg w45 hbox hb; have BK228 := A_ (hbox); have GW228 := A_ (ge_ hg (bG_ GE227.out) : w.heap.size ≤ gb228); have GE228 := A_ (ge_ hg (bG_ GE227.out) : w.heap.size ≤ gb228); replace HB := A_ (below_step (bG_ GE227.out) hb); have NB227_228 := A_ (gm_ hg BK227.out); have NB228_227 := A_ (gn_ hg BK227.out); replace BK227 := A_ (bw_ BK227.out hb); clear hb hbox hg) | ((with_reducible refine gc_ (f := 44) rfl ?_); refine gL_ (some 21) Tryz.func44 #[.string a0, .string (⟨#[78, 111, 116, 32]⟩ : ByteArray)] ?_; (with_reducible refine (strings_CutPrefix.calls a0 (⟨#[78, 111, 116, 32]⟩ : ByteArray) t229 t230 _ A2.out).mono ?_); rintro e w46 ⟨rfl, hb⟩; refine ⟨_, rfl, ?_⟩; replace BK227 := A_ (bw_ BK227.out hb); replace BK228 := A_ (bw_ BK228.out hb); replace HB := A_ (below_step (by repeat (first | (with_reducible first | exact HB.out | apply below_alloc | apply pw_below_drewN | apply below_drew1 | refine below_set ?_ GE227.out | refine below_set ?_ GE228.out) | exact HB.out)) hb); (try clear hb); have hnb47 := NB228_227.out; have hnc47 := NB227_228.out; obtain ⟨hcz48_0, hcz48_1, hcz48_2, hfz48_0, hfz48_1, hfz48_2⟩ := cz3_ BK228.out) | ((with_reducible refine gc_ (f := 44) rfl ?_); refine gL_ (some 27) Tryz.func44 #[.string t229, .string (⟨#[60]⟩ : ByteArray)] ?_; (with_reducible refine (strings_CutPrefix.calls t229 (⟨#[60]⟩ : ByteArray) t231 false _ A3.out).mono ?_); rintro e w49 ⟨rfl, hb⟩; refine ⟨_, rfl, ?_⟩; replace BK227 := A_ (blk_below (g := gb227) (o := .cells #[.bool false, .int .i64 0, .string (⟨#[]⟩ : ByteArray)] 43 (0, 0)) (by (with_reducible repeat (first | refine blk_drewN ?_ _ | refine blk_drew ?_ | refine blk_alloc ?_ _)); refine blk_far ?_ NB227_228.out _; (with_reducible repeat (first | refine blk_drewN ?_ _ | refine blk_drew ?_ | refine blk_alloc ?_ _)); exact BK227.out) hb); replace BK228 := A_ (blk_below (g := gb228) (o := .cells #[.bool t230, .int .i64 0, .string (⟨#[]⟩ : ByteArray)] 43 (0, 0)) (by (with_reducible repeat (first | refine blk_drewN ?_ _ | refine blk_drew ?_ | refine blk_alloc ?_ _)); refine blk_put (cs := #[.bool false, .int .i64 0, .string (⟨#[]⟩ : ByteArray)]) ?_ 0 _ rfl; (with_reducible repeat (first | refine blk_drewN ?_ _ | refine blk_drew ?_ | refine blk_alloc ?_ _)); exact BK228.out) hb); replace HB := A_ (below_step (by repeat (first | (with_reducible first | exact HB.out | apply below_alloc | apply pw_below_drewN | apply below_drew1 | refine below_set ?_ GE227.out | refine below_set ?_ GE228.out) | exact HB.out)) hb); (try clear hb)) | ((with_reducible refine gc_ (f := 44) rfl ?_); refine gL_ (some 56) Tryz.func44 #[.string t229, .string (⟨#[91]⟩ : ByteArray)] ?_; (with_reducible refine (strings_CutPrefix.calls t229 (⟨#[91]⟩ : ByteArray) t238 true _ A39.out).mono ?_); rintro e w50 ⟨rfl, hb⟩; refine ⟨_, rfl, ?_⟩; replace BK227 := A_ (bw_ BK227.out hb); replace BK228 := A_ (bw_ BK228.out hb); replace HB := A_ (below_step (by repeat (first | (with_reducible first | exact HB.out | apply below_alloc | apply pw_below_drewN | apply below_drew1 | refine below_set ?_ GE227.out | refine below_set ?_ GE228.out) | exact HB.out)) hb); (try clear hb)) | ((with_reducible refine gc_ (f := 60) rfl ?_); refine gL_ (some 61) Tryz.func60 #[.string t238, .int .i64 1] ?_; (with_reducible refine (impl_tagAt.calls k t238 1 t240 t241 true _ ?gM22 A40.out).mono ?_); (case gM22 => exact gM_ HGM.out (by repeat (first | (with_reducible first | exact HB.out | apply below_alloc | apply pw_below_drewN | apply below_drew1 | refine below_set ?_ GE227.out | refine below_set ?_ GE228.out) | exact HB.out))); rintro e w51 ⟨rfl, hb⟩; refine ⟨_, rfl, ?_⟩; replace BK227 := A_ (bw_ BK227.out hb); replace BK228 := A_ (bw_ BK228.out hb); replace HB := A_ (below_step (by repeat (first | (with_reducible first | exact HB.out | apply below_alloc | apply pw_below_drewN | apply below_drew1 | refine below_set ?_ GE227.out | refine below_set ?_ GE228.out) | exact HB.out)) hb); (try clear hb)) | ((with_reducible refine gc_ (f := 44) rfl ?_); refine gL_ (some 67) Tryz.func44 #[.string t241, .string (⟨#[93]⟩ : ByteArray)] ?_; (with_reducible refine (strings_CutPrefix.calls t241 (⟨#[93]⟩ : ByteArray) t243 t244 _ A41.out).mono ?_); rintro e w52 ⟨rfl, hb⟩; refine ⟨_, rfl, ?_⟩; replace BK227 := A_ (bw_ BK227.out hb); replace BK228 := A_ (bw_ BK228.out hb); replace HB := A_ (below_step (by repeat (first | (with_reducible first | exact HB.out | apply below_alloc | apply pw_below_drewN | apply below_drew1 | refine below_set ?_ GE227.out | refine below_set ?_ GE228.out) | exact HB.out)) hb); (try clear hb); obtain ⟨hcz53_0, hcz53_1, hcz53_2, hfz53_0, hfz53_1, hfz53_2⟩ := cz3_ BK228.out; obtain ⟨hcz54_0, hcz54_1, hcz54_2, hfz54_0, hfz54_1, hfz54_2⟩ := cz3_ BK227.out))
       refine bodyPost_ret (results_ctt rfl _ _ gb227 43 #[.bool t230, .int .i64 0, .string t240] (0, 0) _ rfl (by (with_reducible repeat (first | refine blk_drewN ?_ _ | refine blk_drew ?_ | refine blk_alloc ?_ _)); refine blk_put (cs := #[.bool t230, .int .i64 0, .string (⟨#[]⟩ : ByteArray)]) ?_ 2 _ rfl; (with_reducible repeat (first | refine blk_drewN ?_ _ | refine blk_drew ?_ | refine blk_alloc ?_ _)); refine blk_put (cs := #[.bool t230, .int .i64 0, .string (⟨#[]⟩ : ByteArray)]) ?_ 1 _ rfl; (with_reducible repeat (first | refine blk_drewN ?_ _ | refine blk_drew ?_ | refine blk_alloc ?_ _)); refine blk_put (cs := #[.bool false, .int .i64 0, .string (⟨#[]⟩ : ByteArray)]) ?_ 0 _ rfl; (with_reducible repeat (first | refine blk_drewN ?_ _ | refine blk_drew ?_ | refine blk_alloc ?_ _)); refine blk_far ?_ NB227_228.out _; (with_reducible repeat (first | refine blk_drewN ?_ _ | refine blk_drew ?_ | refine blk_alloc ?_ _)); exact BK227.out) Tryz.underlying43 rfl (by kernel_rfl)) rfl ?_
       exact ⟨rr_, by repeat (first | (with_reducible first | exact HB.out | apply below_alloc | apply pw_below_drewN | apply below_drew1 | refine below_set ?_ GE227.out | refine below_set ?_ GE228.out) | exact HB.out)⟩
     · replace c43 := Bool.eq_false_iff.mpr c43
       subst c43
       rw [if_neg nf_] at H
       simp only [Option.some.injEq, Prod.mk.injEq] at H
       obtain ⟨rfl, rfl, rfl, rfl, rfl⟩ := H
       go_enter Tryz.func45, Tryz.ntmps45
       go_wp2_with (first | ((with_reducible refine gd_ (N := 2) rfl ?_); refine bx_ (N := 2) (cs := #[.bool false, .int .i64 0, .string (⟨#[]⟩ : ByteArray)]) (t := 43) ?_; intro gb227 hg w55 hbox hb; have BK227 := A_ (hbox); have GW227 := A_ (ge_ hg bB_ : w.heap.size ≤ gb227); have GE227 := A_ (ge_ hg bB_ : w.heap.size ≤ gb227); replace HB := A_ (below_step bB_ hb); clear hb hbox hg) | ((with_reducible refine gd_ (N := 5) rfl ?_); refine bx_ (N := 5) (cs := #[.bool false, .int .i64 0, .string (⟨#[]⟩ : ByteArray)]) (t := 43) ?_; intro gb228 hg w56 hbox hb; have BK228 := A_ (hbox); have GW228 := A_ (ge_ hg (bG_ GE227.out) : w.heap.size ≤ gb228); have GE228 := A_ (ge_ hg (bG_ GE227.out) : w.heap.size ≤ gb228); replace HB := A_ (below_step (bG_ GE227.out) hb); have NB227_228 := A_ (gm_ hg BK227.out); have NB228_227 := A_ (gn_ hg BK227.out); replace BK227 := A_ (bw_ BK227.out hb); clear hb hbox hg) | ((with_reducible refine gc_ (f := 44) rfl ?_); refine gL_ (some 21) Tryz.func44 #[.string a0, .string (⟨#[78, 111, 116, 32]⟩ : ByteArray)] ?_; (with_reducible refine (strings_CutPrefix.calls a0 (⟨#[78, 111, 116, 32]⟩ : ByteArray) t229 t230 _ A2.out).mono ?_); rintro e w57 ⟨rfl, hb⟩; refine ⟨_, rfl, ?_⟩; replace BK227 := A_ (bw_ BK227.out hb); replace BK228 := A_ (bw_ BK228.out hb); replace HB := A_ (below_step (by repeat (first | (with_reducible first | exact HB.out | apply below_alloc | apply pw_below_drewN | apply below_drew1 | refine below_set ?_ GE227.out | refine below_set ?_ GE228.out) | exact HB.out)) hb); (try clear hb); have hnb58 := NB228_227.out; have hnc58 := NB227_228.out; obtain ⟨hcz59_0, hcz59_1, hcz59_2, hfz59_0, hfz59_1, hfz59_2⟩ := cz3_ BK228.out) | ((with_reducible refine gc_ (f := 44) rfl ?_); refine gL_ (some 27) Tryz.func44 #[.string t229, .string (⟨#[60]⟩ : ByteArray)] ?_; (with_reducible refine (strings_CutPrefix.calls t229 (⟨#[60]⟩ : ByteArray) t231 false _ A3.out).mono ?_); rintro e w60 ⟨rfl, hb⟩; refine ⟨_, rfl, ?_⟩; replace BK227 := A_ (blk_below (g := gb227) (o := .cells #[.bool false, .int .i64 0, .string (⟨#[]⟩ : ByteArray)] 43 (0, 0)) (by (with_reducible repeat (first | refine blk_drewN ?_ _ | refine blk_drew ?_ | refine blk_alloc ?_ _)); refine blk_far ?_ NB227_228.out _; (with_reducible repeat (first | refine blk_drewN ?_ _ | refine blk_drew ?_ | refine blk_alloc ?_ _)); exact BK227.out) hb); replace BK228 := A_ (blk_below (g := gb228) (o := .cells #[.bool t230, .int .i64 0, .string (⟨#[]⟩ : ByteArray)] 43 (0, 0)) (by (with_reducible repeat (first | refine blk_drewN ?_ _ | refine blk_drew ?_ | refine blk_alloc ?_ _)); refine blk_put (cs := #[.bool false, .int .i64 0, .string (⟨#[]⟩ : ByteArray)]) ?_ 0 _ rfl; (with_reducible repeat (first | refine blk_drewN ?_ _ | refine blk_drew ?_ | refine blk_alloc ?_ _)); exact BK228.out) hb); replace HB := A_ (below_step (by repeat (first | (with_reducible first | exact HB.out | apply below_alloc | apply pw_below_drewN | apply below_drew1 | refine below_set ?_ GE227.out | refine below_set ?_ GE228.out) | exact HB.out)) hb); (try clear hb)) | ((with_reducible refine gc_ (f := 44) rfl ?_); refine gL_ (some 56) Tryz.func44 #[.string t229, .string (⟨#[91]⟩ : ByteArray)] ?_; (with_reducible refine (strings_CutPrefix.calls t229 (⟨#[91]⟩ : ByteArray) t238 true _ A39.out).mono ?_); rintro e w61 ⟨rfl, hb⟩; refine ⟨_, rfl, ?_⟩; replace BK227 := A_ (bw_ BK227.out hb); replace BK228 := A_ (bw_ BK228.out hb); replace HB := A_ (below_step (by repeat (first | (with_reducible first | exact HB.out | apply below_alloc | apply pw_below_drewN | apply below_drew1 | refine below_set ?_ GE227.out | refine below_set ?_ GE228.out) | exact HB.out)) hb); (try clear hb)) | ((with_reducible refine gc_ (f := 60) rfl ?_); refine gL_ (some 61) Tryz.func60 #[.string t238, .int .i64 1] ?_; (with_reducible refine (impl_tagAt.calls k t238 1 t240 t241 false _ ?gM23 A40.out).mono ?_); (case gM23 => exact gM_ HGM.out (by repeat (first | (with_reducible first | exact HB.out | apply below_alloc | apply pw_below_drewN | apply below_drew1 | refine below_set ?_ GE227.out | refine below_set ?_ GE228.out) | exact HB.out))); rintro e w62 ⟨rfl, hb⟩; refine ⟨_, rfl, ?_⟩; replace BK227 := A_ (bw_ BK227.out hb); replace BK228 := A_ (bw_ BK228.out hb); replace HB := A_ (below_step (by repeat (first | (with_reducible first | exact HB.out | apply below_alloc | apply pw_below_drewN | apply below_drew1 | refine below_set ?_ GE227.out | refine below_set ?_ GE228.out) | exact HB.out)) hb); (try clear hb)) | ((with_reducible refine gc_ (f := 44) rfl ?_); refine gL_ (some 67) Tryz.func44 #[.string t241, .string (⟨#[93]⟩ : ByteArray)] ?_; (with_reducible refine (strings_CutPrefix.calls t241 (⟨#[93]⟩ : ByteArray) t243 t244 _ A41.out).mono ?_); rintro e w63 ⟨rfl, hb⟩; refine ⟨_, rfl, ?_⟩; replace BK227 := A_ (bw_ BK227.out hb); replace BK228 := A_ (bw_ BK228.out hb); replace HB := A_ (below_step (by repeat (first | (with_reducible first | exact HB.out | apply below_alloc | apply pw_below_drewN | apply below_drew1 | refine below_set ?_ GE227.out | refine below_set ?_ GE228.out) | exact HB.out)) hb); (try clear hb); obtain ⟨hcz64_0, hcz64_1, hcz64_2, hfz64_0, hfz64_1, hfz64_2⟩ := cz3_ BK228.out; obtain ⟨hcz65_0, hcz65_1, hcz65_2, hfz65_0, hfz65_1, hfz65_2⟩ := cz3_ BK227.out))
       refine bodyPost_ret (results_ctt rfl _ _ gb227 43 #[.bool t230, .int .i64 0, .string t240] (0, 0) _ rfl (by (with_reducible repeat (first | refine blk_drewN ?_ _ | refine blk_drew ?_ | refine blk_alloc ?_ _)); refine blk_put (cs := #[.bool t230, .int .i64 0, .string (⟨#[]⟩ : ByteArray)]) ?_ 2 _ rfl; (with_reducible repeat (first | refine blk_drewN ?_ _ | refine blk_drew ?_ | refine blk_alloc ?_ _)); refine blk_put (cs := #[.bool t230, .int .i64 0, .string (⟨#[]⟩ : ByteArray)]) ?_ 1 _ rfl; (with_reducible repeat (first | refine blk_drewN ?_ _ | refine blk_drew ?_ | refine blk_alloc ?_ _)); refine blk_put (cs := #[.bool false, .int .i64 0, .string (⟨#[]⟩ : ByteArray)]) ?_ 0 _ rfl; (with_reducible repeat (first | refine blk_drewN ?_ _ | refine blk_drew ?_ | refine blk_alloc ?_ _)); refine blk_far ?_ NB227_228.out _; (with_reducible repeat (first | refine blk_drewN ?_ _ | refine blk_drew ?_ | refine blk_alloc ?_ _)); exact BK227.out) Tryz.underlying43 rfl (by kernel_rfl)) rfl ?_
       exact ⟨rr_, by repeat (first | (with_reducible first | exact HB.out | apply below_alloc | apply pw_below_drewN | apply below_drew1 | refine below_set ?_ GE227.out | refine below_set ?_ GE228.out) | exact HB.out)⟩
   · replace c42 := Bool.eq_false_iff.mpr c42
     subst c42
     rw [if_neg nf_] at H
     simp only [Option.some.injEq, Prod.mk.injEq] at H
     obtain ⟨rfl, rfl, rfl, rfl, rfl⟩ := H
     go_enter Tryz.func45, Tryz.ntmps45
     go_wp2_with (first | ((with_reducible refine gd_ (N := 2) rfl ?_); refine bx_ (N := 2) (cs := #[.bool false, .int .i64 0, .string (⟨#[]⟩ : ByteArray)]) (t := 43) ?_; intro gb227 hg w66 hbox hb; have BK227 := A_ (hbox); have GW227 := A_ (ge_ hg bB_ : w.heap.size ≤ gb227); have GE227 := A_ (ge_ hg bB_ : w.heap.size ≤ gb227); replace HB := A_ (below_step bB_ hb); clear hb hbox hg) | ((with_reducible refine gd_ (N := 5) rfl ?_); refine bx_ (N := 5) (cs := #[.bool false, .int .i64 0, .string (⟨#[]⟩ : ByteArray)]) (t := 43) ?_; intro gb228 hg w67 hbox hb; have BK228 := A_ (hbox); have GW228 := A_ (ge_ hg (bG_ GE227.out) : w.heap.size ≤ gb228); have GE228 := A_ (ge_ hg (bG_ GE227.out) : w.heap.size ≤ gb228); replace HB := A_ (below_step (bG_ GE227.out) hb); have NB227_228 := A_ (gm_ hg BK227.out); have NB228_227 := A_ (gn_ hg BK227.out); replace BK227 := A_ (bw_ BK227.out hb); clear hb hbox hg) | ((with_reducible refine gc_ (f := 44) rfl ?_); refine gL_ (some 21) Tryz.func44 #[.string a0, .string (⟨#[78, 111, 116, 32]⟩ : ByteArray)] ?_; (with_reducible refine (strings_CutPrefix.calls a0 (⟨#[78, 111, 116, 32]⟩ : ByteArray) t229 t230 _ A2.out).mono ?_); rintro e w68 ⟨rfl, hb⟩; refine ⟨_, rfl, ?_⟩; replace BK227 := A_ (bw_ BK227.out hb); replace BK228 := A_ (bw_ BK228.out hb); replace HB := A_ (below_step (by repeat (first | (with_reducible first | exact HB.out | apply below_alloc | apply pw_below_drewN | apply below_drew1 | refine below_set ?_ GE227.out | refine below_set ?_ GE228.out) | exact HB.out)) hb); (try clear hb); have hnb69 := NB228_227.out; have hnc69 := NB227_228.out; obtain ⟨hcz70_0, hcz70_1, hcz70_2, hfz70_0, hfz70_1, hfz70_2⟩ := cz3_ BK228.out) | ((with_reducible refine gc_ (f := 44) rfl ?_); refine gL_ (some 27) Tryz.func44 #[.string t229, .string (⟨#[60]⟩ : ByteArray)] ?_; (with_reducible refine (strings_CutPrefix.calls t229 (⟨#[60]⟩ : ByteArray) t231 false _ A3.out).mono ?_); rintro e w71 ⟨rfl, hb⟩; refine ⟨_, rfl, ?_⟩; replace BK227 := A_ (blk_below (g := gb227) (o := .cells #[.bool false, .int .i64 0, .string (⟨#[]⟩ : ByteArray)] 43 (0, 0)) (by (with_reducible repeat (first | refine blk_drewN ?_ _ | refine blk_drew ?_ | refine blk_alloc ?_ _)); refine blk_far ?_ NB227_228.out _; (with_reducible repeat (first | refine blk_drewN ?_ _ | refine blk_drew ?_ | refine blk_alloc ?_ _)); exact BK227.out) hb); replace BK228 := A_ (blk_below (g := gb228) (o := .cells #[.bool t230, .int .i64 0, .string (⟨#[]⟩ : ByteArray)] 43 (0, 0)) (by (with_reducible repeat (first | refine blk_drewN ?_ _ | refine blk_drew ?_ | refine blk_alloc ?_ _)); refine blk_put (cs := #[.bool false, .int .i64 0, .string (⟨#[]⟩ : ByteArray)]) ?_ 0 _ rfl; (with_reducible repeat (first | refine blk_drewN ?_ _ | refine blk_drew ?_ | refine blk_alloc ?_ _)); exact BK228.out) hb); replace HB := A_ (below_step (by repeat (first | (with_reducible first | exact HB.out | apply below_alloc | apply pw_below_drewN | apply below_drew1 | refine below_set ?_ GE227.out | refine below_set ?_ GE228.out) | exact HB.out)) hb); (try clear hb)) | ((with_reducible refine gc_ (f := 44) rfl ?_); refine gL_ (some 56) Tryz.func44 #[.string t229, .string (⟨#[91]⟩ : ByteArray)] ?_; (with_reducible refine (strings_CutPrefix.calls t229 (⟨#[91]⟩ : ByteArray) t238 false _ A39.out).mono ?_); rintro e w72 ⟨rfl, hb⟩; refine ⟨_, rfl, ?_⟩; replace BK227 := A_ (bw_ BK227.out hb); replace BK228 := A_ (bw_ BK228.out hb); replace HB := A_ (below_step (by repeat (first | (with_reducible first | exact HB.out | apply below_alloc | apply pw_below_drewN | apply below_drew1 | refine below_set ?_ GE227.out | refine below_set ?_ GE228.out) | exact HB.out)) hb); (try clear hb)) | ((with_reducible refine gc_ (f := 60) rfl ?_); refine gL_ (some 61) Tryz.func60 #[.string t238, .int .i64 1] ?_; (with_reducible refine (impl_tagAt.calls k t238 1 t240 t241 t242 _ ?gM24 A40.out).mono ?_); (case gM24 => exact gM_ HGM.out (by repeat (first | (with_reducible first | exact HB.out | apply below_alloc | apply pw_below_drewN | apply below_drew1 | refine below_set ?_ GE227.out | refine below_set ?_ GE228.out) | exact HB.out))); rintro e w73 ⟨rfl, hb⟩; refine ⟨_, rfl, ?_⟩; replace BK227 := A_ (bw_ BK227.out hb); replace BK228 := A_ (bw_ BK228.out hb); replace HB := A_ (below_step (by repeat (first | (with_reducible first | exact HB.out | apply below_alloc | apply pw_below_drewN | apply below_drew1 | refine below_set ?_ GE227.out | refine below_set ?_ GE228.out) | exact HB.out)) hb); (try clear hb)) | ((with_reducible refine gc_ (f := 44) rfl ?_); refine gL_ (some 67) Tryz.func44 #[.string t241, .string (⟨#[93]⟩ : ByteArray)] ?_; (with_reducible refine (strings_CutPrefix.calls t241 (⟨#[93]⟩ : ByteArray) t243 t244 _ A41.out).mono ?_); rintro e w74 ⟨rfl, hb⟩; refine ⟨_, rfl, ?_⟩; replace BK227 := A_ (bw_ BK227.out hb); replace BK228 := A_ (bw_ BK228.out hb); replace HB := A_ (below_step (by repeat (first | (with_reducible first | exact HB.out | apply below_alloc | apply pw_below_drewN | apply below_drew1 | refine below_set ?_ GE227.out | refine below_set ?_ GE228.out) | exact HB.out)) hb); (try clear hb); obtain ⟨hcz75_0, hcz75_1, hcz75_2, hfz75_0, hfz75_1, hfz75_2⟩ := cz3_ BK228.out; obtain ⟨hcz76_0, hcz76_1, hcz76_2, hfz76_0, hfz76_1, hfz76_2⟩ := cz3_ BK227.out))
     refine bodyPost_ret (results_ctt rfl _ _ gb227 43 #[.bool t230, .int .i64 0, .string t240] (0, 0) _ rfl (by (with_reducible repeat (first | refine blk_drewN ?_ _ | refine blk_drew ?_ | refine blk_alloc ?_ _)); refine blk_put (cs := #[.bool t230, .int .i64 0, .string (⟨#[]⟩ : ByteArray)]) ?_ 2 _ rfl; (with_reducible repeat (first | refine blk_drewN ?_ _ | refine blk_drew ?_ | refine blk_alloc ?_ _)); refine blk_put (cs := #[.bool t230, .int .i64 0, .string (⟨#[]⟩ : ByteArray)]) ?_ 1 _ rfl; (with_reducible repeat (first | refine blk_drewN ?_ _ | refine blk_drew ?_ | refine blk_alloc ?_ _)); refine blk_put (cs := #[.bool false, .int .i64 0, .string (⟨#[]⟩ : ByteArray)]) ?_ 0 _ rfl; (with_reducible repeat (first | refine blk_drewN ?_ _ | refine blk_drew ?_ | refine blk_alloc ?_ _)); refine blk_far ?_ NB227_228.out _; (with_reducible repeat (first | refine blk_drewN ?_ _ | refine blk_drew ?_ | refine blk_alloc ?_ _)); exact BK227.out) Tryz.underlying43 rfl (by kernel_rfl)) rfl ?_
     exact ⟨rr_, by repeat (first | (with_reducible first | exact HB.out | apply below_alloc | apply pw_below_drewN | apply below_drew1 | refine below_set ?_ GE227.out | refine below_set ?_ GE228.out) | exact HB.out)⟩
mutual
def impl_listAt.l0 : Nat → ByteArray → Bool → List (S43) → Option ((List (S43)) × ByteArray × Bool)
 | 0, _, _, _ => none
 | k + 1, x0, x5, x6 => if x5 = true then (impl_listAt.j1 k x0 x6 (decide ((x6.length : Int) < 4))) else (impl_listAt.j1 k x0 x6 false)
def impl_listAt.j1 : Nat → ByteArray → List (S43) → Bool → Option ((List (S43)) × ByteArray × Bool)
 | 0, _, _, _ => none
 | k + 1, x0, x6, x22 => if x22 = true then ((impl_condAt.f k x0).bind fun bt247 => (if bt247.2.2.2.2 = true then (if x6.length < 4398046511104 then ((some (x6 ++ [(⟨bt247.1, bt247.2.1, bt247.2.2.1⟩ : S43)] : List (S43))).bind fun y253 => ((strings_CutPrefix.f bt247.2.2.2.1 (⟨#[41]⟩ : ByteArray)).bind fun bt256 => (if bt256.2 = true then (some (y253, bt256.1, true)) else ((strings_CutPrefix.f bt247.2.2.2.1 (⟨#[32]⟩ : ByteArray)).bind fun bt258 => (impl_listAt.l0 k bt258.1 bt258.2 y253))))) else (none)) else (some (([] : List (S43)), (⟨#[]⟩ : ByteArray), false)))) else (some (([] : List (S43)), (⟨#[]⟩ : ByteArray), false))
end
def impl_listAt.f (k : Nat) (a0 : ByteArray) : Option ((List (S43)) × ByteArray × Bool) := (strings_CutPrefix.f a0 (⟨#[40]⟩ : ByteArray)).bind fun bt245 => (impl_listAt.l0 k bt245.1 bt245.2 ([] : List (S43)))
theorem impl_listAt.calls (k : Nat) (a0 : ByteArray) (r1 : List (S43)) (r2 : ByteArray) (r3 : Bool) (w : World) (hGT : GT w) (hGM : GM w) (hGE : GE w) (h : impl_listAt.f k a0 = some (r1, r2, r3)) :
 Calls Tryz.prog 27 #[.string a0] w fun e w' => ∃ v0_ : Value, e = .returned (.tuple #[v0_, .string r2, .bool r3]) ∧ Kd.R k43 43 w' w.heap.size (fun _ => True) v0_ r1 ∧ Below w.heap.size w w' := by
 have HGT := A_ hGT
 have HGM := A_ hGM
 have HGE := A_ hGE
 clear hGT hGM hGE
 have hu43 := Tryz.underlying43
 have HB := A_ (Below.refl w.heap.size w)
 have H : ((strings_CutPrefix.f a0 (⟨#[40]⟩ : ByteArray)).bind fun bt245 => (impl_listAt.l0 k bt245.1 bt245.2 ([] : List (S43)))) = some (r1, r2, r3) := h
 clear h
 obtain ⟨⟨t245, t246⟩, A2, H⟩ := bo_ H
 (try dsimp only at H)
 have H' := A_ H
 clear H
 go_enter Tryz.func27, Tryz.ntmps27
 go_wp2_with (first | ((with_reducible refine gc_ (f := 44) rfl ?_); refine gL_ (some 14) Tryz.func44 #[.string a0, .string (⟨#[40]⟩ : ByteArray)] ?_; (with_reducible refine (strings_CutPrefix.calls a0 (⟨#[40]⟩ : ByteArray) t245 t246 _ A2.out).mono ?_); rintro e w3 ⟨rfl, hb⟩; refine ⟨_, rfl, ?_⟩; replace HB := A_ (below_step bB_ hb); (try clear hb)))
 go_loopg [0, 5, 6] k (fun kq v0 v5 v6 w' => ∃ (x0_1 : ByteArray) (x5_1 : Bool) (x6_1 : List (S43)), v0 = .string x0_1 ∧ v5 = .bool x5_1 ∧ Aside0 (impl_listAt.l0 kq x0_1 x5_1 x6_1 = some (r1, r2, r3)) ∧ Aside0 (kq ≤ k) ∧ Aside0 (Kd.R k43 43 w' w.heap.size (fun _ => True) v6 x6_1) ∧ Aside0 (Below w.heap.size w w'))
 case atStart => exact ⟨(t245), (t246), (([] : List (S43))), rs_, rs_, H', ⟨Nat.le_refl _⟩, ⟨by first | exact Kd.R_nil _ _ _ _ _ | exact Kd.N_nil _ _ _ _ _ | exact Kd.V_nil _ _ _ _ _ | exact Kd.Q_nil _ _ _ _ _ | exact Kd.S_nil _ _ _ _ _⟩, ⟨bB_⟩⟩
 case round =>
  clear H'
  try clear c2
  try clear p2
  obtain ⟨x0_1, x5_1, x6_1, rfl, rfl, HA, HK1, HO_6, HB⟩ := hrel
  cases gk with
  | zero => exact absurd HA.out (by simp [impl_listAt.l0])
  | succ k1 =>
   have H := HA.out
   clear HA
   simp only [impl_listAt.l0] at H
   have HC4 := A_ H
   clear H
   go_upto_region 3 with (fail)
   go_cut [22] (fun v22 wc => ∃ (kq : Nat) (x22_3 : Bool), v22 = .bool x22_3 ∧ Aside0 (impl_listAt.j1 kq x0_1 x6_1 x22_3 = some (r1, r2, r3)) ∧ Aside0 (kq ≤ k1) ∧ Aside0 (Kd.R k43 43 wc w.heap.size (fun _ => True) u6 x6_1) ∧ Aside0 (Below w.heap.size w wc))
   case first =>
    have H := HC4.out
    clear HC4
    by_cases c5 : x5_1 = true
    · subst c5
      rw [if_pos rfl] at H
      have H' := A_ H
      clear H
      obtain ⟨Ao6, co6, eo6⟩ := Kd.R_slice HO_6.out
      subst eo6
      go_wp2
      go_meet
      case rel => exact ⟨_, (decide ((x6_1.length : Int) < 4)), rs_, H', ⟨by have := HK1.out; first | omega | exact Nat.le_refl _⟩, ⟨vR_ HO_6.out⟩, ⟨bB_⟩⟩
    · replace c5 := Bool.eq_false_iff.mpr c5
      subst c5
      rw [if_neg nf_] at H
      have H' := A_ H
      clear H
      go_wp2
      go_meet
      case rel => exact ⟨_, (false), rs_, H', ⟨by have := HK1.out; first | omega | exact Nat.le_refl _⟩, ⟨vR_ HO_6.out⟩, ⟨bB_⟩⟩
   case rest =>
    clear HC4
    try clear c2
    try clear p2
    try clear c4
    try clear c5
    try clear p2
    obtain ⟨kq, x22_3, rfl, HA, HJ3, HO_6, HB⟩ := hcut
    cases kq with
    | zero => exact absurd HA.out (by simp [impl_listAt.j1])
    | succ kj3 =>
     have H := HA.out
     clear HA
     simp only [impl_listAt.j1] at H
     by_cases c7 : x22_3 = true
     · subst c7
       rw [if_pos rfl] at H
       obtain ⟨⟨t247, t248, t249, t250, t251⟩, A8, H⟩ := bo_ H
       (try dsimp only at H)
       by_cases c9 : t251 = true
       · subst c9
         rw [if_pos rfl] at H
         by_cases c10 : x6_1.length < 4398046511104
         rotate_left
         · exact absurd H (by rw [if_neg c10]; simp)
         rw [if_pos c10] at H
         have LMc10 := A_ c10
         clear c10
         obtain ⟨y253, hy253⟩ : ∃ y_ : List (S43), y_ = (x6_1 ++ [(⟨t247, t248, t249⟩ : S43)]) := ⟨_, rfl⟩
         replace H : ((strings_CutPrefix.f t250 (⟨#[41]⟩ : ByteArray)).bind fun bt256 => (if bt256.2 = true then (some (y253, bt256.1, true)) else ((strings_CutPrefix.f t250 (⟨#[32]⟩ : ByteArray)).bind fun bt258 => (impl_listAt.l0 kj3 bt258.1 bt258.2 y253)))) = some (r1, r2, r3) := hy_ hy253 H
         have Ny253 := A_ hy253
         clear hy253
         obtain ⟨⟨t256, t257⟩, A11, H⟩ := bo_ H
         (try dsimp only at H)
         by_cases c12 : t257 = true
         · subst c12
           rw [if_pos rfl] at H
           simp only [Option.some.injEq, Prod.mk.injEq] at H
           obtain ⟨rfl, rfl, rfl⟩ := H
           go_wp2_with (first | ((with_reducible refine gc_ (f := 45) rfl ?_); refine gL_ (some 25) Tryz.func45 #[.string x0_1] ?_; (with_reducible refine (impl_condAt.calls kj3 x0_1 t247 t248 t249 t250 true _ ?gT25 ?gM25 ?gE25 A8.out).mono ?_); (case gT25 => first | exact gT_ HGT.out (bG_ GE252.out) | exact gT_ HGT.out bB_); (case gM25 => first | exact gM_ HGM.out (bG_ GE252.out) | exact gM_ HGM.out bB_); (case gE25 => first | exact gE_ HGE.out (bG_ GE252.out) | exact gE_ HGE.out bB_); rintro e w13 ⟨rfl, hb⟩; refine ⟨_, rfl, ?_⟩; replace HO_6 := A_ (Kd.R_below (vR_ HO_6.out) hb); replace HB := A_ (below_step bB_ hb); (try clear hb); (try clear hk)) | ((with_reducible refine gd_ (N := 7) rfl ?_); (try (refine gate_guard (by rfl) ?_; dsimp only)); refine bx_ (N := 7) (cs := #[.bool false, .int .i64 0, .string (⟨#[]⟩ : ByteArray)]) (t := 43) ?_; intro gb252 hg w14 hbox hb; replace HO_6 := A_ (Kd.R_below (Kd.R_elderB (vR_ HO_6.out) gb252 (Nat.le_of_eq hg.symm)) hb); have BK252 := A_ (hbox); have GW252 := A_ (ge_ hg bB_ : w.heap.size ≤ gb252); have GE252 := A_ (ge_ hg bB_ : w.heap.size ≤ gb252); replace HB := A_ (below_step bB_ hb); clear hb hbox hg; obtain ⟨hcz15_0, hcz15_1, hcz15_2, hfz15_0, hfz15_1, hfz15_2⟩ := cz3_ BK252.out) | ((with_reducible refine gate_builtin (b := .append) (xs := #[.tmp 31, .tmp 33]) rfl ?_); (try (refine gate_guard (by rfl) ?_; dsimp only)); at_builtin; refine Kd.R_append k43 (w0 := w) w.heap.size rfl (.tmp 31) (.tmp 33) 41 43 (.agg #[(.bool false), (.int .i64 0), (.string ⟨#[]⟩)]) 32 rfl Tryz.underlying41 info43 rfl (by decide) (by omega) u6 x6_1 (⟨t247, t248, t249⟩ : S43) [.bool t247, .int .i64 t248, .string t249] (fun k_ => k_ ≠ gb252) (fun _ => False) rfl (by first | (go_simp; done) | (go_simp; rfl)) ?aP (fun _ hk => hk.elim) ?aF ?aO ?aB ?aS ?aL ?_; (case aP => exact k43_mkM _ _ _ (⟨t247, t248, t249⟩ : S43)); (case aB => exact (bG_ GE252.out)); (case aF => exact (fun k_ hk => Kd.freshB (g := gb252) (o := .cells #[.bool t247, .int .i64 t248, .string t249] 43 (0, 0)) (by (with_reducible repeat (first | refine blk_drewN ?_ _ | refine blk_drew ?_ | refine blk_alloc ?_ _)); refine blk_put (cs := #[.bool t247, .int .i64 t248, .string (⟨#[]⟩ : ByteArray)]) ?_ 2 _ rfl; (with_reducible repeat (first | refine blk_drewN ?_ _ | refine blk_drew ?_ | refine blk_alloc ?_ _)); refine blk_put (cs := #[.bool t247, .int .i64 0, .string (⟨#[]⟩ : ByteArray)]) ?_ 1 _ rfl; (with_reducible repeat (first | refine blk_drewN ?_ _ | refine blk_drew ?_ | refine blk_alloc ?_ _)); refine blk_put (cs := #[.bool false, .int .i64 0, .string (⟨#[]⟩ : ByteArray)]) ?_ 0 _ rfl; (with_reducible repeat (first | refine blk_drewN ?_ _ | refine blk_drew ?_ | refine blk_alloc ?_ _)); exact BK252.out) k_ hk)); (case aO => exact (by (with_reducible repeat (first | apply Kd.R_alloc | apply Kd.R_drewN | apply Kd.R_drew)); exact Kd.R_mono (Kd.R_far (p := ⟨gb252, 2, none⟩) (Kd.R_far (p := ⟨gb252, 1, none⟩) (Kd.R_far (p := ⟨gb252, 0, none⟩) (Kd.R_mono HO_6.out (fun k_ hk => (⟨hk, hk.2⟩ : _ ∧ k_ ≠ gb252))) (fun _ hk => hk.2) (.bool t247)) (fun _ hk => hk.2) (.int .i64 t248)) (fun _ hk => hk.2) (.string t249)) (fun _ hk => hk.1.2))); (case aS => exact (below_size (bG_ GE252.out))); (case aL => have := LMc10.out; omega); intro v254 w16 ho hb hg hat; rw [← Ny253.out] at ho; replace BK252 := A_ (blk_grown (g := gb252) (o := .cells #[.bool t247, .int .i64 t248, .string t249] 43 (0, 0)) (by (with_reducible repeat (first | refine blk_drewN ?_ _ | refine blk_drew ?_ | refine blk_alloc ?_ _)); refine blk_put (cs := #[.bool t247, .int .i64 t248, .string (⟨#[]⟩ : ByteArray)]) ?_ 2 _ rfl; (with_reducible repeat (first | refine blk_drewN ?_ _ | refine blk_drew ?_ | refine blk_alloc ?_ _)); refine blk_put (cs := #[.bool t247, .int .i64 0, .string (⟨#[]⟩ : ByteArray)]) ?_ 1 _ rfl; (with_reducible repeat (first | refine blk_drewN ?_ _ | refine blk_drew ?_ | refine blk_alloc ?_ _)); refine blk_put (cs := #[.bool false, .int .i64 0, .string (⟨#[]⟩ : ByteArray)]) ?_ 0 _ rfl; (with_reducible repeat (first | refine blk_drewN ?_ _ | refine blk_drew ?_ | refine blk_alloc ?_ _)); exact BK252.out) hg (Kd.R_away HO_6.out (fun _ hk => hk.2))); replace HB := A_ (hb); have HO255 := A_ (ho); clear HO_6; clear ho hb hg hat) | ((with_reducible refine gc_ (f := 44) rfl ?_); refine gL_ (some 37) Tryz.func44 #[.string t250, .string (⟨#[41]⟩ : ByteArray)] ?_; (with_reducible refine (strings_CutPrefix.calls t250 (⟨#[41]⟩ : ByteArray) t256 true _ A11.out).mono ?_); rintro e w17 ⟨rfl, hb⟩; refine ⟨_, rfl, ?_⟩; replace HO255 := A_ (Kd.R_below (vR_ HO255.out) hb); replace BK252 := A_ (bw_ BK252.out hb); replace HB := A_ (below_step (bG_ GE252.out) hb); (try clear hb); (try clear hk)))
           go_ret3
           exact ⟨_, rr_, by (with_reducible repeat (first | apply Kd.R_alloc | apply Kd.R_drewN | apply Kd.R_drew)); exact Kd.R_mono HO255.out (fun _ hk => trivial), bG_ GE252.out⟩
         · replace c12 := Bool.eq_false_iff.mpr c12
           subst c12
           rw [if_neg nf_] at H
           obtain ⟨⟨t258, t259⟩, A18, H⟩ := bo_ H
           (try dsimp only at H)
           have H' := A_ H
           clear H
           go_wp2_with (first | ((with_reducible refine gc_ (f := 45) rfl ?_); refine gL_ (some 25) Tryz.func45 #[.string x0_1] ?_; (with_reducible refine (impl_condAt.calls kj3 x0_1 t247 t248 t249 t250 true _ ?gT26 ?gM26 ?gE26 A8.out).mono ?_); (case gT26 => first | exact gT_ HGT.out (bG_ GE252.out) | exact gT_ HGT.out bB_); (case gM26 => first | exact gM_ HGM.out (bG_ GE252.out) | exact gM_ HGM.out bB_); (case gE26 => first | exact gE_ HGE.out (bG_ GE252.out) | exact gE_ HGE.out bB_); rintro e w19 ⟨rfl, hb⟩; refine ⟨_, rfl, ?_⟩; replace HO_6 := A_ (Kd.R_below (vR_ HO_6.out) hb); replace HB := A_ (below_step bB_ hb); (try clear hb); (try clear hk)) | ((with_reducible refine gd_ (N := 7) rfl ?_); (try (refine gate_guard (by rfl) ?_; dsimp only)); refine bx_ (N := 7) (cs := #[.bool false, .int .i64 0, .string (⟨#[]⟩ : ByteArray)]) (t := 43) ?_; intro gb252 hg w20 hbox hb; replace HO_6 := A_ (Kd.R_below (Kd.R_elderB (vR_ HO_6.out) gb252 (Nat.le_of_eq hg.symm)) hb); have BK252 := A_ (hbox); have GW252 := A_ (ge_ hg bB_ : w.heap.size ≤ gb252); have GE252 := A_ (ge_ hg bB_ : w.heap.size ≤ gb252); replace HB := A_ (below_step bB_ hb); clear hb hbox hg; obtain ⟨hcz21_0, hcz21_1, hcz21_2, hfz21_0, hfz21_1, hfz21_2⟩ := cz3_ BK252.out) | ((with_reducible refine gate_builtin (b := .append) (xs := #[.tmp 31, .tmp 33]) rfl ?_); (try (refine gate_guard (by rfl) ?_; dsimp only)); at_builtin; refine Kd.R_append k43 (w0 := w) w.heap.size rfl (.tmp 31) (.tmp 33) 41 43 (.agg #[(.bool false), (.int .i64 0), (.string ⟨#[]⟩)]) 32 rfl Tryz.underlying41 info43 rfl (by decide) (by omega) u6 x6_1 (⟨t247, t248, t249⟩ : S43) [.bool t247, .int .i64 t248, .string t249] (fun k_ => k_ ≠ gb252) (fun _ => False) rfl (by first | (go_simp; done) | (go_simp; rfl)) ?aP (fun _ hk => hk.elim) ?aF ?aO ?aB ?aS ?aL ?_; (case aP => exact k43_mkM _ _ _ (⟨t247, t248, t249⟩ : S43)); (case aB => exact (bG_ GE252.out)); (case aF => exact (fun k_ hk => Kd.freshB (g := gb252) (o := .cells #[.bool t247, .int .i64 t248, .string t249] 43 (0, 0)) (by (with_reducible repeat (first | refine blk_drewN ?_ _ | refine blk_drew ?_ | refine blk_alloc ?_ _)); refine blk_put (cs := #[.bool t247, .int .i64 t248, .string (⟨#[]⟩ : ByteArray)]) ?_ 2 _ rfl; (with_reducible repeat (first | refine blk_drewN ?_ _ | refine blk_drew ?_ | refine blk_alloc ?_ _)); refine blk_put (cs := #[.bool t247, .int .i64 0, .string (⟨#[]⟩ : ByteArray)]) ?_ 1 _ rfl; (with_reducible repeat (first | refine blk_drewN ?_ _ | refine blk_drew ?_ | refine blk_alloc ?_ _)); refine blk_put (cs := #[.bool false, .int .i64 0, .string (⟨#[]⟩ : ByteArray)]) ?_ 0 _ rfl; (with_reducible repeat (first | refine blk_drewN ?_ _ | refine blk_drew ?_ | refine blk_alloc ?_ _)); exact BK252.out) k_ hk)); (case aO => exact (by (with_reducible repeat (first | apply Kd.R_alloc | apply Kd.R_drewN | apply Kd.R_drew)); exact Kd.R_mono (Kd.R_far (p := ⟨gb252, 2, none⟩) (Kd.R_far (p := ⟨gb252, 1, none⟩) (Kd.R_far (p := ⟨gb252, 0, none⟩) (Kd.R_mono HO_6.out (fun k_ hk => (⟨hk, hk.2⟩ : _ ∧ k_ ≠ gb252))) (fun _ hk => hk.2) (.bool t247)) (fun _ hk => hk.2) (.int .i64 t248)) (fun _ hk => hk.2) (.string t249)) (fun _ hk => hk.1.2))); (case aS => exact (below_size (bG_ GE252.out))); (case aL => have := LMc10.out; omega); intro v254 w22 ho hb hg hat; rw [← Ny253.out] at ho; replace BK252 := A_ (blk_grown (g := gb252) (o := .cells #[.bool t247, .int .i64 t248, .string t249] 43 (0, 0)) (by (with_reducible repeat (first | refine blk_drewN ?_ _ | refine blk_drew ?_ | refine blk_alloc ?_ _)); refine blk_put (cs := #[.bool t247, .int .i64 t248, .string (⟨#[]⟩ : ByteArray)]) ?_ 2 _ rfl; (with_reducible repeat (first | refine blk_drewN ?_ _ | refine blk_drew ?_ | refine blk_alloc ?_ _)); refine blk_put (cs := #[.bool t247, .int .i64 0, .string (⟨#[]⟩ : ByteArray)]) ?_ 1 _ rfl; (with_reducible repeat (first | refine blk_drewN ?_ _ | refine blk_drew ?_ | refine blk_alloc ?_ _)); refine blk_put (cs := #[.bool false, .int .i64 0, .string (⟨#[]⟩ : ByteArray)]) ?_ 0 _ rfl; (with_reducible repeat (first | refine blk_drewN ?_ _ | refine blk_drew ?_ | refine blk_alloc ?_ _)); exact BK252.out) hg (Kd.R_away HO_6.out (fun _ hk => hk.2))); replace HB := A_ (hb); have HO255 := A_ (ho); clear HO_6; clear ho hb hg hat) | ((with_reducible refine gc_ (f := 44) rfl ?_); refine gL_ (some 37) Tryz.func44 #[.string t250, .string (⟨#[41]⟩ : ByteArray)] ?_; (with_reducible refine (strings_CutPrefix.calls t250 (⟨#[41]⟩ : ByteArray) t256 false _ A11.out).mono ?_); rintro e w23 ⟨rfl, hb⟩; refine ⟨_, rfl, ?_⟩; replace HO255 := A_ (Kd.R_below (vR_ HO255.out) hb); replace BK252 := A_ (bw_ BK252.out hb); replace HB := A_ (below_step (bG_ GE252.out) hb); (try clear hb); (try clear hk)) | ((with_reducible refine gc_ (f := 44) rfl ?_); refine gL_ (some 45) Tryz.func44 #[.string t250, .string (⟨#[32]⟩ : ByteArray)] ?_; (with_reducible refine (strings_CutPrefix.calls t250 (⟨#[32]⟩ : ByteArray) t258 t259 _ A18.out).mono ?_); rintro e w24 ⟨rfl, hb⟩; refine ⟨_, rfl, ?_⟩; replace HO255 := A_ (Kd.R_below (vR_ HO255.out) hb); replace BK252 := A_ (bw_ BK252.out hb); replace HB := A_ (below_step (bG_ GE252.out) hb); (try clear hb); (try clear hk)))
           go_roundg kj3
           case measure => have := HK1.out; have := HJ3.out; omega
           case rel => exact ⟨(t258), (t259), (y253), rs_, rs_, H', ⟨by have := HK1.out; have := HJ3.out; omega⟩, ⟨by (with_reducible repeat (first | apply Kd.R_alloc | apply Kd.R_drewN | apply Kd.R_drew)); exact Kd.R_mono HO255.out (fun _ hk => trivial)⟩, ⟨bG_ GE252.out⟩⟩
       · replace c9 := Bool.eq_false_iff.mpr c9
         subst c9
         rw [if_neg nf_] at H
         simp only [Option.some.injEq, Prod.mk.injEq] at H
         obtain ⟨rfl, rfl, rfl⟩ := H
         go_wp2_with (first | ((with_reducible refine gc_ (f := 45) rfl ?_); refine gL_ (some 25) Tryz.func45 #[.string x0_1] ?_; (with_reducible refine (impl_condAt.calls kj3 x0_1 t247 t248 t249 t250 false _ ?gT27 ?gM27 ?gE27 A8.out).mono ?_); (case gT27 => first | exact gT_ HGT.out (bG_ GE252.out) | exact gT_ HGT.out bB_); (case gM27 => first | exact gM_ HGM.out (bG_ GE252.out) | exact gM_ HGM.out bB_); (case gE27 => first | exact gE_ HGE.out (bG_ GE252.out) | exact gE_ HGE.out bB_); rintro e w25 ⟨rfl, hb⟩; refine ⟨_, rfl, ?_⟩; replace HO_6 := A_ (Kd.R_below (vR_ HO_6.out) hb); replace HB := A_ (below_step bB_ hb); (try clear hb)) | ((with_reducible refine gd_ (N := 7) rfl ?_); (try (refine gate_guard (by rfl) ?_; dsimp only)); refine bx_ (N := 7) (cs := #[.bool false, .int .i64 0, .string (⟨#[]⟩ : ByteArray)]) (t := 43) ?_; intro gb252 hg w26 hbox hb; replace HO_6 := A_ (Kd.R_below (Kd.R_elderB (vR_ HO_6.out) gb252 (Nat.le_of_eq hg.symm)) hb); have BK252 := A_ (hbox); have GW252 := A_ (ge_ hg bB_ : w.heap.size ≤ gb252); have GE252 := A_ (ge_ hg bB_ : w.heap.size ≤ gb252); replace HB := A_ (below_step bB_ hb); clear hb hbox hg; obtain ⟨hcz27_0, hcz27_1, hcz27_2, hfz27_0, hfz27_1, hfz27_2⟩ := cz3_ BK252.out))
         go_ret3
         exact ⟨_, rr_, by first | exact Kd.R_nil _ _ _ _ _ | exact Kd.N_nil _ _ _ _ _ | exact Kd.V_nil _ _ _ _ _ | exact Kd.Q_nil _ _ _ _ _ | exact Kd.S_nil _ _ _ _ _, bG_ GE252.out⟩
     · replace c7 := Bool.eq_false_iff.mpr c7
       subst c7
       rw [if_neg nf_] at H
       simp only [Option.some.injEq, Prod.mk.injEq] at H
       obtain ⟨rfl, rfl, rfl⟩ := H
       go_wp2
       go_ret3
       exact ⟨_, rr_, by first | exact Kd.R_nil _ _ _ _ _ | exact Kd.N_nil _ _ _ _ _ | exact Kd.V_nil _ _ _ _ _ | exact Kd.Q_nil _ _ _ _ _ | exact Kd.S_nil _ _ _ _ _, bB_⟩
theorem eqA43 (d : Nat) (w : World) (x0 y0 : Bool) (x1 y1 : Int) (x2 y2 : ByteArray) :
    (Op.equalIn (d + 2) 43 (.agg #[.bool x0, .int .i64 x1, .string x2]) (.agg #[.bool y0, .int .i64 y1, .string y2])).run Tryz.prog w = .ok (x0 == y0 && (x1 == y1 && (x2.toList == y2.toList))) w := by
  refine eqA_of Tryz.underlying43 (by kernel_rfl) ?_
  refine eqf_cons (by rfl) (by go_simp; rfl) (by go_simp; rfl) (by go_simp) ?_
  refine eqf_cons (by rfl) (by go_simp; rfl) (by go_simp; rfl) (by go_simp) ?_
  exact eqf_last (by rfl) (by go_simp; rfl) (by go_simp; rfl) (by go_simp)
set_option maxHeartbeats 8000000
set_option maxRecDepth 100000
attribute [local go_sem high] eqA43
mutual
def impl_ParseIf.l0 : Nat → ByteArray → List (List (S43)) → Option ((List (List (S43))) × Bool)
 | 0, _, _ => none
 | k + 1, x0, x4 => (impl_listAt.f k x0).bind fun bt260 => (if bt260.2.2 = true then (impl_ParseIf.j1 k x4 bt260.1 bt260.2.1 (decide ((x4.length : Int) ≥ 4))) else (impl_ParseIf.j1 k x4 bt260.1 bt260.2.1 true))
def impl_ParseIf.j1 : Nat → List (List (S43)) → List (S43) → ByteArray → Bool → Option ((List (List (S43))) × Bool)
 | 0, _, _, _, _ => none
 | k + 1, x4, x5, x6, x20 => if x20 = true then (some (([] : List (List (S43))), false)) else (if x4.length < 5864062014805 then ((some (x4 ++ [x5] : List (List (S43)))).bind fun y265 => (if x6.toList = ([] : List UInt8) then (some (y265, true)) else ((strings_TrimLeft.f x6 (⟨#[32]⟩ : ByteArray)).bind fun t268 => (impl_ParseIf.l0 k t268 y265)))) else (none))
end
def impl_ParseIf.f (k : Nat) (a0 : ByteArray) : Option ((List (List (S43))) × Bool) := impl_ParseIf.l0 k a0 ([] : List (List (S43)))
theorem impl_ParseIf.calls (k : Nat) (a0 : ByteArray) (r1 : List (List (S43))) (r2 : Bool) (w : World) (hGT : GT w) (hGM : GM w) (hGE : GE w) (h : impl_ParseIf.f k a0 = some (r1, r2)) :
 Calls Tryz.prog 8 #[.string a0] w fun e w' => ∃ v0_ : Value, e = .returned (.tuple #[v0_, .bool r2]) ∧ Kd.S (Kd.slice 43 k43) 41 w' w.heap.size (fun _ => True) v0_ r1 ∧ Below w.heap.size w w' := by
 have HGT := A_ hGT
 have HGM := A_ hGM
 have HGE := A_ hGE
 clear hGT hGM hGE
 have HB := A_ (Below.refl w.heap.size w)
 have H : (impl_ParseIf.l0 k a0 ([] : List (List (S43)))) = some (r1, r2) := h
 clear h
 have H' := A_ H
 clear H
 go_enter Tryz.func8, Tryz.ntmps8
 go_wp2
 go_loopg [0, 4] k (fun kq v0 v4 w' => ∃ (x0_1 : ByteArray) (x4_1 : List (List (S43))), v0 = .string x0_1 ∧ Aside0 (impl_ParseIf.l0 kq x0_1 x4_1 = some (r1, r2)) ∧ Aside0 (kq ≤ k) ∧ Aside0 (Kd.S (Kd.slice 43 k43) 41 w' w.heap.size (fun _ => True) v4 x4_1) ∧ Aside0 (Below w.heap.size w w'))
 case atStart => exact ⟨(a0), (([] : List (List (S43)))), rs_, H', ⟨Nat.le_refl _⟩, ⟨by first | exact Kd.S_nil _ _ _ _ _ | exact Kd.N_nil _ _ _ _ _ | exact Kd.V_nil _ _ _ _ _ | exact Kd.Q_nil _ _ _ _ _ | exact Kd.R_nil _ _ _ _ _⟩, ⟨bB_⟩⟩
 case round =>
  clear H'
  obtain ⟨x0_1, x4_1, rfl, HA, HK1, HO_4, HB⟩ := hrel
  cases gk with
  | zero => exact absurd HA.out (by simp [impl_ParseIf.l0])
  | succ k1 =>
   have H := HA.out
   clear HA
   simp only [impl_ParseIf.l0] at H
   obtain ⟨⟨t260, t261, t262⟩, A2, H⟩ := bo_ H
   (try dsimp only at H)
   have HC3 := A_ H
   clear H
   go_upto_region 3 with (first | ((with_reducible refine gc_ (f := 27) rfl ?_); refine gL_ (some 10) Tryz.func27 #[.string x0_1] ?_; (with_reducible refine (impl_listAt.calls k1 x0_1 t260 t261 t262 _ ?gT28 ?gM28 ?gE28 A2.out).mono ?_); (case gT28 => exact gT_ HGT.out bB_); (case gM28 => exact gM_ HGM.out bB_); (case gE28 => exact gE_ HGE.out bB_); rintro e w4 ⟨v263, rfl, ho0, hb⟩; refine ⟨_, rfl, ?_⟩; replace HO_4 := A_ (Kd.S_elder' (vS_ HO_4.out) (kb_ ho0) hb); have HO264 := A_ (Kd.R_lower ho0 (below_size bB_)); replace HB := A_ (below_step bB_ hb); (try clear hb); (try clear ho0)))
   (try simp only [Act.put, List.setIfInBounds_toArray, List.set_cons_zero, List.set_cons_succ])
   go_cut [20] (fun v20 wc => ∃ (kq : Nat) (x20_2 : Bool), v20 = .bool x20_2 ∧ Aside0 (impl_ParseIf.j1 kq x4_1 t260 t261 x20_2 = some (r1, r2)) ∧ Aside0 (kq ≤ k1) ∧ Aside0 (Kd.S (Kd.slice 43 k43) 41 wc w.heap.size (fun k_ => some k_ ≠ (v263 : Value).ownBlock) u4 x4_1) ∧ Aside0 (Kd.R k43 43 wc w.heap.size (fun _ => True) v263 t260) ∧ Aside0 (Below w.heap.size w wc))
   case first =>
    have H := HC3.out
    clear HC3
    by_cases c5 : t262 = true
    · subst c5
      rw [if_pos rfl] at H
      have H' := A_ H
      clear H
      obtain ⟨Ao6, co6, eo6⟩ := Kd.S_slice HO_4.out
      subst eo6
      go_wp2
      go_meet
      case rel => exact ⟨_, (decide ((x4_1.length : Int) ≥ 4)), rs_, H', ⟨by have := HK1.out; first | omega | exact Nat.le_refl _⟩, ⟨by (with_reducible repeat (first | apply Kd.S_alloc | apply Kd.S_drewN | apply Kd.S_drew)); exact Kd.S_mono HO_4.out (fun _ hk => hk.2)⟩, ⟨vR_ HO264.out⟩, ⟨bB_⟩⟩
    · replace c5 := Bool.eq_false_iff.mpr c5
      subst c5
      rw [if_neg nf_] at H
      have H' := A_ H
      clear H
      go_wp2
      go_meet
      case rel => exact ⟨_, (true), rs_, H', ⟨by have := HK1.out; first | omega | exact Nat.le_refl _⟩, ⟨by (with_reducible repeat (first | apply Kd.S_alloc | apply Kd.S_drewN | apply Kd.S_drew)); exact Kd.S_mono HO_4.out (fun _ hk => hk.2)⟩, ⟨vR_ HO264.out⟩, ⟨bB_⟩⟩
   case rest =>
    clear HC3
    try clear c2
    try clear p2
    try clear c5
    obtain ⟨kq, x20_2, rfl, HA, HJ2, HO_4, HO_5, HB⟩ := hcut
    cases kq with
    | zero => exact absurd HA.out (by simp [impl_ParseIf.j1])
    | succ kj2 =>
     have H := HA.out
     clear HA
     simp only [impl_ParseIf.j1] at H
     by_cases c7 : x20_2 = true
     · subst c7
       rw [if_pos rfl] at H
       simp only [Option.some.injEq, Prod.mk.injEq] at H
       obtain ⟨rfl, rfl⟩ := H
       go_wp2
       go_ret2
       exact ⟨_, rr_, by first | exact Kd.S_nil _ _ _ _ _ | exact Kd.N_nil _ _ _ _ _ | exact Kd.V_nil _ _ _ _ _ | exact Kd.Q_nil _ _ _ _ _ | exact Kd.R_nil _ _ _ _ _, bB_⟩
     · replace c7 := Bool.eq_false_iff.mpr c7
       subst c7
       rw [if_neg nf_] at H
       by_cases c8 : x4_1.length < 5864062014805
       rotate_left
       · exact absurd H (by rw [if_neg c8]; simp)
       rw [if_pos c8] at H
       have LMc8 := A_ c8
       clear c8
       obtain ⟨y265, hy265⟩ : ∃ y_ : List (List (S43)), y_ = (x4_1 ++ [t260]) := ⟨_, rfl⟩
       replace H : (if t261.toList = ([] : List UInt8) then (some (y265, true)) else ((strings_TrimLeft.f t261 (⟨#[32]⟩ : ByteArray)).bind fun t268 => (impl_ParseIf.l0 kj2 t268 y265))) = some (r1, r2) := hy_ hy265 H
       have Ny265 := A_ hy265
       clear hy265
       by_cases c9 : t261.toList = ([] : List UInt8)
       · rw [if_pos c9] at H
         have c9b0 : (t261.toList == ([] : List UInt8)) = true := beq_iff_eq.mpr c9
         have c9b1 : (t261.toList != ([] : List UInt8)) = false := bne_eq_false_iff_eq.mpr c9
         clear c9
         simp only [Option.some.injEq, Prod.mk.injEq] at H
         obtain ⟨rfl, rfl⟩ := H
         obtain ⟨Ao11, co11, eo11⟩ := Kd.R_slice HO_5.out
         subst eo11
         go_wp2_with (first | ((with_reducible refine gate_builtin (b := .append) (xs := #[.tmp 21, .tmp 23]) rfl ?_); (try (refine gate_guard (by rfl) ?_; dsimp only)); at_builtin; refine Kd.S_append (Kd.slice 43 k43) (w0 := w) w.heap.size rfl (.tmp 21) (.tmp 23) 24 41 (.slice none 0 0) 24 rfl Tryz.underlying24 info41 rfl (by decide) (by omega) u4 x4_1 t260 [.slice Ao11 t260.length co11] (fun _ => True) (fun k_ => some k_ = (.slice Ao11 t260.length co11 : Value).ownBlock) rfl rfl ?aP (fun k_ hk_ => ((Kd.R_mono (ok' := fun k_ => ((fun _ => True)) k_ ∧ some k_ ≠ (u4 : Value).ownBlock) (Kd.R_apart' (HO_5.out) (Kd.S_typed HO_4.out) (by decide)) (fun k_ hk => ⟨trivial, hk.2⟩))).1 k_ hk_.symm) ?aF ?aO ?aB ?aS ?aL ?_; (case aP => exact Kd.M_row (Kd.R_mono (Kd.R_tight rfl (Kd.R_mono (ok' := fun k_ => ((fun _ => True)) k_ ∧ some k_ ≠ (u4 : Value).ownBlock) (Kd.R_apart' (HO_5.out) (Kd.S_typed HO_4.out) (by decide)) (fun k_ hk => ⟨trivial, hk.2⟩))) (fun _ h_ => h_))); (case aB => exact bB_); (case aF => exact (fun _ _ => trivial)); (case aO => exact (by (with_reducible repeat (first | apply Kd.S_alloc | apply Kd.S_drewN | apply Kd.S_drew)); exact Kd.S_mono HO_4.out (fun k_ hk => ⟨trivial, fun e_ => hk e_⟩))); (case aS => exact (below_size bB_)); (case aL => have := LMc8.out; omega); intro v266 w10 ho hb hg hat; rw [← Ny265.out] at ho; replace HB := A_ (hb); have HO267 := A_ (ho); clear HO_4 HO_5; clear ho hb hg hat))
         go_ret2
         exact ⟨_, rr_, by (with_reducible repeat (first | apply Kd.S_alloc | apply Kd.S_drewN | apply Kd.S_drew)); exact HO267.out, bB_⟩
       rw [if_neg c9] at H
       have c9b0 : (t261.toList == ([] : List UInt8)) = false := beq_eq_false_iff_ne.mpr c9
       have c9b1 : (t261.toList != ([] : List UInt8)) = true := bne_iff_ne.mpr c9
       obtain ⟨t268, A12, H⟩ := bo_ H
       (try dsimp only at H)
       have H' := A_ H
       clear H
       obtain ⟨Ao14, co14, eo14⟩ := Kd.R_slice HO_5.out
       subst eo14
       go_wp2_with (first | ((with_reducible refine gate_builtin (b := .append) (xs := #[.tmp 21, .tmp 23]) rfl ?_); (try (refine gate_guard (by rfl) ?_; dsimp only)); at_builtin; refine Kd.S_append (Kd.slice 43 k43) (w0 := w) w.heap.size rfl (.tmp 21) (.tmp 23) 24 41 (.slice none 0 0) 24 rfl Tryz.underlying24 info41 rfl (by decide) (by omega) u4 x4_1 t260 [.slice Ao14 t260.length co14] (fun _ => True) (fun k_ => some k_ = (.slice Ao14 t260.length co14 : Value).ownBlock) rfl rfl ?aP (fun k_ hk_ => ((Kd.R_mono (ok' := fun k_ => ((fun _ => True)) k_ ∧ some k_ ≠ (u4 : Value).ownBlock) (Kd.R_apart' (HO_5.out) (Kd.S_typed HO_4.out) (by decide)) (fun k_ hk => ⟨trivial, hk.2⟩))).1 k_ hk_.symm) ?aF ?aO ?aB ?aS ?aL ?_; (case aP => exact Kd.M_row (Kd.R_mono (Kd.R_tight rfl (Kd.R_mono (ok' := fun k_ => ((fun _ => True)) k_ ∧ some k_ ≠ (u4 : Value).ownBlock) (Kd.R_apart' (HO_5.out) (Kd.S_typed HO_4.out) (by decide)) (fun k_ hk => ⟨trivial, hk.2⟩))) (fun _ h_ => h_))); (case aB => exact bB_); (case aF => exact (fun _ _ => trivial)); (case aO => exact (by (with_reducible repeat (first | apply Kd.S_alloc | apply Kd.S_drewN | apply Kd.S_drew)); exact Kd.S_mono HO_4.out (fun k_ hk => ⟨trivial, fun e_ => hk e_⟩))); (case aS => exact (below_size bB_)); (case aL => have := LMc8.out; omega); intro v266 w13 ho hb hg hat; rw [← Ny265.out] at ho; replace HB := A_ (hb); have HO267 := A_ (ho); clear HO_4 HO_5; clear ho hb hg hat) | ((with_reducible refine gc_ (f := 28) rfl ?_); refine gL_ (some 29) Tryz.func28 #[.string t261, .string (⟨#[32]⟩ : ByteArray)] ?_; (with_reducible refine (strings_TrimLeft.calls t261 (⟨#[32]⟩ : ByteArray) t268 _ A12.out).mono ?_); rintro e w15 ⟨rfl, hb⟩; refine ⟨_, rfl, ?_⟩; replace HO267 := A_ (Kd.S_below (vS_ HO267.out) hb); replace HB := A_ (below_step bB_ hb); (try clear hb)))
       go_roundg kj2
       case measure => have := HK1.out; have := HJ2.out; omega
       case rel => exact ⟨(t268), (y265), rs_, H', ⟨by have := HK1.out; have := HJ2.out; omega⟩, ⟨vS_ HO267.out⟩, ⟨bB_⟩⟩
mutual
def impl_sameConds.l0 : Nat → List (List (S43)) → List (List (S43)) → Int → Int → Option (Bool)
 | 0, _, _, _, _ => none
 | k + 1, x0, x1, x13, x14 => if x14 < x13 then (if 0 ≤ x14 then (if x14 < (x0.length : Int) then (if x14 < (x1.length : Int) then (if ((rd_L5 x0 x14).length : Int) = ((rd_L5 x1 x14).length : Int) then (impl_sameConds.l1 k x0 x1 x14 x13 x14 ((rd_L5 x0 x14).length : Int) 0) else (some false)) else (none)) else (none)) else (none)) else (some true)
def impl_sameConds.l1 : Nat → List (List (S43)) → List (List (S43)) → Int → Int → Int → Int → Int → Option (Bool)
 | 0, _, _, _, _, _, _, _ => none
 | k + 1, x0, x1, x5, x13, x14, x32, x33 => if x33 < x32 then (if 0 ≤ x5 then (if x5 < (x0.length : Int) then (if 0 ≤ x33 then (if x33 < ((rd_L5 x0 x5).length : Int) then (if x5 < (x1.length : Int) then (if x33 < ((rd_L5 x1 x5).length : Int) then (if (!(((rd_T43 (rd_L5 x0 x5) x33).f0) == ((rd_T43 (rd_L5 x1 x5) x33).f0)) || (!(((rd_T43 (rd_L5 x0 x5) x33).f1) == ((rd_T43 (rd_L5 x1 x5) x33).f1)) || (!((((rd_T43 (rd_L5 x0 x5) x33).f2).toList) == (((rd_T43 (rd_L5 x1 x5) x33).f2).toList))))) = true then (some false) else (impl_sameConds.l1 k x0 x1 x5 x13 x14 x32 (wrap64 (x33 + 1)))) else (none)) else (none)) else (none)) else (none)) else (none)) else (none)) else (impl_sameConds.l0 k x0 x1 x13 (wrap64 (x14 + 1)))
end
def impl_sameConds.f (k : Nat) (l0 : List (List (S43))) (l1 : List (List (S43))) : Option (Bool) := if (l0.length : Int) = (l1.length : Int) then (impl_sameConds.l0 k l0 l1 (l0.length : Int) 0) else (some false)
theorem impl_sameConds.calls (k : Nat) (A0 : Option Addr) (c0 : Nat) (l0 : List (List (S43))) (A1 : Option Addr) (c1 : Nat) (l1 : List (List (S43))) (r : Bool) (w : World) (hr0 : Kd.C (Kd.slice 43 k43) w A0 l0.length l0) (hc0 : l0.length ≤ c0) (hr1 : Kd.C (Kd.slice 43 k43) w A1 l1.length l1) (hc1 : l1.length ≤ c1) (h : impl_sameConds.f k l0 l1 = some r) :
 Calls Tryz.prog 23 #[.slice A0 l0.length c0, .slice A1 l1.length c1] w fun e w' => e = .returned (.bool r) ∧ Drawn0 w w' := by
 have hu43 := Tryz.underlying43
 have HR0 := A_ hr0
 have HC0 := A_ hc0
 clear hr0 hc0
 have HR1 := A_ hr1
 have HC1 := A_ hc1
 clear hr1 hc1
 have H : (if (l0.length : Int) = (l1.length : Int) then (impl_sameConds.l0 k l0 l1 (l0.length : Int) 0) else (some false)) = some r := h
 clear h
 by_cases c3 : (l0.length : Int) = (l1.length : Int)
 rotate_left
 · rw [if_neg c3] at H
   have c3b0 : ((l0.length : Int) == (l1.length : Int)) = false := beq_eq_false_iff_ne.mpr c3
   have c3b1 : ((l0.length : Int) != (l1.length : Int)) = true := bne_iff_ne.mpr c3
   have c3b2 : (l0.length == l1.length) = false := by first | simpa using c3 | (simp at c3 ⊢; omega)
   obtain rfl := si_ H
   go_enter Tryz.func23, Tryz.ntmps23
   go_wp2
   repeat (go_quiet (fail); try go_wp2)
   go_ret
   exact ⟨rs_, dr_⟩
 rw [if_pos c3] at H
 have c3b0 : ((l0.length : Int) == (l1.length : Int)) = true := beq_iff_eq.mpr c3
 have c3b1 : ((l0.length : Int) != (l1.length : Int)) = false := bne_eq_false_iff_eq.mpr c3
 have c3b2 : (l0.length == l1.length) = true := by first | simpa using c3 | (simp at c3 ⊢; omega)
 clear c3
 have H' := A_ H
 clear H
 go_enter Tryz.func23, Tryz.ntmps23
 go_wp2
 repeat (go_quiet (fail); try go_wp2)
 go_loopg [14] k (fun kq v14 w' => ∃ (x14_1 : Int), v14 = .int .i64 x14_1 ∧ Aside0 (impl_sameConds.l0 kq l0 l1 (l0.length : Int) x14_1 = some r) ∧ Aside0 (kq ≤ k) ∧ Drawn0 w w')
 case atStart => exact ⟨(0), rs_, H', ⟨Nat.le_refl _⟩, dr_⟩
 case round =>
  clear H'
  try clear c1
  try clear c2
  try clear p2
  try clear c3
  try clear c3b0
  try clear c3b1
  try clear c3b2
  obtain ⟨x14_1, rfl, HA, HK1, ⟨m1, rfl⟩⟩ := hrel
  cases gk with
  | zero => exact absurd HA.out (by simp [impl_sameConds.l0])
  | succ k1 =>
   have H := HA.out
   clear HA
   simp only [impl_sameConds.l0] at H
   by_cases c4 : x14_1 < (l0.length : Int)
   rotate_left
   · rw [if_neg c4] at H
     have c4b0 : decide (x14_1 < (l0.length : Int)) = false := decide_eq_false c4
     clear c4
     obtain rfl := si_ H
     go_wp2
     repeat (go_quiet (fail); try go_wp2)
     go_ret
     exact ⟨rs_, dr_⟩
   rw [if_pos c4] at H
   have c4b0 : decide (x14_1 < (l0.length : Int)) = true := decide_eq_true c4
   clear c4
   by_cases c5 : 0 ≤ x14_1
   rotate_left
   · exact absurd H (by rw [if_neg c5]; simp)
   rw [if_pos c5] at H
   have c5b0 : decide (0 ≤ x14_1) = true := decide_eq_true c5
   clear c5
   by_cases c6 : x14_1 < (l0.length : Int)
   rotate_left
   · exact absurd H (by rw [if_neg c6]; simp)
   rw [if_pos c6] at H
   have c6b0 : decide (x14_1 < (l0.length : Int)) = true := decide_eq_true c6
   clear c6
   by_cases c7 : x14_1 < (l1.length : Int)
   rotate_left
   · exact absurd H (by rw [if_neg c7]; simp)
   rw [if_pos c7] at H
   have c7b0 : decide (x14_1 < (l1.length : Int)) = true := decide_eq_true c7
   clear c7
   by_cases c8 : ((rd_L5 l0 x14_1).length : Int) = ((rd_L5 l1 x14_1).length : Int)
   rotate_left
   · rw [if_neg c8] at H
     have c8b0 : (((rd_L5 l0 x14_1).length : Int) == ((rd_L5 l1 x14_1).length : Int)) = false := beq_eq_false_iff_ne.mpr c8
     have c8b1 : (((rd_L5 l0 x14_1).length : Int) != ((rd_L5 l1 x14_1).length : Int)) = true := bne_iff_ne.mpr c8
     have c8b2 : ((rd_L5 l0 x14_1).length == (rd_L5 l1 x14_1).length) = false := by first | simpa using c8 | (simp at c8 ⊢; omega)
     obtain rfl := si_ H
     have p269 : 0 ≤ (x14_1 : Int) := od_
     have q269 : x14_1 < (l0.length : Int) := od_
     obtain ⟨ad269, A269_0, c269_0, e269, hx269_0, hl269_0, hi269_0⟩ := at_L5 HR0.out x14_1 p269 q269
     cases e269
     have HR269_0 := A_ hi269_0
     have HC269_0 := A_ hl269_0
     clear hi269_0 hl269_0
     replace p269 := eq_true p269
     replace q269 := eq_true q269
     have p270 : 0 ≤ (x14_1 : Int) := od_
     have q270 : x14_1 < (l1.length : Int) := od_
     obtain ⟨ad270, A270_0, c270_0, e270, hx270_0, hl270_0, hi270_0⟩ := at_L5 HR1.out x14_1 p270 q270
     cases e270
     have HR270_0 := A_ hi270_0
     have HC270_0 := A_ hl270_0
     clear hi270_0 hl270_0
     replace p270 := eq_true p270
     replace q270 := eq_true q270
     go_wp2
     repeat (go_quiet (fail); try go_wp2)
     go_ret
     exact ⟨rs_, dr_⟩
   rw [if_pos c8] at H
   have c8b0 : (((rd_L5 l0 x14_1).length : Int) == ((rd_L5 l1 x14_1).length : Int)) = true := beq_iff_eq.mpr c8
   have c8b1 : (((rd_L5 l0 x14_1).length : Int) != ((rd_L5 l1 x14_1).length : Int)) = false := bne_eq_false_iff_eq.mpr c8
   have c8b2 : ((rd_L5 l0 x14_1).length == (rd_L5 l1 x14_1).length) = true := by first | simpa using c8 | (simp at c8 ⊢; omega)
   clear c8
   have H' := A_ H
   clear H
   have p269 : 0 ≤ (x14_1 : Int) := od_
   have q269 : x14_1 < (l0.length : Int) := od_
   obtain ⟨ad269, A269_0, c269_0, e269, hx269_0, hl269_0, hi269_0⟩ := at_L5 HR0.out x14_1 p269 q269
   cases e269
   have HR269_0 := A_ hi269_0
   have HC269_0 := A_ hl269_0
   clear hi269_0 hl269_0
   replace p269 := eq_true p269
   replace q269 := eq_true q269
   have p270 : 0 ≤ (x14_1 : Int) := od_
   have q270 : x14_1 < (l1.length : Int) := od_
   obtain ⟨ad270, A270_0, c270_0, e270, hx270_0, hl270_0, hi270_0⟩ := at_L5 HR1.out x14_1 p270 q270
   cases e270
   have HR270_0 := A_ hi270_0
   have HC270_0 := A_ hl270_0
   clear hi270_0 hl270_0
   replace p270 := eq_true p270
   replace q270 := eq_true q270
   have p271 : 0 ≤ (x14_1 : Int) := od_
   have q271 : x14_1 < (l0.length : Int) := od_
   obtain ⟨ad271, A271_0, c271_0, e271, hx271_0, hl271_0, hi271_0⟩ := at_L5 HR0.out x14_1 p271 q271
   obtain rfl : ad269 = ad271 := (by injection e271)
   have HR271_0 := A_ hi271_0
   have HC271_0 := A_ hl271_0
   clear hi271_0 hl271_0
   replace p271 := eq_true p271
   replace q271 := eq_true q271
   have ea_ := Option.some.inj (hx269_0.symm.trans hx271_0)
   injection ea_ with ea_ en_ ec_
   subst ea_
   subst ec_
   clear en_
   go_wp2
   repeat (go_quiet (fail); try go_wp2)
   go_loopg [33] k1 (fun kq v33 w' => ∃ (x33_2 : Int), v33 = .int .i64 x33_2 ∧ Aside0 (impl_sameConds.l1 kq l0 l1 x14_1 (l0.length : Int) x14_1 ((rd_L5 l0 x14_1).length : Int) x33_2 = some r) ∧ Aside0 (kq ≤ k1) ∧ Drawn0 w w')
   case atStart => exact ⟨(0), rs_, H', ⟨Nat.le_refl _⟩, dr_⟩
   case round =>
    clear H'
    try clear c1
    try clear c2
    try clear p2
    try clear q2
    try clear hx2
    try clear c3
    try clear c3b0
    try clear c3b1
    try clear c3b2
    try clear c4
    try clear c4b0
    try clear c5
    try clear c5b0
    try clear c6
    try clear c6b0
    try clear c7
    try clear c7b0
    try clear c8
    try clear c8b0
    try clear c8b1
    try clear c8b2
    try clear hx269_0
    try clear hx270_0
    try clear hx271_0
    try clear p2
    try clear p269
    try clear p270
    try clear p271
    try clear q269
    try clear q270
    try clear q271
    obtain ⟨x33_2, rfl, HA, HK2, ⟨m2, rfl⟩⟩ := hrel
    cases gk with
    | zero => exact absurd HA.out (by simp [impl_sameConds.l1])
    | succ k2 =>
     have H := HA.out
     clear HA
     simp only [impl_sameConds.l1] at H
     by_cases c9 : x33_2 < ((rd_L5 l0 x14_1).length : Int)
     rotate_left
     · rw [if_neg c9] at H
       have c9b0 : decide (x33_2 < ((rd_L5 l0 x14_1).length : Int)) = false := decide_eq_false c9
       clear c9
       have H' := A_ H
       clear H
       go_wp2
       repeat (go_quiet (fail); try go_wp2)
       go_roundg k2
       case measure => have := HK1.out; have := HK2.out; omega
       case rel => exact ⟨(wrap64 (x14_1 + 1)), rs_, H', ⟨by have := HK1.out; have := HK2.out; omega⟩, dr_⟩
     rw [if_pos c9] at H
     have c9b0 : decide (x33_2 < ((rd_L5 l0 x14_1).length : Int)) = true := decide_eq_true c9
     clear c9
     by_cases c10 : 0 ≤ x14_1
     rotate_left
     · exact absurd H (by rw [if_neg c10]; simp)
     rw [if_pos c10] at H
     have c10b0 : decide (0 ≤ x14_1) = true := decide_eq_true c10
     clear c10
     by_cases c11 : x14_1 < (l0.length : Int)
     rotate_left
     · exact absurd H (by rw [if_neg c11]; simp)
     rw [if_pos c11] at H
     have c11b0 : decide (x14_1 < (l0.length : Int)) = true := decide_eq_true c11
     clear c11
     by_cases c12 : 0 ≤ x33_2
     rotate_left
     · exact absurd H (by rw [if_neg c12]; simp)
     rw [if_pos c12] at H
     have c12b0 : decide (0 ≤ x33_2) = true := decide_eq_true c12
     clear c12
     by_cases c13 : x33_2 < ((rd_L5 l0 x14_1).length : Int)
     rotate_left
     · exact absurd H (by rw [if_neg c13]; simp)
     rw [if_pos c13] at H
     have c13b0 : decide (x33_2 < ((rd_L5 l0 x14_1).length : Int)) = true := decide_eq_true c13
     clear c13
     by_cases c14 : x14_1 < (l1.length : Int)
     rotate_left
     · exact absurd H (by rw [if_neg c14]; simp)
     rw [if_pos c14] at H
     have c14b0 : decide (x14_1 < (l1.length : Int)) = true := decide_eq_true c14
     clear c14
     by_cases c15 : x33_2 < ((rd_L5 l1 x14_1).length : Int)
     rotate_left
     · exact absurd H (by rw [if_neg c15]; simp)
     rw [if_pos c15] at H
     have c15b0 : decide (x33_2 < ((rd_L5 l1 x14_1).length : Int)) = true := decide_eq_true c15
     clear c15
     by_cases c16 : (!(((rd_T43 (rd_L5 l0 x14_1) x33_2).f0) == ((rd_T43 (rd_L5 l1 x14_1) x33_2).f0)) || (!(((rd_T43 (rd_L5 l0 x14_1) x33_2).f1) == ((rd_T43 (rd_L5 l1 x14_1) x33_2).f1)) || (!((((rd_T43 (rd_L5 l0 x14_1) x33_2).f2).toList) == (((rd_T43 (rd_L5 l1 x14_1) x33_2).f2).toList))))) = true
     · rw [if_pos c16] at H
       have c16b0 : (!(((rd_T43 (rd_L5 l0 x14_1) x33_2).f0) == ((rd_T43 (rd_L5 l1 x14_1) x33_2).f0)) || (!(((rd_T43 (rd_L5 l0 x14_1) x33_2).f1) == ((rd_T43 (rd_L5 l1 x14_1) x33_2).f1)) || (!((((rd_T43 (rd_L5 l0 x14_1) x33_2).f2).toList) == (((rd_T43 (rd_L5 l1 x14_1) x33_2).f2).toList))))) = true := c16
       clear c16
       obtain rfl := si_ H
       have p272 : 0 ≤ (x14_1 : Int) := od_
       have q272 : x14_1 < (l0.length : Int) := od_
       obtain ⟨ad272, A272_0, c272_0, e272, hx272_0, hl272_0, hi272_0⟩ := at_L5 HR0.out x14_1 p272 q272
       obtain rfl : ad269 = ad272 := (by injection e272)
       have HR272_0 := A_ hi272_0
       have HC272_0 := A_ hl272_0
       clear hi272_0 hl272_0
       replace p272 := eq_true p272
       replace q272 := eq_true q272
       have p273 : 0 ≤ (x33_2 : Int) := od_
       have q273 : x33_2 < ((rd_L5 l0 x14_1).length : Int) := od_
       obtain ⟨ad273, e273, hx273_0, hx273_1, hx273_2⟩ := at_T43 HR272_0.out x33_2 p273 q273
       cases e273
       replace p273 := eq_true p273
       replace q273 := eq_true q273
       have p274 : 0 ≤ (x14_1 : Int) := od_
       have q274 : x14_1 < (l1.length : Int) := od_
       obtain ⟨ad274, A274_0, c274_0, e274, hx274_0, hl274_0, hi274_0⟩ := at_L5 HR1.out x14_1 p274 q274
       obtain rfl : ad270 = ad274 := (by injection e274)
       have HR274_0 := A_ hi274_0
       have HC274_0 := A_ hl274_0
       clear hi274_0 hl274_0
       replace p274 := eq_true p274
       replace q274 := eq_true q274
       have p275 : 0 ≤ (x33_2 : Int) := od_
       have q275 : x33_2 < ((rd_L5 l1 x14_1).length : Int) := od_
       obtain ⟨ad275, e275, hx275_0, hx275_1, hx275_2⟩ := at_T43 HR274_0.out x33_2 p275 q275
       cases e275
       replace p275 := eq_true p275
       replace q275 := eq_true q275
       go_wp2
       repeat (go_quiet (fail); try go_wp2)
       go_ret
       exact ⟨rs_, dr_⟩
     rw [if_neg c16] at H
     have c16b0 : (!(((rd_T43 (rd_L5 l0 x14_1) x33_2).f0) == ((rd_T43 (rd_L5 l1 x14_1) x33_2).f0)) || (!(((rd_T43 (rd_L5 l0 x14_1) x33_2).f1) == ((rd_T43 (rd_L5 l1 x14_1) x33_2).f1)) || (!((((rd_T43 (rd_L5 l0 x14_1) x33_2).f2).toList) == (((rd_T43 (rd_L5 l1 x14_1) x33_2).f2).toList))))) = false := by simpa using c16
     clear c16
     have H' := A_ H
     clear H
     have p272 : 0 ≤ (x14_1 : Int) := od_
     have q272 : x14_1 < (l0.length : Int) := od_
     obtain ⟨ad272, A272_0, c272_0, e272, hx272_0, hl272_0, hi272_0⟩ := at_L5 HR0.out x14_1 p272 q272
     obtain rfl : ad269 = ad272 := (by injection e272)
     have HR272_0 := A_ hi272_0
     have HC272_0 := A_ hl272_0
     clear hi272_0 hl272_0
     replace p272 := eq_true p272
     replace q272 := eq_true q272
     have p273 : 0 ≤ (x33_2 : Int) := od_
     have q273 : x33_2 < ((rd_L5 l0 x14_1).length : Int) := od_
     obtain ⟨ad273, e273, hx273_0, hx273_1, hx273_2⟩ := at_T43 HR272_0.out x33_2 p273 q273
     cases e273
     replace p273 := eq_true p273
     replace q273 := eq_true q273
     have p274 : 0 ≤ (x14_1 : Int) := od_
     have q274 : x14_1 < (l1.length : Int) := od_
     obtain ⟨ad274, A274_0, c274_0, e274, hx274_0, hl274_0, hi274_0⟩ := at_L5 HR1.out x14_1 p274 q274
     obtain rfl : ad270 = ad274 := (by injection e274)
     have HR274_0 := A_ hi274_0
     have HC274_0 := A_ hl274_0
     clear hi274_0 hl274_0
     replace p274 := eq_true p274
     replace q274 := eq_true q274
     have p275 : 0 ≤ (x33_2 : Int) := od_
     have q275 : x33_2 < ((rd_L5 l1 x14_1).length : Int) := od_
     obtain ⟨ad275, e275, hx275_0, hx275_1, hx275_2⟩ := at_T43 HR274_0.out x33_2 p275 q275
     cases e275
     replace p275 := eq_true p275
     replace q275 := eq_true q275
     go_wp2
     repeat (go_quiet (fail); try go_wp2)
     go_roundg k2
     case measure => have := HK1.out; have := HK2.out; omega
     case rel => exact ⟨(wrap64 (x33_2 + 1)), rs_, H', ⟨by have := HK1.out; have := HK2.out; omega⟩, dr_⟩
end Go.Proofs.YtigoeooelfeopaaGreatDoor.Q
