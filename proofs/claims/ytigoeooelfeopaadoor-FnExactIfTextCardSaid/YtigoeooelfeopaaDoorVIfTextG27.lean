-- PRINTED by print.py (a twelfth state) out of the translation. Not trusted: Lean checks it.
import Derived.Test.YtigoeooelfeopaaDoorVIfTextG26
import Derived.Deep.Slices
import Derived.WideShapes
import Derived.Laws.Strings
import Derived.Lib.SlTrimSet
import Derived.Lib.IndexMore
import Derived.Lib.IndexBytes
import Derived.Lib.ItoaLen
import Derived.Lib.ItoaMem
import Derived.Laws.BytesArg
import Derived.Lib.AtoiTie
namespace Go.Proofs.YtigoeooelfeopaaDoor.Q
open Go.RowKit Go.Proofs.YtigoeooelfeopaaDoorW.PrintWords Go.Proofs.YtigoeooelfeopaaDoorW.PrintLast Go.Proofs.YtigoeooelfeopaaDoorW.PrintMore
attribute [local go_sem] max2_int min2_int max_two min_two max_three min_three max_four min_four   -- for this text's walks alone
set_option linter.unusedVariables false
set_option linter.unusedSimpArgs false
def laws_FnExactIfText.f (k : Nat) (l0 : List (List (S103))) : Option (Bool) := (laws_szCondSS.f k l0 1048576).bind fun t612 => (if t612 < 0 then (some true) else ((laws_toCondSS.f k l0).bind fun t613 => ((spec_IfText.f k t613).bind fun t616 => ((laws_toCondSS.f k l0).bind fun t617 => ((impl_IfText.f k t617).bind fun t620 => (if t620.toList = t616.toList then ((laws_toCondSS.f k l0).bind fun t621 => ((laws_eqCondSS.f k t617 t621).bind fun t624 => (if t624 = true then (some true) else (some false)))) else (some false)))))))
set_option maxHeartbeats 8000000 in
set_option maxRecDepth 100000 in
theorem laws_FnExactIfText.calls (k : Nat) (A0 : Option Addr) (c0 : Nat) (l0 : List (List (S103))) (r : Bool) (w : World) (hr0 : Kd.C (Kd.slice 103 k103) w A0 l0.length l0) (hc0 : l0.length ≤ c0) (hGT : GT w) (hGM : GM w) (hGE : GE w) (h : laws_FnExactIfText.f k l0 = some r) :
 Calls Tryd.prog 7 #[.slice A0 l0.length c0] w fun e w' => e = .returned (.bool r) ∧ Below w.heap.size w w' := by
 have HGT := A_ hGT
 have HGM := A_ hGM
 have HGE := A_ hGE
 clear hGT hGM hGE
 have HR0 := A_ hr0
 have HC0 := A_ hc0
 clear hr0 hc0
 have HB := A_ (Below.refl w.heap.size w)
 have H : ((laws_szCondSS.f k l0 1048576).bind fun t612 => (if t612 < 0 then (some true) else ((laws_toCondSS.f k l0).bind fun t613 => ((spec_IfText.f k t613).bind fun t616 => ((laws_toCondSS.f k l0).bind fun t617 => ((impl_IfText.f k t617).bind fun t620 => (if t620.toList = t616.toList then ((laws_toCondSS.f k l0).bind fun t621 => ((laws_eqCondSS.f k t617 t621).bind fun t624 => (if t624 = true then (some true) else (some false)))) else (some false)))))))) = some r := h
 clear h
 obtain ⟨t612, A2, H⟩ := bo_ H
 (try dsimp only at H)
 by_cases c3 : t612 < 0
 · rw [if_pos c3] at H
   have c3b0 : decide (t612 < 0) = true := decide_eq_true c3
   clear c3
   obtain rfl := si_ H
   go_enter Tryd.func7, Tryd.ntmps7
   go_wp2_with (first | ((with_reducible refine gc_ (f := 24) rfl ?_); refine gL_ (some 9) Tryd.func24 #[.slice A0 l0.length c0, .int .i64 1048576] ?_; (with_reducible refine (laws_szCondSS.calls k _ _ l0 1048576 t612 _ ?s1 ?s2 A2.out).mono ?_); (case s1 => exact cC_ HR0.out); (case s2 => exact HC0.out); rintro e w4 ⟨rfl, hb⟩; refine ⟨_, rfl, ?_⟩; replace HB := A_ (below_step bB_ hb); (try clear hb)))
   go_ret
   exact ⟨rr_, bB_⟩
 rw [if_neg c3] at H
 have c3b0 : decide (t612 < 0) = false := decide_eq_false c3
 clear c3
 obtain ⟨t613, A5, H⟩ := bo_ H
 (try dsimp only at H)
 obtain ⟨t616, A6, H⟩ := bo_ H
 (try dsimp only at H)
 obtain ⟨t617, A7, H⟩ := bo_ H
 (try dsimp only at H)
 obtain ⟨t620, A8, H⟩ := bo_ H
 (try dsimp only at H)
 by_cases c9 : t620.toList = t616.toList
 rotate_left
 · rw [if_neg c9] at H
   have c9b0 : (t620.toList == t616.toList) = false := beq_eq_false_iff_ne.mpr c9
   have c9b1 : (t620.toList != t616.toList) = true := bne_iff_ne.mpr c9
   obtain rfl := si_ H
   go_enter Tryd.func7, Tryd.ntmps7
   go_wp2_with (first | ((with_reducible refine gc_ (f := 24) rfl ?_); refine gL_ (some 9) Tryd.func24 #[.slice A0 l0.length c0, .int .i64 1048576] ?_; (with_reducible refine (laws_szCondSS.calls k _ _ l0 1048576 t612 _ ?s1 ?s2 A2.out).mono ?_); (case s1 => exact cC_ HR0.out); (case s2 => exact HC0.out); rintro e w33 ⟨rfl, hb⟩; refine ⟨_, rfl, ?_⟩; replace HB := A_ (below_step bB_ hb); (try clear hb)) | ((with_reducible refine gc_ (f := 26) rfl ?_); refine gL_ (some 13) Tryd.func26 #[.slice A0 l0.length c0] ?_; (with_reducible refine (laws_toCondSS.calls k _ _ l0 t613 _ ?s1 ?s2 A5.out).mono ?_); (case s1 => exact cC_ (Kd.C_below HR0.out HB.out)); (case s2 => exact HC0.out); rintro e w34 ⟨v614, rfl, ho0, hb⟩; refine ⟨_, rfl, ?_⟩; have HO615 := A_ (Kd.S_lower ho0 (below_size bB_)); replace HB := A_ (below_step bB_ hb); (try clear hb); (try clear ho0); obtain ⟨Ao35, co35, eo35⟩ := Kd.S_slice HO615.out; subst eo35) | ((with_reducible refine gc_ (f := 25) rfl ?_); refine gL_ (some 14) Tryd.func25 #[.slice Ao35 t613.length co35] ?_; (with_reducible refine (spec_IfText.calls k _ _ t613 t616 _ ?s1 ?s2 A6.out).mono ?_); (case s1 => exact cC_ (Kd.S_reads' HO615.out).2.2); (case s2 => exact (Kd.S_reads' HO615.out).2.1); rintro e w36 ⟨rfl, hb⟩; refine ⟨_, rfl, ?_⟩; replace HO615 := A_ (Kd.S_below (vS_ HO615.out) hb); replace HB := A_ (below_step bB_ hb); (try clear hb)) | ((with_reducible refine gc_ (f := 26) rfl ?_); refine gL_ (some 16) Tryd.func26 #[.slice A0 l0.length c0] ?_; (with_reducible refine (laws_toCondSS.calls k _ _ l0 t617 _ ?s1 ?s2 A7.out).mono ?_); (case s1 => exact cC_ (Kd.C_below HR0.out HB.out)); (case s2 => exact HC0.out); rintro e w37 ⟨v618, rfl, ho0, hb⟩; refine ⟨_, rfl, ?_⟩; have HO619 := A_ (Kd.S_lower (Kd.S_new' ho0 (Kd.S_lt (vS_ HO615.out))) (below_size bB_)); replace HO615 := A_ (Kd.S_elder' (vS_ HO615.out) (kb_ ho0) hb); replace HB := A_ (below_step bB_ hb); (try clear hb); (try clear ho0); obtain ⟨Ao38, co38, eo38⟩ := Kd.S_slice HO619.out; subst eo38) | ((with_reducible refine gc_ (f := 27) rfl ?_); refine gL_ (some 18) Tryd.func27 #[.slice Ao38 t617.length co38] ?_; (with_reducible refine (impl_IfText.calls k _ _ t617 t620 _ ?s1 ?s2 ?gT25 ?gM25 ?gE25 A8.out).mono ?_); (case gT25 => exact gT_ HGT.out bB_); (case gM25 => exact gM_ HGM.out bB_); (case gE25 => exact gE_ HGE.out bB_); (case s1 => exact cC_ (Kd.S_reads' HO619.out).2.2); (case s2 => exact (Kd.S_reads' HO619.out).2.1); rintro e w39 ⟨rfl, hb⟩; refine ⟨_, rfl, ?_⟩; replace HO615 := A_ (Kd.S_below (vS_ HO615.out) hb); replace HO619 := A_ (Kd.S_below (vS_ HO619.out) hb); replace HB := A_ (below_step bB_ hb); (try clear hb)))
   go_ret
   exact ⟨rr_, bB_⟩
 rw [if_pos c9] at H
 have c9b0 : (t620.toList == t616.toList) = true := beq_iff_eq.mpr c9
 have c9b1 : (t620.toList != t616.toList) = false := bne_eq_false_iff_eq.mpr c9
 clear c9
 obtain ⟨t621, A10, H⟩ := bo_ H
 (try dsimp only at H)
 obtain ⟨t624, A11, H⟩ := bo_ H
 (try dsimp only at H)
 by_cases c12 : t624 = true
 · subst c12
   rw [if_pos rfl] at H
   obtain rfl := si_ H
   go_enter Tryd.func7, Tryd.ntmps7
   go_wp2_with (first | ((with_reducible refine gc_ (f := 24) rfl ?_); refine gL_ (some 9) Tryd.func24 #[.slice A0 l0.length c0, .int .i64 1048576] ?_; (with_reducible refine (laws_szCondSS.calls k _ _ l0 1048576 t612 _ ?s1 ?s2 A2.out).mono ?_); (case s1 => exact cC_ HR0.out); (case s2 => exact HC0.out); rintro e w13 ⟨rfl, hb⟩; refine ⟨_, rfl, ?_⟩; replace HB := A_ (below_step bB_ hb); (try clear hb)) | ((with_reducible refine gc_ (f := 26) rfl ?_); refine gL_ (some 13) Tryd.func26 #[.slice A0 l0.length c0] ?_; (with_reducible refine (laws_toCondSS.calls k _ _ l0 t613 _ ?s1 ?s2 A5.out).mono ?_); (case s1 => exact cC_ (Kd.C_below HR0.out HB.out)); (case s2 => exact HC0.out); rintro e w14 ⟨v614, rfl, ho0, hb⟩; refine ⟨_, rfl, ?_⟩; have HO615 := A_ (Kd.S_lower ho0 (below_size bB_)); replace HB := A_ (below_step bB_ hb); (try clear hb); (try clear ho0); obtain ⟨Ao15, co15, eo15⟩ := Kd.S_slice HO615.out; subst eo15) | ((with_reducible refine gc_ (f := 25) rfl ?_); refine gL_ (some 14) Tryd.func25 #[.slice Ao15 t613.length co15] ?_; (with_reducible refine (spec_IfText.calls k _ _ t613 t616 _ ?s1 ?s2 A6.out).mono ?_); (case s1 => exact cC_ (Kd.S_reads' HO615.out).2.2); (case s2 => exact (Kd.S_reads' HO615.out).2.1); rintro e w16 ⟨rfl, hb⟩; refine ⟨_, rfl, ?_⟩; replace HO615 := A_ (Kd.S_below (vS_ HO615.out) hb); replace HB := A_ (below_step bB_ hb); (try clear hb)) | ((with_reducible refine gc_ (f := 26) rfl ?_); refine gL_ (some 16) Tryd.func26 #[.slice A0 l0.length c0] ?_; (with_reducible refine (laws_toCondSS.calls k _ _ l0 t617 _ ?s1 ?s2 A7.out).mono ?_); (case s1 => exact cC_ (Kd.C_below HR0.out HB.out)); (case s2 => exact HC0.out); rintro e w17 ⟨v618, rfl, ho0, hb⟩; refine ⟨_, rfl, ?_⟩; have HO619 := A_ (Kd.S_lower (Kd.S_new' ho0 (Kd.S_lt (vS_ HO615.out))) (below_size bB_)); replace HO615 := A_ (Kd.S_elder' (vS_ HO615.out) (kb_ ho0) hb); replace HB := A_ (below_step bB_ hb); (try clear hb); (try clear ho0); obtain ⟨Ao18, co18, eo18⟩ := Kd.S_slice HO619.out; subst eo18) | ((with_reducible refine gc_ (f := 27) rfl ?_); refine gL_ (some 18) Tryd.func27 #[.slice Ao18 t617.length co18] ?_; (with_reducible refine (impl_IfText.calls k _ _ t617 t620 _ ?s1 ?s2 ?gT23 ?gM23 ?gE23 A8.out).mono ?_); (case gT23 => exact gT_ HGT.out bB_); (case gM23 => exact gM_ HGM.out bB_); (case gE23 => exact gE_ HGE.out bB_); (case s1 => exact cC_ (Kd.S_reads' HO619.out).2.2); (case s2 => exact (Kd.S_reads' HO619.out).2.1); rintro e w19 ⟨rfl, hb⟩; refine ⟨_, rfl, ?_⟩; replace HO615 := A_ (Kd.S_below (vS_ HO615.out) hb); replace HO619 := A_ (Kd.S_below (vS_ HO619.out) hb); replace HB := A_ (below_step bB_ hb); (try clear hb)) | ((with_reducible refine gc_ (f := 26) rfl ?_); refine gL_ (some 24) Tryd.func26 #[.slice A0 l0.length c0] ?_; (with_reducible refine (laws_toCondSS.calls k _ _ l0 t621 _ ?s1 ?s2 A10.out).mono ?_); (case s1 => exact cC_ (Kd.C_below HR0.out HB.out)); (case s2 => exact HC0.out); rintro e w20 ⟨v622, rfl, ho0, hb⟩; refine ⟨_, rfl, ?_⟩; have HO623 := A_ (Kd.S_lower (Kd.S_new' (Kd.S_new' ho0 (Kd.S_lt (vS_ HO615.out))) (Kd.S_lt (vS_ HO619.out))) (below_size bB_)); replace HO615 := A_ (Kd.S_elder' (vS_ HO615.out) (kb_ ho0) hb); replace HO619 := A_ (Kd.S_elder' (vS_ HO619.out) (kb_ ho0) hb); replace HB := A_ (below_step bB_ hb); (try clear hb); (try clear ho0); obtain ⟨Ao21, co21, eo21⟩ := Kd.S_slice HO623.out; subst eo21) | ((with_reducible refine gc_ (f := 28) rfl ?_); refine gL_ (some 25) Tryd.func28 #[.slice Ao18 t617.length co18, .slice Ao21 t621.length co21] ?_; (with_reducible refine (laws_eqCondSS.calls k _ _ t617 _ _ t621 true _ ?s1 ?s2 ?s3 ?s4 A11.out).mono ?_); (case s1 => exact cC_ (Kd.S_reads' HO619.out).2.2); (case s2 => exact (Kd.S_reads' HO619.out).2.1); (case s3 => exact cC_ (Kd.S_reads' HO623.out).2.2); (case s4 => exact (Kd.S_reads' HO623.out).2.1); rintro e w22 ⟨rfl, hb⟩; refine ⟨_, rfl, ?_⟩; replace HO615 := A_ (Kd.S_below (vS_ HO615.out) hb); replace HO619 := A_ (Kd.S_below (vS_ HO619.out) hb); replace HO623 := A_ (Kd.S_below (vS_ HO623.out) hb); replace HB := A_ (below_step bB_ hb); (try clear hb)))
   go_ret
   exact ⟨rr_, bB_⟩
 · replace c12 := Bool.eq_false_iff.mpr c12
   subst c12
   rw [if_neg nf_] at H
   obtain rfl := si_ H
   go_enter Tryd.func7, Tryd.ntmps7
   go_wp2_with (first | ((with_reducible refine gc_ (f := 24) rfl ?_); refine gL_ (some 9) Tryd.func24 #[.slice A0 l0.length c0, .int .i64 1048576] ?_; (with_reducible refine (laws_szCondSS.calls k _ _ l0 1048576 t612 _ ?s1 ?s2 A2.out).mono ?_); (case s1 => exact cC_ HR0.out); (case s2 => exact HC0.out); rintro e w23 ⟨rfl, hb⟩; refine ⟨_, rfl, ?_⟩; replace HB := A_ (below_step bB_ hb); (try clear hb)) | ((with_reducible refine gc_ (f := 26) rfl ?_); refine gL_ (some 13) Tryd.func26 #[.slice A0 l0.length c0] ?_; (with_reducible refine (laws_toCondSS.calls k _ _ l0 t613 _ ?s1 ?s2 A5.out).mono ?_); (case s1 => exact cC_ (Kd.C_below HR0.out HB.out)); (case s2 => exact HC0.out); rintro e w24 ⟨v614, rfl, ho0, hb⟩; refine ⟨_, rfl, ?_⟩; have HO615 := A_ (Kd.S_lower ho0 (below_size bB_)); replace HB := A_ (below_step bB_ hb); (try clear hb); (try clear ho0); obtain ⟨Ao25, co25, eo25⟩ := Kd.S_slice HO615.out; subst eo25) | ((with_reducible refine gc_ (f := 25) rfl ?_); refine gL_ (some 14) Tryd.func25 #[.slice Ao25 t613.length co25] ?_; (with_reducible refine (spec_IfText.calls k _ _ t613 t616 _ ?s1 ?s2 A6.out).mono ?_); (case s1 => exact cC_ (Kd.S_reads' HO615.out).2.2); (case s2 => exact (Kd.S_reads' HO615.out).2.1); rintro e w26 ⟨rfl, hb⟩; refine ⟨_, rfl, ?_⟩; replace HO615 := A_ (Kd.S_below (vS_ HO615.out) hb); replace HB := A_ (below_step bB_ hb); (try clear hb)) | ((with_reducible refine gc_ (f := 26) rfl ?_); refine gL_ (some 16) Tryd.func26 #[.slice A0 l0.length c0] ?_; (with_reducible refine (laws_toCondSS.calls k _ _ l0 t617 _ ?s1 ?s2 A7.out).mono ?_); (case s1 => exact cC_ (Kd.C_below HR0.out HB.out)); (case s2 => exact HC0.out); rintro e w27 ⟨v618, rfl, ho0, hb⟩; refine ⟨_, rfl, ?_⟩; have HO619 := A_ (Kd.S_lower (Kd.S_new' ho0 (Kd.S_lt (vS_ HO615.out))) (below_size bB_)); replace HO615 := A_ (Kd.S_elder' (vS_ HO615.out) (kb_ ho0) hb); replace HB := A_ (below_step bB_ hb); (try clear hb); (try clear ho0); obtain ⟨Ao28, co28, eo28⟩ := Kd.S_slice HO619.out; subst eo28) | ((with_reducible refine gc_ (f := 27) rfl ?_); refine gL_ (some 18) Tryd.func27 #[.slice Ao28 t617.length co28] ?_; (with_reducible refine (impl_IfText.calls k _ _ t617 t620 _ ?s1 ?s2 ?gT24 ?gM24 ?gE24 A8.out).mono ?_); (case gT24 => exact gT_ HGT.out bB_); (case gM24 => exact gM_ HGM.out bB_); (case gE24 => exact gE_ HGE.out bB_); (case s1 => exact cC_ (Kd.S_reads' HO619.out).2.2); (case s2 => exact (Kd.S_reads' HO619.out).2.1); rintro e w29 ⟨rfl, hb⟩; refine ⟨_, rfl, ?_⟩; replace HO615 := A_ (Kd.S_below (vS_ HO615.out) hb); replace HO619 := A_ (Kd.S_below (vS_ HO619.out) hb); replace HB := A_ (below_step bB_ hb); (try clear hb)) | ((with_reducible refine gc_ (f := 26) rfl ?_); refine gL_ (some 24) Tryd.func26 #[.slice A0 l0.length c0] ?_; (with_reducible refine (laws_toCondSS.calls k _ _ l0 t621 _ ?s1 ?s2 A10.out).mono ?_); (case s1 => exact cC_ (Kd.C_below HR0.out HB.out)); (case s2 => exact HC0.out); rintro e w30 ⟨v622, rfl, ho0, hb⟩; refine ⟨_, rfl, ?_⟩; have HO623 := A_ (Kd.S_lower (Kd.S_new' (Kd.S_new' ho0 (Kd.S_lt (vS_ HO615.out))) (Kd.S_lt (vS_ HO619.out))) (below_size bB_)); replace HO615 := A_ (Kd.S_elder' (vS_ HO615.out) (kb_ ho0) hb); replace HO619 := A_ (Kd.S_elder' (vS_ HO619.out) (kb_ ho0) hb); replace HB := A_ (below_step bB_ hb); (try clear hb); (try clear ho0); obtain ⟨Ao31, co31, eo31⟩ := Kd.S_slice HO623.out; subst eo31) | ((with_reducible refine gc_ (f := 28) rfl ?_); refine gL_ (some 25) Tryd.func28 #[.slice Ao28 t617.length co28, .slice Ao31 t621.length co31] ?_; (with_reducible refine (laws_eqCondSS.calls k _ _ t617 _ _ t621 false _ ?s1 ?s2 ?s3 ?s4 A11.out).mono ?_); (case s1 => exact cC_ (Kd.S_reads' HO619.out).2.2); (case s2 => exact (Kd.S_reads' HO619.out).2.1); (case s3 => exact cC_ (Kd.S_reads' HO623.out).2.2); (case s4 => exact (Kd.S_reads' HO623.out).2.1); rintro e w32 ⟨rfl, hb⟩; refine ⟨_, rfl, ?_⟩; replace HO615 := A_ (Kd.S_below (vS_ HO615.out) hb); replace HO619 := A_ (Kd.S_below (vS_ HO619.out) hb); replace HO623 := A_ (Kd.S_below (vS_ HO623.out) hb); replace HB := A_ (below_step bB_ hb); (try clear hb)))
   go_ret
   exact ⟨rr_, bB_⟩
end Go.Proofs.YtigoeooelfeopaaDoor.Q

/- What a reading of a parameter says of its cells, kind by kind: for the rows of laws whose parameters are slices and structs. No condition. -/
namespace Go.Proofs.YtigoeooelfeopaaDoor.Op
open Go.RowKit Go.ChangeShapes Go.WideShapes Go.Proofs.YtigoeooelfeopaaDoorW.PrintWords
def Opens {α H : Type} (enc : TypeId × Value → H) (P : Program) (w : World) (t : TypeId) (d : Kd α) (G : α → Prop) : Prop :=
  ∀ fuel cs x, DataW.trod enc P w 0 (fun _ => true) true fuel t cs = some x → ∃ a, d.K w a cs ∧ G a
section
variable {H : Type} {enc : TypeId × Value → H} {P : Program} {w : World} {t : TypeId}
theorem opens_string (ht : P.underlying t = some .string) : Opens enc P w t Kd.string (fun s => s.size ≤ maxLen) := by
  intro fuel cs x h
  obtain ⟨s, rfl, _, hs⟩ := DataW.trod_string ht h
  exact ⟨s, rfl, hs⟩
theorem opens_bool (ht : P.underlying t = some .bool) : Opens enc P w t Kd.bool (fun _ => True) := by
  intro fuel cs x h
  obtain ⟨s, rfl, _⟩ := DataW.trod_bool ht h
  exact ⟨s, rfl, trivial⟩
theorem opens_int {k : IntKind} (ht : P.underlying t = some (.int k)) : Opens enc P w t (Kd.int k) (fun n => (Lit.int k n).wf = true) := by
  intro fuel cs x h
  obtain ⟨n, rfl, _, hn⟩ := DataW.trod_int ht h
  exact ⟨n, rfl, hn⟩
theorem opens_slice {α : Type} [Inhabited α] {e : TypeId} {d : Kd α} {G : α → Prop} (ht : P.underlying t = some (.slice e)) (hc : P.cellsOf e = d.sz) (he : Opens enc P w e d G) :
    Opens enc P w t (Kd.slice e d) (fun l => l.length ≤ maxLen ∧ ∀ a ∈ l, G a) := by
  intro fuel cs x h
  rcases Go.Deep.open_slice ht h with ⟨rfl, _⟩ | ⟨a, len, cap, m, n, D, Pl, rfl, _, hl, hm, hmm, _, hx⟩
  · exact ⟨[], ⟨none, 0, rfl, Nat.le_refl _, Kd.C_nil d w⟩, by simp, by simp⟩
  · have hm' : m = cap := by simpa using hmm
    have each : ∀ i, i < len → ∃ y : α, G y ∧ ∃ c, d.K w y c ∧ ∀ j u, c[j]? = some u → w.cell? (a.add (i * d.sz + j)) = some u := fun i hi => by
      obtain ⟨cs', h1, h2⟩ := hx i (by omega)
      obtain ⟨y, hK, hG⟩ := he _ _ _ h2
      obtain ⟨_, h3, h4⟩ := World.cells?_some h1
      refine ⟨y, hG, cs', hK, fun j u hu => ?_⟩
      have hj : j < P.cellsOf e := by
        have := (List.getElem?_eq_some_iff.1 hu).1
        omega
      have h5 := h4 j hj
      rw [Go.Deep.add_add, hc, hu] at h5
      exact h5
    obtain ⟨f, hf⟩ := Go.Deep.choose_lt each
    have hmax : maxLen = 9223372036854775807 := by decide
    refine ⟨(List.range len).map f, ⟨some a, cap, by simp, by simpa using hl, ?_⟩, by simp; omega, ?_⟩
    · refine ⟨rfl, by simp; omega, fun _ => ⟨a, rfl, fun j p hj => ?_⟩⟩
      have hjl : j < len := by
        have := (List.getElem?_eq_some_iff.1 hj).1
        simpa using this
      have hp : f j = p := by
        rw [List.getElem?_map, List.getElem?_range hjl] at hj
        simpa using hj
      obtain ⟨_, c, hK, hcell⟩ := hf j hjl
      exact ⟨c, d.K_len hK, hp ▸ hK, hcell⟩
    · intro y hy
      obtain ⟨j, hj, rfl⟩ := List.mem_map.1 hy
      exact (hf j (List.mem_range.1 hj)).1
end
end Go.Proofs.YtigoeooelfeopaaDoor.Op

/- What a reading of a struct says of its cells. No condition. -/
namespace Go.Proofs.YtigoeooelfeopaaDoor.Q
open Go.RowKit Go.ChangeShapes Go.WideShapes Go.Proofs.YtigoeooelfeopaaDoorW.PrintWords Go.Proofs.YtigoeooelfeopaaDoor
set_option linter.unusedVariables false
set_option linter.unusedSimpArgs false
structure S35 where
  f0 : List (S93)
  f1 : List (S96)
  f2 : Int
  f3 : Int
  f4 : List Int
  f5 : List Int
def z35 : S35 := ⟨([] : List (S93)), ([] : List (S96)), (0 : Int), (0 : Int), ([] : List Int), ([] : List Int)⟩
theorem len3 {α : Type} {cs : List α} (h : cs.length = 3) : ∃ c0 c1 c2, cs = [c0, c1, c2] := by
  match cs, h with
  | [c0, c1, c2], _ => exact ⟨_, _, _, rfl⟩
instance : Inhabited S147 := ⟨z147⟩
instance : Inhabited S93 := ⟨z93⟩
instance : Inhabited S96 := ⟨z96⟩
instance : Inhabited S35 := ⟨z35⟩
instance : Inhabited S103 := ⟨z103⟩
def G103 (x : S103) : Prop := (fun _ : Bool => True) x.f0 ∧ (fun x : Int => (Lit.int .i64 x).wf = true) x.f1 ∧ (fun s : ByteArray => s.size ≤ maxLen) x.f2
theorem opens103 {H : Type} {enc : TypeId × Value → H} {w : World} : Op.Opens enc Tryd.prog w 103 k103 G103 := by
  intro fuel cs x h
  obtain ⟨xs, n, _, _, hl, hlen, hf⟩ := DataW.trod_struct Tryd.underlying103 h
  replace hl : cs.length = 3 := hl.trans (by kernel_rfl)
  replace hlen : xs.length = 3 := hlen.trans (by kernel_rfl)
  obtain ⟨c0, c1, c2, rfl⟩ := len3 hl
  have hc4_ : Tryd.prog.cellsOf 4 = 1 := by kernel_rfl
  have hc3_ : Tryd.prog.cellsOf 3 = 1 := by kernel_rfl
  have hc9_ : Tryd.prog.cellsOf 9 = 1 := by kernel_rfl
  obtain ⟨a0, k0_, g0_⟩ : ∃ a, Kd.bool.K w a [c0] ∧ (fun _ : Bool => True) a := by
    have h1 : DataW.trod enc Tryd.prog w 0 (fun _ => true) true n 4 (([c0, c1, c2].drop 0).take (Tryd.prog.cellsOf 4)) = xs[0]? := hf 0 _ rfl
    have hlt : 0 < xs.length := by omega
    rw [List.getElem?_eq_getElem hlt] at h1
    simp only [hc4_, List.drop_zero, List.drop_succ_cons, List.take_succ_cons, List.take_zero] at h1
    exact (Op.opens_bool Tryd.underlying4) n [c0] _ h1
  obtain ⟨a1, k1_, g1_⟩ : ∃ a, (Kd.int .i64).K w a [c1] ∧ (fun x : Int => (Lit.int .i64 x).wf = true) a := by
    have h1 : DataW.trod enc Tryd.prog w 0 (fun _ => true) true n 3 (([c0, c1, c2].drop 1).take (Tryd.prog.cellsOf 3)) = xs[1]? := hf 1 _ rfl
    have hlt : 1 < xs.length := by omega
    rw [List.getElem?_eq_getElem hlt] at h1
    simp only [hc3_, List.drop_zero, List.drop_succ_cons, List.take_succ_cons, List.take_zero] at h1
    exact (Op.opens_int Tryd.underlying3) n [c1] _ h1
  obtain ⟨a2, k2_, g2_⟩ : ∃ a, Kd.string.K w a [c2] ∧ (fun s : ByteArray => s.size ≤ maxLen) a := by
    have h1 : DataW.trod enc Tryd.prog w 0 (fun _ => true) true n 9 (([c0, c1, c2].drop 2).take (Tryd.prog.cellsOf 9)) = xs[2]? := hf 2 _ rfl
    have hlt : 2 < xs.length := by omega
    rw [List.getElem?_eq_getElem hlt] at h1
    simp only [hc9_, List.drop_zero, List.drop_succ_cons, List.take_succ_cons, List.take_zero] at h1
    exact (Op.opens_string Tryd.underlying9) n [c2] _ h1
  exact ⟨⟨a0, a1, a2⟩, ⟨[c0], [c1, c2], rfl, k0_, ⟨[c1], [c2], rfl, k1_, k2_⟩⟩, ⟨g0_, g1_, g2_⟩⟩
end Go.Proofs.YtigoeooelfeopaaDoor.Q

/- Small lemmas for plain laws over rounds: indices as lengths of what was passed, bytes' equality. No condition. -/
set_option linter.unusedSimpArgs false
set_option linter.unusedVariables false
namespace Go.Proofs.YtigoeooelfeopaaDoor.L
open Go.RowKit Go.Proofs.YtigoeooelfeopaaDoorW.PrintWords Go.Proofs.YtigoeooelfeopaaDoorW.PrintLast
theorem ba_toList (s : ByteArray) : s.toList = s.data.toList := ByteArray.toList_eq s
theorem ba_inj {a b : ByteArray} (h : a.toList = b.toList) : a = b := by
  rw [ba_toList, ba_toList] at h
  cases a with | mk x => cases b with | mk y => congr 1; exact Array.toList_inj.1 h
theorem ba_eq {a b : ByteArray} : (a.toList = b.toList) = (a = b) := propext ⟨ba_inj, fun h => by rw [h]⟩
theorem maxLen_eq : maxLen = 9223372036854775807 := by decide
theorem wrap_id {x : Int} (h0 : -9223372036854775808 ≤ x) (h1 : x < 9223372036854775808) : wrap64 x = x := by
  unfold wrap64
  omega
section
variable {α : Type} {l pre suf : List α} {a : α}
theorem lt_at (h : l = pre ++ a :: suf) : ((pre.length : Nat) : Int) < (l.length : Int) := by subst h; simp; omega
theorem getD_at (d : α) (h : l = pre ++ a :: suf) : l.getD ((pre.length : Nat) : Int).toNat d = a := by subst h; simp [List.getD_eq_getElem?_getD]
theorem next_at (h : l = pre ++ a :: suf) (hl : l.length ≤ maxLen) : wrap64 ((pre.length : Int) + 1) = ((pre ++ [a]).length : Int) := by
  have : l.length = pre.length + 1 + suf.length := by subst h; simp; omega
  rw [maxLen_eq] at hl
  rw [wrap_id (by omega) (by omega)]
  simp
theorem snoc_at (h : l = pre ++ a :: suf) : l = (pre ++ [a]) ++ suf := by subst h; simp
theorem nonneg_at (n : Nat) : (0 : Int) ≤ (n : Int) := Int.natCast_nonneg n
end
def IntOk (x : Int) : Prop := -9223372036854775808 ≤ x ∧ x < 9223372036854775808
theorem wf_int {x : Int} (h : (Lit.int .i64 x).wf = true) : IntOk x := by
  unfold Lit.wf at h
  rw [Bool.and_eq_true, decide_eq_true_eq, decide_eq_true_eq] at h
  have h1 : IntKind.i64.min = -9223372036854775808 := by decide
  have h2 : IntKind.i64.max = 9223372036854775807 := by decide
  rw [h1, h2] at h
  exact ⟨h.1, by omega⟩
theorem to_loop {α β : Type} {l : List α} {f : α → β} (g : Nat → List β → Int → Option (List β))
    (hend : ∀ out, Ev (fun k => g k out l.length) out)
    (hstep : ∀ pre a suf (out : List β), l = pre ++ a :: suf → ((pre.length : Nat) : Int) < (out.length : Int) → ∀ r, Ev (fun k => g k (out.set ((pre.length : Nat) : Int).toNat (f a)) ((pre ++ [a]).length : Int)) r → Ev (fun k => g k out (pre.length : Int)) r) :
    ∀ (suf pre : List α) (out rest : List β), l = pre ++ suf → out = pre.map f ++ rest → rest.length = suf.length → Ev (fun k => g k out (pre.length : Int)) (l.map f) := by
  intro suf
  induction suf with
  | nil =>
    intro pre out rest h ho hr
    obtain rfl : rest = [] := by simpa using hr
    have := hend out
    rw [h, List.append_nil] at this ⊢
    rw [ho, List.append_nil] at this ⊢
    exact this
  | cons a suf ih =>
    intro pre out rest h ho hr
    obtain ⟨b, rest, rfl⟩ : ∃ b r, rest = b :: r := by
      cases rest with
      | nil => simp at hr
      | cons b r => exact ⟨b, r, rfl⟩
    have hlen : ((pre.length : Nat) : Int) < (out.length : Int) := by rw [ho]; simp; omega
    refine hstep pre a suf out h hlen _ (ih (pre ++ [a]) _ rest (snoc_at h) ?_ (by simpa using hr))
    rw [ho]
    simp [List.set_append]
theorem eq_loop {α : Type} [DecidableEq α] {a b : List α} (g : Nat → Int → Option Bool)
    (hend : Ev (fun k => g k a.length) true)
    (hstep : ∀ pre x su pre' y sv, a = pre ++ x :: su → b = pre' ++ y :: sv → pre.length = pre'.length → (x ≠ y → Ev (fun k => g k (pre.length : Int)) false) ∧ (x = y → ∀ r, Ev (fun k => g k ((pre ++ [x]).length : Int)) r → Ev (fun k => g k (pre.length : Int)) r)) :
    ∀ (su sv pu pv : List α), a = pu ++ su → b = pv ++ sv → pu.length = pv.length → su.length = sv.length → Ev (fun k => g k (pu.length : Int)) (decide (su = sv)) := by
  intro su
  induction su with
  | nil =>
    intro sv pu pv h h' hp hs
    obtain rfl : sv = [] := by simpa using hs.symm
    rw [h, List.append_nil] at hend
    exact hend
  | cons x su ih =>
    intro sv pu pv h h' hp hs
    cases sv with
    | nil => simp at hs
    | cons y sv =>
      obtain ⟨h1, h2⟩ := hstep pu x su pv y sv h h' hp
      by_cases e : x = y
      · have h3 := h2 e _ (ih sv (pu ++ [x]) (pv ++ [y]) (snoc_at h) (snoc_at h') (by simp [hp]) (by simpa using hs))
        simp only [e, List.cons.injEq, true_and]
        exact h3
      · rw [show decide (x :: su = y :: sv) = false from decide_eq_false (fun h => e (List.cons.inj h).1)]
        exact h1 e
theorem ev_ite {α : Type} {p : Prop} [Decidable p] {g f : Nat → Option α} {r s : α} (h : p → Ev g r) (h' : ¬ p → Ev f s) : Ev (fun k => if p then g k else f k) (if p then r else s) := by
  by_cases e : p
  · simp only [if_pos e]; exact h e
  · simp only [if_neg e]; exact h' e
theorem ev_cast {α : Type} {g : Nat → Option α} {r s : α} (h : Ev g r) (e : r = s) : Ev g s := e ▸ h
end Go.Proofs.YtigoeooelfeopaaDoor.L

/- Texts byte by byte: plain texts, small names, as the program and the reference have them. No condition. -/
set_option linter.unusedSimpArgs false
set_option linter.unusedVariables false
namespace Go.Proofs.YtigoeooelfeopaaDoor.L
open Go.RowKit Go.Proofs.YtigoeooelfeopaaDoorW.PrintWords Go.Proofs.YtigoeooelfeopaaDoorW.PrintLast Go.Proofs.YtigoeooelfeopaaDoor.Q
abbrev bl (s : ByteArray) : List UInt8 := s.data.toList
theorem bl_len (s : ByteArray) : (bl s).length = s.size := data_length s
theorem bl_inj {s t : ByteArray} (h : bl s = bl t) : s = t := ba_inj (by rw [ba_toList, ba_toList]; exact h)
section
variable {s : ByteArray} {pre suf : List UInt8} {c : UInt8}
theorem blt_at (h : bl s = pre ++ c :: suf) : ((pre.length : Nat) : Int) < (s.size : Int) := by
  have := bl_len s
  rw [h] at this
  simp at this
  omega
theorem bend_at (h : bl s = pre ++ []) : ¬ ((pre.length : Nat) : Int) < (s.size : Int) := by
  have := bl_len s
  rw [h] at this
  simp at this
  omega
theorem bt_at' (h : bl s = pre ++ c :: suf) : bt s (pre.length : Int) = (c.toNat : Int) := by
  have hlt := blt_at h
  have h2 : pre.length < s.size := by omega
  rw [← bt_at s (pre.length : Int) (by simpa using h2)]
  have h3 : pre.length < (bl s).length := by rw [bl_len]; exact h2
  have h4 : (bl s)[pre.length] = c := by simp [h]
  have h5 : s[pre.length]'h2 = (bl s)[pre.length] := by
    show s.data[pre.length] = _
    simp
  simp only [Int.toNat_natCast, h5, h4]
theorem bnext_at (h : bl s = pre ++ c :: suf) (hs : s.size ≤ maxLen) : wrap64 ((pre.length : Int) + 1) = ((pre ++ [c]).length : Int) := by
  have := blt_at h
  rw [maxLen_eq] at hs
  rw [wrap_id (by omega) (by omega)]
  simp
end
theorem byte_bounds (c : UInt8) : 0 ≤ (c.toNat : Int) ∧ (c.toNat : Int) ≤ 255 := ⟨by omega, by have := c.toNat_lt; omega⟩
theorem wrap_byte (c : UInt8) : wrap64 (c.toNat : Int) = (c.toNat : Int) := wrap_id (by omega) (by have := byte_bounds c; omega)
def inB (lo hi : Int) (c : UInt8) : Bool := decide (lo ≤ (c.toNat : Int) ∧ (c.toNat : Int) ≤ hi)
theorem specIn (a b c : Int) : spec_l1In.f a b c = some (decide (b ≤ a ∧ a ≤ c)) := by
  unfold spec_l1In.f
  by_cases h : a ≥ b
  · rw [if_pos h]; simp [show b ≤ a from h]
  · rw [if_neg h]; simp [show ¬ b ≤ a from h]
theorem implIn (a b c : Int) : impl_in.f a b c = some (decide (b ≤ a ∧ a ≤ c)) := by
  unfold impl_in.f
  by_cases h : a ≥ b
  · rw [if_pos h]; simp [show b ≤ a from h]
  · rw [if_neg h]; simp [show ¬ b ≤ a from h]
theorem implIsPlain (c : UInt8) : impl_isPlain.f (c.toNat : Int) = some (inB 32 126 c) := by
  unfold impl_isPlain.f inB
  by_cases h : (c.toNat : Int) ≥ 32
  · rw [if_pos h]; simp only [show (32 : Int) ≤ c.toNat from h, true_and]
  · rw [if_neg h]; simp only [show ¬ (32 : Int) ≤ c.toNat from h, false_and, decide_false]
theorem specDigit1 (c : UInt8) : spec_l1Digit.f (c.toNat : Int) = some (inB 48 57 c) := by
  unfold spec_l1Digit.f; rw [wrap_byte, specIn]; rfl
def plainL (l : List UInt8) : Bool := l.all (inB 32 126)
theorem specPlain_loop {s : ByteArray} (hs : s.size ≤ maxLen) : ∀ (suf pre : List UInt8), bl s = pre ++ suf → Ev (fun k => spec_Plain.l0 k s pre.length) (plainL suf) := by
  intro suf
  induction suf with
  | nil =>
    intro pre h
    refine Ev.step (fun k => spec_Plain.l0.eq_2 ..) ?_
    simp only [if_neg (bend_at h)]
    exact Ev.now _
  | cons c suf ih =>
    intro pre h
    refine Ev.step (fun k => spec_Plain.l0.eq_2 ..) ?_
    simp only [if_pos (blt_at h), if_pos (nonneg_at _), bt_at' h, wrap_byte, specIn, Option.bind_some, bnext_at h hs]
    have := ih (pre ++ [c]) (snoc_at h)
    simp only [plainL, List.all_cons, inB] at this ⊢
    by_cases e : (32 : Int) ≤ c.toNat ∧ (c.toNat : Int) ≤ 126
    · simp only [e, and_self, decide_true, if_true, Bool.true_and]
      exact this
    · simp only [e, decide_false, Bool.false_eq_true, if_false, Bool.false_and]
      exact Ev.now _
theorem specPlain {s : ByteArray} (hs : s.size ≤ maxLen) : Ev (fun k => spec_Plain.f k s) (plainL (bl s)) := specPlain_loop hs _ [] rfl
theorem implPlain_loop {s : ByteArray} (hs : s.size ≤ maxLen) : ∀ (suf pre : List UInt8), bl s = pre ++ suf → Ev (fun k => impl_Plain.l0 k s pre.length) (plainL suf) := by
  intro suf
  induction suf with
  | nil =>
    intro pre h
    refine Ev.step (fun k => impl_Plain.l0.eq_2 ..) ?_
    simp only [if_neg (bend_at h)]
    exact Ev.now _
  | cons c suf ih =>
    intro pre h
    refine Ev.step (fun k => impl_Plain.l0.eq_2 ..) ?_
    simp only [if_pos (blt_at h), if_pos (nonneg_at _), bt_at' h, implIsPlain, Option.bind_some, bnext_at h hs]
    have := ih (pre ++ [c]) (snoc_at h)
    simp only [plainL, List.all_cons] at this ⊢
    by_cases e : inB 32 126 c = true
    · simp only [e, if_true, Bool.true_and]
      exact this
    · simp only [e, if_false, Bool.false_and]
      exact Ev.now _
theorem implPlain {s : ByteArray} (hs : s.size ≤ maxLen) : Ev (fun k => impl_Plain.f k s) (plainL (bl s)) := implPlain_loop hs _ [] rfl
end Go.Proofs.YtigoeooelfeopaaDoor.L

/- Texts as lists of bytes: cut, trimmed, their first places. No condition. -/
set_option linter.unusedSimpArgs false
set_option linter.unusedVariables false
namespace Go.Proofs.YtigoeooelfeopaaDoor.L
open Go.RowKit Go.Proofs.YtigoeooelfeopaaDoorW.PrintWords Go.Proofs.YtigoeooelfeopaaDoorW.PrintLast Go.Proofs.YtigoeooelfeopaaDoor.Q
abbrev ofL (l : List UInt8) : ByteArray := ⟨l.toArray⟩
theorem bl_ofL (l : List UInt8) : bl (ofL l) = l := by simp
theorem ofL_bl (s : ByteArray) : ofL (bl s) = s := bl_inj (bl_ofL _)
theorem size_ofL (l : List UInt8) : (ofL l).size = l.length := by rw [← bl_len, bl_ofL]
theorem of_bl {s : ByteArray} {l : List UInt8} (h : bl s = l) : s = ofL l := by rw [← h, ofL_bl]
theorem bl_append (a b : ByteArray) : bl (a ++ b) = bl a ++ bl b := by
  show (a ++ b).data.toList = _
  rw [ByteArray.data_append, Array.toList_append]
theorem bl_extract (s : ByteArray) (i j : Nat) : bl (s.extract i j) = ((bl s).take j).drop i := by
  show (s.extract i j).data.toList = _
  rw [ByteArray.data_extract, Array.toList_extract, List.extract_eq_take_drop, List.drop_take]
theorem tl_eq (s : ByteArray) (l : List UInt8) : (s.toList = l) = (bl s = l) := by rw [ba_toList]
theorem eq_byte (c : UInt8) (n : Nat) (hn : n < 256) : ((c.toNat : Int) = (n : Int)) = (c = UInt8.ofNat n) := by
  apply propext
  constructor
  · intro h
    apply UInt8.toNat_inj.1
    rw [UInt8.toNat_ofNat']
    omega
  · rintro rfl
    rw [UInt8.toNat_ofNat']
    omega
theorem index_hit {u body rest : List UInt8} {c : UInt8} (h : u = body ++ c :: rest) (hn : c ∉ body) : Lib.indexByte u c = body.length := by
  subst h
  induction body with
  | nil => simp [Lib.indexByte]
  | cons b body ih =>
    have h1 : ¬ b = c := fun e => hn (by simp [e])
    have := ih (fun hm => hn (List.mem_cons_of_mem _ hm))
    simp only [List.cons_append, Lib.indexByte, beq_iff_eq, h1, if_false, this]
    rw [if_neg (by omega)]
    simp
theorem index_miss {u : List UInt8} {c : UInt8} (hn : c ∉ u) : Lib.indexByte u c = -1 := by
  induction u with
  | nil => simp [Lib.indexByte]
  | cons b u ih =>
    have h1 : ¬ b = c := fun e => hn (by simp [e])
    have := ih (fun hm => hn (List.mem_cons_of_mem _ hm))
    simp only [Lib.indexByte, beq_iff_eq, h1, if_false, this, if_true]
theorem cut_hit {u body rest : List UInt8} {c : UInt8} (h : u = body ++ c :: rest) (hn : c ∉ body) : Lib.cut u [c] = (body, rest, true) := by
  unfold Lib.cut
  rw [Lib.index_one, index_hit h hn, if_pos (by omega)]
  subst h
  simp
theorem cut_miss {u : List UInt8} {c : UInt8} (hn : c ∉ u) : Lib.cut u [c] = (u, [], false) := by
  unfold Lib.cut
  rw [Lib.index_one, index_miss hn, if_neg (by omega)]
theorem first_of {u : List UInt8} {c : UInt8} (h : c ∈ u) : ∃ body rest, u = body ++ c :: rest ∧ c ∉ body := by
  induction u with
  | nil => simp at h
  | cons b u ih =>
    by_cases e : b = c
    · exact ⟨[], u, by simp [e], by simp⟩
    · have h2 : c ∈ u := by
        rcases List.mem_cons.1 h with h | h
        · exact absurd h.symm e
        · exact h
      obtain ⟨body, rest, h3, h4⟩ := ih h2
      exact ⟨b :: body, rest, by rw [h3]; rfl, fun hm => (List.mem_cons.1 hm).elim (fun h => e h.symm) h4⟩
theorem pre_cons (c : UInt8) (u : List UInt8) : Lib.hasPrefix (c :: u) [c] = true ∧ Lib.trimPrefix (c :: u) [c] = u := by
  have : Lib.hasPrefix (c :: u) [c] = true := by simp [Lib.hasPrefix]
  exact ⟨this, by simp [Lib.trimPrefix, this]⟩
theorem pre_not {u : List UInt8} {c : UInt8} (h : ∀ v, u ≠ c :: v) : Lib.hasPrefix u [c] = false ∧ Lib.trimPrefix u [c] = u := by
  have : Lib.hasPrefix u [c] = false := by
    cases u with
    | nil => simp [Lib.hasPrefix]
    | cons b u =>
      have : ¬ c = b := fun e => h u (by rw [e])
      simp [Lib.hasPrefix, List.isPrefixOf, this]
  exact ⟨this, by simp [Lib.trimPrefix, this]⟩
theorem tl_cons {s : ByteArray} {c : UInt8} {r : List UInt8} (h : bl s = c :: r) : (0 : Int) < (s.size : Int) ∧ bt s 0 = (c.toNat : Int) ∧ bl (s.extract 1 s.size) = r := by
  have hl := bl_len s
  rw [h] at hl
  simp only [List.length_cons] at hl
  refine ⟨by omega, ?_, ?_⟩
  · have := bt_at' (s := s) (pre := []) (c := c) (suf := r) (by simpa using h)
    simpa using this
  · rw [bl_extract, h, ← hl]
    simp
theorem tl_last {s : ByteArray} {c : UInt8} {r : List UInt8} (h : bl s = r ++ [c]) (hs : s.size ≤ maxLen) : (0 : Int) < (s.size : Int) ∧ wrap64 ((s.size : Int) - 1) = (r.length : Int) ∧ bt s (r.length : Int) = (c.toNat : Int) ∧ bl (s.extract 0 r.length) = r := by
  have hl := bl_len s
  rw [h] at hl
  simp only [List.length_append, List.length_cons, List.length_nil] at hl
  rw [maxLen_eq] at hs
  refine ⟨by omega, ?_, bt_at' h, ?_⟩
  · rw [wrap_id (by omega) (by omega)]; omega
  · rw [bl_extract, h]; simp
end Go.Proofs.YtigoeooelfeopaaDoor.L

/- Lists of marks: what the program reads is what the reference splits. No condition. -/
set_option linter.unusedSimpArgs false
set_option linter.unusedVariables false
namespace Go.Proofs.YtigoeooelfeopaaDoor.L
open Go.RowKit Go.Proofs.YtigoeooelfeopaaDoorW.PrintWords Go.Proofs.YtigoeooelfeopaaDoorW.PrintLast Go.Proofs.YtigoeooelfeopaaDoor.Q
def tog (c : UInt8) (q : Bool) : Bool := if c = 34 then !q else q
def one : Bool → List UInt8 → List UInt8 × Option (List UInt8)
  | _, [] => ([], none)
  | q, c :: r => if c = 44 ∧ q = false then ([], some r) else (c :: (one (tog c q) r).1, (one (tog c q) r).2)
def IsTag (t body : List UInt8) : Prop := t = 34 :: (body ++ [34]) ∧ 34 ∉ body ∧ body.length ≤ 10 ∧ plainL body = true
noncomputable def isTag (t : List UInt8) : Bool := @decide (∃ body, IsTag t body) (Classical.propDecidable _)
theorem isTag_iff {t : List UInt8} : isTag t = true ↔ ∃ body, IsTag t body := by unfold isTag; exact @decide_eq_true_iff _ (Classical.propDecidable _)
def AtTag (x body rest : List UInt8) (least : Nat) : Prop := x = 34 :: (body ++ 34 :: rest) ∧ 34 ∉ body ∧ least ≤ body.length ∧ body.length ≤ 10 ∧ plainL body = true
theorem implTagAt_ok {s : ByteArray} {body rest : List UInt8} {least : Nat} (hs : s.size ≤ 1073741824) (h : AtTag (bl s) body rest least) : Ev (fun k => impl_tagAt.f k s (least : Int)) (ofL (34 :: (body ++ [34])), ofL rest, true) := by
  obtain ⟨h1, h2, h3, h4, h5⟩ := h
  have hl := bl_len s
  rw [h1] at hl
  simp only [List.length_cons, List.length_append] at hl
  unfold impl_tagAt.f strings_CutPrefix.f
  have e1 : (⟨#[34]⟩ : ByteArray).data.toList = [34] := rfl
  have e2 : s.data.toList = 34 :: (body ++ 34 :: rest) := h1
  have e3 : (ofL (body ++ 34 :: rest)).data.toList = body ++ 34 :: rest := bl_ofL _
  simp only [e1, e2, (pre_cons 34 (body ++ 34 :: rest)).1, (pre_cons 34 (body ++ 34 :: rest)).2, Option.bind_some, strings_Cut.f, e3, cut_hit rfl h2, size_ofL, List.length_append, List.length_cons, if_pos (show body.length + (rest.length + 1) < 4294967281 by omega), if_true, implIn]
  rw [show decide ((least : Int) ≤ ((body.length : Nat) : Int) ∧ ((body.length : Nat) : Int) ≤ 10) = true from decide_eq_true ⟨by omega, by omega⟩]
  simp only [if_true]
  have hp := implPlain (s := ofL body) (by rw [size_ofL, maxLen_eq]; omega)
  rw [bl_ofL, h5] at hp
  refine Ev.bind hp ?_
  have hw : wrap64 (((body.length : Nat) : Int) + 2) = ((body.length + 2 : Nat) : Int) := by rw [wrap_id (by omega) (by omega)]; omega
  simp only [if_true, hw, if_pos (nonneg_at _), if_pos (show ((body.length + 2 : Nat) : Int) ≤ (s.size : Int) by omega), Int.toNat_natCast]
  have hx : s.extract 0 (body.length + 2) = ofL (34 :: (body ++ [34])) := by
    apply bl_inj
    rw [bl_extract, h1, bl_ofL]
    have : (34 :: (body ++ 34 :: rest)) = (34 :: (body ++ [34])) ++ rest := by simp
    rw [this, List.take_append_of_le_length (by simp), List.take_of_length_le (by simp)]
    rfl
  rw [hx]
  exact Ev.now _
theorem implTagAt_no {s : ByteArray} {least : Nat} (hs : s.size ≤ 1073741824) (h : ∀ body rest, ¬ AtTag (bl s) body rest least) : Ev (fun k => impl_tagAt.f k s (least : Int)) ((⟨#[]⟩ : ByteArray), (⟨#[]⟩ : ByteArray), false) := by
  unfold impl_tagAt.f strings_CutPrefix.f
  have e1 : (⟨#[34]⟩ : ByteArray).data.toList = [34] := rfl
  by_cases c0 : ∃ u, bl s = 34 :: u
  · obtain ⟨u, hu⟩ := c0
    have e2 : s.data.toList = 34 :: u := hu
    have hl := bl_len s
    rw [hu] at hl
    simp only [List.length_cons] at hl
    have e3 : (ofL u).data.toList = u := bl_ofL _
    simp only [e1, e2, (pre_cons 34 u).1, (pre_cons 34 u).2, Option.bind_some, strings_Cut.f, e3, size_ofL, if_pos (show u.length < 4294967281 by omega), if_true]
    by_cases c1 : (34 : UInt8) ∈ u
    · obtain ⟨body, rest, h1, h2⟩ := first_of c1
      simp only [cut_hit h1 h2, if_true, size_ofL, implIn, Option.bind_some]
      have hbl : body.length ≤ u.length := by rw [h1]; simp
      by_cases c2 : (least : Int) ≤ ((body.length : Nat) : Int) ∧ ((body.length : Nat) : Int) ≤ 10
      · simp only [c2, and_self, decide_true, if_true]
        have hp := implPlain (s := ofL body) (by rw [size_ofL, maxLen_eq]; omega)
        rw [bl_ofL] at hp
        refine Ev.bind hp ?_
        have c3 : plainL body = false := by
          cases c3 : plainL body with
          | false => rfl
          | true => exact absurd ⟨by rw [hu, h1], h2, by omega, by omega, c3⟩ (h body rest)
        simp only [c3, Bool.false_eq_true, if_false]
        exact Ev.now _
      · simp only [c2, decide_false, Bool.false_eq_true, if_false]
        exact Ev.now _
    · simp only [cut_miss c1, Bool.false_eq_true, if_false]
      exact Ev.now _
  · have e4 := pre_not (u := bl s) (c := 34) (fun v e => c0 ⟨v, e⟩)
    have e5 : Lib.hasPrefix s.data.toList [34] = false := e4.1
    have hl := bl_len s
    have e6 : (Lib.trimPrefix s.data.toList [34]) = bl s := e4.2
    simp only [e1, e5, e6, Option.bind_some, strings_Cut.f, size_ofL, if_pos (show (bl s).length < 4294967281 by omega), Bool.false_eq_true, if_false]
    exact Ev.now _
end Go.Proofs.YtigoeooelfeopaaDoor.L

/- Lists of marks: the reference's split and the program's reading come to the same. No condition. -/
set_option linter.unusedSimpArgs false
set_option linter.unusedVariables false
namespace Go.Proofs.YtigoeooelfeopaaDoor.L
open Go.RowKit Go.Proofs.YtigoeooelfeopaaDoorW.PrintWords Go.Proofs.YtigoeooelfeopaaDoorW.PrintLast Go.Proofs.YtigoeooelfeopaaDoor.Q
theorem isTag_ends (c d : UInt8) (mid : List UInt8) : isTag (c :: (mid ++ [d])) = (decide (c = 34) && (decide (d = 34) && (decide (mid.length ≤ 10) && (plainL mid && decide (34 ∉ mid))))) := by
  cases h : isTag (c :: (mid ++ [d])) with
  | true =>
    obtain ⟨body, h1, h2, h3, h4⟩ := isTag_iff.1 h
    injection h1 with e1 h1
    obtain ⟨e2, e3⟩ := List.append_inj' h1 rfl
    injection e3 with e3 _
    subst e1; subst e2; subst e3
    simp [h2, h3, h4]
  | false =>
    symm
    apply Bool.eq_false_iff.2
    intro h2
    simp only [Bool.and_eq_true, decide_eq_true_eq] at h2
    obtain ⟨e1, e2, e3, e4, e5⟩ := h2
    subst e1; subst e2
    have := isTag_iff.2 ⟨mid, rfl, e5, e3, e4⟩
    rw [h] at this
    cases this
theorem isTag_short {t : List UInt8} (h : t.length < 2) : isTag t = false := by
  cases e : isTag t with
  | false => rfl
  | true =>
    obtain ⟨body, h1, _⟩ := isTag_iff.1 e
    rw [h1] at h
    simp at h
    omega
theorem cut_mid (done cur suf : List UInt8) : ((done ++ (cur ++ suf)).take (done ++ cur).length).drop done.length = cur := by
  rw [← List.append_assoc, List.take_left, List.drop_left]
theorem eq34 (c : UInt8) : ((c.toNat : Int) = 34) = (c = 34) := eq_byte c 34 (by omega)
theorem tagLoop {s : ByteArray} (hs : s.size ≤ maxLen) : ∀ (suf pre : List UInt8) (d : UInt8), bl s = (34 :: pre) ++ (suf ++ [d]) → Ev (fun k => spec_l9Tag.l0 k s ((34 :: pre : List UInt8).length : Int)) (decide (34 ∉ suf)) := by
  intro suf
  induction suf with
  | nil =>
    intro pre d h
    obtain ⟨_, h2, _, _⟩ := tl_last (s := s) (r := 34 :: pre) (c := d) (by simpa using h) hs
    refine Ev.step (fun k => spec_l9Tag.l0.eq_2 ..) ?_
    simp only [h2, if_neg (Int.lt_irrefl _)]
    exact Ev.now _
  | cons c suf ih =>
    intro pre d h
    have h' : bl s = (34 :: pre) ++ c :: (suf ++ [d]) := by rw [h]; rfl
    obtain ⟨_, h2, _, _⟩ := tl_last (s := s) (r := 34 :: pre ++ c :: suf) (c := d) (by rw [h']; simp) hs
    refine Ev.step (fun k => spec_l9Tag.l0.eq_2 ..) ?_
    simp only [h2, if_pos (show (((34 :: pre : List UInt8).length : Nat) : Int) < (((34 :: pre ++ c :: suf : List UInt8).length : Nat) : Int) by simp only [List.length_append, List.length_cons]; omega), if_pos (nonneg_at _), if_pos (blt_at h'), bt_at' h', eq34, bnext_at h' hs]
    by_cases e : c = 34
    · simp only [e, if_true, List.mem_cons, true_or, not_true_eq_false, decide_false]
      exact Ev.now _
    · have e' : ¬ (34 : UInt8) = c := fun x => e x.symm
      simp only [e, if_false, List.mem_cons, e', false_or]
      exact ih (pre ++ [c]) d (by rw [h']; simp)
theorem specTag {s : ByteArray} (hs : s.size ≤ 1073741824) : Ev (fun k => spec_l9Tag.f k s) (isTag (bl s)) := by
  have hm : s.size ≤ maxLen := by rw [maxLen_eq]; omega
  have hl := bl_len s
  have hj : Ev (fun k => spec_l9Tag.j0 k s true) false := by
    refine Ev.step (fun k => spec_l9Tag.j0.eq_2 ..) ?_
    simp only [if_true]
    exact Ev.now _
  unfold spec_l9Tag.f
  by_cases c0 : (s.size : Int) < 2
  · simp only [if_pos c0]
    rw [isTag_short (by omega)]
    exact hj
  · simp only [if_neg c0]
    obtain ⟨c, r, h1⟩ : ∃ c r, bl s = c :: r := by
      cases h : bl s with
      | nil => rw [h] at hl; simp at hl; omega
      | cons c r => exact ⟨c, r, rfl⟩
    have hr : r ≠ [] := fun e => by rw [h1, e] at hl; simp at hl; omega
    obtain ⟨mid, d, rfl⟩ : ∃ mid d, r = mid ++ [d] := ⟨r.dropLast, r.getLast hr, (List.dropLast_concat_getLast hr).symm⟩
    obtain ⟨g1, g2, _⟩ := tl_cons h1
    obtain ⟨_, g3, g4, _⟩ := tl_last (s := s) (r := c :: mid) (c := d) (by rw [h1]; rfl) hm
    rw [h1] at hl
    simp only [List.length_cons, List.length_append, List.length_nil] at hl
    rw [h1, isTag_ends]
    simp only [if_pos g1, g2, g3, g4, eq34, if_pos (nonneg_at _), if_pos (show (((c :: mid : List UInt8).length : Nat) : Int) < (s.size : Int) by simp only [List.length_cons]; omega)]
    by_cases c1 : c = 34
    · simp only [if_pos c1]
      by_cases c2 : d = 34
      · simp only [if_pos c2]
        by_cases c3 : (s.size : Int) > 12
        · simp only [if_pos c3]
          rw [show decide (mid.length ≤ 10) = false from decide_eq_false (by omega)]
          simp only [Bool.false_and, Bool.and_false]
          exact hj
        · simp only [if_neg c3]
          refine Ev.bind (specPlain hm) ?_
          have hp : plainL (bl s) = plainL mid := by
            rw [h1, c1, c2]
            simp only [plainL, List.all_cons, List.all_append, List.all_nil, Bool.and_true]
            rw [show inB 32 126 34 = true by decide]
            simp
          rw [hp, decide_eq_true c1, decide_eq_true c2, show decide (mid.length ≤ 10) = true from decide_eq_true (by omega)]
          simp only [Bool.true_and]
          cases hq : plainL mid with
          | false => simp only [Bool.not_false, Bool.false_and]; exact hj
          | true =>
            simp only [Bool.not_true, Bool.true_and]
            refine Ev.step (fun k => spec_l9Tag.j0.eq_2 ..) ?_
            simp only [Bool.false_eq_true, if_false]
            have := tagLoop (s := s) hm mid [] d (by rw [h1, c1]; rfl)
            simpa using this
      · simp only [if_neg c2]
        rw [decide_eq_false c2]
        simp only [Bool.false_and, Bool.and_false]
        exact hj
    · simp only [if_neg c1]
      rw [decide_eq_false c1]
      simp only [Bool.false_and]
      exact hj
end Go.Proofs.YtigoeooelfeopaaDoor.L

/- Decimal numerals: what the reference's NumText makes is what the library's Itoa makes. No condition. -/
set_option linter.unusedSimpArgs false
set_option linter.unusedVariables false
namespace Go.Proofs.YtigoeooelfeopaaDoor.L
open Go.RowKit Go.Proofs.YtigoeooelfeopaaDoorW.PrintWords Go.Proofs.YtigoeooelfeopaaDoorW.PrintLast Go.Proofs.YtigoeooelfeopaaDoor.Q
theorem ba_of {a : ByteArray} {l : List UInt8} (h : a.data.toList = l) : a = ⟨l.toArray⟩ := by
  cases a with | mk x => congr 1; exact Array.toList_inj.1 (by simpa using h)
theorem app_list (a b : ByteArray) : (a ++ b).data.toList = a.data.toList ++ b.data.toList := by rw [ByteArray.data_append, Array.toList_append]
theorem size_list (a : ByteArray) : a.size = a.data.toList.length := (Array.length_toList (xs := a.data)).symm
theorem decD_step {n : Nat} (h : ¬ n < 10) : Lib.decDigits n = Lib.decDigits (n / 10) ++ [UInt8.ofNat (48 + n % 10)] := by
  rw [Lib.decDigits, dif_neg h]
theorem digit_list {d : Nat} (h : d < 10) : (strOfNums [(wrap64 (48 + (d : Int))) % 256]).data.toList = [UInt8.ofNat (48 + d)] := by
  rw [wrap_id (by omega) (by omega)]
  have e : ((48 + (d : Int)) % 256).toNat = 48 + d := by omega
  simp [strOfNums, e]
theorem numL : ∀ (m n : Nat), n ≤ m → ∀ acc : ByteArray, acc.size + n ≤ 9223372036854775808 → n ≤ 9223372036854775807 →
    ∃ s, Ev (fun k => spec_NumText.l0 k (n : Int) acc) s ∧ s.data.toList = (if n < 10 then [] else Lib.decDigits (n / 10)) ++ acc.data.toList := by
  intro m
  induction m with
  | zero =>
    intro n hn acc ha hi
    obtain rfl : n = 0 := by omega
    refine ⟨acc, Ev.step (fun k => spec_NumText.l0.eq_2 ..) ?_, by simp⟩
    simp only [if_neg (show ¬ ((0 : Nat) : Int) > 9 by omega)]
    exact Ev.now _
  | succ m ih =>
    intro n hn acc ha hi
    by_cases c : n < 10
    · refine ⟨acc, Ev.step (fun k => spec_NumText.l0.eq_2 ..) ?_, by simp [c]⟩
      simp only [if_neg (show ¬ (n : Int) > 9 by omega)]
      exact Ev.now _
    · have hq : Int.tdiv (n : Int) 10 = ((n / 10 : Nat) : Int) := by rw [Int.tdiv_eq_ediv_of_nonneg (by omega)]; omega
      have hw : wrap64 (Int.tdiv (n : Int) 10) = ((n / 10 : Nat) : Int) := by rw [hq]; exact wrap_id (by omega) (by omega)
      have hm : Int.tmod ((n / 10 : Nat) : Int) 10 = ((n / 10 % 10 : Nat) : Int) := by rw [Int.tmod_eq_emod_of_nonneg (by omega)]; omega
      have hd := digit_list (d := n / 10 % 10) (by omega)
      have hs : (strOfNums [(wrap64 (48 + ((n / 10 % 10 : Nat) : Int))) % 256]).size = 1 := by rw [size_list, hd]; rfl
      obtain ⟨s, h1, h2⟩ := ih (n / 10) (by omega) (strOfNums [(wrap64 (48 + ((n / 10 % 10 : Nat) : Int))) % 256] ++ acc) (by rw [ByteArray.size_append, hs]; omega) (by omega)
      refine ⟨s, Ev.step (fun k => spec_NumText.l0.eq_2 ..) ?_, ?_⟩
      · simp only [if_pos (show (n : Int) > 9 by omega), Option.bind_some, hw, hm, hs, if_pos (show 1 + acc.size ≤ 9223372036854775807 by omega)]
        exact h1
      · rw [h2, app_list, hd, if_neg c]
        by_cases c2 : n / 10 < 10
        · rw [if_pos c2, Lib.decDigits_one c2]
          simp [Nat.mod_eq_of_lt c2]
        · rw [if_neg c2, decD_step c2]
          simp
theorem numD (x : Int) (h1 : x ≤ 9223372036854775807) : ∃ s, Ev (fun k => spec_NumText.f k x) s ∧ s.data.toList = Lib.decDigits x.toNat := by
  have key : ∀ n : Nat, n ≤ 9223372036854775807 → ∃ s, Ev (fun k => spec_NumText.j0 k (n : Int)) s ∧ s.data.toList = Lib.decDigits n := by
    intro n hn
    have hm : Int.tmod (n : Int) 10 = ((n % 10 : Nat) : Int) := by rw [Int.tmod_eq_emod_of_nonneg (by omega)]; omega
    have hd := digit_list (d := n % 10) (by omega)
    have hs : (strOfNums [(wrap64 (48 + ((n % 10 : Nat) : Int))) % 256]).size = 1 := by rw [size_list, hd]; rfl
    obtain ⟨s, e1, e2⟩ := numL n n (Nat.le_refl _) (strOfNums [(wrap64 (48 + ((n % 10 : Nat) : Int))) % 256]) (by rw [hs]; omega) hn
    refine ⟨s, Ev.step (fun k => spec_NumText.j0.eq_2 ..) ?_, ?_⟩
    · simp only [hm]; exact e1
    · rw [e2, hd]
      by_cases c : n < 10
      · rw [if_pos c, Lib.decDigits_one c]; simp [Nat.mod_eq_of_lt c]
      · rw [if_neg c, decD_step c]
  unfold spec_NumText.f
  by_cases c : x < 0
  · obtain ⟨s, e1, e2⟩ := key 0 (by omega)
    refine ⟨s, ?_, by rw [e2, show x.toNat = 0 by omega]⟩
    simp only [if_pos c]; exact e1
  · obtain ⟨s, e1, e2⟩ := key x.toNat (by omega)
    refine ⟨s, ?_, e2⟩
    simp only [if_neg c]
    rw [show ((x.toNat : Nat) : Int) = x by omega] at e1
    exact e1
theorem num_len (n : Nat) (h : n ≤ 9223372036854775807) : (Lib.decDigits n).length ≤ 21 := by
  have := Lib.itoa_length_le (n : Int) (by omega) (by omega)
  rwa [Lib.itoa_nonneg] at this
theorem numI (x : Int) (h1 : x ≤ 9223372036854775807) : impl_NumText.f x = some ⟨(Lib.decDigits x.toNat).toArray⟩ := by
  unfold impl_NumText.f strconv_Itoa.f mx
  by_cases c : x < 0
  · rw [if_pos c, if_pos (by omega), show (0 : Int) = ((0 : Nat) : Int) from rfl, Lib.itoa_nonneg, show x.toNat = 0 by omega]
  · rw [if_neg c, if_pos (by omega)]
    rw [show Lib.itoa x = Lib.decDigits x.toNat from by
      have := Lib.itoa_nonneg x.toNat
      rwa [show ((x.toNat : Nat) : Int) = x by omega] at this]
theorem numBoth (x : Int) (h1 : x ≤ 9223372036854775807) : ∃ s, Ev (fun k => spec_NumText.f k x) s ∧ impl_NumText.f x = some s ∧ s.data.toList = Lib.decDigits x.toNat ∧ s.size ≤ 21 := by
  obtain ⟨s, e1, e2⟩ := numD x h1
  exact ⟨s, e1, by rw [numI x h1, ba_of e2], e2, by rw [size_list, e2]; exact num_len _ (by omega)⟩
end Go.Proofs.YtigoeooelfeopaaDoor.L

/- Decimal numerals read: the program and the reference read the same. No condition. -/
set_option linter.unusedSimpArgs false
set_option linter.unusedVariables false
namespace Go.Proofs.YtigoeooelfeopaaDoor.L
open Go.RowKit Go.Proofs.YtigoeooelfeopaaDoorW.PrintWords Go.Proofs.YtigoeooelfeopaaDoorW.PrintLast Go.Proofs.YtigoeooelfeopaaDoor.Q
def isDig (c : UInt8) : Bool := decide (48 ≤ c.toNat ∧ c.toNat ≤ 57)
def val (l : List UInt8) : Nat := l.foldl (fun a c => a * 10 + (c.toNat - 48)) 0
theorem val_snoc (l : List UInt8) (c : UInt8) : val (l ++ [c]) = val l * 10 + (c.toNat - 48) := by simp [val]
def Canon (l : List UInt8) : Prop := l ≠ [] ∧ (∀ c ∈ l, isDig c = true) ∧ (1 < l.length → ∀ r, l ≠ 48 :: r)
theorem dig_byte {n : Nat} (h : n < 10) : (UInt8.ofNat (48 + n)).toNat = 48 + n := by rw [UInt8.toNat_ofNat']; omega
theorem dec_canon : ∀ (m n : Nat), n ≤ m → Canon (Lib.decDigits n) ∧ val (Lib.decDigits n) = n := by
  intro m
  induction m with
  | zero =>
    intro n hn
    obtain rfl : n = 0 := by omega
    rw [Lib.decDigits_one (by omega)]
    exact ⟨⟨by simp, fun c hc => by simp only [List.mem_singleton] at hc; rw [hc]; decide, fun h => by simp at h⟩, rfl⟩
  | succ m ih =>
    intro n hn
    by_cases c : n < 10
    · rw [Lib.decDigits_one c]
      have e := dig_byte c
      refine ⟨⟨by simp, fun x hx => ?_, fun h => by simp at h⟩, ?_⟩
      · simp only [List.mem_singleton] at hx
        rw [hx]; unfold isDig; rw [e]; exact decide_eq_true ⟨by omega, by omega⟩
      · simp only [val, List.foldl_cons, List.foldl_nil, e]; omega
    · obtain ⟨⟨h1, h2, h3⟩, h4⟩ := ih (n / 10) (by omega)
      have e := dig_byte (n := n % 10) (by omega)
      rw [decD_step c]
      refine ⟨⟨by simp, fun x hx => ?_, fun _ r hr => ?_⟩, ?_⟩
      · rcases List.mem_append.1 hx with hx | hx
        · exact h2 x hx
        · simp only [List.mem_singleton] at hx
          rw [hx]; unfold isDig; rw [e]; exact decide_eq_true ⟨by omega, by omega⟩
      · cases hd : Lib.decDigits (n / 10) with
        | nil => exact h1 hd
        | cons a t =>
          rw [hd] at hr
          injection hr with ha _
          subst ha
          by_cases ht : t = []
          · have : n / 10 = 0 := by rw [← h4, hd, ht]; rfl
            omega
          · have : 1 < (Lib.decDigits (n / 10)).length := by
              rw [hd]
              have := List.length_pos_iff.2 ht
              simp only [List.length_cons]; omega
            exact h3 this t hd
      · rw [val_snoc, h4, e]; omega
theorem canon_dec : ∀ (m : Nat) (l : List UInt8), l.length ≤ m → Canon l → l = Lib.decDigits (val l) := by
  intro m
  induction m with
  | zero => intro l hl h; exact absurd (List.length_eq_zero_iff.1 (Nat.le_zero.1 hl)) h.1
  | succ m ih =>
    intro l hl h
    obtain ⟨h1, h2, h3⟩ := h
    obtain ⟨l', c, rfl⟩ : ∃ l' c, l = l' ++ [c] := ⟨l.dropLast, l.getLast h1, (List.dropLast_concat_getLast h1).symm⟩
    have hc := h2 c (by simp)
    unfold isDig at hc
    obtain ⟨c1, c2⟩ := of_decide_eq_true hc
    have ec : c = UInt8.ofNat (48 + (c.toNat - 48)) := by
      apply UInt8.toNat_inj.1
      rw [UInt8.toNat_ofNat']; omega
    by_cases hl0 : l' = []
    · subst hl0
      rw [val_snoc, show val [] = 0 from rfl, Nat.zero_mul, Nat.zero_add, Lib.decDigits_one (by omega), List.nil_append, ← ec]
    · have hlen := List.length_pos_iff.2 hl0
      simp only [List.length_append, List.length_cons, List.length_nil] at hl
      have hcn : Canon l' := by
        refine ⟨hl0, fun x hx => h2 x (List.mem_append_left _ hx), fun _ r hr => h3 ?_ (r ++ [c]) (by rw [hr]; rfl)⟩
        simp only [List.length_append, List.length_cons, List.length_nil]; omega
      have e := ih l' (by omega) hcn
      have hv : 1 ≤ val l' := by
        cases hv : val l' with
        | succ n => omega
        | zero =>
          rw [hv, Lib.decDigits_one (by omega)] at e
          exact absurd (by rw [e]; rfl) (h3 (by simp only [List.length_append, List.length_cons, List.length_nil]; omega) [c])
      rw [val_snoc, decD_step (by omega), show (val l' * 10 + (c.toNat - 48)) / 10 = val l' by omega, show (val l' * 10 + (c.toNat - 48)) % 10 = c.toNat - 48 by omega, ← e, ← ec]
theorem decFrom_snoc (l : List UInt8) (c : UInt8) : ∀ acc n, Lib.decFrom acc l = some n → 48 ≤ c.toNat → c.toNat ≤ 57 → Lib.decFrom acc (l ++ [c]) = some (n * 10 + (c.toNat - 48)) := by
  induction l with
  | nil =>
    intro acc n h c1 c2
    simp only [Lib.decFrom, Option.some.injEq] at h
    subst h
    simp [Lib.decFrom, Lib.digitVal, c1, c2]
  | cons b l ih =>
    intro acc n h c1 c2
    simp only [List.cons_append, Lib.decFrom] at h ⊢
    split at h
    · exact ih _ _ h c1 c2
    · cases h
theorem decFrom_dec : ∀ (m n : Nat), n ≤ m → Lib.decFrom 0 (Lib.decDigits n) = some n := by
  intro m
  induction m with
  | zero =>
    intro n hn
    obtain rfl : n = 0 := by omega
    rw [Lib.decDigits_one (by omega)]; rfl
  | succ m ih =>
    intro n hn
    by_cases c : n < 10
    · have e := dig_byte c
      rw [Lib.decDigits_one c]
      have := decFrom_snoc [] (UInt8.ofNat (48 + n)) 0 0 rfl (by omega) (by omega)
      rw [List.nil_append, e] at this
      rw [this]; simp
    · have e := dig_byte (n := n % 10) (by omega)
      rw [decD_step c]
      have := decFrom_snoc (Lib.decDigits (n / 10)) (UInt8.ofNat (48 + n % 10)) 0 (n / 10) (ih _ (by omega)) (by omega) (by omega)
      rw [this, e]
      congr 1
      omega
theorem atoi_dec (n : Nat) : Lib.atoi (Lib.decDigits n) = some (n : Int) := by
  obtain ⟨⟨h1, h2, _⟩, _⟩ := dec_canon n n (Nat.le_refl _)
  cases h : Lib.decDigits n with
  | nil => exact absurd h h1
  | cons b r =>
    have hb := h2 b (by rw [h]; simp)
    unfold isDig at hb
    obtain ⟨c1, c2⟩ := of_decide_eq_true hb
    have n45 : b ≠ 45 := fun e => by rw [e] at c1; revert c1; decide
    have n43 : b ≠ 43 := fun e => by rw [e] at c1; revert c1; decide
    unfold Lib.atoi
    simp only [beq_iff_eq, n45, n43, if_false, Lib.decNat, List.isEmpty_cons, Bool.false_eq_true]
    rw [← h, decFrom_dec n n (Nat.le_refl _)]
    rfl
open Classical in
noncomputable def numR (l : List UInt8) (most : Int) : Int × Bool := if Canon l ∧ l.length ≤ 7 ∧ (val l : Int) ≤ most then ((val l : Int), true) else (0, false)
theorem numR_yes {l : List UInt8} {most : Int} (h : Canon l ∧ l.length ≤ 7 ∧ (val l : Int) ≤ most) : numR l most = ((val l : Int), true) := by unfold numR; rw [if_pos h]
theorem numR_no {l : List UInt8} {most : Int} (h : ¬ (Canon l ∧ l.length ≤ 7 ∧ (val l : Int) ≤ most)) : numR l most = (0, false) := by unfold numR; rw [if_neg h]
theorem implNum {s : ByteArray} (hs : s.size ≤ 1073741824) (most : Int) : impl_ParseNum.f s most = some (numR (bl s) most) := by
  have hl := bl_len s
  unfold impl_ParseNum.f
  rw [if_pos (by omega)]
  by_cases c : Canon (bl s) ∧ (bl s).length ≤ 7
  · obtain ⟨c1, c2⟩ := c
    have e := canon_dec _ _ (Nat.le_refl _) c1
    have ha : Lib.atoiAll s.data.toList = .ok (val (bl s) : Int) := by
      have h1 : Lib.atoiAll (bl s) = Lib.NumEnd.ofOption (Lib.atoi (bl s)) := Lib.atoiAll_short _ (by omega)
      have h2 := atoi_dec (val (bl s))
      rw [← e] at h2
      rw [h2] at h1
      exact h1
    rw [ha]
    have hb := Lib.atoiAll_bounds ha
    simp only [if_neg (show ¬ (val (bl s) : Int) < 0 by omega)]
    by_cases c3 : most < (val (bl s) : Int)
    · rw [if_pos c3, numR_no (fun h => by omega)]
    · rw [if_neg c3, if_neg (by omega), numI _ (by omega), numR_yes ⟨c1, c2, by omega⟩]
      simp only [Option.bind_some, Int.toNat_natCast, ← e, ofL_bl, if_true]
  · rw [numR_no (fun h => c ⟨h.1, h.2.1⟩)]
    rcases ha : Lib.atoiAll s.data.toList with v | _ | _
    rotate_left
    · rfl
    · rfl
    ·
      have hb := Lib.atoiAll_bounds ha
      simp only
      by_cases c1 : v < 0
      · rw [if_pos c1]
      rw [if_neg c1]
      by_cases c2 : most < v
      · rw [if_pos c2]
      rw [if_neg c2]
      by_cases c3 : 7 < s.size
      · rw [if_pos c3]
      rw [if_neg c3, numI v (by omega)]
      simp only [Option.bind_some]
      rw [if_neg]
      intro e
      rw [tl_eq] at e
      have e2 : bl s = Lib.decDigits v.toNat := by
        have := e.symm
        rw [ba_toList] at this
        have h3 : bl s = bl (ofL (Lib.decDigits v.toNat)) := this
        rw [h3, bl_ofL]
      exact c ⟨by rw [e2]; exact (dec_canon _ _ (Nat.le_refl _)).1, by omega⟩
theorem dig_eq (c : UInt8) : inB 48 57 c = isDig c := by
  unfold inB isDig
  by_cases h : 48 ≤ c.toNat ∧ c.toNat ≤ 57
  · rw [decide_eq_true h, decide_eq_true (by omega)]
  · rw [decide_eq_false h, decide_eq_false (by omega)]
theorem specNum {s : ByteArray} (hs : s.size ≤ 1073741824) (most : Int) : Ev (fun k => spec_ParseNum.f k s most) (numR (bl s) most) := by
  have hl := bl_len s
  have hm : s.size ≤ maxLen := by rw [maxLen_eq]; omega
  have fin : ∀ (pre suf : List UInt8) (i : Int), bl s = pre ++ suf → (∀ c ∈ pre, isDig c = true) → (suf = [] ∨ 8 ≤ pre.length) → Ev (fun k => spec_ParseNum.j1 k s most (val pre : Int) i false) (numR (bl s) most) := by
    intro pre suf i h hd hc
    refine Ev.step (fun k => spec_ParseNum.j1.eq_2 ..) ?_
    simp only [Bool.false_eq_true, if_false, specIn, Option.bind_some]
    by_cases c0 : 1 ≤ (s.size : Int) ∧ (s.size : Int) ≤ 7
    · simp only [c0, and_self, decide_true, if_true]
      have hlen := congrArg List.length h
      rw [List.length_append] at hlen
      obtain rfl : suf = [] := by
        rcases hc with h2 | h2
        · exact h2
        · omega
      rw [List.append_nil] at h
      by_cases c1 : (s.size : Int) > 1
      · simp only [if_pos c1]
        cases hp : pre with
        | nil => rw [hp] at h; rw [h] at hl; simp only [List.length_nil] at hl; omega
        | cons c r =>
          obtain ⟨g1, g2, _⟩ := tl_cons (s := s) (c := c) (r := r) (by rw [h, hp])
          have e48 : ((c.toNat : Int) = 48) = (c = 48) := eq_byte c 48 (by omega)
          simp only [if_pos g1, g2, e48]
          by_cases c2 : c = 48
          · simp only [if_pos c2]
            rw [numR_no (fun hh => hh.1.2.2 (by omega) r (by rw [h, hp, c2]))]
            exact Ev.now _
          · simp only [if_neg c2, ← hp]
            have hcn : Canon (bl s) := ⟨by rw [h, hp]; simp, by rw [h]; exact hd, fun _ r' hr => by rw [h, hp] at hr; injection hr with e _; exact c2 e⟩
            by_cases c3 : (val pre : Int) > most
            · simp only [if_pos c3]
              rw [numR_no (fun hh => by rw [h] at hh; omega)]
              exact Ev.now _
            · simp only [if_neg c3]
              rw [numR_yes ⟨hcn, by omega, by rw [h]; omega⟩, h]
              exact Ev.now _
      · simp only [if_neg c1]
        have hcn : Canon (bl s) := ⟨fun e => by rw [e] at hl; simp only [List.length_nil] at hl; omega, by rw [h]; exact hd, fun hh => by omega⟩
        by_cases c3 : (val pre : Int) > most
        · simp only [if_pos c3]
          rw [numR_no (fun hh => by rw [h] at hh; omega)]
          exact Ev.now _
        · simp only [if_neg c3]
          rw [numR_yes ⟨hcn, by omega, by rw [h]; omega⟩, h]
          exact Ev.now _
    · simp only [c0, decide_false, Bool.false_eq_true, if_false]
      rw [numR_no]
      · exact Ev.now _
      · rintro ⟨h1, h2, _⟩
        have := List.length_pos_iff.2 h1.1
        omega
  have key : ∀ (suf pre : List UInt8), bl s = pre ++ suf → (∀ c ∈ pre, isDig c = true) → pre.length ≤ 8 → (val pre : Int) < 1000000000 → Ev (fun k => spec_ParseNum.l0 k s most (val pre : Int) (pre.length : Int)) (numR (bl s) most) := by
    intro suf
    induction suf with
    | nil =>
      intro pre h hd _ _
      refine Ev.step (fun k => spec_ParseNum.l0.eq_2 ..) ?_
      simp only [if_neg (bend_at h)]
      exact fin pre [] _ h hd (.inl rfl)
    | cons c suf ih =>
      intro pre h hd hp hv
      refine Ev.step (fun k => spec_ParseNum.l0.eq_2 ..) ?_
      simp only [if_pos (blt_at h)]
      by_cases c0 : (pre.length : Int) < 8
      · simp only [c0, decide_true]
        refine Ev.step (fun k => spec_ParseNum.j1.eq_2 ..) ?_
        simp only [if_true, if_pos (nonneg_at _), if_pos (blt_at h), bt_at' h, specDigit1, Option.bind_some, dig_eq]
        cases hc : isDig c with
        | false =>
          simp only [Bool.false_eq_true, if_false]
          rw [numR_no (fun hh => by have := hh.1.2.1 c (by rw [h]; simp); rw [hc] at this; cases this)]
          exact Ev.now _
        | true =>
          have hc' := hc
          unfold isDig at hc'
          obtain ⟨c1, c2⟩ := of_decide_eq_true hc'
          have e1 : ((c.toNat : Int) - 48) % 256 = ((c.toNat - 48 : Nat) : Int) := by omega
          by_cases c8 : pre.length = 7
          · -- the eighth digit: whatever it is worth
            have hv8 : (val pre : Int) < 10000000 ∨ True := .inr trivial
            simp only [if_true, bnext_at h hm, e1, wrap_id (x := (val pre : Int) * 10) (by omega) (by omega)]
            rw [wrap_id (by omega) (by omega), show ((val pre : Int) * 10 + ((c.toNat - 48 : Nat) : Int)) = ((val (pre ++ [c]) : Nat) : Int) by rw [val_snoc]; omega]
            refine Ev.step (fun k => spec_ParseNum.l0.eq_2 ..) ?_
            have h' : bl s = (pre ++ [c]) ++ suf := by rw [h]; simp
            have hd' : ∀ x ∈ pre ++ [c], isDig x = true := fun x hx => (List.mem_append.1 hx).elim (hd x) (fun hx => by simp only [List.mem_singleton] at hx; rw [hx]; exact hc)
            have h8 : 8 ≤ (pre ++ [c]).length := by simp only [List.length_append, List.length_cons, List.length_nil]; omega
            by_cases c9 : (((pre ++ [c]).length : Nat) : Int) < (s.size : Int)
            · simp only [if_pos c9]
              rw [show decide ((((pre ++ [c]).length : Nat) : Int) < 8) = false from decide_eq_false (by omega)]
              exact fin _ suf _ h' hd' (.inr h8)
            · simp only [if_neg c9]
              exact fin _ suf _ h' hd' (.inr h8)
          · simp only [if_true, bnext_at h hm, e1, wrap_id (x := (val pre : Int) * 10) (by omega) (by omega)]
            rw [wrap_id (by omega) (by omega), show ((val pre : Int) * 10 + ((c.toNat - 48 : Nat) : Int)) = ((val (pre ++ [c]) : Nat) : Int) by rw [val_snoc]; omega]
            refine ih (pre ++ [c]) (snoc_at h) (fun x hx => (List.mem_append.1 hx).elim (hd x) (fun hx => by simp only [List.mem_singleton] at hx; rw [hx]; exact hc)) (by simp only [List.length_append, List.length_cons, List.length_nil]; omega) ?_
            have hb : ∀ (l : List UInt8), (∀ x ∈ l, isDig x = true) → val l < 10 ^ l.length := by
              intro l
              have : ∀ (l : List UInt8) (acc : Nat), (∀ x ∈ l, isDig x = true) → l.foldl (fun a c => a * 10 + (c.toNat - 48)) acc < (acc + 1) * 10 ^ l.length := by
                intro l
                induction l with
                | nil => intro acc _; simp
                | cons x l ihl =>
                  intro acc hx
                  have hx1 := hx x (by simp)
                  unfold isDig at hx1
                  obtain ⟨x1, x2⟩ := of_decide_eq_true hx1
                  have := ihl (acc * 10 + (x.toNat - 48)) (fun y hy => hx y (List.mem_cons_of_mem _ hy))
                  simp only [List.foldl_cons, List.length_cons, Nat.pow_succ]
                  refine Nat.lt_of_lt_of_le this ?_
                  have h10 : acc * 10 + (x.toNat - 48) + 1 ≤ (acc + 1) * 10 := by omega
                  calc (acc * 10 + (x.toNat - 48) + 1) * 10 ^ l.length ≤ ((acc + 1) * 10) * 10 ^ l.length := Nat.mul_le_mul_right _ h10
                    _ = (acc + 1) * (10 ^ l.length * 10) := by rw [Nat.mul_assoc, Nat.mul_comm 10]
              intro hx
              have := this l 0 hx
              simpa [val] using this
            have h7 := hb (pre ++ [c]) (fun x hx => (List.mem_append.1 hx).elim (hd x) (fun hx => by simp only [List.mem_singleton] at hx; rw [hx]; exact hc))
            have h9 : (pre ++ [c]).length ≤ 7 := by simp only [List.length_append, List.length_cons, List.length_nil]; omega
            have h10 : 10 ^ (pre ++ [c]).length ≤ 10 ^ 7 := Nat.pow_le_pow_right (by omega) h9
            omega
      · rw [show decide ((pre.length : Int) < 8) = false from decide_eq_false c0]
        exact fin pre (c :: suf) _ h hd (.inr (by omega))
  have := key (bl s) [] rfl (fun _ h => by simp at h) (by simp) (by decide)
  unfold spec_ParseNum.f
  simpa [val] using this
end Go.Proofs.YtigoeooelfeopaaDoor.L
