-- PRINTED by print.py (a twelfth state) out of the translation. Not trusted: Lean checks it.
import Derived.Test.YtigoeooelfeopaaGreatDoorVFnIfsG24
set_option maxHeartbeats 8000000
set_option maxRecDepth 100000
namespace Go.Proofs.YtigoeooelfeopaaGreatDoor.Q
open Go.RowKit Go.Proofs.YtigoeooelfeopaaGreatDoorW.PrintWords Go.Proofs.YtigoeooelfeopaaGreatDoorW.PrintLast Go.Proofs.YtigoeooelfeopaaGreatDoorW.PrintMore
attribute [local go_sem] max2_int min2_int max_two min_two max_three min_three max_four min_four   -- for this text's walks alone
set_option linter.unusedVariables false
set_option linter.unusedSimpArgs false
theorem bIQx60_ {P : Prop} (h : P := by repeat (first | (with_reducible first | exact HB.out | apply below_alloc | apply pw_below_drewN | apply below_drew1 | refine below_set ?_ (IsS53.ge HI0.out)) | exact HB.out)) : P := h
theorem bIQx61_ {P : Prop} (h : P := by repeat (first | (with_reducible first | exact HI0.out | apply IsS53.alloc | apply IsS53.drewN | apply IsS53.drew | apply IsS53.set_0 | apply IsS53.set_1 | apply IsS53.set_2) | exact HI0.out)) : P := h
mutual
def impl_IfText.l0 : Nat → List (List (S43)) → List ByteArray → List (List (S43)) → Int → Int → Option (ByteArray)
 | 0, _, _, _, _, _ => none
 | k + 1, x0, x3, x13, x14, x15 => if x15 < x14 then (if 0 ≤ x15 then (if x15 < (x13.length : Int) then (impl_IfText.l1 k x0 x3 ([] : List ByteArray) x13 x14 x15 (rd_L5 x13 x15) ((rd_L5 x13 x15).length : Int) 0) else (none)) else (none)) else ((strings_Join.f x3 (⟨#[32]⟩ : ByteArray)).bind fun t296 => ((impl_ParseIf.f k t296).bind fun bt297 => (if bt297.2 = true then ((impl_sameConds.f k bt297.1 x0).bind fun t301 => (if t301 = true then (some t296) else (some (⟨#[]⟩ : ByteArray)))) else (some (⟨#[]⟩ : ByteArray)))))
def impl_IfText.l1 : Nat → List (List (S43)) → List ByteArray → List ByteArray → List (List (S43)) → Int → Int → List (S43) → Int → Int → Option (ByteArray)
 | 0, _, _, _, _, _, _, _, _, _ => none
 | k + 1, x0, x3, x6, x13, x14, x15, x19, x20, x21 => if x21 < x20 then (if 0 ≤ x21 then (if x21 < (x19.length : Int) then (if 1 + ((rd_T43 x19 x21).f2).size ≤ 9223372036854775807 then (if ((⟨#[91]⟩ : ByteArray) ++ ((rd_T43 x19 x21).f2)).size + 1 ≤ 9223372036854775807 then (if ((rd_T43 x19 x21).f1) = 0 then (if (rd_T43 x19 x21).f0 = true then (if 4 + (((⟨#[91]⟩ : ByteArray) ++ ((rd_T43 x19 x21).f2)) ++ (⟨#[93]⟩ : ByteArray)).size ≤ 9223372036854775807 then (if x6.length < 8796093022208 then (impl_IfText.l1 k x0 x3 (x6 ++ [(⟨#[78, 111, 116, 32]⟩ : ByteArray) ++ (((⟨#[91]⟩ : ByteArray) ++ ((rd_T43 x19 x21).f2)) ++ (⟨#[93]⟩ : ByteArray))]) x13 x14 x15 x19 x20 (wrap64 (x21 + 1))) else (none)) else (none)) else (if x6.length < 8796093022208 then (impl_IfText.l1 k x0 x3 (x6 ++ [((⟨#[91]⟩ : ByteArray) ++ ((rd_T43 x19 x21).f2)) ++ (⟨#[93]⟩ : ByteArray)]) x13 x14 x15 x19 x20 (wrap64 (x21 + 1))) else (none))) else ((impl_NumText.f ((rd_T43 x19 x21).f1)).bind fun t289 => (if 1 + t289.size ≤ 9223372036854775807 then (if ((⟨#[60]⟩ : ByteArray) ++ t289).size + 1 ≤ 9223372036854775807 then (if (rd_T43 x19 x21).f0 = true then (if 4 + (((⟨#[60]⟩ : ByteArray) ++ t289) ++ (⟨#[62]⟩ : ByteArray)).size ≤ 9223372036854775807 then (if x6.length < 8796093022208 then (impl_IfText.l1 k x0 x3 (x6 ++ [(⟨#[78, 111, 116, 32]⟩ : ByteArray) ++ (((⟨#[60]⟩ : ByteArray) ++ t289) ++ (⟨#[62]⟩ : ByteArray))]) x13 x14 x15 x19 x20 (wrap64 (x21 + 1))) else (none)) else (none)) else (if x6.length < 8796093022208 then (impl_IfText.l1 k x0 x3 (x6 ++ [((⟨#[60]⟩ : ByteArray) ++ t289) ++ (⟨#[62]⟩ : ByteArray)]) x13 x14 x15 x19 x20 (wrap64 (x21 + 1))) else (none))) else (none)) else (none)))) else (none)) else (none)) else (none)) else (none)) else ((strings_Join.f x6 (⟨#[32]⟩ : ByteArray)).bind fun t277 => (if 1 + t277.size ≤ 9223372036854775807 then (if ((⟨#[40]⟩ : ByteArray) ++ t277).size + 1 ≤ 9223372036854775807 then (if x3.length < 8796093022208 then (impl_IfText.l0 k x0 (x3 ++ [((⟨#[40]⟩ : ByteArray) ++ t277) ++ (⟨#[41]⟩ : ByteArray)]) x13 x14 (wrap64 (x15 + 1))) else (none)) else (none)) else (none)))
end
def impl_IfText.f (k : Nat) (l0 : List (List (S43))) : Option (ByteArray) := impl_IfText.l0 k l0 ([] : List ByteArray) l0 (l0.length : Int) 0
theorem impl_IfText.calls (k : Nat) (A0 : Option Addr) (c0 : Nat) (l0 : List (List (S43))) (r : ByteArray) (w : World) (hr0 : Kd.C (Kd.slice 43 k43) w A0 l0.length l0) (hc0 : l0.length ≤ c0) (hGT : GT w) (hGM : GM w) (hGE : GE w) (h : impl_IfText.f k l0 = some r) :
 Calls Tryz.prog 6 #[.slice A0 l0.length c0] w fun e w' => e = .returned (.string r) ∧ Below w.heap.size w w' := by
 have HGT := A_ hGT
 have HGM := A_ hGM
 have HGE := A_ hGE
 clear hGT hGM hGE
 have hu43 := Tryz.underlying43
 have HR0 := A_ hr0
 have HC0 := A_ hc0
 clear hr0 hc0
 have HB := A_ (Below.refl w.heap.size w)
 have H : (impl_IfText.l0 k l0 ([] : List ByteArray) l0 (l0.length : Int) 0) = some r := h
 clear h
 have H' := A_ H
 clear H
 go_enter Tryz.func6, Tryz.ntmps6
 go_wp2
 go_loopg [3, 15] k (fun kq v3 v15 w' => ∃ (x3_1 : List ByteArray) (x15_1 : Int), v15 = .int .i64 x15_1 ∧ Aside0 (impl_IfText.l0 kq l0 x3_1 l0 (l0.length : Int) x15_1 = some r) ∧ Aside0 (kq ≤ k) ∧ Aside0 (Kd.R Kd.string 9 w' w.heap.size (fun _ => True) v3 x3_1) ∧ Aside0 (Below w.heap.size w w'))
 case atStart => exact ⟨(([] : List ByteArray)), (0), rs_, H', ⟨Nat.le_refl _⟩, ⟨by first | exact Kd.R_nil _ _ _ _ _ | exact Kd.N_nil _ _ _ _ _ | exact Kd.V_nil _ _ _ _ _ | exact Kd.Q_nil _ _ _ _ _ | exact Kd.S_nil _ _ _ _ _⟩, ⟨bB_⟩⟩
 case round =>
  clear H'
  obtain ⟨x3_1, x15_1, rfl, HA, HK1, HO_3, HB⟩ := hrel
  cases gk with
  | zero => exact absurd HA.out (by simp [impl_IfText.l0])
  | succ k1 =>
   have H := HA.out
   clear HA
   simp only [impl_IfText.l0] at H
   by_cases c2 : x15_1 < (l0.length : Int)
   rotate_left
   · rw [if_neg c2] at H
     have c2b0 : decide (x15_1 < (l0.length : Int)) = false := decide_eq_false c2
     clear c2
     obtain ⟨t296, A47, H⟩ := bo_ H
     (try dsimp only at H)
     obtain ⟨⟨t297, t298⟩, A48, H⟩ := bo_ H
     (try dsimp only at H)
     by_cases c49 : t298 = true
     · subst c49
       rw [if_pos rfl] at H
       obtain ⟨t301, A50, H⟩ := bo_ H
       (try dsimp only at H)
       by_cases c51 : t301 = true
       · subst c51
         rw [if_pos rfl] at H
         obtain rfl := si_ H
         obtain ⟨Ao52, co52, eo52⟩ := Kd.R_slice HO_3.out
         subst eo52
         go_wp2_with (first | ((with_reducible refine gc_ (f := 22) rfl ?_); refine gL_ (some 55) Tryz.func22 #[.slice Ao52 x3_1.length co52, .string (⟨#[32]⟩ : ByteArray)] ?_; (with_reducible refine (strings_Join.calls _ _ x3_1 (⟨#[32]⟩ : ByteArray) t296 _ ?s1 ?s2 A47.out).mono ?_); (case s1 => exact cC_ (Kd.R_reads' HO_3.out).2.2); (case s2 => exact (Kd.R_reads' HO_3.out).2.1); rintro e w53 ⟨rfl, hb⟩; refine ⟨_, rfl, ?_⟩; replace HO_3 := A_ (Kd.R_below (vR_ HO_3.out) hb); replace HB := A_ (below_step bB_ hb); (try clear hb)) | ((with_reducible refine gc_ (f := 8) rfl ?_); refine gL_ (some 58) Tryz.func8 #[.string t296] ?_; (with_reducible refine (impl_ParseIf.calls k1 t296 t297 true _ ?gT31 ?gM31 ?gE31 A48.out).mono ?_); (case gT31 => first | exact gT_ HGT.out (bG_ GE282.out) | exact gT_ HGT.out bB_); (case gM31 => first | exact gM_ HGM.out (bG_ GE282.out) | exact gM_ HGM.out bB_); (case gE31 => first | exact gE_ HGE.out (bG_ GE282.out) | exact gE_ HGE.out bB_); rintro e w54 ⟨v299, rfl, ho0, hb⟩; refine ⟨_, rfl, ?_⟩; replace HO_3 := A_ (Kd.R_below (vR_ HO_3.out) hb); have HO300 := A_ (Kd.S_lower ho0 (below_size bB_)); replace HB := A_ (below_step bB_ hb); (try clear hb); (try clear ho0); obtain ⟨Ao55, co55, eo55⟩ := Kd.S_slice HO300.out; subst eo55) | (go_at_call 23; (with_reducible refine (impl_sameConds.calls k1 _ _ t297 _ _ l0 true _ ?s1 ?s2 ?s3 ?s4 A50.out).mono ?_); (case s1 => exact cC_ (Kd.S_reads' HO300.out).2.2); (case s2 => exact (Kd.S_reads' HO300.out).2.1); (case s3 => exact cC_ (Kd.C_below HR0.out HB.out)); (case s4 => exact HC0.out); rintro e w' ⟨rfl, ⟨nd, rfl⟩⟩))
         go_ret
         exact ⟨rr_, bB_⟩
       · replace c51 := Bool.eq_false_iff.mpr c51
         subst c51
         rw [if_neg nf_] at H
         obtain rfl := si_ H
         obtain ⟨Ao56, co56, eo56⟩ := Kd.R_slice HO_3.out
         subst eo56
         go_wp2_with (first | ((with_reducible refine gc_ (f := 22) rfl ?_); refine gL_ (some 55) Tryz.func22 #[.slice Ao56 x3_1.length co56, .string (⟨#[32]⟩ : ByteArray)] ?_; (with_reducible refine (strings_Join.calls _ _ x3_1 (⟨#[32]⟩ : ByteArray) t296 _ ?s1 ?s2 A47.out).mono ?_); (case s1 => exact cC_ (Kd.R_reads' HO_3.out).2.2); (case s2 => exact (Kd.R_reads' HO_3.out).2.1); rintro e w57 ⟨rfl, hb⟩; refine ⟨_, rfl, ?_⟩; replace HO_3 := A_ (Kd.R_below (vR_ HO_3.out) hb); replace HB := A_ (below_step bB_ hb); (try clear hb)) | ((with_reducible refine gc_ (f := 8) rfl ?_); refine gL_ (some 58) Tryz.func8 #[.string t296] ?_; (with_reducible refine (impl_ParseIf.calls k1 t296 t297 true _ ?gT32 ?gM32 ?gE32 A48.out).mono ?_); (case gT32 => first | exact gT_ HGT.out (bG_ GE282.out) | exact gT_ HGT.out bB_); (case gM32 => first | exact gM_ HGM.out (bG_ GE282.out) | exact gM_ HGM.out bB_); (case gE32 => first | exact gE_ HGE.out (bG_ GE282.out) | exact gE_ HGE.out bB_); rintro e w58 ⟨v299, rfl, ho0, hb⟩; refine ⟨_, rfl, ?_⟩; replace HO_3 := A_ (Kd.R_below (vR_ HO_3.out) hb); have HO300 := A_ (Kd.S_lower ho0 (below_size bB_)); replace HB := A_ (below_step bB_ hb); (try clear hb); (try clear ho0); obtain ⟨Ao59, co59, eo59⟩ := Kd.S_slice HO300.out; subst eo59) | (go_at_call 23; (with_reducible refine (impl_sameConds.calls k1 _ _ t297 _ _ l0 false _ ?s1 ?s2 ?s3 ?s4 A50.out).mono ?_); (case s1 => exact cC_ (Kd.S_reads' HO300.out).2.2); (case s2 => exact (Kd.S_reads' HO300.out).2.1); (case s3 => exact cC_ (Kd.C_below HR0.out HB.out)); (case s4 => exact HC0.out); rintro e w' ⟨rfl, ⟨nd, rfl⟩⟩))
         go_ret
         exact ⟨rr_, bB_⟩
     · replace c49 := Bool.eq_false_iff.mpr c49
       subst c49
       rw [if_neg nf_] at H
       obtain rfl := si_ H
       obtain ⟨Ao60, co60, eo60⟩ := Kd.R_slice HO_3.out
       subst eo60
       go_wp2_with (first | ((with_reducible refine gc_ (f := 22) rfl ?_); refine gL_ (some 55) Tryz.func22 #[.slice Ao60 x3_1.length co60, .string (⟨#[32]⟩ : ByteArray)] ?_; (with_reducible refine (strings_Join.calls _ _ x3_1 (⟨#[32]⟩ : ByteArray) t296 _ ?s1 ?s2 A47.out).mono ?_); (case s1 => exact cC_ (Kd.R_reads' HO_3.out).2.2); (case s2 => exact (Kd.R_reads' HO_3.out).2.1); rintro e w61 ⟨rfl, hb⟩; refine ⟨_, rfl, ?_⟩; replace HO_3 := A_ (Kd.R_below (vR_ HO_3.out) hb); replace HB := A_ (below_step bB_ hb); (try clear hb)) | ((with_reducible refine gc_ (f := 8) rfl ?_); refine gL_ (some 58) Tryz.func8 #[.string t296] ?_; (with_reducible refine (impl_ParseIf.calls k1 t296 t297 false _ ?gT33 ?gM33 ?gE33 A48.out).mono ?_); (case gT33 => first | exact gT_ HGT.out (bG_ GE282.out) | exact gT_ HGT.out bB_); (case gM33 => first | exact gM_ HGM.out (bG_ GE282.out) | exact gM_ HGM.out bB_); (case gE33 => first | exact gE_ HGE.out (bG_ GE282.out) | exact gE_ HGE.out bB_); rintro e w62 ⟨v299, rfl, ho0, hb⟩; refine ⟨_, rfl, ?_⟩; replace HO_3 := A_ (Kd.R_below (vR_ HO_3.out) hb); have HO300 := A_ (Kd.S_lower ho0 (below_size bB_)); replace HB := A_ (below_step bB_ hb); (try clear hb); (try clear ho0)))
       go_ret
       exact ⟨rr_, bB_⟩
   rw [if_pos c2] at H
   have c2b0 : decide (x15_1 < (l0.length : Int)) = true := decide_eq_true c2
   clear c2
   by_cases c3 : 0 ≤ x15_1
   rotate_left
   · exact absurd H (by rw [if_neg c3]; simp)
   rw [if_pos c3] at H
   have c3b0 : decide (0 ≤ x15_1) = true := decide_eq_true c3
   clear c3
   by_cases c4 : x15_1 < (l0.length : Int)
   rotate_left
   · exact absurd H (by rw [if_neg c4]; simp)
   rw [if_pos c4] at H
   have c4b0 : decide (x15_1 < (l0.length : Int)) = true := decide_eq_true c4
   clear c4
   have H' := A_ H
   clear H
   have p276 : 0 ≤ (x15_1 : Int) := od_
   have q276 : x15_1 < (l0.length : Int) := od_
   obtain ⟨ad276, A276_0, c276_0, e276, hx276_0, hl276_0, hi276_0⟩ := at_L5 HR0.out x15_1 p276 q276
   cases e276
   replace hx276_0 := bc_ HB.out hx276_0
   have HR276_0 := A_ hi276_0
   have HC276_0 := A_ hl276_0
   clear hi276_0 hl276_0
   replace p276 := eq_true p276
   replace q276 := eq_true q276
   go_wp2
   go_loopg [6, 21] k1 (fun kq v6 v21 w' => ∃ (x6_2 : List ByteArray) (x21_2 : Int), v21 = .int .i64 x21_2 ∧ Aside0 (impl_IfText.l1 kq l0 x3_1 x6_2 l0 (l0.length : Int) x15_1 (rd_L5 l0 x15_1) ((rd_L5 l0 x15_1).length : Int) x21_2 = some r) ∧ Aside0 (kq ≤ k1) ∧ Aside0 (Kd.R Kd.string 9 w' w.heap.size (fun k_ => some k_ ≠ (v6 : Value).ownBlock) u3 x3_1) ∧ Aside0 (Kd.R Kd.string 9 w' w.heap.size (fun k_ => some k_ ≠ (u3 : Value).ownBlock) v6 x6_2) ∧ Aside0 (Below w.heap.size w w'))
   case atStart => exact ⟨(([] : List ByteArray)), (0), rs_, H', ⟨Nat.le_refl _⟩, ⟨by (with_reducible repeat (first | apply Kd.R_alloc | apply Kd.R_drewN | apply Kd.R_drew)); exact Kd.R_mono HO_3.out (fun _ hk => (by simp [Value.ownBlock]))⟩, ⟨by first | exact Kd.R_nil _ _ _ _ _ | exact Kd.N_nil _ _ _ _ _ | exact Kd.V_nil _ _ _ _ _ | exact Kd.Q_nil _ _ _ _ _ | exact Kd.S_nil _ _ _ _ _⟩, ⟨bB_⟩⟩
   case round =>
    clear H'
    try clear c2
    try clear c2b0
    try clear p2
    try clear q2
    try clear hx2
    try clear c3
    try clear c3b0
    try clear c4
    try clear c4b0
    try clear hx276_0
    try clear p276
    try clear q276
    obtain ⟨x6_2, x21_2, rfl, HA, HK2, HO_3, HO_6, HB⟩ := hrel
    cases gk with
    | zero => exact absurd HA.out (by simp [impl_IfText.l1])
    | succ k2 =>
     have H := HA.out
     clear HA
     simp only [impl_IfText.l1] at H
     by_cases c5 : x21_2 < ((rd_L5 l0 x15_1).length : Int)
     rotate_left
     · rw [if_neg c5] at H
       have c5b0 : decide (x21_2 < ((rd_L5 l0 x15_1).length : Int)) = false := decide_eq_false c5
       clear c5
       obtain ⟨t277, A40, H⟩ := bo_ H
       (try dsimp only at H)
       by_cases c41 : 1 + t277.size ≤ 9223372036854775807
       rotate_left
       · exact absurd H (by rw [if_neg c41]; simp)
       rw [if_pos c41] at H
       have c41b0 := eq_true c41
       have c41b1 : decide (1 + t277.size ≤ 9223372036854775807) = true := decide_eq_true c41
       try have c41b2 : (9223372036854775807 < 1 + t277.size) = False := eq_false (Nat.not_lt.2 c41)
       by_cases c42 : ((⟨#[40]⟩ : ByteArray) ++ t277).size + 1 ≤ 9223372036854775807
       rotate_left
       · exact absurd H (by rw [if_neg c42]; simp)
       rw [if_pos c42] at H
       have c42b0 := eq_true c42
       have c42b1 : decide (((⟨#[40]⟩ : ByteArray) ++ t277).size + 1 ≤ 9223372036854775807) = true := decide_eq_true c42
       try have c42b2 : (9223372036854775807 < ((⟨#[40]⟩ : ByteArray) ++ t277).size + 1) = False := eq_false (Nat.not_lt.2 c42)
       try have c42b3 : (9223372036854775807 < 1 + t277.size + 1) = False := eq_false (Nat.not_lt.2 (by have h_ := c42; simp only [ByteArray.size_append] at h_; exact h_))
       by_cases c43 : x3_1.length < 8796093022208
       rotate_left
       · exact absurd H (by rw [if_neg c43]; simp)
       rw [if_pos c43] at H
       have LMc43 := A_ c43
       clear c43
       obtain ⟨y278, hy278⟩ : ∃ y_ : List ByteArray, y_ = (x3_1 ++ [((⟨#[40]⟩ : ByteArray) ++ t277) ++ (⟨#[41]⟩ : ByteArray)]) := ⟨_, rfl⟩
       replace H : (impl_IfText.l0 k2 l0 y278 l0 (l0.length : Int) (wrap64 (x15_1 + 1))) = some r := hy_ hy278 H
       have Ny278 := A_ hy278
       clear hy278
       have H' := A_ H
       clear H
       obtain ⟨Ao44, co44, eo44⟩ := Kd.R_slice HO_6.out
       subst eo44
       go_wp2_with (first | ((with_reducible refine gc_ (f := 22) rfl ?_); refine gL_ (some 48) Tryz.func22 #[.slice Ao44 x6_2.length co44, .string (⟨#[32]⟩ : ByteArray)] ?_; (with_reducible refine (strings_Join.calls _ _ x6_2 (⟨#[32]⟩ : ByteArray) t277 _ ?s1 ?s2 A40.out).mono ?_); (case s1 => exact cC_ (Kd.R_reads' HO_6.out).2.2); (case s2 => exact (Kd.R_reads' HO_6.out).2.1); rintro e w45 ⟨rfl, hb⟩; refine ⟨_, rfl, ?_⟩; replace HO_3 := A_ (Kd.R_below (vR_ HO_3.out) hb); replace HO_6 := A_ (Kd.R_below (vR_ HO_6.out) hb); replace HB := A_ (below_step bB_ hb); (try clear hb); (try clear hk)) | ((with_reducible refine gate_builtin (b := .append) (xs := #[.tmp 46, .tmp 51]) rfl ?_); at_builtin; refine Kd.R_append Kd.string (w0 := w) w.heap.size rfl (.tmp 46) (.tmp 51) 40 9 (.string ⟨#[]⟩) 16 rfl Tryz.underlying40 info9 rfl (by decide) (by omega) u3 x3_1 (((⟨#[40]⟩ : ByteArray) ++ t277) ++ (⟨#[41]⟩ : ByteArray)) [.string (((⟨#[40]⟩ : ByteArray) ++ t277) ++ (⟨#[41]⟩ : ByteArray))] (fun k_ => some k_ ≠ (.slice Ao44 x6_2.length co44 : Value).ownBlock) (fun _ => False) rfl rfl ?aP (fun _ hk => hk.elim) ?aF ?aO ?aB ?aS ?aL ?_; (case aP => exact rfl); (case aB => exact bB_); (case aF => exact (fun k_ hk => Kd.fresh' (Kd.R_lt (vR_ HO_6.out)) k_ hk)); (case aO => exact (vR_ HO_3.out)); (case aS => exact (below_size bB_)); (case aL => have := LMc43.out; omega); intro v279 w46 ho hb hg hat; rw [← Ny278.out] at ho; replace HO_6 := A_ (Kd.R_after (ok := (fun _ => True)) (by (with_reducible repeat (first | apply Kd.R_alloc | apply Kd.R_drewN | apply Kd.R_drew)); exact Kd.R_mono HO_6.out (fun _ hk => ⟨trivial, hk⟩)) hg hat); replace HB := A_ (hb); have HO280 := A_ (ho); clear HO_3; clear ho hb hg hat))
       go_roundg k2
       case measure => have := HK1.out; have := HK2.out; omega
       case rel => exact ⟨(y278), (wrap64 (x15_1 + 1)), rs_, H', ⟨by have := HK1.out; have := HK2.out; omega⟩, ⟨by (with_reducible repeat (first | apply Kd.R_alloc | apply Kd.R_drewN | apply Kd.R_drew)); exact Kd.R_mono HO280.out (fun _ hk => trivial)⟩, ⟨bB_⟩⟩
     rw [if_pos c5] at H
     have c5b0 : decide (x21_2 < ((rd_L5 l0 x15_1).length : Int)) = true := decide_eq_true c5
     clear c5
     by_cases c6 : 0 ≤ x21_2
     rotate_left
     · exact absurd H (by rw [if_neg c6]; simp)
     rw [if_pos c6] at H
     have c6b0 : decide (0 ≤ x21_2) = true := decide_eq_true c6
     clear c6
     by_cases c7 : x21_2 < ((rd_L5 l0 x15_1).length : Int)
     rotate_left
     · exact absurd H (by rw [if_neg c7]; simp)
     rw [if_pos c7] at H
     have c7b0 : decide (x21_2 < ((rd_L5 l0 x15_1).length : Int)) = true := decide_eq_true c7
     clear c7
     by_cases c8 : 1 + ((rd_T43 (rd_L5 l0 x15_1) x21_2).f2).size ≤ 9223372036854775807
     rotate_left
     · exact absurd H (by rw [if_neg c8]; simp)
     rw [if_pos c8] at H
     have c8b0 := eq_true c8
     have c8b1 : decide (1 + ((rd_T43 (rd_L5 l0 x15_1) x21_2).f2).size ≤ 9223372036854775807) = true := decide_eq_true c8
     try have c8b2 : (9223372036854775807 < 1 + ((rd_T43 (rd_L5 l0 x15_1) x21_2).f2).size) = False := eq_false (Nat.not_lt.2 c8)
     by_cases c9 : ((⟨#[91]⟩ : ByteArray) ++ ((rd_T43 (rd_L5 l0 x15_1) x21_2).f2)).size + 1 ≤ 9223372036854775807
     rotate_left
     · exact absurd H (by rw [if_neg c9]; simp)
     rw [if_pos c9] at H
     have c9b0 := eq_true c9
     have c9b1 : decide (((⟨#[91]⟩ : ByteArray) ++ ((rd_T43 (rd_L5 l0 x15_1) x21_2).f2)).size + 1 ≤ 9223372036854775807) = true := decide_eq_true c9
     try have c9b2 : (9223372036854775807 < ((⟨#[91]⟩ : ByteArray) ++ ((rd_T43 (rd_L5 l0 x15_1) x21_2).f2)).size + 1) = False := eq_false (Nat.not_lt.2 c9)
     try have c9b3 : (9223372036854775807 < 1 + (rd_T43 (rd_L5 l0 x15_1) x21_2).f2.size + 1) = False := eq_false (Nat.not_lt.2 (by have h_ := c9; simp only [ByteArray.size_append] at h_; exact h_))
     by_cases c10 : ((rd_T43 (rd_L5 l0 x15_1) x21_2).f1) = 0
     · rw [if_pos c10] at H
       have c10b0 : (((rd_T43 (rd_L5 l0 x15_1) x21_2).f1) == 0) = true := beq_iff_eq.mpr c10
       have c10b1 : (((rd_T43 (rd_L5 l0 x15_1) x21_2).f1) != 0) = false := bne_eq_false_iff_eq.mpr c10
       clear c10
       obtain ⟨bq11, hbq11⟩ : ∃ b_ : Bool, b_ = ((rd_T43 (rd_L5 l0 x15_1) x21_2).f0) := ⟨_, rfl⟩
       replace H : (if bq11 = true then (if 4 + (((⟨#[91]⟩ : ByteArray) ++ ((rd_T43 (rd_L5 l0 x15_1) x21_2).f2)) ++ (⟨#[93]⟩ : ByteArray)).size ≤ 9223372036854775807 then (if x6_2.length < 8796093022208 then (impl_IfText.l1 k2 l0 x3_1 (x6_2 ++ [(⟨#[78, 111, 116, 32]⟩ : ByteArray) ++ (((⟨#[91]⟩ : ByteArray) ++ ((rd_T43 (rd_L5 l0 x15_1) x21_2).f2)) ++ (⟨#[93]⟩ : ByteArray))]) l0 (l0.length : Int) x15_1 (rd_L5 l0 x15_1) ((rd_L5 l0 x15_1).length : Int) (wrap64 (x21_2 + 1))) else (none)) else (none)) else (if x6_2.length < 8796093022208 then (impl_IfText.l1 k2 l0 x3_1 (x6_2 ++ [((⟨#[91]⟩ : ByteArray) ++ ((rd_T43 (rd_L5 l0 x15_1) x21_2).f2)) ++ (⟨#[93]⟩ : ByteArray)]) l0 (l0.length : Int) x15_1 (rd_L5 l0 x15_1) ((rd_L5 l0 x15_1).length : Int) (wrap64 (x21_2 + 1))) else (none))) = some r := by rw [← hbq11] at H; exact H
       have Nbq11 := A_ hbq11
       clear hbq11
       (try rw [← Nbq11.out])
       by_cases c12 : bq11 = true
       · subst c12
         rw [if_pos rfl] at H
         by_cases c13 : 4 + (((⟨#[91]⟩ : ByteArray) ++ ((rd_T43 (rd_L5 l0 x15_1) x21_2).f2)) ++ (⟨#[93]⟩ : ByteArray)).size ≤ 9223372036854775807
         rotate_left
         · exact absurd H (by rw [if_neg c13]; simp)
         rw [if_pos c13] at H
         have c13b0 := eq_true c13
         have c13b1 : decide (4 + (((⟨#[91]⟩ : ByteArray) ++ ((rd_T43 (rd_L5 l0 x15_1) x21_2).f2)) ++ (⟨#[93]⟩ : ByteArray)).size ≤ 9223372036854775807) = true := decide_eq_true c13
         try have c13b2 : (9223372036854775807 < 4 + (((⟨#[91]⟩ : ByteArray) ++ ((rd_T43 (rd_L5 l0 x15_1) x21_2).f2)) ++ (⟨#[93]⟩ : ByteArray)).size) = False := eq_false (Nat.not_lt.2 c13)
         try have c13b3 : (9223372036854775807 < 4 + (1 + (rd_T43 (rd_L5 l0 x15_1) x21_2).f2.size + 1)) = False := eq_false (Nat.not_lt.2 (by have h_ := c13; simp only [ByteArray.size_append] at h_; exact h_))
         by_cases c14 : x6_2.length < 8796093022208
         rotate_left
         · exact absurd H (by rw [if_neg c14]; simp)
         rw [if_pos c14] at H
         have LMc14 := A_ c14
         clear c14
         obtain ⟨y283, hy283⟩ : ∃ y_ : List ByteArray, y_ = (x6_2 ++ [(⟨#[78, 111, 116, 32]⟩ : ByteArray) ++ (((⟨#[91]⟩ : ByteArray) ++ ((rd_T43 (rd_L5 l0 x15_1) x21_2).f2)) ++ (⟨#[93]⟩ : ByteArray))]) := ⟨_, rfl⟩
         replace H : (impl_IfText.l1 k2 l0 x3_1 y283 l0 (l0.length : Int) x15_1 (rd_L5 l0 x15_1) ((rd_L5 l0 x15_1).length : Int) (wrap64 (x21_2 + 1))) = some r := hy_ hy283 H
         have Ny283 := A_ hy283
         clear hy283
         have H' := A_ H
         clear H
         have p281 : 0 ≤ (x21_2 : Int) := od_
         have q281 : x21_2 < ((rd_L5 l0 x15_1).length : Int) := od_
         obtain ⟨ad281, e281, hx281_0, hx281_1, hx281_2⟩ := at_T43 HR276_0.out x21_2 p281 q281
         (try rw [← Nbq11.out] at hx281_0)
         cases e281
         replace hx281_0 := bc_ HB.out hx281_0
         replace hx281_1 := bc_ HB.out hx281_1
         replace hx281_2 := bc_ HB.out hx281_2
         replace p281 := eq_true p281
         replace q281 := eq_true q281
         go_wp2_with (first | ((with_reducible refine gd_ (N := 8) rfl ?_); refine bx_ (N := 8) (cs := #[.bool false, .int .i64 0, .string (⟨#[]⟩ : ByteArray)]) (t := 43) ?_; intro gb282 hg w15 hbox hb; replace HO_3 := A_ (Kd.R_below (vR_ HO_3.out) hb); replace HO_6 := A_ (Kd.R_below (vR_ HO_6.out) hb); have BK282 := A_ (hbox); have GW282 := A_ (ge_ hg bB_ : w.heap.size ≤ gb282); have GE282 := A_ (ge_ hg bB_ : w.heap.size ≤ gb282); replace HB := A_ (below_step bB_ hb); clear hb hbox hg; obtain ⟨hcz16_0, hcz16_1, hcz16_2, hfz16_0, hfz16_1, hfz16_2⟩ := cz3_ BK282.out) | ((with_reducible refine gate_builtin (b := .append) (xs := #[.tmp 41, .tmp 43]) rfl ?_); at_builtin; refine Kd.R_append Kd.string (w0 := w) w.heap.size rfl (.tmp 41) (.tmp 43) 40 9 (.string ⟨#[]⟩) 16 rfl Tryz.underlying40 info9 rfl (by decide) (by omega) u6 x6_2 ((⟨#[78, 111, 116, 32]⟩ : ByteArray) ++ (((⟨#[91]⟩ : ByteArray) ++ ((rd_T43 (rd_L5 l0 x15_1) x21_2).f2)) ++ (⟨#[93]⟩ : ByteArray))) [.string ((⟨#[78, 111, 116, 32]⟩ : ByteArray) ++ (((⟨#[91]⟩ : ByteArray) ++ ((rd_T43 (rd_L5 l0 x15_1) x21_2).f2)) ++ (⟨#[93]⟩ : ByteArray)))] (fun k_ => some k_ ≠ (u3 : Value).ownBlock) (fun _ => False) rfl (by first | (go_simp; done) | (go_simp; rfl)) ?aP (fun _ hk => hk.elim) ?aF ?aO ?aB ?aS ?aL ?_; (case aP => exact rfl); (case aB => exact (bG_ GE282.out)); (case aF => exact (fun k_ hk => Kd.fresh' (Kd.R_lt (by (with_reducible repeat (first | apply Kd.R_alloc | apply Kd.R_drewN | apply Kd.R_drew)); exact (Kd.R_mono (Kd.R_far (p := ⟨gb282, 2, none⟩) (Kd.R_far (p := ⟨gb282, 1, none⟩) (Kd.R_far (p := ⟨gb282, 0, none⟩) (Kd.R_types HO_3.out BK282.out (by decide)) (fun _ hk => hk.2) (.bool true)) (fun _ hk => hk.2) (.int .i64 ((rd_T43 (rd_L5 l0 x15_1) x21_2).f1))) (fun _ hk => hk.2) (.string ((rd_T43 (rd_L5 l0 x15_1) x21_2).f2))) (fun _ h_ => h_.1)))) k_ hk)); (case aO => exact (by (with_reducible repeat (first | apply Kd.R_alloc | apply Kd.R_drewN | apply Kd.R_drew)); exact Kd.R_mono (Kd.R_far (p := ⟨gb282, 2, none⟩) (Kd.R_far (p := ⟨gb282, 1, none⟩) (Kd.R_far (p := ⟨gb282, 0, none⟩) (Kd.R_types HO_6.out BK282.out (by decide)) (fun _ hk => hk.2) (.bool true)) (fun _ hk => hk.2) (.int .i64 ((rd_T43 (rd_L5 l0 x15_1) x21_2).f1))) (fun _ hk => hk.2) (.string ((rd_T43 (rd_L5 l0 x15_1) x21_2).f2))) (fun _ hk => hk.1))); (case aS => exact (below_size (bG_ GE282.out))); (case aL => have := LMc14.out; omega); intro v284 w17 ho hb hg hat; rw [← Ny283.out] at ho; replace HO_3 := A_ (Kd.R_after (ok := (fun _ => True)) (by (with_reducible repeat (first | apply Kd.R_alloc | apply Kd.R_drewN | apply Kd.R_drew)); exact Kd.R_mono (Kd.R_far (p := ⟨gb282, 2, none⟩) (Kd.R_far (p := ⟨gb282, 1, none⟩) (Kd.R_far (p := ⟨gb282, 0, none⟩) (Kd.R_types HO_3.out BK282.out (by decide)) (fun _ hk => hk.2) (.bool true)) (fun _ hk => hk.2) (.int .i64 ((rd_T43 (rd_L5 l0 x15_1) x21_2).f1))) (fun _ hk => hk.2) (.string ((rd_T43 (rd_L5 l0 x15_1) x21_2).f2))) (fun _ hk => ⟨trivial, hk.1⟩)) hg hat); replace BK282 := A_ (blk_grown (g := gb282) (o := .cells #[.bool true, .int .i64 ((rd_T43 (rd_L5 l0 x15_1) x21_2).f1), .string ((rd_T43 (rd_L5 l0 x15_1) x21_2).f2)] 43 (0, 0)) (by (with_reducible repeat (first | refine blk_drewN ?_ _ | refine blk_drew ?_ | refine blk_alloc ?_ _)); refine blk_put (cs := #[.bool true, .int .i64 ((rd_T43 (rd_L5 l0 x15_1) x21_2).f1), .string (⟨#[]⟩ : ByteArray)]) ?_ 2 _ rfl; (with_reducible repeat (first | refine blk_drewN ?_ _ | refine blk_drew ?_ | refine blk_alloc ?_ _)); refine blk_put (cs := #[.bool true, .int .i64 0, .string (⟨#[]⟩ : ByteArray)]) ?_ 1 _ rfl; (with_reducible repeat (first | refine blk_drewN ?_ _ | refine blk_drew ?_ | refine blk_alloc ?_ _)); refine blk_put (cs := #[.bool false, .int .i64 0, .string (⟨#[]⟩ : ByteArray)]) ?_ 0 _ rfl; (with_reducible repeat (first | refine blk_drewN ?_ _ | refine blk_drew ?_ | refine blk_alloc ?_ _)); exact BK282.out) hg (Kd.R_ne HO_6.out BK282.out (by decide))); replace HB := A_ (hb); have HO285 := A_ (ho); clear HO_6; clear ho hb hg hat))
         go_roundg k2
         case measure => have := HK1.out; have := HK2.out; omega
         case rel => (try rw [← Nbq11.out]); exact ⟨(y283), (wrap64 (x21_2 + 1)), rs_, H', ⟨by have := HK1.out; have := HK2.out; omega⟩, ⟨by (with_reducible repeat (first | apply Kd.R_alloc | apply Kd.R_drewN | apply Kd.R_drew)); exact Kd.R_mono HO_3.out (fun _ hk => hk.2)⟩, ⟨vR_ HO285.out⟩, ⟨bG_ GE282.out⟩⟩
       · replace c12 := Bool.eq_false_iff.mpr c12
         subst c12
         rw [if_neg nf_] at H
         by_cases c18 : x6_2.length < 8796093022208
         rotate_left
         · exact absurd H (by rw [if_neg c18]; simp)
         rw [if_pos c18] at H
         have LMc18 := A_ c18
         clear c18
         obtain ⟨y286, hy286⟩ : ∃ y_ : List ByteArray, y_ = (x6_2 ++ [((⟨#[91]⟩ : ByteArray) ++ ((rd_T43 (rd_L5 l0 x15_1) x21_2).f2)) ++ (⟨#[93]⟩ : ByteArray)]) := ⟨_, rfl⟩
         replace H : (impl_IfText.l1 k2 l0 x3_1 y286 l0 (l0.length : Int) x15_1 (rd_L5 l0 x15_1) ((rd_L5 l0 x15_1).length : Int) (wrap64 (x21_2 + 1))) = some r := hy_ hy286 H
         have Ny286 := A_ hy286
         clear hy286
         have H' := A_ H
         clear H
         have p281 : 0 ≤ (x21_2 : Int) := od_
         have q281 : x21_2 < ((rd_L5 l0 x15_1).length : Int) := od_
         obtain ⟨ad281, e281, hx281_0, hx281_1, hx281_2⟩ := at_T43 HR276_0.out x21_2 p281 q281
         (try rw [← Nbq11.out] at hx281_0)
         cases e281
         replace hx281_0 := bc_ HB.out hx281_0
         replace hx281_1 := bc_ HB.out hx281_1
         replace hx281_2 := bc_ HB.out hx281_2
         replace p281 := eq_true p281
         replace q281 := eq_true q281
         go_wp2_with (first | ((with_reducible refine gd_ (N := 8) rfl ?_); refine bx_ (N := 8) (cs := #[.bool false, .int .i64 0, .string (⟨#[]⟩ : ByteArray)]) (t := 43) ?_; intro gb282 hg w19 hbox hb; replace HO_3 := A_ (Kd.R_below (vR_ HO_3.out) hb); replace HO_6 := A_ (Kd.R_below (vR_ HO_6.out) hb); have BK282 := A_ (hbox); have GW282 := A_ (ge_ hg bB_ : w.heap.size ≤ gb282); have GE282 := A_ (ge_ hg bB_ : w.heap.size ≤ gb282); replace HB := A_ (below_step bB_ hb); clear hb hbox hg; obtain ⟨hcz20_0, hcz20_1, hcz20_2, hfz20_0, hfz20_1, hfz20_2⟩ := cz3_ BK282.out) | ((with_reducible refine gate_builtin (b := .append) (xs := #[.tmp 41, .tmp 43]) rfl ?_); at_builtin; refine Kd.R_append Kd.string (w0 := w) w.heap.size rfl (.tmp 41) (.tmp 43) 40 9 (.string ⟨#[]⟩) 16 rfl Tryz.underlying40 info9 rfl (by decide) (by omega) u6 x6_2 (((⟨#[91]⟩ : ByteArray) ++ ((rd_T43 (rd_L5 l0 x15_1) x21_2).f2)) ++ (⟨#[93]⟩ : ByteArray)) [.string (((⟨#[91]⟩ : ByteArray) ++ ((rd_T43 (rd_L5 l0 x15_1) x21_2).f2)) ++ (⟨#[93]⟩ : ByteArray))] (fun k_ => some k_ ≠ (u3 : Value).ownBlock) (fun _ => False) rfl (by first | (go_simp; done) | (go_simp; rfl)) ?aP (fun _ hk => hk.elim) ?aF ?aO ?aB ?aS ?aL ?_; (case aP => exact rfl); (case aB => exact (bG_ GE282.out)); (case aF => exact (fun k_ hk => Kd.fresh' (Kd.R_lt (by (with_reducible repeat (first | apply Kd.R_alloc | apply Kd.R_drewN | apply Kd.R_drew)); exact (Kd.R_mono (Kd.R_far (p := ⟨gb282, 2, none⟩) (Kd.R_far (p := ⟨gb282, 1, none⟩) (Kd.R_far (p := ⟨gb282, 0, none⟩) (Kd.R_types HO_3.out BK282.out (by decide)) (fun _ hk => hk.2) (.bool false)) (fun _ hk => hk.2) (.int .i64 ((rd_T43 (rd_L5 l0 x15_1) x21_2).f1))) (fun _ hk => hk.2) (.string ((rd_T43 (rd_L5 l0 x15_1) x21_2).f2))) (fun _ h_ => h_.1)))) k_ hk)); (case aO => exact (by (with_reducible repeat (first | apply Kd.R_alloc | apply Kd.R_drewN | apply Kd.R_drew)); exact Kd.R_mono (Kd.R_far (p := ⟨gb282, 2, none⟩) (Kd.R_far (p := ⟨gb282, 1, none⟩) (Kd.R_far (p := ⟨gb282, 0, none⟩) (Kd.R_types HO_6.out BK282.out (by decide)) (fun _ hk => hk.2) (.bool false)) (fun _ hk => hk.2) (.int .i64 ((rd_T43 (rd_L5 l0 x15_1) x21_2).f1))) (fun _ hk => hk.2) (.string ((rd_T43 (rd_L5 l0 x15_1) x21_2).f2))) (fun _ hk => hk.1))); (case aS => exact (below_size (bG_ GE282.out))); (case aL => have := LMc18.out; omega); intro v287 w21 ho hb hg hat; rw [← Ny286.out] at ho; replace HO_3 := A_ (Kd.R_after (ok := (fun _ => True)) (by (with_reducible repeat (first | apply Kd.R_alloc | apply Kd.R_drewN | apply Kd.R_drew)); exact Kd.R_mono (Kd.R_far (p := ⟨gb282, 2, none⟩) (Kd.R_far (p := ⟨gb282, 1, none⟩) (Kd.R_far (p := ⟨gb282, 0, none⟩) (Kd.R_types HO_3.out BK282.out (by decide)) (fun _ hk => hk.2) (.bool false)) (fun _ hk => hk.2) (.int .i64 ((rd_T43 (rd_L5 l0 x15_1) x21_2).f1))) (fun _ hk => hk.2) (.string ((rd_T43 (rd_L5 l0 x15_1) x21_2).f2))) (fun _ hk => ⟨trivial, hk.1⟩)) hg hat); replace BK282 := A_ (blk_grown (g := gb282) (o := .cells #[.bool false, .int .i64 ((rd_T43 (rd_L5 l0 x15_1) x21_2).f1), .string ((rd_T43 (rd_L5 l0 x15_1) x21_2).f2)] 43 (0, 0)) (by (with_reducible repeat (first | refine blk_drewN ?_ _ | refine blk_drew ?_ | refine blk_alloc ?_ _)); refine blk_put (cs := #[.bool false, .int .i64 ((rd_T43 (rd_L5 l0 x15_1) x21_2).f1), .string (⟨#[]⟩ : ByteArray)]) ?_ 2 _ rfl; (with_reducible repeat (first | refine blk_drewN ?_ _ | refine blk_drew ?_ | refine blk_alloc ?_ _)); refine blk_put (cs := #[.bool false, .int .i64 0, .string (⟨#[]⟩ : ByteArray)]) ?_ 1 _ rfl; (with_reducible repeat (first | refine blk_drewN ?_ _ | refine blk_drew ?_ | refine blk_alloc ?_ _)); refine blk_put (cs := #[.bool false, .int .i64 0, .string (⟨#[]⟩ : ByteArray)]) ?_ 0 _ rfl; (with_reducible repeat (first | refine blk_drewN ?_ _ | refine blk_drew ?_ | refine blk_alloc ?_ _)); exact BK282.out) hg (Kd.R_ne HO_6.out BK282.out (by decide))); replace HB := A_ (hb); have HO288 := A_ (ho); clear HO_6; clear ho hb hg hat))
         go_roundg k2
         case measure => have := HK1.out; have := HK2.out; omega
         case rel => (try rw [← Nbq11.out]); exact ⟨(y286), (wrap64 (x21_2 + 1)), rs_, H', ⟨by have := HK1.out; have := HK2.out; omega⟩, ⟨by (with_reducible repeat (first | apply Kd.R_alloc | apply Kd.R_drewN | apply Kd.R_drew)); exact Kd.R_mono HO_3.out (fun _ hk => hk.2)⟩, ⟨vR_ HO288.out⟩, ⟨bG_ GE282.out⟩⟩
     rw [if_neg c10] at H
     have c10b0 : (((rd_T43 (rd_L5 l0 x15_1) x21_2).f1) == 0) = false := beq_eq_false_iff_ne.mpr c10
     have c10b1 : (((rd_T43 (rd_L5 l0 x15_1) x21_2).f1) != 0) = true := bne_iff_ne.mpr c10
     obtain ⟨t289, A22, H⟩ := bo_ H
     (try dsimp only at H)
     by_cases c23 : 1 + t289.size ≤ 9223372036854775807
     rotate_left
     · exact absurd H (by rw [if_neg c23]; simp)
     rw [if_pos c23] at H
     have c23b0 := eq_true c23
     have c23b1 : decide (1 + t289.size ≤ 9223372036854775807) = true := decide_eq_true c23
     try have c23b2 : (9223372036854775807 < 1 + t289.size) = False := eq_false (Nat.not_lt.2 c23)
     by_cases c24 : ((⟨#[60]⟩ : ByteArray) ++ t289).size + 1 ≤ 9223372036854775807
     rotate_left
     · exact absurd H (by rw [if_neg c24]; simp)
     rw [if_pos c24] at H
     have c24b0 := eq_true c24
     have c24b1 : decide (((⟨#[60]⟩ : ByteArray) ++ t289).size + 1 ≤ 9223372036854775807) = true := decide_eq_true c24
     try have c24b2 : (9223372036854775807 < ((⟨#[60]⟩ : ByteArray) ++ t289).size + 1) = False := eq_false (Nat.not_lt.2 c24)
     try have c24b3 : (9223372036854775807 < 1 + t289.size + 1) = False := eq_false (Nat.not_lt.2 (by have h_ := c24; simp only [ByteArray.size_append] at h_; exact h_))
     obtain ⟨bq25, hbq25⟩ : ∃ b_ : Bool, b_ = ((rd_T43 (rd_L5 l0 x15_1) x21_2).f0) := ⟨_, rfl⟩
     replace H : (if bq25 = true then (if 4 + (((⟨#[60]⟩ : ByteArray) ++ t289) ++ (⟨#[62]⟩ : ByteArray)).size ≤ 9223372036854775807 then (if x6_2.length < 8796093022208 then (impl_IfText.l1 k2 l0 x3_1 (x6_2 ++ [(⟨#[78, 111, 116, 32]⟩ : ByteArray) ++ (((⟨#[60]⟩ : ByteArray) ++ t289) ++ (⟨#[62]⟩ : ByteArray))]) l0 (l0.length : Int) x15_1 (rd_L5 l0 x15_1) ((rd_L5 l0 x15_1).length : Int) (wrap64 (x21_2 + 1))) else (none)) else (none)) else (if x6_2.length < 8796093022208 then (impl_IfText.l1 k2 l0 x3_1 (x6_2 ++ [((⟨#[60]⟩ : ByteArray) ++ t289) ++ (⟨#[62]⟩ : ByteArray)]) l0 (l0.length : Int) x15_1 (rd_L5 l0 x15_1) ((rd_L5 l0 x15_1).length : Int) (wrap64 (x21_2 + 1))) else (none))) = some r := by rw [← hbq25] at H; exact H
     have Nbq25 := A_ hbq25
     clear hbq25
     (try rw [← Nbq25.out])
     by_cases c26 : bq25 = true
     · subst c26
       rw [if_pos rfl] at H
       by_cases c27 : 4 + (((⟨#[60]⟩ : ByteArray) ++ t289) ++ (⟨#[62]⟩ : ByteArray)).size ≤ 9223372036854775807
       rotate_left
       · exact absurd H (by rw [if_neg c27]; simp)
       rw [if_pos c27] at H
       have c27b0 := eq_true c27
       have c27b1 : decide (4 + (((⟨#[60]⟩ : ByteArray) ++ t289) ++ (⟨#[62]⟩ : ByteArray)).size ≤ 9223372036854775807) = true := decide_eq_true c27
       try have c27b2 : (9223372036854775807 < 4 + (((⟨#[60]⟩ : ByteArray) ++ t289) ++ (⟨#[62]⟩ : ByteArray)).size) = False := eq_false (Nat.not_lt.2 c27)
       try have c27b3 : (9223372036854775807 < 4 + (1 + t289.size + 1)) = False := eq_false (Nat.not_lt.2 (by have h_ := c27; simp only [ByteArray.size_append] at h_; exact h_))
       by_cases c28 : x6_2.length < 8796093022208
       rotate_left
       · exact absurd H (by rw [if_neg c28]; simp)
       rw [if_pos c28] at H
       have LMc28 := A_ c28
       clear c28
       obtain ⟨y290, hy290⟩ : ∃ y_ : List ByteArray, y_ = (x6_2 ++ [(⟨#[78, 111, 116, 32]⟩ : ByteArray) ++ (((⟨#[60]⟩ : ByteArray) ++ t289) ++ (⟨#[62]⟩ : ByteArray))]) := ⟨_, rfl⟩
       replace H : (impl_IfText.l1 k2 l0 x3_1 y290 l0 (l0.length : Int) x15_1 (rd_L5 l0 x15_1) ((rd_L5 l0 x15_1).length : Int) (wrap64 (x21_2 + 1))) = some r := hy_ hy290 H
       have Ny290 := A_ hy290
       clear hy290
       have H' := A_ H
       clear H
       have p281 : 0 ≤ (x21_2 : Int) := od_
       have q281 : x21_2 < ((rd_L5 l0 x15_1).length : Int) := od_
       obtain ⟨ad281, e281, hx281_0, hx281_1, hx281_2⟩ := at_T43 HR276_0.out x21_2 p281 q281
       (try rw [← Nbq25.out] at hx281_0)
       cases e281
       replace hx281_0 := bc_ HB.out hx281_0
       replace hx281_1 := bc_ HB.out hx281_1
       replace hx281_2 := bc_ HB.out hx281_2
       replace p281 := eq_true p281
       replace q281 := eq_true q281
       go_wp2_with (first | ((with_reducible refine gd_ (N := 8) rfl ?_); refine bx_ (N := 8) (cs := #[.bool false, .int .i64 0, .string (⟨#[]⟩ : ByteArray)]) (t := 43) ?_; intro gb282 hg w29 hbox hb; replace HO_3 := A_ (Kd.R_below (vR_ HO_3.out) hb); replace HO_6 := A_ (Kd.R_below (vR_ HO_6.out) hb); have BK282 := A_ (hbox); have GW282 := A_ (ge_ hg bB_ : w.heap.size ≤ gb282); have GE282 := A_ (ge_ hg bB_ : w.heap.size ≤ gb282); replace HB := A_ (below_step bB_ hb); clear hb hbox hg; obtain ⟨hcz30_0, hcz30_1, hcz30_2, hfz30_0, hfz30_1, hfz30_2⟩ := cz3_ BK282.out) | ((with_reducible refine gc_ (f := 21) rfl ?_); refine gL_ (some 34) Tryz.func21 #[.int .i64 ((rd_T43 (rd_L5 l0 x15_1) x21_2).f1)] ?_; (with_reducible refine (impl_NumText.calls ((rd_T43 (rd_L5 l0 x15_1) x21_2).f1) t289 _ ?gT29 A22.out).mono ?_); (case gT29 => first | exact gT_ HGT.out (bG_ GE282.out) | exact gT_ HGT.out bB_); rintro e w31 ⟨rfl, hb⟩; refine ⟨_, rfl, ?_⟩; replace HO_3 := A_ (Kd.R_below (by (with_reducible repeat (first | apply Kd.R_alloc | apply Kd.R_drewN | apply Kd.R_drew)); exact (Kd.R_mono (Kd.R_far (p := ⟨gb282, 2, none⟩) (Kd.R_far (p := ⟨gb282, 1, none⟩) (Kd.R_far (p := ⟨gb282, 0, none⟩) (Kd.R_types HO_3.out BK282.out (by decide)) (fun _ hk => hk.2) (.bool true)) (fun _ hk => hk.2) (.int .i64 ((rd_T43 (rd_L5 l0 x15_1) x21_2).f1))) (fun _ hk => hk.2) (.string ((rd_T43 (rd_L5 l0 x15_1) x21_2).f2))) (fun _ h_ => h_.1))) hb); replace HO_6 := A_ (Kd.R_below (by (with_reducible repeat (first | apply Kd.R_alloc | apply Kd.R_drewN | apply Kd.R_drew)); exact (Kd.R_mono (Kd.R_far (p := ⟨gb282, 2, none⟩) (Kd.R_far (p := ⟨gb282, 1, none⟩) (Kd.R_far (p := ⟨gb282, 0, none⟩) (Kd.R_types HO_6.out BK282.out (by decide)) (fun _ hk => hk.2) (.bool true)) (fun _ hk => hk.2) (.int .i64 ((rd_T43 (rd_L5 l0 x15_1) x21_2).f1))) (fun _ hk => hk.2) (.string ((rd_T43 (rd_L5 l0 x15_1) x21_2).f2))) (fun _ h_ => h_.1))) hb); replace BK282 := A_ (blk_below (g := gb282) (o := .cells #[.bool true, .int .i64 ((rd_T43 (rd_L5 l0 x15_1) x21_2).f1), .string ((rd_T43 (rd_L5 l0 x15_1) x21_2).f2)] 43 (0, 0)) (by (with_reducible repeat (first | refine blk_drewN ?_ _ | refine blk_drew ?_ | refine blk_alloc ?_ _)); refine blk_put (cs := #[.bool true, .int .i64 ((rd_T43 (rd_L5 l0 x15_1) x21_2).f1), .string (⟨#[]⟩ : ByteArray)]) ?_ 2 _ rfl; (with_reducible repeat (first | refine blk_drewN ?_ _ | refine blk_drew ?_ | refine blk_alloc ?_ _)); refine blk_put (cs := #[.bool true, .int .i64 0, .string (⟨#[]⟩ : ByteArray)]) ?_ 1 _ rfl; (with_reducible repeat (first | refine blk_drewN ?_ _ | refine blk_drew ?_ | refine blk_alloc ?_ _)); refine blk_put (cs := #[.bool false, .int .i64 0, .string (⟨#[]⟩ : ByteArray)]) ?_ 0 _ rfl; (with_reducible repeat (first | refine blk_drewN ?_ _ | refine blk_drew ?_ | refine blk_alloc ?_ _)); exact BK282.out) hb); replace HB := A_ (below_step (bG_ GE282.out) hb); (try clear hb); (try clear hk); obtain ⟨hcz32_0, hcz32_1, hcz32_2, hfz32_0, hfz32_1, hfz32_2⟩ := cz3_ BK282.out) | ((with_reducible refine gate_builtin (b := .append) (xs := #[.tmp 41, .tmp 43]) rfl ?_); at_builtin; refine Kd.R_append Kd.string (w0 := w) w.heap.size rfl (.tmp 41) (.tmp 43) 40 9 (.string ⟨#[]⟩) 16 rfl Tryz.underlying40 info9 rfl (by decide) (by omega) u6 x6_2 ((⟨#[78, 111, 116, 32]⟩ : ByteArray) ++ (((⟨#[60]⟩ : ByteArray) ++ t289) ++ (⟨#[62]⟩ : ByteArray))) [.string ((⟨#[78, 111, 116, 32]⟩ : ByteArray) ++ (((⟨#[60]⟩ : ByteArray) ++ t289) ++ (⟨#[62]⟩ : ByteArray)))] (fun k_ => some k_ ≠ (u3 : Value).ownBlock) (fun _ => False) rfl rfl ?aP (fun _ hk => hk.elim) ?aF ?aO ?aB ?aS ?aL ?_; (case aP => exact rfl); (case aB => exact (bG_ GE282.out)); (case aF => exact (fun k_ hk => Kd.fresh' (Kd.R_lt (vR_ HO_3.out)) k_ hk)); (case aO => exact (vR_ HO_6.out)); (case aS => exact (below_size (bG_ GE282.out))); (case aL => have := LMc28.out; omega); intro v291 w33 ho hb hg hat; rw [← Ny290.out] at ho; replace HO_3 := A_ (Kd.R_after (ok := (fun _ => True)) (by (with_reducible repeat (first | apply Kd.R_alloc | apply Kd.R_drewN | apply Kd.R_drew)); exact Kd.R_mono HO_3.out (fun _ hk => ⟨trivial, hk⟩)) hg hat); replace BK282 := A_ (blk_grown (g := gb282) (o := .cells #[.bool true, .int .i64 ((rd_T43 (rd_L5 l0 x15_1) x21_2).f1), .string ((rd_T43 (rd_L5 l0 x15_1) x21_2).f2)] 43 (0, 0)) (vb_ BK282.out) hg (Kd.R_ne HO_6.out BK282.out (by decide))); replace HB := A_ (hb); have HO292 := A_ (ho); clear HO_6; clear ho hb hg hat))
       go_roundg k2
       case measure => have := HK1.out; have := HK2.out; omega
       case rel => (try rw [← Nbq25.out]); exact ⟨(y290), (wrap64 (x21_2 + 1)), rs_, H', ⟨by have := HK1.out; have := HK2.out; omega⟩, ⟨by (with_reducible repeat (first | apply Kd.R_alloc | apply Kd.R_drewN | apply Kd.R_drew)); exact Kd.R_mono HO_3.out (fun _ hk => hk.2)⟩, ⟨vR_ HO292.out⟩, ⟨bG_ GE282.out⟩⟩
     · replace c26 := Bool.eq_false_iff.mpr c26
       subst c26
       rw [if_neg nf_] at H
       by_cases c34 : x6_2.length < 8796093022208
       rotate_left
       · exact absurd H (by rw [if_neg c34]; simp)
       rw [if_pos c34] at H
       have LMc34 := A_ c34
       clear c34
       obtain ⟨y293, hy293⟩ : ∃ y_ : List ByteArray, y_ = (x6_2 ++ [((⟨#[60]⟩ : ByteArray) ++ t289) ++ (⟨#[62]⟩ : ByteArray)]) := ⟨_, rfl⟩
       replace H : (impl_IfText.l1 k2 l0 x3_1 y293 l0 (l0.length : Int) x15_1 (rd_L5 l0 x15_1) ((rd_L5 l0 x15_1).length : Int) (wrap64 (x21_2 + 1))) = some r := hy_ hy293 H
       have Ny293 := A_ hy293
       clear hy293
       have H' := A_ H
       clear H
       have p281 : 0 ≤ (x21_2 : Int) := od_
       have q281 : x21_2 < ((rd_L5 l0 x15_1).length : Int) := od_
       obtain ⟨ad281, e281, hx281_0, hx281_1, hx281_2⟩ := at_T43 HR276_0.out x21_2 p281 q281
       (try rw [← Nbq25.out] at hx281_0)
       cases e281
       replace hx281_0 := bc_ HB.out hx281_0
       replace hx281_1 := bc_ HB.out hx281_1
       replace hx281_2 := bc_ HB.out hx281_2
       replace p281 := eq_true p281
       replace q281 := eq_true q281
       go_wp2_with (first | ((with_reducible refine gd_ (N := 8) rfl ?_); refine bx_ (N := 8) (cs := #[.bool false, .int .i64 0, .string (⟨#[]⟩ : ByteArray)]) (t := 43) ?_; intro gb282 hg w35 hbox hb; replace HO_3 := A_ (Kd.R_below (vR_ HO_3.out) hb); replace HO_6 := A_ (Kd.R_below (vR_ HO_6.out) hb); have BK282 := A_ (hbox); have GW282 := A_ (ge_ hg bB_ : w.heap.size ≤ gb282); have GE282 := A_ (ge_ hg bB_ : w.heap.size ≤ gb282); replace HB := A_ (below_step bB_ hb); clear hb hbox hg; obtain ⟨hcz36_0, hcz36_1, hcz36_2, hfz36_0, hfz36_1, hfz36_2⟩ := cz3_ BK282.out) | ((with_reducible refine gc_ (f := 21) rfl ?_); refine gL_ (some 34) Tryz.func21 #[.int .i64 ((rd_T43 (rd_L5 l0 x15_1) x21_2).f1)] ?_; (with_reducible refine (impl_NumText.calls ((rd_T43 (rd_L5 l0 x15_1) x21_2).f1) t289 _ ?gT30 A22.out).mono ?_); (case gT30 => first | exact gT_ HGT.out (bG_ GE282.out) | exact gT_ HGT.out bB_); rintro e w37 ⟨rfl, hb⟩; refine ⟨_, rfl, ?_⟩; replace HO_3 := A_ (Kd.R_below (by (with_reducible repeat (first | apply Kd.R_alloc | apply Kd.R_drewN | apply Kd.R_drew)); exact (Kd.R_mono (Kd.R_far (p := ⟨gb282, 2, none⟩) (Kd.R_far (p := ⟨gb282, 1, none⟩) (Kd.R_far (p := ⟨gb282, 0, none⟩) (Kd.R_types HO_3.out BK282.out (by decide)) (fun _ hk => hk.2) (.bool false)) (fun _ hk => hk.2) (.int .i64 ((rd_T43 (rd_L5 l0 x15_1) x21_2).f1))) (fun _ hk => hk.2) (.string ((rd_T43 (rd_L5 l0 x15_1) x21_2).f2))) (fun _ h_ => h_.1))) hb); replace HO_6 := A_ (Kd.R_below (by (with_reducible repeat (first | apply Kd.R_alloc | apply Kd.R_drewN | apply Kd.R_drew)); exact (Kd.R_mono (Kd.R_far (p := ⟨gb282, 2, none⟩) (Kd.R_far (p := ⟨gb282, 1, none⟩) (Kd.R_far (p := ⟨gb282, 0, none⟩) (Kd.R_types HO_6.out BK282.out (by decide)) (fun _ hk => hk.2) (.bool false)) (fun _ hk => hk.2) (.int .i64 ((rd_T43 (rd_L5 l0 x15_1) x21_2).f1))) (fun _ hk => hk.2) (.string ((rd_T43 (rd_L5 l0 x15_1) x21_2).f2))) (fun _ h_ => h_.1))) hb); replace BK282 := A_ (blk_below (g := gb282) (o := .cells #[.bool false, .int .i64 ((rd_T43 (rd_L5 l0 x15_1) x21_2).f1), .string ((rd_T43 (rd_L5 l0 x15_1) x21_2).f2)] 43 (0, 0)) (by (with_reducible repeat (first | refine blk_drewN ?_ _ | refine blk_drew ?_ | refine blk_alloc ?_ _)); refine blk_put (cs := #[.bool false, .int .i64 ((rd_T43 (rd_L5 l0 x15_1) x21_2).f1), .string (⟨#[]⟩ : ByteArray)]) ?_ 2 _ rfl; (with_reducible repeat (first | refine blk_drewN ?_ _ | refine blk_drew ?_ | refine blk_alloc ?_ _)); refine blk_put (cs := #[.bool false, .int .i64 0, .string (⟨#[]⟩ : ByteArray)]) ?_ 1 _ rfl; (with_reducible repeat (first | refine blk_drewN ?_ _ | refine blk_drew ?_ | refine blk_alloc ?_ _)); refine blk_put (cs := #[.bool false, .int .i64 0, .string (⟨#[]⟩ : ByteArray)]) ?_ 0 _ rfl; (with_reducible repeat (first | refine blk_drewN ?_ _ | refine blk_drew ?_ | refine blk_alloc ?_ _)); exact BK282.out) hb); replace HB := A_ (below_step (bG_ GE282.out) hb); (try clear hb); (try clear hk); obtain ⟨hcz38_0, hcz38_1, hcz38_2, hfz38_0, hfz38_1, hfz38_2⟩ := cz3_ BK282.out) | ((with_reducible refine gate_builtin (b := .append) (xs := #[.tmp 41, .tmp 43]) rfl ?_); at_builtin; refine Kd.R_append Kd.string (w0 := w) w.heap.size rfl (.tmp 41) (.tmp 43) 40 9 (.string ⟨#[]⟩) 16 rfl Tryz.underlying40 info9 rfl (by decide) (by omega) u6 x6_2 (((⟨#[60]⟩ : ByteArray) ++ t289) ++ (⟨#[62]⟩ : ByteArray)) [.string (((⟨#[60]⟩ : ByteArray) ++ t289) ++ (⟨#[62]⟩ : ByteArray))] (fun k_ => some k_ ≠ (u3 : Value).ownBlock) (fun _ => False) rfl rfl ?aP (fun _ hk => hk.elim) ?aF ?aO ?aB ?aS ?aL ?_; (case aP => exact rfl); (case aB => exact (bG_ GE282.out)); (case aF => exact (fun k_ hk => Kd.fresh' (Kd.R_lt (vR_ HO_3.out)) k_ hk)); (case aO => exact (vR_ HO_6.out)); (case aS => exact (below_size (bG_ GE282.out))); (case aL => have := LMc34.out; omega); intro v294 w39 ho hb hg hat; rw [← Ny293.out] at ho; replace HO_3 := A_ (Kd.R_after (ok := (fun _ => True)) (by (with_reducible repeat (first | apply Kd.R_alloc | apply Kd.R_drewN | apply Kd.R_drew)); exact Kd.R_mono HO_3.out (fun _ hk => ⟨trivial, hk⟩)) hg hat); replace BK282 := A_ (blk_grown (g := gb282) (o := .cells #[.bool false, .int .i64 ((rd_T43 (rd_L5 l0 x15_1) x21_2).f1), .string ((rd_T43 (rd_L5 l0 x15_1) x21_2).f2)] 43 (0, 0)) (vb_ BK282.out) hg (Kd.R_ne HO_6.out BK282.out (by decide))); replace HB := A_ (hb); have HO295 := A_ (ho); clear HO_6; clear ho hb hg hat))
       go_roundg k2
       case measure => have := HK1.out; have := HK2.out; omega
       case rel => (try rw [← Nbq25.out]); exact ⟨(y293), (wrap64 (x21_2 + 1)), rs_, H', ⟨by have := HK1.out; have := HK2.out; omega⟩, ⟨by (with_reducible repeat (first | apply Kd.R_alloc | apply Kd.R_drewN | apply Kd.R_drew)); exact Kd.R_mono HO_3.out (fun _ hk => hk.2)⟩, ⟨vR_ HO295.out⟩, ⟨bG_ GE282.out⟩⟩
def spec_l7At.f (a0 : ByteArray) (a1 : Int) (a2 : ByteArray) : Option (Bool) := if (wrap64 (a1 + (a2.size : Int))) ≤ (a0.size : Int) then (if 0 ≤ a1 then (if a1 ≤ (wrap64 (a1 + (a2.size : Int))) then (some ((a0.extract (a1 : Int).toNat ((wrap64 (a1 + (a2.size : Int))) : Int).toNat).toList == a2.toList)) else (none)) else (none)) else (some false)
theorem spec_l7At.calls (a0 : ByteArray) (a1 : Int) (a2 : ByteArray) (r : Bool) (w : World) (h : spec_l7At.f a0 a1 a2 = some r) :
 Calls Tryz.prog 52 #[.string a0, .int .i64 a1, .string a2] w fun e w' => e = .returned (.bool r) ∧ Drawn0 w w' := by
 have H : (if (wrap64 (a1 + (a2.size : Int))) ≤ (a0.size : Int) then (if 0 ≤ a1 then (if a1 ≤ (wrap64 (a1 + (a2.size : Int))) then (some ((a0.extract (a1 : Int).toNat ((wrap64 (a1 + (a2.size : Int))) : Int).toNat).toList == a2.toList)) else (none)) else (none)) else (some false)) = some r := h
 clear h
 by_cases c4 : (wrap64 (a1 + (a2.size : Int))) ≤ (a0.size : Int)
 rotate_left
 · rw [if_neg c4] at H
   have c4b0 : decide ((wrap64 (a1 + (a2.size : Int))) ≤ (a0.size : Int)) = false := decide_eq_false c4
   clear c4
   obtain rfl := si_ H
   go_enter Tryz.func52, Tryz.ntmps52
   go_wp2
   go_ret
   exact ⟨rs_, dr_⟩
 rw [if_pos c4] at H
 have c4b0 : decide ((wrap64 (a1 + (a2.size : Int))) ≤ (a0.size : Int)) = true := decide_eq_true c4
 clear c4
 by_cases c5 : 0 ≤ a1
 rotate_left
 · exact absurd H (by rw [if_neg c5]; simp)
 rw [if_pos c5] at H
 have c5b0 := eq_true c5
 have c5b1 : decide (0 ≤ a1) = true := decide_eq_true c5
 clear c5
 by_cases c6 : a1 ≤ (wrap64 (a1 + (a2.size : Int)))
 rotate_left
 · exact absurd H (by rw [if_neg c6]; simp)
 rw [if_pos c6] at H
 have c6b0 := eq_true c6
 have c6b1 : decide (a1 ≤ (wrap64 (a1 + (a2.size : Int)))) = true := decide_eq_true c6
 have c7b0 := eq_true (od_ : (wrap64 (a1 + (a2.size : Int))) ≤ (a0.size : Int))
 obtain rfl := si_ H
 go_enter Tryz.func52, Tryz.ntmps52
 go_wp2
 go_ret
 exact ⟨rs_, dr_⟩
def IsS53 (w0 W : World) (g : Nat) (f0 : ByteArray) (f1 : Int) (f2 : Bool) : Prop := W.heap[g]? = some (.cells #[.string f0, .int .i64 f1, .bool f2] 53 (0, 0)) ∧ w0.heap.size ≤ g
theorem IsS53.grown {w0 W : World} {g : Nat} {f0 : ByteArray} {f1 : Int} {f2 : Bool} {W1 : World} {row : Option Nat} (h : IsS53 w0 W g f0 f1 f2) (hw : W.grownBy W1 row) (hne : some g ≠ row) : IsS53 w0 W1 g f0 f1 f2 := by
 obtain ⟨hb, hg⟩ := h
 exact ⟨blk_grown hb hw hne, hg⟩
theorem IsS53.kept {w0 W : World} {g : Nat} {f0 : ByteArray} {f1 : Int} {f2 : Bool} {W1 : World} {S : Nat → Prop} (h : IsS53 w0 W g f0 f1 f2) (hk : Kept W W1 S) (hne : ¬ S g) : IsS53 w0 W1 g f0 f1 f2 := by
 obtain ⟨hb, hg⟩ := h
 exact ⟨blk_kept hb hk hne, hg⟩
theorem IsS53.below {w0 W : World} {g : Nat} {f0 : ByteArray} {f1 : Int} {f2 : Bool} {W1 : World} (h : IsS53 w0 W g f0 f1 f2) (hw : Below W.heap.size W W1) : IsS53 w0 W1 g f0 f1 f2 := h.grown (grown_of_below hw none) (by simp)
theorem IsS53.alloc {w0 W : World} {g : Nat} {f0 : ByteArray} {f1 : Int} {f2 : Bool} (h : IsS53 w0 W g f0 f1 f2) (o : Obj) : IsS53 w0 (W.alloc o) g f0 f1 f2 := h.below (below_alloc (Below.refl _ _) o)
theorem IsS53.drewN {w0 W : World} {g : Nat} {f0 : ByteArray} {f1 : Int} {f2 : Bool} (h : IsS53 w0 W g f0 f1 f2) (m : Nat) : IsS53 w0 (W.drewN m) g f0 f1 f2 := h
theorem IsS53.drew {w0 W : World} {g : Nat} {f0 : ByteArray} {f1 : Int} {f2 : Bool} (h : IsS53 w0 W g f0 f1 f2) : IsS53 w0 W.drew g f0 f1 f2 := h
theorem IsS53.apart {w0 W : World} {g : Nat} {f0 : ByteArray} {f1 : Int} {f2 : Bool} {α : Type} {d : Kd α} {e : Nat} {base : Nat} {ok : Nat → Prop} {v : Value} {xs : List α} (h : IsS53 w0 W g f0 f1 f2) (ho : d.R e W base ok v xs) (ht : ∀ q, q ∈ e :: d.E → q ≠ 53) : d.R e W base (fun k => ok k ∧ k ≠ g) v xs := by
 obtain ⟨hb, hg⟩ := h
 exact Kd.R_types ho hb ht
theorem IsS53.own_ne {w0 W : World} {g : Nat} {f0 : ByteArray} {f1 : Int} {f2 : Bool} {α : Type} {d : Kd α} {e : Nat} {base : Nat} {ok : Nat → Prop} {v : Value} {xs : List α} (h : IsS53 w0 W g f0 f1 f2) (ho : d.R e W base ok v xs) (ht : e ≠ 53) : some g ≠ v.ownBlock := by
 obtain ⟨hb, hg⟩ := h
 exact Kd.R_ne ho hb ht
theorem IsS53.apartS {w0 W : World} {g : Nat} {f0 : ByteArray} {f1 : Int} {f2 : Bool} {α : Type} {d : Kd α} {e : Nat} {base : Nat} {ok : Nat → Prop} {v : Value} {xs : List α} (h : IsS53 w0 W g f0 f1 f2) (ho : d.S e W base ok v xs) (ht : ∀ q, q ∈ e :: d.E → q ≠ 53) : d.S e W base (fun k => ok k ∧ k ≠ g) v xs := by
 obtain ⟨hb, hg⟩ := h
 exact Kd.S_types ho hb ht
theorem IsS53.own_neS {w0 W : World} {g : Nat} {f0 : ByteArray} {f1 : Int} {f2 : Bool} {α : Type} {d : Kd α} {e : Nat} {base : Nat} {ok : Nat → Prop} {v : Value} {xs : List α} (h : IsS53 w0 W g f0 f1 f2) (ho : d.S e W base ok v xs) (ht : e ≠ 53) : some g ≠ v.ownBlock := by
 obtain ⟨hb, hg⟩ := h
 exact Kd.S_ne ho hb ht
theorem IsS53.lt {w0 W : World} {g : Nat} {f0 : ByteArray} {f1 : Int} {f2 : Bool} (h : IsS53 w0 W g f0 f1 f2) : g < W.heap.size := by
 obtain ⟨hb, hg⟩ := h
 exact blk_lt hb
theorem IsS53.ge {w0 W : World} {g : Nat} {f0 : ByteArray} {f1 : Int} {f2 : Bool} (h : IsS53 w0 W g f0 f1 f2) : w0.heap.size ≤ g := by
 obtain ⟨hb, hg⟩ := h
 exact hg
theorem IsS53.far {w0 W : World} {g : Nat} {f0 : ByteArray} {f1 : Int} {f2 : Bool} {p : Addr} (h : IsS53 w0 W g f0 f1 f2) (hne : g ≠ p.block) (u : Value) : IsS53 w0 (W.setCell p u) g f0 f1 f2 := by
 obtain ⟨hb, hg⟩ := h
 exact ⟨blk_far hb hne u, hg⟩
theorem cellS53_0 {W : World} {g : Nat} {f0 : ByteArray} {f1 : Int} {f2 : Bool} (h : W.heap[g]? = some (.cells #[.string f0, .int .i64 f1, .bool f2] 53 (0, 0))) : W.cell? ⟨g, 0, none⟩ = some (.string f0) := (blk_cell h 0).trans rfl
theorem IsS53.set_0 {w0 W : World} {g : Nat} {f0 : ByteArray} {f1 : Int} {f2 : Bool} (h : IsS53 w0 W g f0 f1 f2) (x : ByteArray) : IsS53 w0 (W.setCell ⟨g, 0, none⟩ (.string x)) g x f1 f2 := by
 obtain ⟨hb, hg⟩ := h
 exact ⟨by simpa using blk_set hb 0 (.string x), hg⟩
theorem cellS53_1 {W : World} {g : Nat} {f0 : ByteArray} {f1 : Int} {f2 : Bool} (h : W.heap[g]? = some (.cells #[.string f0, .int .i64 f1, .bool f2] 53 (0, 0))) : W.cell? ⟨g, 1, none⟩ = some (.int .i64 f1) := (blk_cell h 1).trans rfl
theorem IsS53.set_1 {w0 W : World} {g : Nat} {f0 : ByteArray} {f1 : Int} {f2 : Bool} (h : IsS53 w0 W g f0 f1 f2) (x : Int) : IsS53 w0 (W.setCell ⟨g, 1, none⟩ (.int .i64 x)) g f0 x f2 := by
 obtain ⟨hb, hg⟩ := h
 exact ⟨by simpa using blk_set hb 1 (.int .i64 x), hg⟩
theorem cellS53_2 {W : World} {g : Nat} {f0 : ByteArray} {f1 : Int} {f2 : Bool} (h : W.heap[g]? = some (.cells #[.string f0, .int .i64 f1, .bool f2] 53 (0, 0))) : W.cell? ⟨g, 2, none⟩ = some (.bool f2) := (blk_cell h 2).trans rfl
theorem IsS53.set_2 {w0 W : World} {g : Nat} {f0 : ByteArray} {f1 : Int} {f2 : Bool} (h : IsS53 w0 W g f0 f1 f2) (x : Bool) : IsS53 w0 (W.setCell ⟨g, 2, none⟩ (.bool x)) g f0 f1 x := by
 obtain ⟨hb, hg⟩ := h
 exact ⟨by simpa using blk_set hb 2 (.bool x), hg⟩
theorem IsS53.new (w0 W : World) (f0 : ByteArray) (f1 : Int) (f2 : Bool) (hB : Below w0.heap.size w0 W) : IsS53 w0 (W.alloc (.cells #[.string f0, .int .i64 f1, .bool f2] 53)) W.heap.size f0 f1 f2 := ⟨by simpa using heap_alloc_new W _, hB.size⟩
def spec_l14Is.f (s0_0 : ByteArray) (s0_1 : Int) (s0_2 : Bool) (a1 : ByteArray) : Option (Bool × ByteArray × Int × Bool) := if s0_2 = true then (some (false, s0_0, s0_1, s0_2)) else ((spec_l7At.f s0_0 s0_1 a1).bind fun t302 => (if t302 = true then (some (true, s0_0, wrap64 (s0_1 + (a1.size : Int)), s0_2)) else (some (false, s0_0, s0_1, s0_2))))
theorem spec_l14Is.calls (g : Nat) (s0_0 : ByteArray) (s0_1 : Int) (s0_2 : Bool) (a1 : ByteArray) (r1 : Bool) (r2 : ByteArray) (r3 : Int) (r4 : Bool) (w0 w : World) (hI : IsS53 w0 w g s0_0 s0_1 s0_2) (hB : Below w0.heap.size w0 w) (h : spec_l14Is.f s0_0 s0_1 s0_2 a1 = some (r1, r2, r3, r4)) :
 Calls Tryz.prog 30 #[.pointer (some ⟨g, 0, none⟩), .string a1] w fun e w' => e = .returned (.bool r1) ∧ IsS53 w0 w' g r2 r3 r4 ∧ Below w0.heap.size w0 w' ∧ KeepBut w w' g none := by
 have HI0 := A_ hI
 have HK := A_ (KeepBut.refl w g none)
 have HL := A_ hB.size
 clear hI
 have HW0 := A_ hB.size
 have HB := A_ hB
 clear hB
 have H : (if s0_2 = true then (some (false, s0_0, s0_1, s0_2)) else ((spec_l7At.f s0_0 s0_1 a1).bind fun t302 => (if t302 = true then (some (true, s0_0, wrap64 (s0_1 + (a1.size : Int)), s0_2)) else (some (false, s0_0, s0_1, s0_2))))) = some (r1, r2, r3, r4) := h
 clear h
 by_cases c3 : s0_2 = true
 · subst c3
   rw [if_pos rfl] at H
   simp only [Option.some.injEq, Prod.mk.injEq] at H
   obtain ⟨rfl, rfl, rfl, rfl⟩ := H
   obtain ⟨HGz4, hgz4⟩ := HI0.out
   have hcz4_0 := cellS53_0 HGz4
   have hcz4_1 := cellS53_1 HGz4
   have hcz4_2 := cellS53_2 HGz4
   have hfz4_0 := blk_frozen HGz4 0
   have hfz4_1 := blk_frozen HGz4 1
   have hfz4_2 := blk_frozen HGz4 2
   clear HGz4 hgz4
   go_enter Tryz.func30, Tryz.ntmps30
   go_wp2
   repeat (go_quiet (fail); try go_wp2)
   go_ret
   exact ⟨rr_, bIQx61_, bIQx60_, bK_⟩
 · replace c3 := Bool.eq_false_iff.mpr c3
   subst c3
   rw [if_neg nf_] at H
   obtain ⟨t302, A5, H⟩ := bo_ H
   (try dsimp only at H)
   by_cases c6 : t302 = true
   · subst c6
     rw [if_pos rfl] at H
     simp only [Option.some.injEq, Prod.mk.injEq] at H
     obtain ⟨rfl, rfl, rfl, rfl⟩ := H
     obtain ⟨HGz7, hgz7⟩ := HI0.out
     have hcz7_0 := cellS53_0 HGz7
     have hcz7_1 := cellS53_1 HGz7
     have hcz7_2 := cellS53_2 HGz7
     have hfz7_0 := blk_frozen HGz7 0
     have hfz7_1 := blk_frozen HGz7 1
     have hfz7_2 := blk_frozen HGz7 2
     clear HGz7 hgz7
     go_enter Tryz.func30, Tryz.ntmps30
     go_wp2_with (first | (go_at_call 52; (with_reducible refine (spec_l7At.calls s0_0 s0_1 a1 true _ A5.out).mono ?_); rintro e w' ⟨rfl, ⟨nd, rfl⟩⟩; (try first | exact ⟨rfl, _, World.drewN_drewN _ _ _⟩ | exact ⟨rfl, _, Eq.trans (World.drewN_drewN _ _ _) (congrArg (World.drewN _) (Nat.add_assoc _ _ _))⟩)))
     repeat (go_quiet (first | (go_at_call 52; (with_reducible refine (spec_l7At.calls s0_0 s0_1 a1 true _ A5.out).mono ?_); rintro e w' ⟨rfl, ⟨nd, rfl⟩⟩; (try first | exact ⟨rfl, _, World.drewN_drewN _ _ _⟩ | exact ⟨rfl, _, Eq.trans (World.drewN_drewN _ _ _) (congrArg (World.drewN _) (Nat.add_assoc _ _ _))⟩))); try go_wp2_with (first | (go_at_call 52; (with_reducible refine (spec_l7At.calls s0_0 s0_1 a1 true _ A5.out).mono ?_); rintro e w' ⟨rfl, ⟨nd, rfl⟩⟩; (try first | exact ⟨rfl, _, World.drewN_drewN _ _ _⟩ | exact ⟨rfl, _, Eq.trans (World.drewN_drewN _ _ _) (congrArg (World.drewN _) (Nat.add_assoc _ _ _))⟩))))
     go_ret
     exact ⟨rr_, bIQx61_, bIQx60_, bK_⟩
   · replace c6 := Bool.eq_false_iff.mpr c6
     subst c6
     rw [if_neg nf_] at H
     simp only [Option.some.injEq, Prod.mk.injEq] at H
     obtain ⟨rfl, rfl, rfl, rfl⟩ := H
     obtain ⟨HGz8, hgz8⟩ := HI0.out
     have hcz8_0 := cellS53_0 HGz8
     have hcz8_1 := cellS53_1 HGz8
     have hcz8_2 := cellS53_2 HGz8
     have hfz8_0 := blk_frozen HGz8 0
     have hfz8_1 := blk_frozen HGz8 1
     have hfz8_2 := blk_frozen HGz8 2
     clear HGz8 hgz8
     go_enter Tryz.func30, Tryz.ntmps30
     go_wp2_with (first | (go_at_call 52; (with_reducible refine (spec_l7At.calls s0_0 s0_1 a1 false _ A5.out).mono ?_); rintro e w' ⟨rfl, ⟨nd, rfl⟩⟩; (try first | exact ⟨rfl, _, World.drewN_drewN _ _ _⟩ | exact ⟨rfl, _, Eq.trans (World.drewN_drewN _ _ _) (congrArg (World.drewN _) (Nat.add_assoc _ _ _))⟩)))
     repeat (go_quiet (first | (go_at_call 52; (with_reducible refine (spec_l7At.calls s0_0 s0_1 a1 false _ A5.out).mono ?_); rintro e w' ⟨rfl, ⟨nd, rfl⟩⟩; (try first | exact ⟨rfl, _, World.drewN_drewN _ _ _⟩ | exact ⟨rfl, _, Eq.trans (World.drewN_drewN _ _ _) (congrArg (World.drewN _) (Nat.add_assoc _ _ _))⟩))); try go_wp2_with (first | (go_at_call 52; (with_reducible refine (spec_l7At.calls s0_0 s0_1 a1 false _ A5.out).mono ?_); rintro e w' ⟨rfl, ⟨nd, rfl⟩⟩; (try first | exact ⟨rfl, _, World.drewN_drewN _ _ _⟩ | exact ⟨rfl, _, Eq.trans (World.drewN_drewN _ _ _) (congrArg (World.drewN _) (Nat.add_assoc _ _ _))⟩))))
     go_ret
     exact ⟨rr_, bIQx61_, bIQx60_, bK_⟩
def spec_l14Must.f (s0_0 : ByteArray) (s0_1 : Int) (s0_2 : Bool) (a1 : ByteArray) : Option (ByteArray × Int × Bool) := (spec_l14Is.f s0_0 s0_1 s0_2 a1).bind fun bt303 => (if bt303.1 = true then (some (bt303.2.1, bt303.2.2.1, bt303.2.2.2)) else (some (bt303.2.1, bt303.2.2.1, true)))
theorem spec_l14Must.calls (g : Nat) (s0_0 : ByteArray) (s0_1 : Int) (s0_2 : Bool) (a1 : ByteArray) (r1 : ByteArray) (r2 : Int) (r3 : Bool) (w0 w : World) (hI : IsS53 w0 w g s0_0 s0_1 s0_2) (hB : Below w0.heap.size w0 w) (h : spec_l14Must.f s0_0 s0_1 s0_2 a1 = some (r1, r2, r3)) :
 Calls Tryz.prog 50 #[.pointer (some ⟨g, 0, none⟩), .string a1] w fun e w' => e = .returned (.tuple #[]) ∧ IsS53 w0 w' g r1 r2 r3 ∧ Below w0.heap.size w0 w' ∧ KeepBut w w' g none := by
 have HI0 := A_ hI
 have HK := A_ (KeepBut.refl w g none)
 have HL := A_ hB.size
 clear hI
 have HW0 := A_ hB.size
 have HB := A_ hB
 clear hB
 have H : ((spec_l14Is.f s0_0 s0_1 s0_2 a1).bind fun bt303 => (if bt303.1 = true then (some (bt303.2.1, bt303.2.2.1, bt303.2.2.2)) else (some (bt303.2.1, bt303.2.2.1, true)))) = some (r1, r2, r3) := h
 clear h
 obtain ⟨⟨t303, t304, t305, t306⟩, A3, H⟩ := bo_ H
 (try dsimp only at H)
 by_cases c4 : t303 = true
 · subst c4
   rw [if_pos rfl] at H
   simp only [Option.some.injEq, Prod.mk.injEq] at H
   obtain ⟨rfl, rfl, rfl⟩ := H
   go_enter Tryz.func50, Tryz.ntmps50
   go_wp2_with (first | ((with_reducible refine gc_ (f := 30) rfl ?_); refine gL_ (some 6) Tryz.func30 #[.pointer (some ⟨g, 0, none⟩), .string a1] ?_; (with_reducible refine (spec_l14Is.calls g s0_0 s0_1 s0_2 a1 true t304 t305 t306 w0 _ ?s1 ?s2 A3.out).mono ?_); (case s1 => exact bIQx61_); (case s2 => exact bIQx60_); rintro e w5 ⟨rfl, hi, hb, hk⟩; refine ⟨_, rfl, ?_⟩; replace HK := A_ (KeepBut.trans bK_ hk (.inl rfl)); replace HB := A_ (hb); replace HI0 := A_ (hi); (try clear hb); (try clear hk); (try clear hi)))
   first | go_end0 | ((try simp only [Exit.inBlock, Exit.then]); refine bodyPost_ret (results_none rfl _ _ _) rfl ?_)
   exact ⟨rr_, bIQx61_, bIQx60_, bK_⟩
 · replace c4 := Bool.eq_false_iff.mpr c4
   subst c4
   rw [if_neg nf_] at H
   simp only [Option.some.injEq, Prod.mk.injEq] at H
   obtain ⟨rfl, rfl, rfl⟩ := H
   go_enter Tryz.func50, Tryz.ntmps50
   go_wp2_with (first | ((with_reducible refine gc_ (f := 30) rfl ?_); refine gL_ (some 6) Tryz.func30 #[.pointer (some ⟨g, 0, none⟩), .string a1] ?_; (with_reducible refine (spec_l14Is.calls g s0_0 s0_1 s0_2 a1 false t304 t305 t306 w0 _ ?s1 ?s2 A3.out).mono ?_); (case s1 => exact bIQx61_); (case s2 => exact bIQx60_); rintro e w6 ⟨rfl, hi, hb, hk⟩; refine ⟨_, rfl, ?_⟩; replace HK := A_ (KeepBut.trans bK_ hk (.inl rfl)); replace HB := A_ (hb); replace HI0 := A_ (hi); (try clear hb); (try clear hk); (try clear hi); obtain ⟨HGz7, hgz7⟩ := HI0.out; have hcz7_0 := cellS53_0 HGz7; have hcz7_1 := cellS53_1 HGz7; have hcz7_2 := cellS53_2 HGz7; have hfz7_0 := blk_frozen HGz7 0; have hfz7_1 := blk_frozen HGz7 1; have hfz7_2 := blk_frozen HGz7 2; clear HGz7 hgz7))
   first | go_end0 | ((try simp only [Exit.inBlock, Exit.then]); refine bodyPost_ret (results_none rfl _ _ _) rfl ?_)
   exact ⟨rr_, bIQx61_, bIQx60_, bK_⟩
def spec_l1In.f (a0 : Int) (a1 : Int) (a2 : Int) : Option (Bool) := if a0 ≥ a1 then (some (decide (a0 ≤ a2))) else (some false)
theorem spec_l1In.calls (a0 : Int) (a1 : Int) (a2 : Int) (r : Bool) (w : World) (h : spec_l1In.f a0 a1 a2 = some r) :
 Calls Tryz.prog 78 #[.int .i64 a0, .int .i64 a1, .int .i64 a2] w fun e w' => e = .returned (.bool r) ∧ Drawn0 w w' := by
 have H : (if a0 ≥ a1 then (some (decide (a0 ≤ a2))) else (some false)) = some r := h
 clear h
 by_cases c4 : a0 ≥ a1
 · rw [if_pos c4] at H
   have c4b0 : decide (a1 ≤ a0) = true := decide_eq_true c4
   clear c4
   obtain rfl := si_ H
   go_enter Tryz.func78, Tryz.ntmps78
   go_wp2
   go_ret
   exact ⟨rs_, dr_⟩
 rw [if_neg c4] at H
 have c4b0 : decide (a1 ≤ a0) = false := decide_eq_false c4
 clear c4
 obtain rfl := si_ H
 go_enter Tryz.func78, Tryz.ntmps78
 go_wp2
 go_ret
 exact ⟨rs_, dr_⟩
def spec_l1Digit.f (a0 : Int) : Option (Bool) := (spec_l1In.f (wrap64 (a0)) 48 57).bind fun t307 => (some t307)
theorem spec_l1Digit.calls (a0 : Int) (r : Bool) (w : World) (h : spec_l1Digit.f a0 = some r) :
 Calls Tryz.prog 77 #[.int .u8 a0] w fun e w' => e = .returned (.bool r) ∧ Drawn0 w w' := by
 have H : ((spec_l1In.f (wrap64 (a0)) 48 57).bind fun t307 => (some t307)) = some r := h
 clear h
 obtain ⟨t307, A2, H⟩ := bo_ H
 (try dsimp only at H)
 obtain rfl := si_ H
 go_enter Tryz.func77, Tryz.ntmps77
 go_wp2_with (first | ((with_reducible refine gc_ (f := 78) rfl ?_); refine gL_ (some 5) Tryz.func78 #[.int .i64 (wrap64 (a0)), .int .i64 48, .int .i64 57] ?_; (with_reducible refine (spec_l1In.calls (wrap64 (a0)) 48 57 t307 _ A2.out).mono ?_); rintro e w' ⟨rfl, ⟨nd, rfl⟩⟩; refine ⟨_, rfl, ?_⟩))
 go_ret
 exact ⟨rs_, dr_⟩
set_option maxHeartbeats 8000000
set_option maxRecDepth 100000
theorem bIQx70_ {P : Prop} (h : P := by repeat (first | (with_reducible first | exact HB.out | apply below_alloc | apply pw_below_drewN | apply below_drew1 | refine below_set ?_ (IsS53.ge HI0.out)) | exact HB.out)) : P := h
theorem bIQx71_ {P : Prop} (h : P := by repeat (first | (with_reducible first | exact HI0.out | apply IsS53.alloc | apply IsS53.drewN | apply IsS53.drew | apply IsS53.set_0 | apply IsS53.set_1 | apply IsS53.set_2) | exact HI0.out)) : P := h
mutual
def spec_ParseNum.l0 : Nat → ByteArray → Int → Int → Int → Option (Int × Bool)
 | 0, _, _, _, _ => none
 | k + 1, x0, x1, x6, x7 => if x7 < (x0.size : Int) then (spec_ParseNum.j1 k x0 x1 x6 x7 (decide (x7 < 8))) else (spec_ParseNum.j1 k x0 x1 x6 x7 false)
def spec_ParseNum.j1 : Nat → ByteArray → Int → Int → Int → Bool → Option (Int × Bool)
 | 0, _, _, _, _, _ => none
 | k + 1, x0, x1, x6, x7, x15 => if x15 = true then (if 0 ≤ x7 then (if x7 < (x0.size : Int) then ((spec_l1Digit.f (bt x0 x7)).bind fun t308 => (if t308 = true then (spec_ParseNum.l0 k x0 x1 (wrap64 ((wrap64 (x6 * 10)) + (((bt x0 x7) - 48) % 256))) (wrap64 (x7 + 1))) else (some (0, false)))) else (none)) else (none)) else ((spec_l1In.f (x0.size : Int) 1 7).bind fun t309 => (if t309 = true then (if (x0.size : Int) > 1 then (if 0 < (x0.size : Int) then (if (bt x0 0) = 48 then (some (0, false)) else (if x6 > x1 then (some (0, false)) else (some (x6, true)))) else (none)) else (if x6 > x1 then (some (0, false)) else (some (x6, true)))) else (some (0, false))))
end
def spec_ParseNum.f (k : Nat) (a0 : ByteArray) (a1 : Int) : Option (Int × Bool) := spec_ParseNum.l0 k a0 a1 0 0
theorem spec_ParseNum.calls (k : Nat) (a0 : ByteArray) (a1 : Int) (r1 : Int) (r2 : Bool) (w : World) (h : spec_ParseNum.f k a0 a1 = some (r1, r2)) :
 Calls Tryz.prog 64 #[.string a0, .int .i64 a1] w fun e w' => e = .returned (.tuple #[.int .i64 r1, .bool r2]) ∧ Drawn0 w w' := by
 have H : (spec_ParseNum.l0 k a0 a1 0 0) = some (r1, r2) := h
 clear h
 have H' := A_ H
 clear H
 go_enter Tryz.func64, Tryz.ntmps64
 go_wp2
 go_loopg [6, 7] k (fun kq v6 v7 w' => ∃ (x6_1 : Int) (x7_1 : Int), v6 = .int .i64 x6_1 ∧ v7 = .int .i64 x7_1 ∧ Aside0 (spec_ParseNum.l0 kq a0 a1 x6_1 x7_1 = some (r1, r2)) ∧ Aside0 (kq ≤ k) ∧ Drawn0 w w')
 case atStart => exact ⟨(0), (0), rs_, rs_, H', ⟨Nat.le_refl _⟩, dr_⟩
 case round =>
  clear H'
  try clear p2
  obtain ⟨x6_1, x7_1, rfl, rfl, HA, HK1, ⟨m1, rfl⟩⟩ := hrel
  cases gk with
  | zero => exact absurd HA.out (by simp [spec_ParseNum.l0])
  | succ k1 =>
   have H := HA.out
   clear HA
   simp only [spec_ParseNum.l0] at H
   have HC3 := A_ H
   clear H
   go_upto_region 3 with (fail)
   go_cut [15] (fun v15 wc => ∃ (kq : Nat) (x15_2 : Bool), v15 = .bool x15_2 ∧ Aside0 (spec_ParseNum.j1 kq a0 a1 x6_1 x7_1 x15_2 = some (r1, r2)) ∧ Aside0 (kq ≤ k1) ∧ Drawn0 w wc)
   case first =>
    have H := HC3.out
    clear HC3
    by_cases c4 : x7_1 < (a0.size : Int)
    rotate_left
    · rw [if_neg c4] at H
      have c4b0 : decide (x7_1 < (a0.size : Int)) = false := decide_eq_false c4
      clear c4
      (first | rw [c4b0] | (simp only [i64_w, i32_w]; rw [c4b0]) | skip)
      have H' := A_ H
      clear H
      go_wp2
      go_meet
      case rel => exact ⟨_, (false), rs_, H', ⟨by have := HK1.out; first | omega | exact Nat.le_refl _⟩, dr_⟩
    rw [if_pos c4] at H
    have c4b0 : decide (x7_1 < (a0.size : Int)) = true := decide_eq_true c4
    clear c4
    (first | rw [c4b0] | (simp only [i64_w, i32_w]; rw [c4b0]) | skip)
    have H' := A_ H
    clear H
    go_wp2
    go_meet
    case rel => exact ⟨_, (decide (x7_1 < 8)), rs_, H', ⟨by have := HK1.out; first | omega | exact Nat.le_refl _⟩, dr_⟩
   case rest =>
    clear HC3
    try clear p2
    try clear c4
    try clear c4b0
    try clear p2
    obtain ⟨kq, x15_2, rfl, HA, HJ2, ⟨mc2, rfl⟩⟩ := hcut
    cases kq with
    | zero => exact absurd HA.out (by simp [spec_ParseNum.j1])
    | succ kj2 =>
     have H := HA.out
     clear HA
     simp only [spec_ParseNum.j1] at H
     by_cases c5 : x15_2 = true
     · subst c5
       rw [if_pos rfl] at H
       by_cases c6 : 0 ≤ x7_1
       rotate_left
       · exact absurd H (by rw [if_neg c6]; simp)
       rw [if_pos c6] at H
       have c6b0 : decide (0 ≤ x7_1) = true := decide_eq_true c6
       clear c6
       by_cases c7 : x7_1 < (a0.size : Int)
       rotate_left
       · exact absurd H (by rw [if_neg c7]; simp)
       rw [if_pos c7] at H
       have c7b0 : decide (x7_1 < (a0.size : Int)) = true := decide_eq_true c7
       clear c7
       obtain ⟨t308, A9, H⟩ := bo_ H
       (try dsimp only at H)
       by_cases c10 : t308 = true
       · subst c10
         rw [if_pos rfl] at H
         have H' := A_ H
         clear H
         have p8 : 0 ≤ (x7_1 : Int) := od_
         have q8 : x7_1 < (a0.size : Int) := od_
         have hx8 := bt_at a0 x7_1
         replace p8 := eq_true p8
         replace q8 := eq_true q8
         go_wp2_with (first | ((with_reducible refine gc_ (f := 77) rfl ?_); refine gL_ (some 21) Tryz.func77 #[.int .u8 (bt a0 x7_1)] ?_; (with_reducible refine (spec_l1Digit.calls (bt a0 x7_1) true _ A9.out).mono ?_); rintro e w' ⟨rfl, ⟨nd, rfl⟩⟩; refine ⟨_, rfl, ?_⟩; have p11 : 0 ≤ (x7_1 : Int) := od_; have q11 : x7_1 < (a0.size : Int) := od_; have hx11 := bt_at a0 x7_1; replace p11 := eq_true p11; replace q11 := eq_true q11))
         go_roundg kj2
         case measure => have := HK1.out; have := HJ2.out; omega
         case rel => exact ⟨(wrap64 ((wrap64 (x6_1 * 10)) + (((bt a0 x7_1) - 48) % 256))), (wrap64 (x7_1 + 1)), rs_, rs_, H', ⟨by have := HK1.out; have := HJ2.out; omega⟩, dr_⟩
       · replace c10 := Bool.eq_false_iff.mpr c10
         subst c10
         rw [if_neg nf_] at H
         simp only [Option.some.injEq, Prod.mk.injEq] at H
         obtain ⟨rfl, rfl⟩ := H
         have p8 : 0 ≤ (x7_1 : Int) := od_
         have q8 : x7_1 < (a0.size : Int) := od_
         have hx8 := bt_at a0 x7_1
         replace p8 := eq_true p8
         replace q8 := eq_true q8
         go_wp2_with (first | ((with_reducible refine gc_ (f := 77) rfl ?_); refine gL_ (some 21) Tryz.func77 #[.int .u8 (bt a0 x7_1)] ?_; (with_reducible refine (spec_l1Digit.calls (bt a0 x7_1) false _ A9.out).mono ?_); rintro e w' ⟨rfl, ⟨nd, rfl⟩⟩; refine ⟨_, rfl, ?_⟩))
         go_ret2
         exact ⟨rs_, dr_⟩
     · replace c5 := Bool.eq_false_iff.mpr c5
       subst c5
       rw [if_neg nf_] at H
       obtain ⟨t309, A12, H⟩ := bo_ H
       (try dsimp only at H)
       by_cases c13 : t309 = true
       · subst c13
         rw [if_pos rfl] at H
         by_cases c14 : (a0.size : Int) > 1
         rotate_left
         · rw [if_neg c14] at H
           have c14b0 : decide (1 < (a0.size : Int)) = false := decide_eq_false c14
           have c14b1 : decide (1 < a0.size) = false := decide_eq_false (by omega)
           clear c14
           by_cases c19 : x6_1 > a1
           · rw [if_pos c19] at H
             have c19b0 : decide (a1 < x6_1) = true := decide_eq_true c19
             clear c19
             simp only [Option.some.injEq, Prod.mk.injEq] at H
             obtain ⟨rfl, rfl⟩ := H
             go_wp2_with (first | ((with_reducible refine gc_ (f := 78) rfl ?_); refine gL_ (some 33) Tryz.func78 #[.int .i64 (a0.size : Int), .int .i64 1, .int .i64 7] ?_; (with_reducible refine (spec_l1In.calls (a0.size : Int) 1 7 true _ A12.out).mono ?_); rintro e w' ⟨rfl, ⟨nd, rfl⟩⟩; refine ⟨_, rfl, ?_⟩))
             go_ret2
             exact ⟨rs_, dr_⟩
           rw [if_neg c19] at H
           have c19b0 : decide (a1 < x6_1) = false := decide_eq_false c19
           clear c19
           simp only [Option.some.injEq, Prod.mk.injEq] at H
           obtain ⟨rfl, rfl⟩ := H
           go_wp2_with (first | ((with_reducible refine gc_ (f := 78) rfl ?_); refine gL_ (some 33) Tryz.func78 #[.int .i64 (a0.size : Int), .int .i64 1, .int .i64 7] ?_; (with_reducible refine (spec_l1In.calls (a0.size : Int) 1 7 true _ A12.out).mono ?_); rintro e w' ⟨rfl, ⟨nd, rfl⟩⟩; refine ⟨_, rfl, ?_⟩))
           go_ret2
           exact ⟨rs_, dr_⟩
         rw [if_pos c14] at H
         have c14b0 : decide (1 < (a0.size : Int)) = true := decide_eq_true c14
         have c14b1 : decide (1 < a0.size) = true := decide_eq_true (by omega)
         clear c14
         by_cases c15 : 0 < (a0.size : Int)
         rotate_left
         · exact absurd H (by rw [if_neg c15]; simp)
         rw [if_pos c15] at H
         have c15b0 : decide (0 < (a0.size : Int)) = true := decide_eq_true c15
         have c15b1 : decide (0 < a0.size) = true := decide_eq_true (by omega)
         clear c15
         by_cases c17 : (bt a0 0) = 48
         · rw [if_pos c17] at H
           have c17b0 : ((bt a0 0) == 48) = true := beq_iff_eq.mpr c17
           have c17b1 : ((bt a0 0) != 48) = false := bne_eq_false_iff_eq.mpr c17
           clear c17
           simp only [Option.some.injEq, Prod.mk.injEq] at H
           obtain ⟨rfl, rfl⟩ := H
           go_wp2_with (first | ((with_reducible refine gc_ (f := 78) rfl ?_); refine gL_ (some 33) Tryz.func78 #[.int .i64 (a0.size : Int), .int .i64 1, .int .i64 7] ?_; (with_reducible refine (spec_l1In.calls (a0.size : Int) 1 7 true _ A12.out).mono ?_); rintro e w' ⟨rfl, ⟨nd, rfl⟩⟩; refine ⟨_, rfl, ?_⟩; have p16 : 0 ≤ (0 : Int) := (by omega); have q16 : 0 < a0.size := (by have : (0 : Int) < (a0.size : Int) := od_; omega); have hx16 : ∀ h : 0 < a0.size, ((a0[0]'h).toNat : Int) = bt a0 0 := bt_at a0 0; clear p16; have qi16 : (0 < (a0.size : Int)) = True := eq_true od_; replace q16 := eq_true q16))
           go_ret2
           exact ⟨rs_, dr_⟩
         rw [if_neg c17] at H
         have c17b0 : ((bt a0 0) == 48) = false := beq_eq_false_iff_ne.mpr c17
         have c17b1 : ((bt a0 0) != 48) = true := bne_iff_ne.mpr c17
         by_cases c18 : x6_1 > a1
         · rw [if_pos c18] at H
           have c18b0 : decide (a1 < x6_1) = true := decide_eq_true c18
           clear c18
           simp only [Option.some.injEq, Prod.mk.injEq] at H
           obtain ⟨rfl, rfl⟩ := H
           go_wp2_with (first | ((with_reducible refine gc_ (f := 78) rfl ?_); refine gL_ (some 33) Tryz.func78 #[.int .i64 (a0.size : Int), .int .i64 1, .int .i64 7] ?_; (with_reducible refine (spec_l1In.calls (a0.size : Int) 1 7 true _ A12.out).mono ?_); rintro e w' ⟨rfl, ⟨nd, rfl⟩⟩; refine ⟨_, rfl, ?_⟩; have p16 : 0 ≤ (0 : Int) := (by omega); have q16 : 0 < a0.size := (by have : (0 : Int) < (a0.size : Int) := od_; omega); have hx16 : ∀ h : 0 < a0.size, ((a0[0]'h).toNat : Int) = bt a0 0 := bt_at a0 0; clear p16; have qi16 : (0 < (a0.size : Int)) = True := eq_true od_; replace q16 := eq_true q16))
           go_ret2
           exact ⟨rs_, dr_⟩
         rw [if_neg c18] at H
         have c18b0 : decide (a1 < x6_1) = false := decide_eq_false c18
         clear c18
         simp only [Option.some.injEq, Prod.mk.injEq] at H
         obtain ⟨rfl, rfl⟩ := H
         go_wp2_with (first | ((with_reducible refine gc_ (f := 78) rfl ?_); refine gL_ (some 33) Tryz.func78 #[.int .i64 (a0.size : Int), .int .i64 1, .int .i64 7] ?_; (with_reducible refine (spec_l1In.calls (a0.size : Int) 1 7 true _ A12.out).mono ?_); rintro e w' ⟨rfl, ⟨nd, rfl⟩⟩; refine ⟨_, rfl, ?_⟩; have p16 : 0 ≤ (0 : Int) := (by omega); have q16 : 0 < a0.size := (by have : (0 : Int) < (a0.size : Int) := od_; omega); have hx16 : ∀ h : 0 < a0.size, ((a0[0]'h).toNat : Int) = bt a0 0 := bt_at a0 0; clear p16; have qi16 : (0 < (a0.size : Int)) = True := eq_true od_; replace q16 := eq_true q16))
         go_ret2
         exact ⟨rs_, dr_⟩
       · replace c13 := Bool.eq_false_iff.mpr c13
         subst c13
         rw [if_neg nf_] at H
         simp only [Option.some.injEq, Prod.mk.injEq] at H
         obtain ⟨rfl, rfl⟩ := H
         go_wp2_with (first | ((with_reducible refine gc_ (f := 78) rfl ?_); refine gL_ (some 33) Tryz.func78 #[.int .i64 (a0.size : Int), .int .i64 1, .int .i64 7] ?_; (with_reducible refine (spec_l1In.calls (a0.size : Int) 1 7 false _ A12.out).mono ?_); rintro e w' ⟨rfl, ⟨nd, rfl⟩⟩; refine ⟨_, rfl, ?_⟩))
         go_ret2
         exact ⟨rs_, dr_⟩
def spec_l14To.l0 : Nat → Int → Int → ByteArray → Int → Bool → Option (ByteArray × ByteArray × Int × Bool)
 | 0, _, _, _, _, _ => none
 | k + 1, x1, x5, x1000, x1001, x1002 => if x1001 < (x1000.size : Int) then (if 0 ≤ x1001 then (if (bt x1000 x1001) = x1 then (if x1001 = (x1000.size : Int) then (some ((⟨#[]⟩ : ByteArray), x1000, x1001, true)) else (if 0 ≤ x5 then (if x5 ≤ (wrap64 ((wrap64 (x1001 + 1)) - 1)) then (if (wrap64 ((wrap64 (x1001 + 1)) - 1)) ≤ (x1000.size : Int) then (some (x1000.extract (x5 : Int).toNat ((wrap64 ((wrap64 (x1001 + 1)) - 1)) : Int).toNat, x1000, wrap64 (x1001 + 1), x1002)) else (none)) else (none)) else (none))) else (spec_l14To.l0 k x1 x5 x1000 (wrap64 (x1001 + 1)) x1002)) else (none)) else (if x1001 = (x1000.size : Int) then (some ((⟨#[]⟩ : ByteArray), x1000, x1001, true)) else (if 0 ≤ x5 then (if x5 ≤ (wrap64 ((wrap64 (x1001 + 1)) - 1)) then (if (wrap64 ((wrap64 (x1001 + 1)) - 1)) ≤ (x1000.size : Int) then (some (x1000.extract (x5 : Int).toNat ((wrap64 ((wrap64 (x1001 + 1)) - 1)) : Int).toNat, x1000, wrap64 (x1001 + 1), x1002)) else (none)) else (none)) else (none)))
def spec_l14To.f (k : Nat) (s0_0 : ByteArray) (s0_1 : Int) (s0_2 : Bool) (a1 : Int) : Option (ByteArray × ByteArray × Int × Bool) := spec_l14To.l0 k a1 s0_1 s0_0 s0_1 s0_2
theorem spec_l14To.calls (k : Nat) (g : Nat) (s0_0 : ByteArray) (s0_1 : Int) (s0_2 : Bool) (a1 : Int) (r1 : ByteArray) (r2 : ByteArray) (r3 : Int) (r4 : Bool) (w0 w : World) (hI : IsS53 w0 w g s0_0 s0_1 s0_2) (hB : Below w0.heap.size w0 w) (h : spec_l14To.f k s0_0 s0_1 s0_2 a1 = some (r1, r2, r3, r4)) :
 Calls Tryz.prog 65 #[.pointer (some ⟨g, 0, none⟩), .int .u8 a1] w fun e w' => e = .returned (.string r1) ∧ IsS53 w0 w' g r2 r3 r4 ∧ Below w0.heap.size w0 w' ∧ KeepBut w w' g none := by
 have HI0 := A_ hI
 have HK := A_ (KeepBut.refl w g none)
 have HL := A_ hB.size
 clear hI
 have HW0 := A_ hB.size
 have HB := A_ hB
 clear hB
 have H : (spec_l14To.l0 k a1 s0_1 s0_0 s0_1 s0_2) = some (r1, r2, r3, r4) := h
 clear h
 have H' := A_ H
 clear H
 obtain ⟨HGz3, hgz3⟩ := HI0.out
 have hcz3_0 := cellS53_0 HGz3
 have hcz3_1 := cellS53_1 HGz3
 have hcz3_2 := cellS53_2 HGz3
 have hfz3_0 := blk_frozen HGz3 0
 have hfz3_1 := blk_frozen HGz3 1
 have hfz3_2 := blk_frozen HGz3 2
 clear HGz3 hgz3
 go_enter Tryz.func65, Tryz.ntmps65
 go_wp2
 repeat (go_quiet (fail); try go_wp2)
 go_loopg [] k (fun kq w' => ∃ (x1001_1 : Int), Aside0 (spec_l14To.l0 kq a1 s0_1 s0_0 x1001_1 s0_2 = some (r1, r2, r3, r4)) ∧ Aside0 (kq ≤ k) ∧ Aside0 (IsS53 w0 w' g s0_0 x1001_1 s0_2) ∧ Aside0 (KeepBut w w' g none) ∧ Aside0 (Below w0.heap.size w0 w'))
 case atStart => exact ⟨(s0_1), H', ⟨Nat.le_refl _⟩, ⟨bIQx71_⟩, ⟨bK_⟩, ⟨bIQx70_⟩⟩
 case round =>
  clear H'
  try clear p2
  try clear hcz3_0
  try clear hcz3_1
  try clear hcz3_2
  try clear hfz3_0
  try clear hfz3_1
  try clear hfz3_2
  obtain ⟨x1001_1, HA, HK1, HI0, HK, HB⟩ := hrel
  cases gk with
  | zero => exact absurd HA.out (by simp [spec_l14To.l0])
  | succ k1 =>
   have H := HA.out
   clear HA
   simp only [spec_l14To.l0] at H
   by_cases c4 : x1001_1 < (s0_0.size : Int)
   rotate_left
   · rw [if_neg c4] at H
     have c4b0 : decide (x1001_1 < (s0_0.size : Int)) = false := decide_eq_false c4
     clear c4
     by_cases c15 : x1001_1 = (s0_0.size : Int)
     · rw [if_pos c15] at H
       have c15b0 : (x1001_1 == (s0_0.size : Int)) = true := beq_iff_eq.mpr c15
       have c15b1 : (x1001_1 != (s0_0.size : Int)) = false := bne_eq_false_iff_eq.mpr c15
       clear c15
       simp only [Option.some.injEq, Prod.mk.injEq] at H
       obtain ⟨rfl, rfl, rfl, rfl⟩ := H
       obtain ⟨HGz16, hgz16⟩ := HI0.out
       have hcz16_0 := cellS53_0 HGz16
       have hcz16_1 := cellS53_1 HGz16
       have hcz16_2 := cellS53_2 HGz16
       have hfz16_0 := blk_frozen HGz16 0
       have hfz16_1 := blk_frozen HGz16 1
       have hfz16_2 := blk_frozen HGz16 2
       clear HGz16 hgz16
       go_wp2
       repeat (go_quiet (fail); try go_wp2)
       go_ret
       exact ⟨rr_, bIQx71_, bIQx70_, bK_⟩
     rw [if_neg c15] at H
     have c15b0 : (x1001_1 == (s0_0.size : Int)) = false := beq_eq_false_iff_ne.mpr c15
     have c15b1 : (x1001_1 != (s0_0.size : Int)) = true := bne_iff_ne.mpr c15
     by_cases c17 : 0 ≤ s0_1
     rotate_left
     · exact absurd H (by rw [if_neg c17]; simp)
     rw [if_pos c17] at H
     have c17b0 := eq_true c17
     have c17b1 : decide (0 ≤ s0_1) = true := decide_eq_true c17
     clear c17
     by_cases c18 : s0_1 ≤ (wrap64 ((wrap64 (x1001_1 + 1)) - 1))
     rotate_left
     · exact absurd H (by rw [if_neg c18]; simp)
     rw [if_pos c18] at H
     have c18b0 := eq_true c18
     have c18b1 : decide (s0_1 ≤ (wrap64 ((wrap64 (x1001_1 + 1)) - 1))) = true := decide_eq_true c18
     by_cases c19 : (wrap64 ((wrap64 (x1001_1 + 1)) - 1)) ≤ (s0_0.size : Int)
     rotate_left
     · exact absurd H (by rw [if_neg c19]; simp)
     rw [if_pos c19] at H
     have c19b0 := eq_true c19
     have c19b1 : decide ((wrap64 ((wrap64 (x1001_1 + 1)) - 1)) ≤ (s0_0.size : Int)) = true := decide_eq_true c19
     simp only [Option.some.injEq, Prod.mk.injEq] at H
     obtain ⟨rfl, rfl, rfl, rfl⟩ := H
     obtain ⟨HGz20, hgz20⟩ := HI0.out
     have hcz20_0 := cellS53_0 HGz20
     have hcz20_1 := cellS53_1 HGz20
     have hcz20_2 := cellS53_2 HGz20
     have hfz20_0 := blk_frozen HGz20 0
     have hfz20_1 := blk_frozen HGz20 1
     have hfz20_2 := blk_frozen HGz20 2
     clear HGz20 hgz20
     go_wp2
     repeat (go_quiet (fail); try go_wp2)
     go_ret
     exact ⟨rr_, bIQx71_, bIQx70_, bK_⟩
   rw [if_pos c4] at H
   have c4b0 : decide (x1001_1 < (s0_0.size : Int)) = true := decide_eq_true c4
   clear c4
   by_cases c5 : 0 ≤ x1001_1
   rotate_left
   · exact absurd H (by rw [if_neg c5]; simp)
   rw [if_pos c5] at H
   have c5b0 : decide (0 ≤ x1001_1) = true := decide_eq_true c5
   clear c5
   by_cases c7 : (bt s0_0 x1001_1) = a1
   rotate_left
   · rw [if_neg c7] at H
     have c7b0 : ((bt s0_0 x1001_1) == a1) = false := beq_eq_false_iff_ne.mpr c7
     have c7b1 : ((bt s0_0 x1001_1) != a1) = true := bne_iff_ne.mpr c7
     have H' := A_ H
     clear H
     obtain ⟨HGz14, hgz14⟩ := HI0.out
     have hcz14_0 := cellS53_0 HGz14
     have hcz14_1 := cellS53_1 HGz14
     have hcz14_2 := cellS53_2 HGz14
     have hfz14_0 := blk_frozen HGz14 0
     have hfz14_1 := blk_frozen HGz14 1
     have hfz14_2 := blk_frozen HGz14 2
     clear HGz14 hgz14
     have p6 : 0 ≤ (x1001_1 : Int) := od_
     have q6 : x1001_1 < (s0_0.size : Int) := od_
     have hx6 := bt_at s0_0 x1001_1
     replace p6 := eq_true p6
     replace q6 := eq_true q6
     go_wp2
     repeat (go_quiet (fail); try go_wp2)
     go_roundg k1
     case measure => have := HK1.out; omega
     case rel => exact ⟨(wrap64 (x1001_1 + 1)), H', ⟨by have := HK1.out; omega⟩, ⟨bIQx71_⟩, ⟨bK_⟩, ⟨bIQx70_⟩⟩
   rw [if_pos c7] at H
   have c7b0 : ((bt s0_0 x1001_1) == a1) = true := beq_iff_eq.mpr c7
   have c7b1 : ((bt s0_0 x1001_1) != a1) = false := bne_eq_false_iff_eq.mpr c7
   clear c7
   by_cases c8 : x1001_1 = (s0_0.size : Int)
   · rw [if_pos c8] at H
     have c8b0 : (x1001_1 == (s0_0.size : Int)) = true := beq_iff_eq.mpr c8
     have c8b1 : (x1001_1 != (s0_0.size : Int)) = false := bne_eq_false_iff_eq.mpr c8
     clear c8
     simp only [Option.some.injEq, Prod.mk.injEq] at H
     obtain ⟨rfl, rfl, rfl, rfl⟩ := H
     obtain ⟨HGz9, hgz9⟩ := HI0.out
     have hcz9_0 := cellS53_0 HGz9
     have hcz9_1 := cellS53_1 HGz9
     have hcz9_2 := cellS53_2 HGz9
     have hfz9_0 := blk_frozen HGz9 0
     have hfz9_1 := blk_frozen HGz9 1
     have hfz9_2 := blk_frozen HGz9 2
     clear HGz9 hgz9
     have p6 : 0 ≤ (x1001_1 : Int) := od_
     have q6 : x1001_1 < (s0_0.size : Int) := od_
     have hx6 := bt_at s0_0 x1001_1
     replace p6 := eq_true p6
     replace q6 := eq_true q6
     go_wp2
     repeat (go_quiet (fail); try go_wp2)
     go_ret
     exact ⟨rr_, bIQx71_, bIQx70_, bK_⟩
   rw [if_neg c8] at H
   have c8b0 : (x1001_1 == (s0_0.size : Int)) = false := beq_eq_false_iff_ne.mpr c8
   have c8b1 : (x1001_1 != (s0_0.size : Int)) = true := bne_iff_ne.mpr c8
   by_cases c10 : 0 ≤ s0_1
   rotate_left
   · exact absurd H (by rw [if_neg c10]; simp)
   rw [if_pos c10] at H
   have c10b0 := eq_true c10
   have c10b1 : decide (0 ≤ s0_1) = true := decide_eq_true c10
   clear c10
   by_cases c11 : s0_1 ≤ (wrap64 ((wrap64 (x1001_1 + 1)) - 1))
   rotate_left
   · exact absurd H (by rw [if_neg c11]; simp)
   rw [if_pos c11] at H
   have c11b0 := eq_true c11
   have c11b1 : decide (s0_1 ≤ (wrap64 ((wrap64 (x1001_1 + 1)) - 1))) = true := decide_eq_true c11
   by_cases c12 : (wrap64 ((wrap64 (x1001_1 + 1)) - 1)) ≤ (s0_0.size : Int)
   rotate_left
   · exact absurd H (by rw [if_neg c12]; simp)
   rw [if_pos c12] at H
   have c12b0 := eq_true c12
   have c12b1 : decide ((wrap64 ((wrap64 (x1001_1 + 1)) - 1)) ≤ (s0_0.size : Int)) = true := decide_eq_true c12
   simp only [Option.some.injEq, Prod.mk.injEq] at H
   obtain ⟨rfl, rfl, rfl, rfl⟩ := H
   obtain ⟨HGz13, hgz13⟩ := HI0.out
   have hcz13_0 := cellS53_0 HGz13
   have hcz13_1 := cellS53_1 HGz13
   have hcz13_2 := cellS53_2 HGz13
   have hfz13_0 := blk_frozen HGz13 0
   have hfz13_1 := blk_frozen HGz13 1
   have hfz13_2 := blk_frozen HGz13 2
   clear HGz13 hgz13
   have p6 : 0 ≤ (x1001_1 : Int) := od_
   have q6 : x1001_1 < (s0_0.size : Int) := od_
   have hx6 := bt_at s0_0 x1001_1
   replace p6 := eq_true p6
   replace q6 := eq_true q6
   go_wp2
   repeat (go_quiet (fail); try go_wp2)
   go_ret
   exact ⟨rr_, bIQx71_, bIQx70_, bK_⟩
def spec_Plain.l0 : Nat → ByteArray → Int → Option (Bool)
 | 0, _, _ => none
 | k + 1, x0, x3 => if x3 < (x0.size : Int) then (if 0 ≤ x3 then ((spec_l1In.f (wrap64 (bt x0 x3)) 32 126).bind fun t310 => (if t310 = true then (spec_Plain.l0 k x0 (wrap64 (x3 + 1))) else (some false))) else (none)) else (some true)
def spec_Plain.f (k : Nat) (a0 : ByteArray) : Option (Bool) := spec_Plain.l0 k a0 0
theorem spec_Plain.calls (k : Nat) (a0 : ByteArray) (r : Bool) (w : World) (h : spec_Plain.f k a0 = some r) :
 Calls Tryz.prog 79 #[.string a0] w fun e w' => e = .returned (.bool r) ∧ Drawn0 w w' := by
 have H : (spec_Plain.l0 k a0 0) = some r := h
 clear h
 have H' := A_ H
 clear H
 go_enter Tryz.func79, Tryz.ntmps79
 go_wp2
 go_loopg [3] k (fun kq v3 w' => ∃ (x3_1 : Int), v3 = .int .i64 x3_1 ∧ Aside0 (spec_Plain.l0 kq a0 x3_1 = some r) ∧ Aside0 (kq ≤ k) ∧ Drawn0 w w')
 case atStart => exact ⟨(0), rs_, H', ⟨Nat.le_refl _⟩, dr_⟩
 case round =>
  clear H'
  obtain ⟨x3_1, rfl, HA, HK1, ⟨m1, rfl⟩⟩ := hrel
  cases gk with
  | zero => exact absurd HA.out (by simp [spec_Plain.l0])
  | succ k1 =>
   have H := HA.out
   clear HA
   simp only [spec_Plain.l0] at H
   by_cases c2 : x3_1 < (a0.size : Int)
   rotate_left
   · rw [if_neg c2] at H
     have c2b0 : decide (x3_1 < (a0.size : Int)) = false := decide_eq_false c2
     clear c2
     obtain rfl := si_ H
     go_wp2
     go_ret
     exact ⟨rs_, dr_⟩
   rw [if_pos c2] at H
   have c2b0 : decide (x3_1 < (a0.size : Int)) = true := decide_eq_true c2
   clear c2
   by_cases c3 : 0 ≤ x3_1
   rotate_left
   · exact absurd H (by rw [if_neg c3]; simp)
   rw [if_pos c3] at H
   have c3b0 : decide (0 ≤ x3_1) = true := decide_eq_true c3
   clear c3
   obtain ⟨t310, A5, H⟩ := bo_ H
   (try dsimp only at H)
   by_cases c6 : t310 = true
   · subst c6
     rw [if_pos rfl] at H
     have H' := A_ H
     clear H
     have p4 : 0 ≤ (x3_1 : Int) := od_
     have q4 : x3_1 < (a0.size : Int) := od_
     have hx4 := bt_at a0 x3_1
     replace p4 := eq_true p4
     replace q4 := eq_true q4
     go_wp2_with (first | ((with_reducible refine gc_ (f := 78) rfl ?_); refine gL_ (some 14) Tryz.func78 #[.int .i64 (wrap64 (bt a0 x3_1)), .int .i64 32, .int .i64 126] ?_; (with_reducible refine (spec_l1In.calls (wrap64 (bt a0 x3_1)) 32 126 true _ A5.out).mono ?_); rintro e w' ⟨rfl, ⟨nd, rfl⟩⟩; refine ⟨_, rfl, ?_⟩))
     go_roundg k1
     case measure => have := HK1.out; omega
     case rel => exact ⟨(wrap64 (x3_1 + 1)), rs_, H', ⟨by have := HK1.out; omega⟩, dr_⟩
   · replace c6 := Bool.eq_false_iff.mpr c6
     subst c6
     rw [if_neg nf_] at H
     obtain rfl := si_ H
     have p4 : 0 ≤ (x3_1 : Int) := od_
     have q4 : x3_1 < (a0.size : Int) := od_
     have hx4 := bt_at a0 x3_1
     replace p4 := eq_true p4
     replace q4 := eq_true q4
     go_wp2_with (first | ((with_reducible refine gc_ (f := 78) rfl ?_); refine gL_ (some 14) Tryz.func78 #[.int .i64 (wrap64 (bt a0 x3_1)), .int .i64 32, .int .i64 126] ?_; (with_reducible refine (spec_l1In.calls (wrap64 (bt a0 x3_1)) 32 126 false _ A5.out).mono ?_); rintro e w' ⟨rfl, ⟨nd, rfl⟩⟩; refine ⟨_, rfl, ?_⟩))
     go_ret
     exact ⟨rs_, dr_⟩
end Go.Proofs.YtigoeooelfeopaaGreatDoor.Q
