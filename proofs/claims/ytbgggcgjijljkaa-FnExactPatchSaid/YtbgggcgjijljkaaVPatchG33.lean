-- PRINTED by print.py (a twelfth state) out of the translation. Not trusted: Lean checks it.
import Derived.Test.YtbgggcgjijljkaaVPatchG12
import Derived.Test.YtbgggcgjijljkaaVPatchG22
import Derived.Test.YtbgggcgjijljkaaVPatchG23
import Derived.Test.YtbgggcgjijljkaaVPatchG24
import Derived.Test.YtbgggcgjijljkaaVPatchG25
import Derived.Test.YtbgggcgjijljkaaVPatchG32
namespace Go.Proofs.Ytbgggcgjijljkaa.Q
open Go.RowKit Go.Proofs.YtbgggcgjijljkaaW.PrintWords Go.Proofs.YtbgggcgjijljkaaW.PrintLast Go.Proofs.YtbgggcgjijljkaaW.PrintMore
attribute [local go_sem] max2_int min2_int max_two min_two max_three min_three max_four min_four   -- for this text's walks alone
set_option linter.unusedVariables false
set_option linter.unusedSimpArgs false
def spec_SetProps.l0 : Nat → List (S72) → List (S74) → List (S72) → Int → Option ((List (S72)) × Bool)
 | 0, _, _, _, _ => none
 | k + 1, x0, x1, x6, x7 => if x7 < (x1.length : Int) then (if 0 ≤ x7 then ((spec_l10Prop.f k ((rd_T74 x1 x7).f1.f0) ((rd_T74 x1 x7).f1.f1) ((rd_T74 x1 x7).f1.f2)).bind fun t736 => (if t736 = true then ((spec_l12One.f k x6 ((rd_T74 x1 x7).f0) ((rd_T74 x1 x7).f1.f0) ((rd_T74 x1 x7).f1.f1) ((rd_T74 x1 x7).f1.f2)).bind fun t738 => (spec_SetProps.l0 k x0 x1 t738 (wrap64 (x7 + 1)))) else ((some (([] : List (S72)) : List (S72))).bind fun y741 => (if y741.length + x0.length < 2932031007402 then (some ((y741 ++ x0), false)) else (none))))) else (none)) else ((spec_PropsOk.f k x6).bind fun t728 => (if t728 = true then (some (x6, true)) else ((some (([] : List (S72)) : List (S72))).bind fun y729 => (if y729.length + x0.length < 2932031007402 then (some ((y729 ++ x0), false)) else (none)))))
def spec_SetProps.f (k : Nat) (l0 : List (S72)) (l1 : List (S74)) : Option ((List (S72)) × Bool) := (some (([] : List (S72)) : List (S72))).bind fun y722 => (if y722.length + l0.length < 2932031007402 then (spec_SetProps.l0 k l0 l1 (y722 ++ l0) 0) else (none))
set_option maxHeartbeats 8000000 in
set_option maxRecDepth 100000 in
theorem spec_SetProps.calls (k : Nat) (A0 : Option Addr) (c0 : Nat) (l0 : List (S72)) (A1 : Option Addr) (c1 : Nat) (l1 : List (S74)) (r1 : List (S72)) (r2 : Bool) (w : World) (hr0 : Kd.C k72 w A0 l0.length l0) (hc0 : l0.length ≤ c0) (hr1 : Kd.C k74 w A1 l1.length l1) (hc1 : l1.length ≤ c1) (h : spec_SetProps.f k l0 l1 = some (r1, r2)) :
 Calls Try.prog 54 #[.slice A0 l0.length c0, .slice A1 l1.length c1] w fun e w' => ∃ v0_ : Value, e = .returned (.tuple #[v0_, .bool r2]) ∧ Kd.R k72 72 w' w.heap.size (fun _ => True) v0_ r1 ∧ Below w.heap.size w w' := by
 have hu72 := Try.underlying72
 have hu74 := Try.underlying74
 have HR0 := Aside0.mk hr0
 have HC0 := Aside0.mk hc0
 clear hr0 hc0
 have HR1 := Aside0.mk hr1
 have HC1 := Aside0.mk hc1
 clear hr1 hc1
 have HB := Aside0.mk (Below.refl w.heap.size w)
 have H : ((some (([] : List (S72)) : List (S72))).bind fun y722 => (if y722.length + l0.length < 2932031007402 then (spec_SetProps.l0 k l0 l1 (y722 ++ l0) 0) else (none))) = some (r1, r2) := h
 clear h
 obtain ⟨y722, hy722⟩ : ∃ y_ : List (S72), y_ = (([] : List (S72))) := ⟨_, rfl⟩
 replace H : (if y722.length + l0.length < 2932031007402 then (spec_SetProps.l0 k l0 l1 (y722 ++ l0) 0) else (none)) = some (r1, r2) := by first | (rw [hy722]; with_reducible exact H) | (have H2_ := (Option.bind_some _ _).symm.trans H; rw [hy722]; with_reducible exact H2_) | (have H2_ := (Option.bind_some _ _).symm.trans H; with_reducible exact H2_) | with_reducible exact H | (rw [hy722]; exact H) | exact H
 have Ny722 := Aside0.mk hy722
 clear hy722
 by_cases c3 : y722.length + l0.length < 2932031007402
 rotate_left
 · exact absurd H (by rw [if_neg c3]; simp)
 rw [if_pos c3] at H
 have LMc3 := Aside0.mk c3
 clear c3
 obtain ⟨y725, hy725⟩ : ∃ y_ : List (S72), y_ = (y722 ++ l0) := ⟨_, rfl⟩
 replace H : (spec_SetProps.l0 k l0 l1 y725 0) = some (r1, r2) := by first | (rw [hy725]; with_reducible exact H) | (have H2_ := (Option.bind_some _ _).symm.trans H; rw [hy725]; with_reducible exact H2_) | (have H2_ := (Option.bind_some _ _).symm.trans H; with_reducible exact H2_) | with_reducible exact H | (rw [hy725]; exact H) | exact H
 have Ny725 := Aside0.mk hy725
 clear hy725
 have H' := Aside0.mk H
 clear H
 go_enter Try.func54, Try.ntmps54
 go_wp2_with (first | ((with_reducible refine gate_dst (N := 8) rfl ?_); refine Kd.R_lit k72 _ 72 ?hg (N := 8) ?hd (xs := ([] : List (S72))) (inner := []) (ok := fun _ => True) (okp := fun _ => True) ?hr ?hp (fun _ hk => hk) trivial (Below.refl _ _) (Nat.le_refl _) (by simp) ?_; (case hd => rfl); (case hg => rfl); (case hr => first | (go_simp; done) | (go_simp; rfl)); (case hp => exact (Reps.none _ _)); intro v723 w4 ho5 hb hg_ hnew_; clear hg_ hnew_; (first | rw [← Ny722.out] at ho5 | (simp only [Int.reduceToNat] at ho5; rw [← Ny722.out] at ho5)); have n0_ := Aside0.mk (Kd.R_lower ho5 (below_size bB_)); have n1_ := Aside0.mk (below_step bB_ hb); clear HB; have HO724 := n0_; have HB := n1_; clear n0_ n1_; clear hb ho5) | ((with_reducible refine gate_builtin (b := .append) (xs := #[.tmp 8, .tmp 9]) rfl ?_); at_builtin; refine Kd.R_append_rows k72 (w0 := w) w.heap.size rfl (.tmp 8) (.tmp 9) 55 72 (.agg #[(.string ⟨#[]⟩), (.string ⟨#[]⟩), (.string ⟨#[]⟩)]) 48 rfl Try.underlying55 info72 rfl (by decide) (by omega) v723 y722 l0 _ _ _ (fun _ => True) (fun _ => False) rfl rfl ?aO ?aR (fun _ _ h => h) (fun _ h => h.elim) ?aF ?aB ?aS ?aL ?_; (case aR => exact cC_ (Kd.C_below HR0.out HB.out)); (case aB => exact bB_); (case aF => exact (fun _ _ => trivial)); (case aO => exact (vR_ HO724.out)); (case aS => exact (below_size bB_)); (case aL => have := LMc3.out; omega); intro v726 w6 ho hb hg hat; rw [← Ny725.out] at ho; have n0_ := Aside0.mk (hb); have n1_ := Aside0.mk (ho); clear HB; clear HO724; have HB := n0_; have HO727 := n1_; clear n0_ n1_; clear ho hb hg hat))
 go_loopg [6, 7] k (fun kq v6 v7 w' => ∃ (x6_1 : List (S72)) (x7_1 : Int), v7 = .int .i64 x7_1 ∧ Aside0 (spec_SetProps.l0 kq l0 l1 x6_1 x7_1 = some (r1, r2)) ∧ Aside0 (kq ≤ k) ∧ Aside0 (Kd.R k72 72 w' w.heap.size (fun _ => True) v6 x6_1) ∧ Aside0 (Below w.heap.size w w'))
 case atStart => exact ⟨(y725), (0), rs_, H', ⟨Nat.le_refl _⟩, ⟨by (with_reducible repeat (first | apply Kd.R_alloc | apply Kd.R_drewN | apply Kd.R_drew)); exact HO727.out⟩, ⟨bB_⟩⟩
 case round =>
  clear H'
  try clear c1
  try clear p2
  try clear c3
  try clear c5
  obtain ⟨x6_1, x7_1, rfl, HA, HK1, HO_6, HB⟩ := hrel
  cases gk with
  | zero => exact absurd HA.out (by simp [spec_SetProps.l0])
  | succ k1 =>
   have H := HA.out
   clear HA
   simp only [spec_SetProps.l0] at H
   by_cases c7 : x7_1 < (l1.length : Int)
   · rw [if_pos c7] at H
     have c7b0 : decide (x7_1 < (l1.length : Int)) = true := decide_eq_true c7
     clear c7
     by_cases c8 : 0 ≤ x7_1
     rotate_left
     · exact absurd H (by rw [if_neg c8]; simp)
     rw [if_pos c8] at H
     have c8b0 : decide (0 ≤ x7_1) = true := decide_eq_true c8
     clear c8
     obtain ⟨t736, A9, H⟩ := bo_ H
     (try dsimp only at H)
     by_cases c10 : t736 = true
     · subst c10
       rw [if_pos rfl] at H
       obtain ⟨t738, A11, H⟩ := bo_ H
       (try dsimp only at H)
       have H' := Aside0.mk H
       clear H
       have p735 : 0 ≤ (x7_1 : Int) := of_decide_eq_true as_
       have q735 : x7_1 < (l1.length : Int) := of_decide_eq_true as_
       obtain ⟨ad735, e735, hx735_0, hx735_1, hx735_2, hx735_3⟩ := at_T74 HR1.out x7_1 p735 q735
       cases e735
       replace hx735_0 := bc_ HB.out hx735_0
       replace hx735_1 := bc_ HB.out hx735_1
       replace hx735_2 := bc_ HB.out hx735_2
       replace hx735_3 := bc_ HB.out hx735_3
       replace p735 := eq_true p735
       replace q735 := eq_true q735
       go_wp2_with (first | ((with_reducible refine gate_callee (f := 95) rfl ?_); refine gL_ (some 22) Try.func95 #[.agg #[.string ((rd_T74 l1 x7_1).f1.f0), .string ((rd_T74 l1 x7_1).f1.f1), .string ((rd_T74 l1 x7_1).f1.f2)]] ?_; (with_reducible refine (spec_l10Prop.calls k1 ((rd_T74 l1 x7_1).f1.f0) ((rd_T74 l1 x7_1).f1.f1) ((rd_T74 l1 x7_1).f1.f2) true _ A9.out).mono ?_); rintro e w12 ⟨rfl, hb⟩; refine ⟨_, rfl, ?_⟩; have n0_ := Aside0.mk (Kd.R_below (vR_ HO_6.out) hb); have n1_ := Aside0.mk (below_step bB_ hb); clear HO_6; clear HB; have HO_6 := n0_; have HB := n1_; clear n0_ n1_; (try clear hb); have p737 : 0 ≤ (x7_1 : Int) := of_decide_eq_true as_; have q737 : x7_1 < (l1.length : Int) := of_decide_eq_true as_; obtain ⟨ad737, e737, hx737_0, hx737_1, hx737_2, hx737_3⟩ := at_T74 HR1.out x7_1 p737 q737; obtain rfl : ad735 = ad737 := (by injection e737); replace hx737_0 := bc_ HB.out hx737_0; replace hx737_1 := bc_ HB.out hx737_1; replace hx737_2 := bc_ HB.out hx737_2; replace hx737_3 := bc_ HB.out hx737_3; replace p737 := eq_true p737; replace q737 := eq_true q737; obtain ⟨Ao13, co13, eo13⟩ := Kd.R_slice HO_6.out; subst eo13) | ((with_reducible refine gate_callee (f := 96) rfl ?_); refine gL_ (some 32) Try.func96 #[.slice Ao13 x6_1.length co13, .agg #[.bool ((rd_T74 l1 x7_1).f0), .string ((rd_T74 l1 x7_1).f1.f0), .string ((rd_T74 l1 x7_1).f1.f1), .string ((rd_T74 l1 x7_1).f1.f2)]] ?_; (with_reducible refine (spec_l12One.calls k1 _ _ x6_1 ((rd_T74 l1 x7_1).f0) ((rd_T74 l1 x7_1).f1.f0) ((rd_T74 l1 x7_1).f1.f1) ((rd_T74 l1 x7_1).f1.f2) t738 _ ?side1 ?side2 A11.out).mono ?_); (case side1 => exact cC_ (Kd.R_reads' HO_6.out).2.2); (case side2 => exact (Kd.R_reads' HO_6.out).2.1); rintro e w14 ⟨v739, rfl, ho0, hb⟩; refine ⟨_, rfl, ?_⟩; have n0_ := Aside0.mk (Kd.R_elder' (vR_ HO_6.out) (by first | exact Kd.R_base ho0 | exact Kd.S_base ho0) hb); have n1_ := Aside0.mk (Kd.R_lower (Kd.R_new' ho0 (Kd.R_lt (vR_ HO_6.out))) (below_size bB_)); have n2_ := Aside0.mk (below_step bB_ hb); clear HO_6; clear HB; have HO_6 := n0_; have HO740 := n1_; have HB := n2_; clear n0_ n1_ n2_; (try clear hb); (try clear ho0)))
       go_roundg k1
       case measure => have := HK1.out; omega
       case rel => exact ⟨(t738), (wrap64 (x7_1 + 1)), rs_, H', ⟨by have := HK1.out; omega⟩, ⟨by (with_reducible repeat (first | apply Kd.R_alloc | apply Kd.R_drewN | apply Kd.R_drew)); exact Kd.R_mono HO740.out (fun _ hk => trivial)⟩, ⟨bB_⟩⟩
     · replace c10 := Bool.eq_false_iff.mpr c10
       subst c10
       rw [if_neg (show ¬ (false = true) by decide)] at H
       obtain ⟨y741, hy741⟩ : ∃ y_ : List (S72), y_ = (([] : List (S72))) := ⟨_, rfl⟩
       replace H : (if y741.length + l0.length < 2932031007402 then (some ((y741 ++ l0), false)) else (none)) = some (r1, r2) := by first | (rw [hy741]; with_reducible exact H) | (have H2_ := (Option.bind_some _ _).symm.trans H; rw [hy741]; with_reducible exact H2_) | (have H2_ := (Option.bind_some _ _).symm.trans H; with_reducible exact H2_) | with_reducible exact H | (rw [hy741]; exact H) | exact H
       have Ny741 := Aside0.mk hy741
       clear hy741
       by_cases c15 : y741.length + l0.length < 2932031007402
       rotate_left
       · exact absurd H (by rw [if_neg c15]; simp)
       rw [if_pos c15] at H
       have LMc15 := Aside0.mk c15
       clear c15
       obtain ⟨y744, hy744⟩ : ∃ y_ : List (S72), y_ = (y741 ++ l0) := ⟨_, rfl⟩
       replace H : (some (y744, false)) = some (r1, r2) := by first | (rw [hy744]; with_reducible exact H) | (have H2_ := (Option.bind_some _ _).symm.trans H; rw [hy744]; with_reducible exact H2_) | (have H2_ := (Option.bind_some _ _).symm.trans H; with_reducible exact H2_) | with_reducible exact H | (rw [hy744]; exact H) | exact H
       have Ny744 := Aside0.mk hy744
       clear hy744
       simp only [Option.some.injEq, Prod.mk.injEq] at H
       obtain ⟨rfl, rfl⟩ := H
       have p735 : 0 ≤ (x7_1 : Int) := of_decide_eq_true as_
       have q735 : x7_1 < (l1.length : Int) := of_decide_eq_true as_
       obtain ⟨ad735, e735, hx735_0, hx735_1, hx735_2, hx735_3⟩ := at_T74 HR1.out x7_1 p735 q735
       cases e735
       replace hx735_0 := bc_ HB.out hx735_0
       replace hx735_1 := bc_ HB.out hx735_1
       replace hx735_2 := bc_ HB.out hx735_2
       replace hx735_3 := bc_ HB.out hx735_3
       replace p735 := eq_true p735
       replace q735 := eq_true q735
       go_wp2_with (first | ((with_reducible refine gate_callee (f := 95) rfl ?_); refine gL_ (some 22) Try.func95 #[.agg #[.string ((rd_T74 l1 x7_1).f1.f0), .string ((rd_T74 l1 x7_1).f1.f1), .string ((rd_T74 l1 x7_1).f1.f2)]] ?_; (with_reducible refine (spec_l10Prop.calls k1 ((rd_T74 l1 x7_1).f1.f0) ((rd_T74 l1 x7_1).f1.f1) ((rd_T74 l1 x7_1).f1.f2) false _ A9.out).mono ?_); rintro e w16 ⟨rfl, hb⟩; refine ⟨_, rfl, ?_⟩; have n0_ := Aside0.mk (Kd.R_below (vR_ HO_6.out) hb); have n1_ := Aside0.mk (below_step bB_ hb); clear HO_6; clear HB; have HO_6 := n0_; have HB := n1_; clear n0_ n1_; (try clear hb)) | ((with_reducible refine gate_dst (N := 24) rfl ?_); refine Kd.R_lit k72 _ 72 ?hg (N := 24) ?hd (xs := ([] : List (S72))) (inner := []) (ok := fun _ => True) (okp := fun _ => True) ?hr ?hp (fun _ hk => hk) trivial (Below.refl _ _) (Nat.le_refl _) (by simp) ?_; (case hd => rfl); (case hg => rfl); (case hr => first | (go_simp; done) | (go_simp; rfl)); (case hp => exact (Reps.none _ _)); intro v742 w17 ho18 hb hg_ hnew_; clear hg_ hnew_; (first | rw [← Ny741.out] at ho18 | (simp only [Int.reduceToNat] at ho18; rw [← Ny741.out] at ho18)); have n0_ := Aside0.mk (Kd.R_elder' (vR_ HO_6.out) (by first | exact Kd.R_base ho18 | exact Kd.S_base ho18) hb); have n1_ := Aside0.mk (Kd.R_lower (Kd.R_new' ho18 (Kd.R_lt (vR_ HO_6.out))) (below_size bB_)); have n2_ := Aside0.mk (below_step bB_ hb); clear HO_6; clear HB; have HO_6 := n0_; have HO743 := n1_; have HB := n2_; clear n0_ n1_ n2_; clear hb ho18) | ((with_reducible refine gate_builtin (b := .append) (xs := #[.tmp 24, .tmp 25]) rfl ?_); at_builtin; refine Kd.R_append_rows k72 (w0 := w) w.heap.size rfl (.tmp 24) (.tmp 25) 55 72 (.agg #[(.string ⟨#[]⟩), (.string ⟨#[]⟩), (.string ⟨#[]⟩)]) 48 rfl Try.underlying55 info72 rfl (by decide) (by omega) v742 y741 l0 _ _ _ (fun k_ => some k_ ≠ (u6 : Value).ownBlock) (fun _ => False) rfl rfl ?aO ?aR (fun _ _ h => h) (fun _ h => h.elim) ?aF ?aB ?aS ?aL ?_; (case aR => exact cC_ (Kd.C_below HR0.out HB.out)); (case aB => exact bB_); (case aF => exact (fun k_ hk => Kd.fresh' (Kd.R_lt (vR_ HO_6.out)) k_ hk)); (case aO => exact (by (with_reducible repeat (first | apply Kd.R_alloc | apply Kd.R_drewN | apply Kd.R_drew)); exact Kd.R_mono HO743.out (fun _ hk => hk.2))); (case aS => exact (below_size bB_)); (case aL => have := LMc15.out; omega); intro v745 w19 ho hb hg hat; rw [← Ny744.out] at ho; have n0_ := Aside0.mk (Kd.R_after (ok := (fun _ => True)) (vR_ HO_6.out) hg hat); have n1_ := Aside0.mk (hb); have n2_ := Aside0.mk (ho); clear HO_6; clear HB; clear HO743; have HO_6 := n0_; have HB := n1_; have HO746 := n2_; clear n0_ n1_ n2_; clear ho hb hg hat))
       go_ret2
       exact ⟨_, rr_, by (with_reducible repeat (first | apply Kd.R_alloc | apply Kd.R_drewN | apply Kd.R_drew)); exact Kd.R_mono HO746.out (fun _ hk => trivial), bB_⟩
   · rw [if_neg c7] at H
     have c7b0 : decide (x7_1 < (l1.length : Int)) = false := decide_eq_false c7
     clear c7
     obtain ⟨t728, A20, H⟩ := bo_ H
     (try dsimp only at H)
     by_cases c21 : t728 = true
     · subst c21
       rw [if_pos rfl] at H
       simp only [Option.some.injEq, Prod.mk.injEq] at H
       obtain ⟨rfl, rfl⟩ := H
       obtain ⟨Ao22, co22, eo22⟩ := Kd.R_slice HO_6.out
       subst eo22
       go_wp2_with (first | ((with_reducible refine gate_callee (f := 97) rfl ?_); refine gL_ (some 34) Try.func97 #[.slice Ao22 x6_1.length co22] ?_; (with_reducible refine (spec_PropsOk.calls k1 _ _ x6_1 true _ ?side1 ?side2 A20.out).mono ?_); (case side1 => exact cC_ (Kd.R_reads' HO_6.out).2.2); (case side2 => exact (Kd.R_reads' HO_6.out).2.1); rintro e w23 ⟨rfl, hb⟩; refine ⟨_, rfl, ?_⟩; have n0_ := Aside0.mk (Kd.R_below (vR_ HO_6.out) hb); have n1_ := Aside0.mk (below_step bB_ hb); clear HO_6; clear HB; have HO_6 := n0_; have HB := n1_; clear n0_ n1_; (try clear hb)))
       go_ret2
       exact ⟨_, rr_, by (with_reducible repeat (first | apply Kd.R_alloc | apply Kd.R_drewN | apply Kd.R_drew)); exact HO_6.out, bB_⟩
     · replace c21 := Bool.eq_false_iff.mpr c21
       subst c21
       rw [if_neg (show ¬ (false = true) by decide)] at H
       obtain ⟨y729, hy729⟩ : ∃ y_ : List (S72), y_ = (([] : List (S72))) := ⟨_, rfl⟩
       replace H : (if y729.length + l0.length < 2932031007402 then (some ((y729 ++ l0), false)) else (none)) = some (r1, r2) := by first | (rw [hy729]; with_reducible exact H) | (have H2_ := (Option.bind_some _ _).symm.trans H; rw [hy729]; with_reducible exact H2_) | (have H2_ := (Option.bind_some _ _).symm.trans H; with_reducible exact H2_) | with_reducible exact H | (rw [hy729]; exact H) | exact H
       have Ny729 := Aside0.mk hy729
       clear hy729
       by_cases c24 : y729.length + l0.length < 2932031007402
       rotate_left
       · exact absurd H (by rw [if_neg c24]; simp)
       rw [if_pos c24] at H
       have LMc24 := Aside0.mk c24
       clear c24
       obtain ⟨y732, hy732⟩ : ∃ y_ : List (S72), y_ = (y729 ++ l0) := ⟨_, rfl⟩
       replace H : (some (y732, false)) = some (r1, r2) := by first | (rw [hy732]; with_reducible exact H) | (have H2_ := (Option.bind_some _ _).symm.trans H; rw [hy732]; with_reducible exact H2_) | (have H2_ := (Option.bind_some _ _).symm.trans H; with_reducible exact H2_) | with_reducible exact H | (rw [hy732]; exact H) | exact H
       have Ny732 := Aside0.mk hy732
       clear hy732
       simp only [Option.some.injEq, Prod.mk.injEq] at H
       obtain ⟨rfl, rfl⟩ := H
       obtain ⟨Ao25, co25, eo25⟩ := Kd.R_slice HO_6.out
       subst eo25
       go_wp2_with (first | ((with_reducible refine gate_callee (f := 97) rfl ?_); refine gL_ (some 34) Try.func97 #[.slice Ao25 x6_1.length co25] ?_; (with_reducible refine (spec_PropsOk.calls k1 _ _ x6_1 false _ ?side1 ?side2 A20.out).mono ?_); (case side1 => exact cC_ (Kd.R_reads' HO_6.out).2.2); (case side2 => exact (Kd.R_reads' HO_6.out).2.1); rintro e w26 ⟨rfl, hb⟩; refine ⟨_, rfl, ?_⟩; have n0_ := Aside0.mk (Kd.R_below (vR_ HO_6.out) hb); have n1_ := Aside0.mk (below_step bB_ hb); clear HO_6; clear HB; have HO_6 := n0_; have HB := n1_; clear n0_ n1_; (try clear hb)) | ((with_reducible refine gate_dst (N := 36) rfl ?_); refine Kd.R_lit k72 _ 72 ?hg (N := 36) ?hd (xs := ([] : List (S72))) (inner := []) (ok := fun _ => True) (okp := fun _ => True) ?hr ?hp (fun _ hk => hk) trivial (Below.refl _ _) (Nat.le_refl _) (by simp) ?_; (case hd => rfl); (case hg => rfl); (case hr => first | (go_simp; done) | (go_simp; rfl)); (case hp => exact (Reps.none _ _)); intro v730 w27 ho28 hb hg_ hnew_; clear hg_ hnew_; (first | rw [← Ny729.out] at ho28 | (simp only [Int.reduceToNat] at ho28; rw [← Ny729.out] at ho28)); have n0_ := Aside0.mk (Kd.R_elder' (vR_ HO_6.out) (by first | exact Kd.R_base ho28 | exact Kd.S_base ho28) hb); have n1_ := Aside0.mk (Kd.R_lower (Kd.R_new' ho28 (Kd.R_lt (vR_ HO_6.out))) (below_size bB_)); have n2_ := Aside0.mk (below_step bB_ hb); clear HO_6; clear HB; have HO_6 := n0_; have HO731 := n1_; have HB := n2_; clear n0_ n1_ n2_; clear hb ho28) | ((with_reducible refine gate_builtin (b := .append) (xs := #[.tmp 36, .tmp 37]) rfl ?_); at_builtin; refine Kd.R_append_rows k72 (w0 := w) w.heap.size rfl (.tmp 36) (.tmp 37) 55 72 (.agg #[(.string ⟨#[]⟩), (.string ⟨#[]⟩), (.string ⟨#[]⟩)]) 48 rfl Try.underlying55 info72 rfl (by decide) (by omega) v730 y729 l0 _ _ _ (fun k_ => some k_ ≠ (.slice Ao25 x6_1.length co25 : Value).ownBlock) (fun _ => False) rfl rfl ?aO ?aR (fun _ _ h => h) (fun _ h => h.elim) ?aF ?aB ?aS ?aL ?_; (case aR => exact cC_ (Kd.C_below HR0.out HB.out)); (case aB => exact bB_); (case aF => exact (fun k_ hk => Kd.fresh' (Kd.R_lt (vR_ HO_6.out)) k_ hk)); (case aO => exact (by (with_reducible repeat (first | apply Kd.R_alloc | apply Kd.R_drewN | apply Kd.R_drew)); exact Kd.R_mono HO731.out (fun _ hk => hk.2))); (case aS => exact (below_size bB_)); (case aL => have := LMc24.out; omega); intro v733 w29 ho hb hg hat; rw [← Ny732.out] at ho; have n0_ := Aside0.mk (Kd.R_after (ok := (fun _ => True)) (vR_ HO_6.out) hg hat); have n1_ := Aside0.mk (hb); have n2_ := Aside0.mk (ho); clear HO_6; clear HB; clear HO731; have HO_6 := n0_; have HB := n1_; have HO734 := n2_; clear n0_ n1_ n2_; clear ho hb hg hat))
       go_ret2
       exact ⟨_, rr_, by (with_reducible repeat (first | apply Kd.R_alloc | apply Kd.R_drewN | apply Kd.R_drew)); exact Kd.R_mono HO734.out (fun _ hk => trivial), bB_⟩
def spec_Patch.f (k : Nat) (l0 : List (S57)) (l1 : List ByteArray) (l2 : List (S74)) : Option ((List (S57)) × Int) := (spec_l10CopyAll.f k l0).bind fun t747 => ((spec_FindRes.f k l0 l1).bind fun t750 => ((spec_TreeOk.f k l0).bind fun t751 => (if t751 = true then (if (l1.length : Int) = 0 then (some (t747, 403)) else (if t750 < 0 then (some (t747, 404)) else (if 0 ≤ t750 then (if t750 < (l0.length : Int) then ((spec_SetProps.f k ((rd_T57 l0 t750).f4) l2).bind fun bt753 => (if bt753.2 = true then (if t750 < (t747.length : Int) then (some ((t747.set (t750 : Int).toNat (⟨(rd_T57 t747 t750).f0, (rd_T57 t747 t750).f1, (rd_T57 t747 t750).f2, (rd_T57 t747 t750).f3, bt753.1⟩ : S57)), 207)) else (none)) else (some (t747, 409)))) else (none)) else (none)))) else (some (t747, 500)))))
set_option maxHeartbeats 8000000 in
set_option maxRecDepth 100000 in
theorem spec_Patch.calls (k : Nat) (A0 : Option Addr) (c0 : Nat) (l0 : List (S57)) (A1 : Option Addr) (c1 : Nat) (l1 : List ByteArray) (A2 : Option Addr) (c2 : Nat) (l2 : List (S74)) (r1 : List (S57)) (r2 : Int) (w : World) (hr0 : Kd.C k57 w A0 l0.length l0) (hc0 : l0.length ≤ c0) (hr1 : Kd.C Kd.string w A1 l1.length l1) (hc1 : l1.length ≤ c1) (hr2 : Kd.C k74 w A2 l2.length l2) (hc2 : l2.length ≤ c2) (h : spec_Patch.f k l0 l1 l2 = some (r1, r2)) :
 Calls Try.prog 29 #[.slice A0 l0.length c0, .slice A1 l1.length c1, .slice A2 l2.length c2] w fun e w' => ∃ v0_ : Value, e = .returned (.tuple #[v0_, .int .i64 r2]) ∧ Kd.S k57 57 w' w.heap.size (fun _ => True) v0_ r1 ∧ Below w.heap.size w w' := by
 have HR0 := Aside0.mk hr0
 have HC0 := Aside0.mk hc0
 clear hr0 hc0
 have HR1 := Aside0.mk hr1
 have HC1 := Aside0.mk hc1
 clear hr1 hc1
 have HR2 := Aside0.mk hr2
 have HC2 := Aside0.mk hc2
 clear hr2 hc2
 have HB := Aside0.mk (Below.refl w.heap.size w)
 have H : ((spec_l10CopyAll.f k l0).bind fun t747 => ((spec_FindRes.f k l0 l1).bind fun t750 => ((spec_TreeOk.f k l0).bind fun t751 => (if t751 = true then (if (l1.length : Int) = 0 then (some (t747, 403)) else (if t750 < 0 then (some (t747, 404)) else (if 0 ≤ t750 then (if t750 < (l0.length : Int) then ((spec_SetProps.f k ((rd_T57 l0 t750).f4) l2).bind fun bt753 => (if bt753.2 = true then (if t750 < (t747.length : Int) then (some ((t747.set (t750 : Int).toNat (⟨(rd_T57 t747 t750).f0, (rd_T57 t747 t750).f1, (rd_T57 t747 t750).f2, (rd_T57 t747 t750).f3, bt753.1⟩ : S57)), 207)) else (none)) else (some (t747, 409)))) else (none)) else (none)))) else (some (t747, 500)))))) = some (r1, r2) := h
 clear h
 obtain ⟨t747, A4, H⟩ := bo_ H
 (try dsimp only at H)
 obtain ⟨t750, A5, H⟩ := bo_ H
 (try dsimp only at H)
 obtain ⟨t751, A6, H⟩ := bo_ H
 (try dsimp only at H)
 by_cases c7 : t751 = true
 · subst c7
   rw [if_pos rfl] at H
   by_cases c8 : (l1.length : Int) = 0
   · rw [if_pos c8] at H
     have c8b0 : ((l1.length : Int) == 0) = true := beq_iff_eq.mpr c8
     have c8b1 : ((l1.length : Int) != 0) = false := bne_eq_false_iff_eq.mpr c8
     clear c8
     simp only [Option.some.injEq, Prod.mk.injEq] at H
     obtain ⟨rfl, rfl⟩ := H
     go_enter Try.func29, Try.ntmps29
     go_wp2_with (first | ((with_reducible refine gate_callee (f := 62) rfl ?_); refine gL_ (some 13) Try.func62 #[.slice A0 l0.length c0] ?_; (with_reducible refine (spec_l10CopyAll.calls k _ _ l0 t747 _ ?side1 ?side2 A4.out).mono ?_); (case side1 => exact cC_ HR0.out); (case side2 => exact HC0.out); rintro e w9 ⟨v748, rfl, ho0, hb⟩; refine ⟨_, rfl, ?_⟩; have n0_ := Aside0.mk (Kd.S_lower ho0 (below_size bB_)); have n1_ := Aside0.mk (below_step bB_ hb); clear HB; have HO749 := n0_; have HB := n1_; clear n0_ n1_; (try clear hb); (try clear ho0)) | ((with_reducible refine gate_callee (f := 61) rfl ?_); refine gL_ (some 16) Try.func61 #[.slice A0 l0.length c0, .slice A1 l1.length c1] ?_; (with_reducible refine (spec_FindRes.calls k _ _ l0 _ _ l1 t750 _ ?side1 ?side2 ?side3 ?side4 A5.out).mono ?_); (case side1 => exact cC_ (Kd.C_below HR0.out HB.out)); (case side2 => exact HC0.out); (case side3 => exact cC_ (Kd.C_below HR1.out HB.out)); (case side4 => exact HC1.out); rintro e w' ⟨rfl, ⟨nd, rfl⟩⟩; refine ⟨_, rfl, ?_⟩) | ((with_reducible refine gate_callee (f := 79) rfl ?_); refine gL_ (some 19) Try.func79 #[.slice A0 l0.length c0] ?_; (with_reducible refine (spec_TreeOk.calls k _ _ l0 true _ ?side1 ?side2 A6.out).mono ?_); (case side1 => exact cC_ (Kd.C_below HR0.out bB_)); (case side2 => exact HC0.out); rintro e w10 ⟨rfl, hb⟩; refine ⟨_, rfl, ?_⟩; have n0_ := Aside0.mk (Kd.S_below (vS_ HO749.out) hb); have n1_ := Aside0.mk (below_step bB_ hb); clear HO749; clear HB; have HO749 := n0_; have HB := n1_; clear n0_ n1_; (try clear hb)))
     go_ret2
     exact ⟨_, rr_, by (with_reducible repeat (first | apply Kd.S_alloc | apply Kd.S_drewN | apply Kd.S_drew)); exact HO749.out, bB_⟩
   · rw [if_neg c8] at H
     have c8b0 : ((l1.length : Int) == 0) = false := beq_eq_false_iff_ne.mpr c8
     have c8b1 : ((l1.length : Int) != 0) = true := bne_iff_ne.mpr c8
     have c8b2 : ¬ (l1 = []) := fun h_ => c8 (by rw [h_]; rfl)
     by_cases c11 : t750 < 0
     · rw [if_pos c11] at H
       have c11b0 : decide (t750 < 0) = true := decide_eq_true c11
       clear c11
       simp only [Option.some.injEq, Prod.mk.injEq] at H
       obtain ⟨rfl, rfl⟩ := H
       go_enter Try.func29, Try.ntmps29
       go_wp2_with (first | ((with_reducible refine gate_callee (f := 62) rfl ?_); refine gL_ (some 13) Try.func62 #[.slice A0 l0.length c0] ?_; (with_reducible refine (spec_l10CopyAll.calls k _ _ l0 t747 _ ?side1 ?side2 A4.out).mono ?_); (case side1 => exact cC_ HR0.out); (case side2 => exact HC0.out); rintro e w12 ⟨v748, rfl, ho0, hb⟩; refine ⟨_, rfl, ?_⟩; have n0_ := Aside0.mk (Kd.S_lower ho0 (below_size bB_)); have n1_ := Aside0.mk (below_step bB_ hb); clear HB; have HO749 := n0_; have HB := n1_; clear n0_ n1_; (try clear hb); (try clear ho0)) | ((with_reducible refine gate_callee (f := 61) rfl ?_); refine gL_ (some 16) Try.func61 #[.slice A0 l0.length c0, .slice A1 l1.length c1] ?_; (with_reducible refine (spec_FindRes.calls k _ _ l0 _ _ l1 t750 _ ?side1 ?side2 ?side3 ?side4 A5.out).mono ?_); (case side1 => exact cC_ (Kd.C_below HR0.out HB.out)); (case side2 => exact HC0.out); (case side3 => exact cC_ (Kd.C_below HR1.out HB.out)); (case side4 => exact HC1.out); rintro e w' ⟨rfl, ⟨nd, rfl⟩⟩; refine ⟨_, rfl, ?_⟩) | ((with_reducible refine gate_callee (f := 79) rfl ?_); refine gL_ (some 19) Try.func79 #[.slice A0 l0.length c0] ?_; (with_reducible refine (spec_TreeOk.calls k _ _ l0 true _ ?side1 ?side2 A6.out).mono ?_); (case side1 => exact cC_ (Kd.C_below HR0.out bB_)); (case side2 => exact HC0.out); rintro e w13 ⟨rfl, hb⟩; refine ⟨_, rfl, ?_⟩; have n0_ := Aside0.mk (Kd.S_below (vS_ HO749.out) hb); have n1_ := Aside0.mk (below_step bB_ hb); clear HO749; clear HB; have HO749 := n0_; have HB := n1_; clear n0_ n1_; (try clear hb)))
       go_ret2
       exact ⟨_, rr_, by (with_reducible repeat (first | apply Kd.S_alloc | apply Kd.S_drewN | apply Kd.S_drew)); exact HO749.out, bB_⟩
     · rw [if_neg c11] at H
       have c11b0 : decide (t750 < 0) = false := decide_eq_false c11
       clear c11
       by_cases c14 : 0 ≤ t750
       rotate_left
       · exact absurd H (by rw [if_neg c14]; simp)
       rw [if_pos c14] at H
       have c14b0 : decide (0 ≤ t750) = true := decide_eq_true c14
       clear c14
       by_cases c15 : t750 < (l0.length : Int)
       rotate_left
       · exact absurd H (by rw [if_neg c15]; simp)
       rw [if_pos c15] at H
       have c15b0 : decide (t750 < (l0.length : Int)) = true := decide_eq_true c15
       clear c15
       obtain ⟨⟨t753, t754⟩, A16, H⟩ := bo_ H
       (try dsimp only at H)
       by_cases c17 : t754 = true
       · subst c17
         rw [if_pos rfl] at H
         by_cases c18 : t750 < (t747.length : Int)
         rotate_left
         · exact absurd H (by rw [if_neg c18]; simp)
         rw [if_pos c18] at H
         have c18b0 : decide (t750 < (t747.length : Int)) = true := decide_eq_true c18
         clear c18
         obtain ⟨y757, hy757⟩ : ∃ y_ : List (S57), y_ = (t747.set (t750 : Int).toNat (⟨(rd_T57 t747 t750).f0, (rd_T57 t747 t750).f1, (rd_T57 t747 t750).f2, (rd_T57 t747 t750).f3, t753⟩ : S57)) := ⟨_, rfl⟩
         replace H : (some (y757, 207)) = some (r1, r2) := by first | (rw [hy757]; with_reducible exact H) | (have H2_ := (Option.bind_some _ _).symm.trans H; rw [hy757]; with_reducible exact H2_) | (have H2_ := (Option.bind_some _ _).symm.trans H; with_reducible exact H2_) | with_reducible exact H | (rw [hy757]; exact H) | exact H
         have Ny757 := Aside0.mk hy757
         clear hy757
         simp only [Option.some.injEq, Prod.mk.injEq] at H
         obtain ⟨rfl, rfl⟩ := H
         go_enter Try.func29, Try.ntmps29
         go_wp2_with (first | ((with_reducible refine gate_callee (f := 62) rfl ?_); refine gL_ (some 13) Try.func62 #[.slice A0 l0.length c0] ?_; (with_reducible refine (spec_l10CopyAll.calls k _ _ l0 t747 _ ?side1 ?side2 A4.out).mono ?_); (case side1 => exact cC_ HR0.out); (case side2 => exact HC0.out); rintro e w20 ⟨v748, rfl, ho0, hb⟩; refine ⟨_, rfl, ?_⟩; have n0_ := Aside0.mk (Kd.S_lower ho0 (below_size bB_)); have n1_ := Aside0.mk (below_step bB_ hb); clear HB; have HO749 := n0_; have HB := n1_; clear n0_ n1_; (try clear hb); (try clear ho0)) | ((with_reducible refine gate_callee (f := 61) rfl ?_); refine gL_ (some 16) Try.func61 #[.slice A0 l0.length c0, .slice A1 l1.length c1] ?_; (with_reducible refine (spec_FindRes.calls k _ _ l0 _ _ l1 t750 _ ?side1 ?side2 ?side3 ?side4 A5.out).mono ?_); (case side1 => exact cC_ (Kd.C_below HR0.out HB.out)); (case side2 => exact HC0.out); (case side3 => exact cC_ (Kd.C_below HR1.out HB.out)); (case side4 => exact HC1.out); rintro e w' ⟨rfl, ⟨nd, rfl⟩⟩; refine ⟨_, rfl, ?_⟩; (try (rw [drewN_self w20]; generalize hq_ : World.drewN w20 _ = w20; have n0_ : Aside0 (Kd.S k57 57 w20 w.heap.size (fun _ => True) v748 t747) := ⟨by rw [← hq_]; exact (vS_ HO749.out)⟩; have n1_ : Aside0 (Below w.heap.size w w20) := ⟨by rw [← hq_]; exact bB_⟩; clear HO749 HB hq_; have HO749 := n0_; have HB := n1_; clear n0_ n1_))) | ((with_reducible refine gate_callee (f := 79) rfl ?_); refine gL_ (some 19) Try.func79 #[.slice A0 l0.length c0] ?_; (with_reducible refine (spec_TreeOk.calls k _ _ l0 true _ ?side1 ?side2 A6.out).mono ?_); (case side1 => exact cC_ (Kd.C_below HR0.out HB.out)); (case side2 => exact HC0.out); rintro e w21 ⟨rfl, hb⟩; refine ⟨_, rfl, ?_⟩; have n0_ := Aside0.mk (Kd.S_below (vS_ HO749.out) hb); have n1_ := Aside0.mk (below_step bB_ hb); clear HO749; clear HB; have HO749 := n0_; have HB := n1_; clear n0_ n1_; (try clear hb); have p752 : 0 ≤ (t750 : Int) := of_decide_eq_true as_; have q752 : t750 < (l0.length : Int) := of_decide_eq_true as_; obtain ⟨ad752, A752_0, c752_0, A752_4, c752_4, e752, hx752_0, hx752_1, hx752_2, hx752_3, hx752_4, hl752_0, hi752_0, hl752_4, hi752_4⟩ := at_T57 HR0.out t750 p752 q752; cases e752; replace hx752_0 := bc_ HB.out hx752_0; replace hx752_1 := bc_ HB.out hx752_1; replace hx752_2 := bc_ HB.out hx752_2; replace hx752_3 := bc_ HB.out hx752_3; replace hx752_4 := bc_ HB.out hx752_4; have HR752_0 := Aside0.mk hi752_0; have HC752_0 := Aside0.mk hl752_0; clear hi752_0 hl752_0; have HR752_4 := Aside0.mk hi752_4; have HC752_4 := Aside0.mk hl752_4; clear hi752_4 hl752_4; replace p752 := eq_true p752; replace q752 := eq_true q752) | ((with_reducible refine gate_callee (f := 54) rfl ?_); refine gL_ (some 38) Try.func54 #[.slice A752_4 ((rd_T57 l0 t750).f4).length c752_4, .slice A2 l2.length c2] ?_; (with_reducible refine (spec_SetProps.calls k _ _ ((rd_T57 l0 t750).f4) _ _ l2 t753 true _ ?side1 ?side2 ?side3 ?side4 A16.out).mono ?_); (case side1 => exact cC_ (Kd.C_below HR752_4.out HB.out)); (case side2 => exact HC752_4.out); (case side3 => exact cC_ (Kd.C_below HR2.out HB.out)); (case side4 => exact HC2.out); rintro e w22 ⟨v755, rfl, ho0, hb⟩; refine ⟨_, rfl, ?_⟩; have n0_ := Aside0.mk (Kd.S_elder' (vS_ HO749.out) (by first | exact Kd.R_base ho0 | exact Kd.S_base ho0) hb); have n1_ := Aside0.mk (Kd.R_lower ho0 (below_size bB_)); have n2_ := Aside0.mk (below_step bB_ hb); clear HO749; clear HB; have HO749 := n0_; have HO756 := n1_; have HB := n2_; clear n0_ n1_ n2_; (try clear hb); (try clear ho0); have p19 : 0 ≤ (t750 : Int) := of_decide_eq_true as_; have q19 : (t750 : Int) < ((t747.length : Int) : Int) := of_decide_eq_true as_; obtain ⟨go19, co19, eo19, gb19, gl19, cl19, HG19⟩ := Kd.S_form HO749.out (by omega); (first | cases eo19 | (injection eo19 with ea_ en_ ec_; (first | subst ea_ | (injection ea_ with ea_; subst ea_)); subst ec_; clear en_)); have GB19 := Aside0.mk gb19; have GG19 := Aside0.mk HG19; clear gb19 gl19 HG19; obtain ⟨_, ce19, hcl19, hM19, hcc19, hfr19, _, _⟩ := Kd.S_elem HO749.out z57 (t750 : Int) p19 q19; obtain ⟨ve19_0, ve19_4, rfl, ge19_0, ge19_4⟩ := k57_openM hM19; have hx19_0 : w22.cell? ⟨go19, (t750 : Int).toNat * 5, none⟩ = some (ve19_0) := hcc19 0 _ rfl; have hx19_1 : w22.cell? ⟨go19, (t750 : Int).toNat * 5 + 1, none⟩ = some (.bool ((rd_T57 t747 t750).f1)) := hcc19 1 _ rfl; have hx19_2 : w22.cell? ⟨go19, (t750 : Int).toNat * 5 + 2, none⟩ = some (.string ((rd_T57 t747 t750).f2)) := hcc19 2 _ rfl; have hx19_3 : w22.cell? ⟨go19, (t750 : Int).toNat * 5 + 3, none⟩ = some (.int .i64 ((rd_T57 t747 t750).f3)) := hcc19 3 _ rfl; have hx19_4 : w22.cell? ⟨go19, (t750 : Int).toNat * 5 + 4, none⟩ = some (ve19_4) := hcc19 4 _ rfl; have hf19_0 : w22.frozen? ⟨go19, (t750 : Int).toNat * 5, none⟩ = false := hfr19 0; have hf19_1 : w22.frozen? ⟨go19, (t750 : Int).toNat * 5 + 1, none⟩ = false := hfr19 1; have hf19_2 : w22.frozen? ⟨go19, (t750 : Int).toNat * 5 + 2, none⟩ = false := hfr19 2; have hf19_3 : w22.frozen? ⟨go19, (t750 : Int).toNat * 5 + 3, none⟩ = false := hfr19 3; have hf19_4 : w22.frozen? ⟨go19, (t750 : Int).toNat * 5 + 4, none⟩ = false := hfr19 4; (try clear hcl19); (try clear hcc19); (try clear hfr19); (try clear hM19); replace p19 := eq_true p19; replace q19 := eq_true q19; obtain ⟨Ao25, co25, eo25⟩ := Kd.R_slice HO756.out; subst eo25; have n_ := Aside0.mk (Kd.S_mono (ok' := (fun k_ => some k_ ≠ (.slice Ao25 t753.length co25 : Value).ownBlock)) HO749.out (fun k_ hk => hk.2)); clear HO749; have HO749 := n_; clear n_; have HX23 := Aside0.mk (show Kd.S k57 57 w22 w.heap.size (fun k_ => ((fun _ => True)) k_ ∧ ¬ ((fun k_ => some k_ = (.slice Ao25 t753.length co25 : Value).ownBlock)) k_) (.slice (some ⟨go19, 0, none⟩) t747.length co19) t747 from (by (with_reducible repeat (first | apply Kd.S_alloc | apply Kd.S_drewN | apply Kd.S_drew)); exact Kd.S_mono HO749.out (fun k_ hk => ⟨trivial, fun e_ => hk e_⟩))); obtain ⟨oki23, ce23, hcl23, hM23, hcc23, hfr23, hoki23, hH23⟩ := Kd.S_elem HX23.out z57 (t750 : Int) (of_decide_eq_true as_) (by have h_ : (t750 : Int) < ((t747.length : Int) : Int) := of_decide_eq_true as_; first | exact h_ | (have e_ := (Kd.S_reads' HO749.out).1; omega) | simpa using h_); obtain ⟨ve23_0, ve23_4, rfl, ge23_0, ge23_4⟩ := k57_openM hM23; have HP23 := Kd.S_seg hH23 (of_decide_eq_true as_) (by have h_ : (t750 : Int) < ((t747.length : Int) : Int) := of_decide_eq_true as_; first | exact h_ | (have e_ := (Kd.S_reads' HO749.out).1; omega) | simpa using h_) (seg := [.slice Ao25 t753.length co25]) (j := 4) (show 5 ≤ 5 from by decide) (x' := (⟨(rd_T57 t747 t750).f0, (rd_T57 t747 t750).f1, (rd_T57 t747 t750).f2, (rd_T57 t747 t750).f3, t753⟩ : S57)) (k57_mkM _ _ _ (⟨(rd_T57 t747 t750).f0, (rd_T57 t747 t750).f1, (rd_T57 t747 t750).f2, (rd_T57 t747 t750).f3, t753⟩ : S57) (Kd.R_mono ge23_0 (fun _ h_ => Or.inl h_)) (Kd.R_mono (Kd.R_tight rfl (Kd.R_mono (ok' := fun k_ => ((fun _ => True)) k_ ∧ k_ ≠ go19) (Kd.R_apart' (HO756.out) (Kd.S_typed HO749.out) (by decide)) (fun k_ hk => ⟨trivial, fun e_ => (hk.2) (by rw [e_]; rfl)⟩))) (fun _ h_ => Or.inr (h_)))) (fun _ hk => hk) (fun k_ hk_ => ((Kd.R_mono (ok' := fun k_ => ((fun _ => True)) k_ ∧ k_ ≠ go19) (Kd.R_apart' (HO756.out) (Kd.S_typed HO749.out) (by decide)) (fun k_ hk => ⟨trivial, fun e_ => (hk.2) (by rw [e_]; rfl)⟩))).1 k_ hk_.symm); have hx23_4 := hcc23 4 _ rfl; (try simp only [show (k57).sz = 5 from rfl, Nat.mul_one, Nat.add_zero] at hx23_4); have hf23_4 := hfr23 4; (try simp only [show (k57).sz = 5 from rfl, Nat.mul_one, Nat.add_zero] at hf23_4); (try clear hcl23); (try clear hcc23); (try clear hfr23); (try clear hM23); (try clear hoki23); (try clear hH23)) | ((with_reducible refine gate_store (t := 55) (p := 48) rfl ?_); refine store_event (t := 55) (p := 48) (v := ?vo_w24) (w1 := (w22.setCell ⟨go19, (t750 : Int).toNat * 5 + 4, none⟩ (.slice Ao25 t753.length co25))) ?hg ?ho ?hn ?hr ?_; (case ho => rfl); (case hg => rfl); (case hn => rfl); (case hr => first | (go_simp; done) | (go_simp; rfl)); intro w24 hw; have hg : w22.grownBy w24 (some go19) := (by rw [hw]; exact HP23.2); have hp_ : Kd.S k57 57 w24 w.heap.size (fun _ => True) (.slice (some ⟨go19, 0, none⟩) t747.length co19) y757 := (by rw [hw, Ny757.out]; exact HP23.1); clear HP23; have n0_ := Aside0.mk (hp_); have n1_ := Aside0.mk ((by rw [hw]; exact below_set (HB.out) GB19.out : Below w.heap.size w w24)); clear HO749; clear HB; clear HO756; have HO749 := n0_; have HB := n1_; clear n0_ n1_; clear hg hw hp_))
         go_ret2
         exact ⟨_, rr_, by (with_reducible repeat (first | apply Kd.S_alloc | apply Kd.S_drewN | apply Kd.S_drew)); exact HO749.out, bB_⟩
       · replace c17 := Bool.eq_false_iff.mpr c17
         subst c17
         rw [if_neg (show ¬ (false = true) by decide)] at H
         simp only [Option.some.injEq, Prod.mk.injEq] at H
         obtain ⟨rfl, rfl⟩ := H
         go_enter Try.func29, Try.ntmps29
         go_wp2_with (first | ((with_reducible refine gate_callee (f := 62) rfl ?_); refine gL_ (some 13) Try.func62 #[.slice A0 l0.length c0] ?_; (with_reducible refine (spec_l10CopyAll.calls k _ _ l0 t747 _ ?side1 ?side2 A4.out).mono ?_); (case side1 => exact cC_ HR0.out); (case side2 => exact HC0.out); rintro e w26 ⟨v748, rfl, ho0, hb⟩; refine ⟨_, rfl, ?_⟩; have n0_ := Aside0.mk (Kd.S_lower ho0 (below_size bB_)); have n1_ := Aside0.mk (below_step bB_ hb); clear HB; have HO749 := n0_; have HB := n1_; clear n0_ n1_; (try clear hb); (try clear ho0)) | ((with_reducible refine gate_callee (f := 61) rfl ?_); refine gL_ (some 16) Try.func61 #[.slice A0 l0.length c0, .slice A1 l1.length c1] ?_; (with_reducible refine (spec_FindRes.calls k _ _ l0 _ _ l1 t750 _ ?side1 ?side2 ?side3 ?side4 A5.out).mono ?_); (case side1 => exact cC_ (Kd.C_below HR0.out HB.out)); (case side2 => exact HC0.out); (case side3 => exact cC_ (Kd.C_below HR1.out HB.out)); (case side4 => exact HC1.out); rintro e w' ⟨rfl, ⟨nd, rfl⟩⟩; refine ⟨_, rfl, ?_⟩) | ((with_reducible refine gate_callee (f := 79) rfl ?_); refine gL_ (some 19) Try.func79 #[.slice A0 l0.length c0] ?_; (with_reducible refine (spec_TreeOk.calls k _ _ l0 true _ ?side1 ?side2 A6.out).mono ?_); (case side1 => exact cC_ (Kd.C_below HR0.out bB_)); (case side2 => exact HC0.out); rintro e w27 ⟨rfl, hb⟩; refine ⟨_, rfl, ?_⟩; have n0_ := Aside0.mk (Kd.S_below (vS_ HO749.out) hb); have n1_ := Aside0.mk (below_step bB_ hb); clear HO749; clear HB; have HO749 := n0_; have HB := n1_; clear n0_ n1_; (try clear hb); have p752 : 0 ≤ (t750 : Int) := of_decide_eq_true as_; have q752 : t750 < (l0.length : Int) := of_decide_eq_true as_; obtain ⟨ad752, A752_0, c752_0, A752_4, c752_4, e752, hx752_0, hx752_1, hx752_2, hx752_3, hx752_4, hl752_0, hi752_0, hl752_4, hi752_4⟩ := at_T57 HR0.out t750 p752 q752; cases e752; replace hx752_0 := bc_ HB.out hx752_0; replace hx752_1 := bc_ HB.out hx752_1; replace hx752_2 := bc_ HB.out hx752_2; replace hx752_3 := bc_ HB.out hx752_3; replace hx752_4 := bc_ HB.out hx752_4; have HR752_0 := Aside0.mk hi752_0; have HC752_0 := Aside0.mk hl752_0; clear hi752_0 hl752_0; have HR752_4 := Aside0.mk hi752_4; have HC752_4 := Aside0.mk hl752_4; clear hi752_4 hl752_4; replace p752 := eq_true p752; replace q752 := eq_true q752) | ((with_reducible refine gate_callee (f := 54) rfl ?_); refine gL_ (some 38) Try.func54 #[.slice A752_4 ((rd_T57 l0 t750).f4).length c752_4, .slice A2 l2.length c2] ?_; (with_reducible refine (spec_SetProps.calls k _ _ ((rd_T57 l0 t750).f4) _ _ l2 t753 false _ ?side1 ?side2 ?side3 ?side4 A16.out).mono ?_); (case side1 => exact cC_ (Kd.C_below HR752_4.out HB.out)); (case side2 => exact HC752_4.out); (case side3 => exact cC_ (Kd.C_below HR2.out HB.out)); (case side4 => exact HC2.out); rintro e w28 ⟨v755, rfl, ho0, hb⟩; refine ⟨_, rfl, ?_⟩; have n0_ := Aside0.mk (Kd.S_elder' (vS_ HO749.out) (by first | exact Kd.R_base ho0 | exact Kd.S_base ho0) hb); have n1_ := Aside0.mk (Kd.R_lower ho0 (below_size bB_)); have n2_ := Aside0.mk (below_step bB_ hb); clear HO749; clear HB; have HO749 := n0_; have HO756 := n1_; have HB := n2_; clear n0_ n1_ n2_; (try clear hb); (try clear ho0)))
         go_ret2
         exact ⟨_, rr_, by (with_reducible repeat (first | apply Kd.S_alloc | apply Kd.S_drewN | apply Kd.S_drew)); exact Kd.S_mono HO749.out (fun _ hk => trivial), bB_⟩
 · replace c7 := Bool.eq_false_iff.mpr c7
   subst c7
   rw [if_neg (show ¬ (false = true) by decide)] at H
   simp only [Option.some.injEq, Prod.mk.injEq] at H
   obtain ⟨rfl, rfl⟩ := H
   go_enter Try.func29, Try.ntmps29
   go_wp2_with (first | ((with_reducible refine gate_callee (f := 62) rfl ?_); refine gL_ (some 13) Try.func62 #[.slice A0 l0.length c0] ?_; (with_reducible refine (spec_l10CopyAll.calls k _ _ l0 t747 _ ?side1 ?side2 A4.out).mono ?_); (case side1 => exact cC_ HR0.out); (case side2 => exact HC0.out); rintro e w29 ⟨v748, rfl, ho0, hb⟩; refine ⟨_, rfl, ?_⟩; have n0_ := Aside0.mk (Kd.S_lower ho0 (below_size bB_)); have n1_ := Aside0.mk (below_step bB_ hb); clear HB; have HO749 := n0_; have HB := n1_; clear n0_ n1_; (try clear hb); (try clear ho0)) | ((with_reducible refine gate_callee (f := 61) rfl ?_); refine gL_ (some 16) Try.func61 #[.slice A0 l0.length c0, .slice A1 l1.length c1] ?_; (with_reducible refine (spec_FindRes.calls k _ _ l0 _ _ l1 t750 _ ?side1 ?side2 ?side3 ?side4 A5.out).mono ?_); (case side1 => exact cC_ (Kd.C_below HR0.out HB.out)); (case side2 => exact HC0.out); (case side3 => exact cC_ (Kd.C_below HR1.out HB.out)); (case side4 => exact HC1.out); rintro e w' ⟨rfl, ⟨nd, rfl⟩⟩; refine ⟨_, rfl, ?_⟩) | ((with_reducible refine gate_callee (f := 79) rfl ?_); refine gL_ (some 19) Try.func79 #[.slice A0 l0.length c0] ?_; (with_reducible refine (spec_TreeOk.calls k _ _ l0 false _ ?side1 ?side2 A6.out).mono ?_); (case side1 => exact cC_ (Kd.C_below HR0.out bB_)); (case side2 => exact HC0.out); rintro e w30 ⟨rfl, hb⟩; refine ⟨_, rfl, ?_⟩; have n0_ := Aside0.mk (Kd.S_below (vS_ HO749.out) hb); have n1_ := Aside0.mk (below_step bB_ hb); clear HO749; clear HB; have HO749 := n0_; have HB := n1_; clear n0_ n1_; (try clear hb)))
   go_ret2
   exact ⟨_, rr_, by (with_reducible repeat (first | apply Kd.S_alloc | apply Kd.S_drewN | apply Kd.S_drew)); exact HO749.out, bB_⟩
def laws_toSet.f (a0_0 : Bool) (a0_1 : ByteArray) (a0_2 : ByteArray) (a0_3 : ByteArray) : Option (Bool × ByteArray × ByteArray × ByteArray) := (laws_toProp.f a0_1 a0_2 a0_3).bind fun bt761 => (some (a0_0, bt761.1, bt761.2.1, bt761.2.2))
set_option maxHeartbeats 8000000 in
set_option maxRecDepth 100000 in
theorem laws_toSet.calls (a0_0 : Bool) (a0_1 : ByteArray) (a0_2 : ByteArray) (a0_3 : ByteArray) (r1 : Bool) (r2 : ByteArray) (r3 : ByteArray) (r4 : ByteArray) (w : World) (h : laws_toSet.f a0_0 a0_1 a0_2 a0_3 = some (r1, r2, r3, r4)) :
 Calls Try.prog 80 #[.agg #[.bool a0_0, .string a0_1, .string a0_2, .string a0_3]] w fun e w' => e = .returned (.agg #[.bool r1, .string r2, .string r3, .string r4]) ∧ Below w.heap.size w w' := by
 have hu90 := Try.underlying90
 have hu74 := Try.underlying74
 have hu88 := Try.underlying88
 have hu72 := Try.underlying72
 have HB := Aside0.mk (Below.refl w.heap.size w)
 have H : ((laws_toProp.f a0_1 a0_2 a0_3).bind fun bt761 => (some (a0_0, bt761.1, bt761.2.1, bt761.2.2))) = some (r1, r2, r3, r4) := h
 clear h
 obtain ⟨⟨t761, t762, t763⟩, A2, H⟩ := bo_ H
 (try dsimp only at H)
 simp only [Option.some.injEq, Prod.mk.injEq] at H
 obtain ⟨rfl, rfl, rfl, rfl⟩ := H
 go_enter Try.func80, Try.ntmps80
 go_wp2_with (first | ((with_reducible refine gate_dst (N := 1) rfl ?_); refine bx_ (N := 1) (cs := #[.bool a0_0, .string a0_1, .string a0_2, .string a0_3]) (t := 90) ?_; intro gb758 hg w3 hbox hb; have n0_ := Aside0.mk (below_step bB_ hb); have n1_ := Aside0.mk (hbox); have n2_ := Aside0.mk (ge_ hg bB_ : w.heap.size ≤ gb758); have n3_ := Aside0.mk (ge_ hg bB_ : w.heap.size ≤ gb758); clear HB; have HB := n0_; have BK758 := n1_; have GW758 := n2_; have GE758 := n3_; clear n0_ n1_ n2_ n3_; clear hb hbox hg) | ((with_reducible refine gate_dst (N := 2) rfl ?_); refine bx_ (N := 2) (cs := #[.bool false, .string (⟨#[]⟩ : ByteArray), .string (⟨#[]⟩ : ByteArray), .string (⟨#[]⟩ : ByteArray)]) (t := 74) ?_; intro gb759 hg w4 hbox hb; have n0_ := Aside0.mk (bw_ BK758.out hb); have n1_ := Aside0.mk (below_step (bG_ GE758.out) hb); have n2_ := Aside0.mk (hbox); have n3_ := Aside0.mk (ge_ hg (bG_ GE758.out) : w.heap.size ≤ gb759); have n4_ := Aside0.mk (ge_ hg (bG_ GE758.out) : w.heap.size ≤ gb759); have n5_ := Aside0.mk (gm_ hg BK758.out); have n6_ := Aside0.mk (gn_ hg BK758.out); clear BK758; clear HB; have BK758 := n0_; have HB := n1_; have BK759 := n2_; have GW759 := n3_; have GE759 := n4_; have NB758_759 := n5_; have NB759_758 := n6_; clear n0_ n1_ n2_ n3_ n4_ n5_ n6_; clear hb hbox hg) | ((with_reducible refine gate_dst (N := 3) rfl ?_); refine bx_ (N := 3) (cs := #[.bool false, .string (⟨#[]⟩ : ByteArray), .string (⟨#[]⟩ : ByteArray), .string (⟨#[]⟩ : ByteArray)]) (t := 74) ?_; intro gb760 hg w5 hbox hb; have n0_ := Aside0.mk (bw_ BK758.out hb); have n1_ := Aside0.mk (bw_ BK759.out hb); have n2_ := Aside0.mk (below_step (by repeat (first | (with_reducible first | exact HB.out | apply below_alloc | apply pw_below_drewN | apply below_drew1 | refine below_set ?_ GE758.out | refine below_set ?_ GE759.out) | exact HB.out)) hb); have n3_ := Aside0.mk (hbox); have n4_ := Aside0.mk ((by rw [hg]; exact (below_size (by repeat (first | (with_reducible first | exact HB.out | apply below_alloc | apply pw_below_drewN | apply below_drew1 | refine below_set ?_ GE758.out | refine below_set ?_ GE759.out) | exact HB.out))) : w.heap.size ≤ gb760)); have n5_ := Aside0.mk ((by rw [hg]; exact (below_size (by repeat (first | (with_reducible first | exact HB.out | apply below_alloc | apply pw_below_drewN | apply below_drew1 | refine below_set ?_ GE758.out | refine below_set ?_ GE759.out) | exact HB.out))) : w.heap.size ≤ gb760)); have n6_ := Aside0.mk (gm_ hg BK758.out); have n7_ := Aside0.mk (gn_ hg BK758.out); have n8_ := Aside0.mk (gm_ hg BK759.out); have n9_ := Aside0.mk (gn_ hg BK759.out); clear BK758; clear BK759; clear HB; have BK758 := n0_; have BK759 := n1_; have HB := n2_; have BK760 := n3_; have GW760 := n4_; have GE760 := n5_; have NB758_760 := n6_; have NB760_758 := n7_; have NB759_760 := n8_; have NB760_759 := n9_; clear n0_ n1_ n2_ n3_ n4_ n5_ n6_ n7_ n8_ n9_; clear hb hbox hg; have hnb6 := NB758_759.out; have hnc6 := NB759_758.out; have hnb7 := NB758_760.out; have hnc7 := NB760_758.out; obtain ⟨hcz8_0, hcz8_1, hcz8_2, hcz8_3, hfz8_0, hfz8_1, hfz8_2, hfz8_3⟩ := cz4_ BK758.out; have hnb9 := NB760_759.out; have hnc9 := NB759_760.out; obtain ⟨hcz10_0, hcz10_1, hcz10_2, hcz10_3, hfz10_0, hfz10_1, hfz10_2, hfz10_3⟩ := cz4_ BK760.out) | ((with_reducible refine gate_callee (f := 113) rfl ?_); refine gL_ (some 9) Try.func113 #[.agg #[.string a0_1, .string a0_2, .string a0_3]] ?_; (with_reducible refine (laws_toProp.calls a0_1 a0_2 a0_3 t761 t762 t763 _ A2.out).mono ?_); rintro e w11 ⟨rfl, hb⟩; refine ⟨_, rfl, ?_⟩; have n0_ := Aside0.mk (blk_below (g := gb758) (o := .cells #[.bool a0_0, .string a0_1, .string a0_2, .string a0_3] 90 (0, 0)) (by (with_reducible repeat (first | refine blk_drewN ?_ _ | refine blk_drew ?_ | refine blk_alloc ?_ _)); refine blk_far ?_ NB758_760.out _; (with_reducible repeat (first | refine blk_drewN ?_ _ | refine blk_drew ?_ | refine blk_alloc ?_ _)); exact BK758.out) hb); have n1_ := Aside0.mk (blk_below (g := gb759) (o := .cells #[.bool false, .string (⟨#[]⟩ : ByteArray), .string (⟨#[]⟩ : ByteArray), .string (⟨#[]⟩ : ByteArray)] 74 (0, 0)) (by (with_reducible repeat (first | refine blk_drewN ?_ _ | refine blk_drew ?_ | refine blk_alloc ?_ _)); refine blk_far ?_ NB759_760.out _; (with_reducible repeat (first | refine blk_drewN ?_ _ | refine blk_drew ?_ | refine blk_alloc ?_ _)); exact BK759.out) hb); have n2_ := Aside0.mk (blk_below (g := gb760) (o := .cells #[.bool a0_0, .string (⟨#[]⟩ : ByteArray), .string (⟨#[]⟩ : ByteArray), .string (⟨#[]⟩ : ByteArray)] 74 (0, 0)) (by (with_reducible repeat (first | refine blk_drewN ?_ _ | refine blk_drew ?_ | refine blk_alloc ?_ _)); refine blk_put (cs := #[.bool false, .string (⟨#[]⟩ : ByteArray), .string (⟨#[]⟩ : ByteArray), .string (⟨#[]⟩ : ByteArray)]) ?_ 0 _ rfl; (with_reducible repeat (first | refine blk_drewN ?_ _ | refine blk_drew ?_ | refine blk_alloc ?_ _)); exact BK760.out) hb); have n3_ := Aside0.mk (below_step (by repeat (first | (with_reducible first | exact HB.out | apply below_alloc | apply pw_below_drewN | apply below_drew1 | refine below_set ?_ GE758.out | refine below_set ?_ GE759.out | refine below_set ?_ GE760.out) | exact HB.out)) hb); clear BK758; clear BK759; clear BK760; clear HB; have BK758 := n0_; have BK759 := n1_; have BK760 := n2_; have HB := n3_; clear n0_ n1_ n2_ n3_; (try clear hb); obtain ⟨hcz12_0, hcz12_1, hcz12_2, hcz12_3, hfz12_0, hfz12_1, hfz12_2, hfz12_3⟩ := cz4_ BK760.out; obtain ⟨hcz13_0, hcz13_1, hcz13_2, hcz13_3, hfz13_0, hfz13_1, hfz13_2, hfz13_3⟩ := cz4_ BK759.out))
 refine bodyPost_ret (results_cell_row rfl _ _ gb759 74 #[.bool a0_0, .string t761, .string t762, .string t763] (0, 0) _ rfl (by (with_reducible repeat (first | refine blk_drewN ?_ _ | refine blk_drew ?_ | refine blk_alloc ?_ _)); refine blk_put (cs := #[.bool a0_0, .string t761, .string t762, .string (⟨#[]⟩ : ByteArray)]) ?_ 3 _ rfl; (with_reducible repeat (first | refine blk_drewN ?_ _ | refine blk_drew ?_ | refine blk_alloc ?_ _)); refine blk_put (cs := #[.bool a0_0, .string t761, .string (⟨#[]⟩ : ByteArray), .string (⟨#[]⟩ : ByteArray)]) ?_ 2 _ rfl; (with_reducible repeat (first | refine blk_drewN ?_ _ | refine blk_drew ?_ | refine blk_alloc ?_ _)); refine blk_put (cs := #[.bool a0_0, .string (⟨#[]⟩ : ByteArray), .string (⟨#[]⟩ : ByteArray), .string (⟨#[]⟩ : ByteArray)]) ?_ 1 _ rfl; (with_reducible repeat (first | refine blk_drewN ?_ _ | refine blk_drew ?_ | refine blk_alloc ?_ _)); refine blk_put (cs := #[.bool false, .string (⟨#[]⟩ : ByteArray), .string (⟨#[]⟩ : ByteArray), .string (⟨#[]⟩ : ByteArray)]) ?_ 0 _ rfl; (with_reducible repeat (first | refine blk_drewN ?_ _ | refine blk_drew ?_ | refine blk_alloc ?_ _)); refine blk_far ?_ NB759_760.out _; (with_reducible repeat (first | refine blk_drewN ?_ _ | refine blk_drew ?_ | refine blk_alloc ?_ _)); refine blk_far ?_ NB759_760.out _; (with_reducible repeat (first | refine blk_drewN ?_ _ | refine blk_drew ?_ | refine blk_alloc ?_ _)); refine blk_far ?_ NB759_760.out _; (with_reducible repeat (first | refine blk_drewN ?_ _ | refine blk_drew ?_ | refine blk_alloc ?_ _)); exact BK759.out) Try.underlying74 rfl (by kernel_rfl)) rfl ?_
 exact ⟨rr_, by repeat (first | (with_reducible first | exact HB.out | apply below_alloc | apply pw_below_drewN | apply below_drew1 | refine below_set ?_ GE758.out | refine below_set ?_ GE759.out | refine below_set ?_ GE760.out) | exact HB.out)⟩
def laws_toSetS.l0 : Nat → List (S90) → List (S74) → Int → Option ((List (S74)))
 | 0, _, _, _ => none
 | k + 1, x0, x3, x4 => if x4 < (x0.length : Int) then (if 0 ≤ x4 then ((laws_toSet.f ((rd_T90 x0 x4).f0) ((rd_T90 x0 x4).f1.f0) ((rd_T90 x0 x4).f1.f1) ((rd_T90 x0 x4).f1.f2)).bind fun bt768 => (if x4 < (x3.length : Int) then (laws_toSetS.l0 k x0 (x3.set (x4 : Int).toNat (⟨bt768.1, (⟨bt768.2.1, bt768.2.2.1, bt768.2.2.2⟩ : S72)⟩ : S74)) (wrap64 (x4 + 1))) else (none))) else (none)) else (some x3)
def laws_toSetS.f (k : Nat) (l0 : List (S90)) : Option ((List (S74))) := if 0 ≤ (l0.length : Int) then (if ((l0.length : Int) : Int).toNat ≤ 5026338869833 then (laws_toSetS.l0 k l0 (List.replicate ((l0.length : Int) : Int).toNat z74) 0) else (none)) else (none)
set_option maxHeartbeats 8000000 in
set_option maxRecDepth 100000 in
theorem laws_toSetS.calls (k : Nat) (A0 : Option Addr) (c0 : Nat) (l0 : List (S90)) (r : List (S74)) (w : World) (hr0 : Kd.C k90 w A0 l0.length l0) (hc0 : l0.length ≤ c0) (h : laws_toSetS.f k l0 = some r) :
 Calls Try.prog 30 #[.slice A0 l0.length c0] w fun e w' => ∃ v0_ : Value, e = .returned (v0_) ∧ Kd.R k74 74 w' w.heap.size (fun _ => True) v0_ r ∧ Below w.heap.size w w' := by
 have hu90 := Try.underlying90
 have hu74 := Try.underlying74
 have HR0 := Aside0.mk hr0
 have HC0 := Aside0.mk hc0
 clear hr0 hc0
 have HB := Aside0.mk (Below.refl w.heap.size w)
 have H : (if 0 ≤ (l0.length : Int) then (if ((l0.length : Int) : Int).toNat ≤ 5026338869833 then (laws_toSetS.l0 k l0 (List.replicate ((l0.length : Int) : Int).toNat z74) 0) else (none)) else (none)) = some r := h
 clear h
 by_cases c2 : 0 ≤ (l0.length : Int)
 rotate_left
 · exact absurd H (by rw [if_neg c2]; simp)
 rw [if_pos c2] at H
 have c2b0 := eq_true c2
 have c2b1 : decide (0 ≤ (l0.length : Int)) = true := decide_eq_true c2
 clear c2
 by_cases c3 : ((l0.length : Int) : Int).toNat ≤ 5026338869833
 rotate_left
 · exact absurd H (by rw [if_neg c3]; simp)
 rw [if_pos c3] at H
 have c3b0 := eq_true c3
 have c3b1 : decide (((l0.length : Int) : Int).toNat ≤ 5026338869833) = true := decide_eq_true c3
 clear c3
 obtain ⟨y764, hy764⟩ : ∃ y_ : List (S74), y_ = (List.replicate ((l0.length : Int) : Int).toNat z74) := ⟨_, rfl⟩
 replace H : (laws_toSetS.l0 k l0 y764 0) = some r := by first | (rw [hy764]; with_reducible exact H) | (have H2_ := (Option.bind_some _ _).symm.trans H; rw [hy764]; with_reducible exact H2_) | (have H2_ := (Option.bind_some _ _).symm.trans H; with_reducible exact H2_) | with_reducible exact H | (rw [hy764]; exact H) | exact H
 have Ny764 := Aside0.mk hy764
 clear hy764
 have H' := Aside0.mk H
 clear H
 go_enter Try.func30, Try.ntmps30
 go_wp2_with (first | ((with_reducible refine gate_dst (N := 7) rfl ?_); refine Kd.R_make k74 _ 74 rfl (N := 7) rfl 42 _ _ rfl (l0.length : Int) rfl rfl Try.underlying42 (.agg #[(.bool false), (.string ⟨#[]⟩), (.string ⟨#[]⟩), (.string ⟨#[]⟩)]) 56 info74 rfl (by decide) (by omega) z74 (ok := fun _ => True) (okp := fun _ => True) (k74_mkM _ _ _ z74 ) (fun _ hk => hk) trivial (of_decide_eq_true as_) (Nat.le_trans (Nat.mul_le_mul_right _ (of_decide_eq_true as_ : (l0.length : Int).toNat ≤ 5026338869833)) (by omega)) (Below.refl _ _) (Nat.le_refl _) ?_; intro v765 w4 ho5 hb hg_ hnew_; clear hg_ hnew_; (first | rw [← Ny764.out] at ho5 | (simp only [Int.reduceToNat] at ho5; rw [← Ny764.out] at ho5)); have n0_ := Aside0.mk (Kd.R_lower ho5 (below_size bB_)); have n1_ := Aside0.mk (below_step bB_ hb); clear HB; have HO766 := n0_; have HB := n1_; clear n0_ n1_; clear hb ho5))
 go_loopg [4] k (fun kq v4 w' => ∃ (x3_1 : List (S74)) (x4_1 : Int), v4 = .int .i64 x4_1 ∧ Aside0 (laws_toSetS.l0 kq l0 x3_1 x4_1 = some r) ∧ Aside0 (kq ≤ k) ∧ Aside0 (Kd.R k74 74 w' w.heap.size (fun _ => True) v765 x3_1) ∧ Aside0 (Below w.heap.size w w'))
 case atStart => exact ⟨(y764), (0), rs_, H', ⟨Nat.le_refl _⟩, ⟨by (with_reducible repeat (first | apply Kd.R_alloc | apply Kd.R_drewN | apply Kd.R_drew)); exact HO766.out⟩, ⟨bB_⟩⟩
 case round =>
  clear H'
  try clear c2
  try clear c2b0
  try clear c2b1
  try clear p2
  try clear c3
  try clear c3b0
  try clear c3b1
  obtain ⟨x3_1, x4_1, rfl, HA, HK1, HO_3, HB⟩ := hrel
  cases gk with
  | zero => exact absurd HA.out (by simp [laws_toSetS.l0])
  | succ k1 =>
   have H := HA.out
   clear HA
   simp only [laws_toSetS.l0] at H
   by_cases c6 : x4_1 < (l0.length : Int)
   · rw [if_pos c6] at H
     have c6b0 : decide (x4_1 < (l0.length : Int)) = true := decide_eq_true c6
     clear c6
     by_cases c7 : 0 ≤ x4_1
     rotate_left
     · exact absurd H (by rw [if_neg c7]; simp)
     rw [if_pos c7] at H
     have c7b0 : decide (0 ≤ x4_1) = true := decide_eq_true c7
     clear c7
     obtain ⟨⟨t768, t769, t770, t771⟩, A8, H⟩ := bo_ H
     (try dsimp only at H)
     by_cases c9 : x4_1 < (x3_1.length : Int)
     rotate_left
     · exact absurd H (by rw [if_neg c9]; simp)
     rw [if_pos c9] at H
     have c9b0 : decide (x4_1 < (x3_1.length : Int)) = true := decide_eq_true c9
     clear c9
     obtain ⟨y772, hy772⟩ : ∃ y_ : List (S74), y_ = (x3_1.set (x4_1 : Int).toNat (⟨t768, (⟨t769, t770, t771⟩ : S72)⟩ : S74)) := ⟨_, rfl⟩
     replace H : (laws_toSetS.l0 k1 l0 y772 (wrap64 (x4_1 + 1))) = some r := by first | (rw [hy772]; with_reducible exact H) | (have H2_ := (Option.bind_some _ _).symm.trans H; rw [hy772]; with_reducible exact H2_) | (have H2_ := (Option.bind_some _ _).symm.trans H; with_reducible exact H2_) | with_reducible exact H | (rw [hy772]; exact H) | exact H
     have Ny772 := Aside0.mk hy772
     clear hy772
     have H' := Aside0.mk H
     clear H
     have p767 : 0 ≤ (x4_1 : Int) := of_decide_eq_true as_
     have q767 : x4_1 < (l0.length : Int) := of_decide_eq_true as_
     obtain ⟨ad767, e767, hx767_0, hx767_1, hx767_2, hx767_3⟩ := at_T90 HR0.out x4_1 p767 q767
     cases e767
     replace hx767_0 := bc_ HB.out hx767_0
     replace hx767_1 := bc_ HB.out hx767_1
     replace hx767_2 := bc_ HB.out hx767_2
     replace hx767_3 := bc_ HB.out hx767_3
     replace p767 := eq_true p767
     replace q767 := eq_true q767
     go_wp2_with (first | ((with_reducible refine gate_callee (f := 80) rfl ?_); refine gL_ (some 20) Try.func80 #[.agg #[.bool ((rd_T90 l0 x4_1).f0), .string ((rd_T90 l0 x4_1).f1.f0), .string ((rd_T90 l0 x4_1).f1.f1), .string ((rd_T90 l0 x4_1).f1.f2)]] ?_; (with_reducible refine (laws_toSet.calls ((rd_T90 l0 x4_1).f0) ((rd_T90 l0 x4_1).f1.f0) ((rd_T90 l0 x4_1).f1.f1) ((rd_T90 l0 x4_1).f1.f2) t768 t769 t770 t771 _ A8.out).mono ?_); rintro e w11 ⟨rfl, hb⟩; refine ⟨_, rfl, ?_⟩; have n0_ := Aside0.mk (Kd.R_below (vR_ HO_3.out) hb); have n1_ := Aside0.mk (below_step bB_ hb); clear HO_3; clear HB; have HO_3 := n0_; have HB := n1_; clear n0_ n1_; (try clear hb); have p10 : 0 ≤ (x4_1 : Int) := of_decide_eq_true as_; have q10 : (x4_1 : Int) < ((x3_1.length : Int) : Int) := of_decide_eq_true as_; obtain ⟨go10, co10, eo10, gb10, gl10, cl10, HG10⟩ := Kd.R_form HO_3.out (by omega); (first | cases eo10 | (injection eo10 with ea_ en_ ec_; (first | subst ea_ | (injection ea_ with ea_; subst ea_)); subst ec_; clear en_)); have GB10 := Aside0.mk gb10; have GG10 := Aside0.mk HG10; clear gb10 gl10 HG10; obtain ⟨ce10, hcl10, hM10, hcc10, hfr10⟩ := Kd.R_elem HO_3.out z74 (x4_1 : Int) p10 q10; obtain rfl := k74_openM hM10; have hx10_0 : w11.cell? ⟨go10, (x4_1 : Int).toNat * 4, none⟩ = some (.bool ((rd_T74 x3_1 x4_1).f0)) := hcc10 0 _ rfl; have hx10_1 : w11.cell? ⟨go10, (x4_1 : Int).toNat * 4 + 1, none⟩ = some (.string ((rd_T74 x3_1 x4_1).f1.f0)) := hcc10 1 _ rfl; have hx10_2 : w11.cell? ⟨go10, (x4_1 : Int).toNat * 4 + 2, none⟩ = some (.string ((rd_T74 x3_1 x4_1).f1.f1)) := hcc10 2 _ rfl; have hx10_3 : w11.cell? ⟨go10, (x4_1 : Int).toNat * 4 + 3, none⟩ = some (.string ((rd_T74 x3_1 x4_1).f1.f2)) := hcc10 3 _ rfl; have hf10_0 : w11.frozen? ⟨go10, (x4_1 : Int).toNat * 4, none⟩ = false := hfr10 0; have hf10_1 : w11.frozen? ⟨go10, (x4_1 : Int).toNat * 4 + 1, none⟩ = false := hfr10 1; have hf10_2 : w11.frozen? ⟨go10, (x4_1 : Int).toNat * 4 + 2, none⟩ = false := hfr10 2; have hf10_3 : w11.frozen? ⟨go10, (x4_1 : Int).toNat * 4 + 3, none⟩ = false := hfr10 3; (try clear hcl10); (try clear hcc10); (try clear hfr10); (try clear hM10); replace p10 := eq_true p10; replace q10 := eq_true q10; have HX12 := Aside0.mk (show Kd.R k74 74 w11 w.heap.size (fun _ => True) (.slice (some ⟨go10, 0, none⟩) x3_1.length co10) x3_1 from (vR_ HO_3.out)); obtain ⟨ce12, hcl12, hM12, hcc12, hfr12⟩ := Kd.R_elem HX12.out z74 (x4_1 : Int) (of_decide_eq_true as_) (by have h_ : (x4_1 : Int) < ((x3_1.length : Int) : Int) := of_decide_eq_true as_; first | exact h_ | (have e_ := (Kd.R_reads' HO_3.out).1; omega) | simpa using h_); obtain rfl := k74_openM hM12; have HP12 := Kd.R_seg HX12.out (x4_1 : Int) (of_decide_eq_true as_) (by have h_ : (x4_1 : Int) < ((x3_1.length : Int) : Int) := of_decide_eq_true as_; first | exact h_ | (have e_ := (Kd.R_reads' HO_3.out).1; omega) | simpa using h_) (seg := [.bool t768, .string t769, .string t770, .string t771]) (j := 0) hcl12 hcc12 (show 4 ≤ 4 from by decide) (x' := (⟨t768, (⟨t769, t770, t771⟩ : S72)⟩ : S74)) (k74_mkM _ _ _ (⟨t768, (⟨t769, t770, t771⟩ : S72)⟩ : S74) ) (fun _ hk => hk); have hx12_0 := hcc12 0 _ rfl; (try simp only [show (k74).sz = 4 from rfl, Nat.mul_one, Nat.add_zero] at hx12_0); have hf12_0 := hfr12 0; (try simp only [show (k74).sz = 4 from rfl, Nat.mul_one, Nat.add_zero] at hf12_0); have hx12_1 := hcc12 1 _ rfl; (try simp only [show (k74).sz = 4 from rfl, Nat.mul_one, Nat.add_zero] at hx12_1); have hf12_1 := hfr12 1; (try simp only [show (k74).sz = 4 from rfl, Nat.mul_one, Nat.add_zero] at hf12_1); have hx12_2 := hcc12 2 _ rfl; (try simp only [show (k74).sz = 4 from rfl, Nat.mul_one, Nat.add_zero] at hx12_2); have hf12_2 := hfr12 2; (try simp only [show (k74).sz = 4 from rfl, Nat.mul_one, Nat.add_zero] at hf12_2); have hx12_3 := hcc12 3 _ rfl; (try simp only [show (k74).sz = 4 from rfl, Nat.mul_one, Nat.add_zero] at hx12_3); have hf12_3 := hfr12 3; (try simp only [show (k74).sz = 4 from rfl, Nat.mul_one, Nat.add_zero] at hf12_3); (try clear hcl12); (try clear hcc12); (try clear hfr12); (try clear hM12)) | ((with_reducible refine gate_store (t := 74) (p := 21) rfl ?_); refine store_event (t := 74) (p := 21) (v := ?vo_w13) (w1 := ((((w11.setCell ⟨go10, (x4_1 : Int).toNat * 4, none⟩ (.bool t768)).setCell ⟨go10, (x4_1 : Int).toNat * 4 + 1, none⟩ (.string t769)).setCell ⟨go10, (x4_1 : Int).toNat * 4 + 2, none⟩ (.string t770)).setCell ⟨go10, (x4_1 : Int).toNat * 4 + 3, none⟩ (.string t771))) ?hg ?ho ?hn ?hr ?_; (case ho => rfl); (case hg => rfl); (case hn => rfl); (case hr => first | (go_simp; done) | (go_simp; rfl)); intro w13 hw; have hg : w11.grownBy w13 (some go10) := (by rw [hw]; exact HP12.2); have hp_ : Kd.R k74 74 w13 w.heap.size (fun _ => True) (.slice (some ⟨go10, 0, none⟩) x3_1.length co10) y772 := (by rw [hw, Ny772.out]; exact HP12.1); clear HP12; have n0_ := Aside0.mk (hp_); have n1_ := Aside0.mk ((by rw [hw]; exact below_set (below_set (below_set (below_set (HB.out) GB10.out) GB10.out) GB10.out) GB10.out : Below w.heap.size w w13)); clear HO_3; clear HB; have HO_3 := n0_; have HB := n1_; clear n0_ n1_; clear hg hw hp_))
     go_roundg k1
     case measure => have := HK1.out; omega
     case rel => exact ⟨(y772), (wrap64 (x4_1 + 1)), rs_, H', ⟨by have := HK1.out; omega⟩, ⟨by (with_reducible repeat (first | apply Kd.R_alloc | apply Kd.R_drewN | apply Kd.R_drew)); exact HO_3.out⟩, ⟨bB_⟩⟩
   · rw [if_neg c6] at H
     have c6b0 : decide (x4_1 < (l0.length : Int)) = false := decide_eq_false c6
     clear c6
     obtain rfl := Option.some.inj H
     go_wp2
     go_ret
     exact ⟨_, rr_, by (with_reducible repeat (first | apply Kd.R_alloc | apply Kd.R_drewN | apply Kd.R_drew)); exact HO_3.out, bB_⟩
end Go.Proofs.Ytbgggcgjijljkaa.Q
