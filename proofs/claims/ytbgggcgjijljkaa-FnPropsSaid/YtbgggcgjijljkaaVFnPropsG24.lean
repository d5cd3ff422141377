-- PRINTED by print.py (a twelfth state) out of the translation. Not trusted: Lean checks it.
import Derived.Test.YtbgggcgjijljkaaVFnPropsG22
import Derived.Test.YtbgggcgjijljkaaVFnPropsG23
namespace Go.Proofs.Ytbgggcgjijljkaa.Q
open Go.RowKit Go.Proofs.YtbgggcgjijljkaaW.PrintWords Go.Proofs.YtbgggcgjijljkaaW.PrintLast Go.Proofs.YtbgggcgjijljkaaW.PrintMore
attribute [local go_sem] max2_int min2_int max_two min_two max_three min_three max_four min_four   -- for this text's walks alone
set_option linter.unusedVariables false
set_option linter.unusedSimpArgs false
def spec_SetProps.l0 : Nat → List (S72) → List (S74) → List (S72) → Int → Option ((List (S72)) × Bool)
 | 0, _, _, _, _ => none
 | k + 1, x0, x1, x6, x7 => if x7 < (x1.length : Int) then (if 0 ≤ x7 then ((spec_l10Prop.f k ((rd_T74 x1 x7).f1.f0) ((rd_T74 x1 x7).f1.f1) ((rd_T74 x1 x7).f1.f2)).bind fun t736 => (if t736 = true then ((spec_l12One.f k x6 ((rd_T74 x1 x7).f0) ((rd_T74 x1 x7).f1.f0) ((rd_T74 x1 x7).f1.f1) ((rd_T74 x1 x7).f1.f2)).bind fun t738 => (spec_SetProps.l0 k x0 x1 t738 (wrap64 (x7 + 1)))) else ((some (([] : List (S72)) : List (S72))).bind fun y741 => (if y741.length + x0.length < 2932031007402 then (some ((y741 ++ x0), false)) else (none))))) else (none)) else ((spec_PropsOk.f k x6).bind fun t728 => (if t728 = true then (some (x6, true)) else ((some (([] : List (S72)) : List (S72))).bind fun y729 => (if y729.length + x0.length < 2932031007402 then (some ((y729 ++ x0), false)) else (none)))))
def spec_SetProps.f (k : Nat) (l0 : List (S72)) (l1 : List (S74)) : Option ((List (S72)) × Bool) := (some (([] : List (S72)) : List (S72))).bind fun y722 => (if y722.length + l0.length < 2932031007402 then (spec_SetProps.l0 k l0 l1 (y722 ++ l0) 0) else (none))
set_option maxHeartbeats 8000000 in
set_option maxRecDepth 100000 in
theorem spec_SetProps.calls (k : Nat) (A0 : Option Addr) (c0 : Nat) (l0 : List (S72)) (A1 : Option Addr) (c1 : Nat) (l1 : List (S74)) (r1 : List (S72)) (r2 : Bool) (w : World) (hr0 : Kd.C k72 w A0 l0.length l0) (hc0 : l0.length ≤ c0) (hr1 : Kd.C k74 w A1 l1.length l1) (hc1 : l1.length ≤ c1) (h : spec_SetProps.f k l0 l1 = some (r1, r2)) :
 Calls Try.prog 54 #[.slice A0 l0.length c0, .slice A1 l1.length c1] w fun e w' => ∃ v0_ : Value, e = .returned (.tuple #[v0_, .bool r2]) ∧ Kd.R k72 72 w' w.heap.size (fun _ => True) v0_ r1 ∧ Below w.heap.size w w' := by
 have hu72 := Try.underlying72
 have hu74 := Try.underlying74
 have HR0 := Aside0.mk hr0
 have HC0 := Aside0.mk hc0
 clear hr0 hc0
 have HR1 := Aside0.mk hr1
 have HC1 := Aside0.mk hc1
 clear hr1 hc1
 have HB := A_ (Below.refl w.heap.size w)
 have H : ((some (([] : List (S72)) : List (S72))).bind fun y722 => (if y722.length + l0.length < 2932031007402 then (spec_SetProps.l0 k l0 l1 (y722 ++ l0) 0) else (none))) = some (r1, r2) := h
 clear h
 obtain ⟨y722, hy722⟩ : ∃ y_ : List (S72), y_ = (([] : List (S72))) := ⟨_, rfl⟩
 replace H : (if y722.length + l0.length < 2932031007402 then (spec_SetProps.l0 k l0 l1 (y722 ++ l0) 0) else (none)) = some (r1, r2) := hy_ hy722 H
 have Ny722 := Aside0.mk hy722
 clear hy722
 by_cases c3 : y722.length + l0.length < 2932031007402
 rotate_left
 · exact absurd H (by rw [if_neg c3]; simp)
 rw [if_pos c3] at H
 have LMc3 := Aside0.mk c3
 clear c3
 obtain ⟨y725, hy725⟩ : ∃ y_ : List (S72), y_ = (y722 ++ l0) := ⟨_, rfl⟩
 replace H : (spec_SetProps.l0 k l0 l1 y725 0) = some (r1, r2) := hy_ hy725 H
 have Ny725 := Aside0.mk hy725
 clear hy725
 have H' := Aside0.mk H
 clear H
 go_enter Try.func54, Try.ntmps54
 go_wp2_with (first | ((with_reducible refine gate_dst (N := 8) rfl ?_); refine Kd.R_lit k72 _ 72 ?hg (N := 8) ?hd (xs := ([] : List (S72))) (inner := []) (ok := fun _ => True) (okp := fun _ => True) ?hr ?hp (fun _ hk => hk) trivial (Below.refl _ _) (Nat.le_refl _) (by simp) ?_; (case hd => rfl); (case hg => rfl); (case hr => first | (go_simp; done) | (go_simp; rfl)); (case hp => exact (Reps.none _ _)); intro v723 w4 ho5 hb hg_ hnew_; clear hg_ hnew_; (first | rw [← Ny722.out] at ho5 | (simp only [Int.reduceToNat] at ho5; rw [← Ny722.out] at ho5)); have HO724 := A_ (Kd.R_lower ho5 (below_size bB_)); replace HB := A_ (below_step bB_ hb); clear hb ho5) | ((with_reducible refine gate_builtin (b := .append) (xs := #[.tmp 8, .tmp 9]) rfl ?_); at_builtin; refine Kd.R_append_rows k72 (w0 := w) w.heap.size rfl (.tmp 8) (.tmp 9) 55 72 (.agg #[(.string ⟨#[]⟩), (.string ⟨#[]⟩), (.string ⟨#[]⟩)]) 48 rfl Try.underlying55 info72 rfl (by decide) (by omega) v723 y722 l0 _ _ _ (fun _ => True) (fun _ => False) rfl rfl ?aO ?aR (fun _ _ h => h) (fun _ h => h.elim) ?aF ?aB ?aS ?aL ?_; (case aR => exact cC_ (Kd.C_below HR0.out HB.out)); (case aB => exact bB_); (case aF => exact (fun _ _ => trivial)); (case aO => exact (vR_ HO724.out)); (case aS => exact (below_size bB_)); (case aL => have := LMc3.out; omega); intro v726 w6 ho hb hg hat; rw [← Ny725.out] at ho; replace HB := A_ (hb); have HO727 := A_ (ho); clear HO724; clear ho hb hg hat))
 go_loopg [6, 7] k (fun kq v6 v7 w' => ∃ (x6_1 : List (S72)) (x7_1 : Int), v7 = .int .i64 x7_1 ∧ Aside0 (spec_SetProps.l0 kq l0 l1 x6_1 x7_1 = some (r1, r2)) ∧ Aside0 (kq ≤ k) ∧ Aside0 (Kd.R k72 72 w' w.heap.size (fun _ => True) v6 x6_1) ∧ Aside0 (Below w.heap.size w w'))
 case atStart => exact ⟨(y725), (0), rs_, H', ⟨Nat.le_refl _⟩, ⟨vR_ HO727.out⟩, ⟨bB_⟩⟩
 case round =>
  clear H'
  try clear c1
  try clear p2
  try clear c3
  try clear c5
  obtain ⟨x6_1, x7_1, rfl, HA, HK1, HO_6, HB⟩ := hrel
  cases gk with
  | zero => exact absurd HA.out (by simp [spec_SetProps.l0])
  | succ k1 =>
   have H := HA.out
   clear HA
   simp only [spec_SetProps.l0] at H
   by_cases c7 : x7_1 < (l1.length : Int)
   rotate_left
   · rw [if_neg c7] at H
     have c7b0 : decide (x7_1 < (l1.length : Int)) = false := decide_eq_false c7
     clear c7
     obtain ⟨t728, A20, H⟩ := bo_ H
     (try dsimp only at H)
     by_cases c21 : t728 = true
     · subst c21
       rw [if_pos rfl] at H
       simp only [Option.some.injEq, Prod.mk.injEq] at H
       obtain ⟨rfl, rfl⟩ := H
       obtain ⟨Ao22, co22, eo22⟩ := Kd.R_slice HO_6.out
       subst eo22
       go_wp2_with (first | ((with_reducible refine gate_callee (f := 97) rfl ?_); refine gL_ (some 34) Try.func97 #[.slice Ao22 x6_1.length co22] ?_; (with_reducible refine (spec_PropsOk.calls k1 _ _ x6_1 true _ ?s1 ?s2 A20.out).mono ?_); (case s1 => exact cC_ (Kd.R_reads' HO_6.out).2.2); (case s2 => exact (Kd.R_reads' HO_6.out).2.1); rintro e w23 ⟨rfl, hb⟩; refine ⟨_, rfl, ?_⟩; replace HO_6 := A_ (Kd.R_below (vR_ HO_6.out) hb); replace HB := A_ (below_step bB_ hb); (try clear hb)))
       go_ret2
       exact ⟨_, rr_, by (with_reducible repeat (first | apply Kd.R_alloc | apply Kd.R_drewN | apply Kd.R_drew)); exact HO_6.out, bB_⟩
     · replace c21 := Bool.eq_false_iff.mpr c21
       subst c21
       rw [if_neg nf_] at H
       obtain ⟨y729, hy729⟩ : ∃ y_ : List (S72), y_ = (([] : List (S72))) := ⟨_, rfl⟩
       replace H : (if y729.length + l0.length < 2932031007402 then (some ((y729 ++ l0), false)) else (none)) = some (r1, r2) := hy_ hy729 H
       have Ny729 := Aside0.mk hy729
       clear hy729
       by_cases c24 : y729.length + l0.length < 2932031007402
       rotate_left
       · exact absurd H (by rw [if_neg c24]; simp)
       rw [if_pos c24] at H
       have LMc24 := Aside0.mk c24
       clear c24
       obtain ⟨y732, hy732⟩ : ∃ y_ : List (S72), y_ = (y729 ++ l0) := ⟨_, rfl⟩
       replace H : (some (y732, false)) = some (r1, r2) := hy_ hy732 H
       have Ny732 := Aside0.mk hy732
       clear hy732
       simp only [Option.some.injEq, Prod.mk.injEq] at H
       obtain ⟨rfl, rfl⟩ := H
       obtain ⟨Ao25, co25, eo25⟩ := Kd.R_slice HO_6.out
       subst eo25
       go_wp2_with (first | ((with_reducible refine gate_callee (f := 97) rfl ?_); refine gL_ (some 34) Try.func97 #[.slice Ao25 x6_1.length co25] ?_; (with_reducible refine (spec_PropsOk.calls k1 _ _ x6_1 false _ ?s1 ?s2 A20.out).mono ?_); (case s1 => exact cC_ (Kd.R_reads' HO_6.out).2.2); (case s2 => exact (Kd.R_reads' HO_6.out).2.1); rintro e w26 ⟨rfl, hb⟩; refine ⟨_, rfl, ?_⟩; replace HO_6 := A_ (Kd.R_below (vR_ HO_6.out) hb); replace HB := A_ (below_step bB_ hb); (try clear hb)) | ((with_reducible refine gate_dst (N := 36) rfl ?_); refine Kd.R_lit k72 _ 72 ?hg (N := 36) ?hd (xs := ([] : List (S72))) (inner := []) (ok := fun _ => True) (okp := fun _ => True) ?hr ?hp (fun _ hk => hk) trivial (Below.refl _ _) (Nat.le_refl _) (by simp) ?_; (case hd => rfl); (case hg => rfl); (case hr => first | (go_simp; done) | (go_simp; rfl)); (case hp => exact (Reps.none _ _)); intro v730 w27 ho28 hb hg_ hnew_; clear hg_ hnew_; (first | rw [← Ny729.out] at ho28 | (simp only [Int.reduceToNat] at ho28; rw [← Ny729.out] at ho28)); have HO731 := A_ (Kd.R_lower (Kd.R_new' ho28 (Kd.R_lt (vR_ HO_6.out))) (below_size bB_)); replace HO_6 := A_ (Kd.R_elder' (vR_ HO_6.out) (kb_ ho28) hb); replace HB := A_ (below_step bB_ hb); clear hb ho28) | ((with_reducible refine gate_builtin (b := .append) (xs := #[.tmp 36, .tmp 37]) rfl ?_); at_builtin; refine Kd.R_append_rows k72 (w0 := w) w.heap.size rfl (.tmp 36) (.tmp 37) 55 72 (.agg #[(.string ⟨#[]⟩), (.string ⟨#[]⟩), (.string ⟨#[]⟩)]) 48 rfl Try.underlying55 info72 rfl (by decide) (by omega) v730 y729 l0 _ _ _ (fun k_ => some k_ ≠ (.slice Ao25 x6_1.length co25 : Value).ownBlock) (fun _ => False) rfl rfl ?aO ?aR (fun _ _ h => h) (fun _ h => h.elim) ?aF ?aB ?aS ?aL ?_; (case aR => exact cC_ (Kd.C_below HR0.out HB.out)); (case aB => exact bB_); (case aF => exact (fun k_ hk => Kd.fresh' (Kd.R_lt (vR_ HO_6.out)) k_ hk)); (case aO => exact (by (with_reducible repeat (first | apply Kd.R_alloc | apply Kd.R_drewN | apply Kd.R_drew)); exact Kd.R_mono HO731.out (fun _ hk => hk.2))); (case aS => exact (below_size bB_)); (case aL => have := LMc24.out; omega); intro v733 w29 ho hb hg hat; rw [← Ny732.out] at ho; replace HO_6 := A_ (Kd.R_after (ok := (fun _ => True)) (vR_ HO_6.out) hg hat); replace HB := A_ (hb); have HO734 := A_ (ho); clear HO731; clear ho hb hg hat))
       go_ret2
       exact ⟨_, rr_, by (with_reducible repeat (first | apply Kd.R_alloc | apply Kd.R_drewN | apply Kd.R_drew)); exact Kd.R_mono HO734.out (fun _ hk => trivial), bB_⟩
   rw [if_pos c7] at H
   have c7b0 : decide (x7_1 < (l1.length : Int)) = true := decide_eq_true c7
   clear c7
   by_cases c8 : 0 ≤ x7_1
   rotate_left
   · exact absurd H (by rw [if_neg c8]; simp)
   rw [if_pos c8] at H
   have c8b0 : decide (0 ≤ x7_1) = true := decide_eq_true c8
   clear c8
   obtain ⟨t736, A9, H⟩ := bo_ H
   (try dsimp only at H)
   by_cases c10 : t736 = true
   · subst c10
     rw [if_pos rfl] at H
     obtain ⟨t738, A11, H⟩ := bo_ H
     (try dsimp only at H)
     have H' := Aside0.mk H
     clear H
     have p735 : 0 ≤ (x7_1 : Int) := of_decide_eq_true as_
     have q735 : x7_1 < (l1.length : Int) := of_decide_eq_true as_
     obtain ⟨ad735, e735, hx735_0, hx735_1, hx735_2, hx735_3⟩ := at_T74 HR1.out x7_1 p735 q735
     cases e735
     replace hx735_0 := bc_ HB.out hx735_0
     replace hx735_1 := bc_ HB.out hx735_1
     replace hx735_2 := bc_ HB.out hx735_2
     replace hx735_3 := bc_ HB.out hx735_3
     replace p735 := eq_true p735
     replace q735 := eq_true q735
     go_wp2_with (first | ((with_reducible refine gate_callee (f := 95) rfl ?_); refine gL_ (some 22) Try.func95 #[.agg #[.string ((rd_T74 l1 x7_1).f1.f0), .string ((rd_T74 l1 x7_1).f1.f1), .string ((rd_T74 l1 x7_1).f1.f2)]] ?_; (with_reducible refine (spec_l10Prop.calls k1 ((rd_T74 l1 x7_1).f1.f0) ((rd_T74 l1 x7_1).f1.f1) ((rd_T74 l1 x7_1).f1.f2) true _ A9.out).mono ?_); rintro e w12 ⟨rfl, hb⟩; refine ⟨_, rfl, ?_⟩; replace HO_6 := A_ (Kd.R_below (vR_ HO_6.out) hb); replace HB := A_ (below_step bB_ hb); (try clear hb); have p737 : 0 ≤ (x7_1 : Int) := of_decide_eq_true as_; have q737 : x7_1 < (l1.length : Int) := of_decide_eq_true as_; obtain ⟨ad737, e737, hx737_0, hx737_1, hx737_2, hx737_3⟩ := at_T74 HR1.out x7_1 p737 q737; obtain rfl : ad735 = ad737 := (by injection e737); replace hx737_0 := bc_ HB.out hx737_0; replace hx737_1 := bc_ HB.out hx737_1; replace hx737_2 := bc_ HB.out hx737_2; replace hx737_3 := bc_ HB.out hx737_3; replace p737 := eq_true p737; replace q737 := eq_true q737; obtain ⟨Ao13, co13, eo13⟩ := Kd.R_slice HO_6.out; subst eo13) | ((with_reducible refine gate_callee (f := 96) rfl ?_); refine gL_ (some 32) Try.func96 #[.slice Ao13 x6_1.length co13, .agg #[.bool ((rd_T74 l1 x7_1).f0), .string ((rd_T74 l1 x7_1).f1.f0), .string ((rd_T74 l1 x7_1).f1.f1), .string ((rd_T74 l1 x7_1).f1.f2)]] ?_; (with_reducible refine (spec_l12One.calls k1 _ _ x6_1 ((rd_T74 l1 x7_1).f0) ((rd_T74 l1 x7_1).f1.f0) ((rd_T74 l1 x7_1).f1.f1) ((rd_T74 l1 x7_1).f1.f2) t738 _ ?s1 ?s2 A11.out).mono ?_); (case s1 => exact cC_ (Kd.R_reads' HO_6.out).2.2); (case s2 => exact (Kd.R_reads' HO_6.out).2.1); rintro e w14 ⟨v739, rfl, ho0, hb⟩; refine ⟨_, rfl, ?_⟩; have HO740 := A_ (Kd.R_lower (Kd.R_new' ho0 (Kd.R_lt (vR_ HO_6.out))) (below_size bB_)); replace HO_6 := A_ (Kd.R_elder' (vR_ HO_6.out) (kb_ ho0) hb); replace HB := A_ (below_step bB_ hb); (try clear hb); (try clear ho0)))
     go_roundg k1
     case measure => have := HK1.out; omega
     case rel => exact ⟨(t738), (wrap64 (x7_1 + 1)), rs_, H', ⟨by have := HK1.out; omega⟩, ⟨by (with_reducible repeat (first | apply Kd.R_alloc | apply Kd.R_drewN | apply Kd.R_drew)); exact Kd.R_mono HO740.out (fun _ hk => trivial)⟩, ⟨bB_⟩⟩
   · replace c10 := Bool.eq_false_iff.mpr c10
     subst c10
     rw [if_neg nf_] at H
     obtain ⟨y741, hy741⟩ : ∃ y_ : List (S72), y_ = (([] : List (S72))) := ⟨_, rfl⟩
     replace H : (if y741.length + l0.length < 2932031007402 then (some ((y741 ++ l0), false)) else (none)) = some (r1, r2) := hy_ hy741 H
     have Ny741 := Aside0.mk hy741
     clear hy741
     by_cases c15 : y741.length + l0.length < 2932031007402
     rotate_left
     · exact absurd H (by rw [if_neg c15]; simp)
     rw [if_pos c15] at H
     have LMc15 := Aside0.mk c15
     clear c15
     obtain ⟨y744, hy744⟩ : ∃ y_ : List (S72), y_ = (y741 ++ l0) := ⟨_, rfl⟩
     replace H : (some (y744, false)) = some (r1, r2) := hy_ hy744 H
     have Ny744 := Aside0.mk hy744
     clear hy744
     simp only [Option.some.injEq, Prod.mk.injEq] at H
     obtain ⟨rfl, rfl⟩ := H
     have p735 : 0 ≤ (x7_1 : Int) := of_decide_eq_true as_
     have q735 : x7_1 < (l1.length : Int) := of_decide_eq_true as_
     obtain ⟨ad735, e735, hx735_0, hx735_1, hx735_2, hx735_3⟩ := at_T74 HR1.out x7_1 p735 q735
     cases e735
     replace hx735_0 := bc_ HB.out hx735_0
     replace hx735_1 := bc_ HB.out hx735_1
     replace hx735_2 := bc_ HB.out hx735_2
     replace hx735_3 := bc_ HB.out hx735_3
     replace p735 := eq_true p735
     replace q735 := eq_true q735
     go_wp2_with (first | ((with_reducible refine gate_callee (f := 95) rfl ?_); refine gL_ (some 22) Try.func95 #[.agg #[.string ((rd_T74 l1 x7_1).f1.f0), .string ((rd_T74 l1 x7_1).f1.f1), .string ((rd_T74 l1 x7_1).f1.f2)]] ?_; (with_reducible refine (spec_l10Prop.calls k1 ((rd_T74 l1 x7_1).f1.f0) ((rd_T74 l1 x7_1).f1.f1) ((rd_T74 l1 x7_1).f1.f2) false _ A9.out).mono ?_); rintro e w16 ⟨rfl, hb⟩; refine ⟨_, rfl, ?_⟩; replace HO_6 := A_ (Kd.R_below (vR_ HO_6.out) hb); replace HB := A_ (below_step bB_ hb); (try clear hb)) | ((with_reducible refine gate_dst (N := 24) rfl ?_); refine Kd.R_lit k72 _ 72 ?hg (N := 24) ?hd (xs := ([] : List (S72))) (inner := []) (ok := fun _ => True) (okp := fun _ => True) ?hr ?hp (fun _ hk => hk) trivial (Below.refl _ _) (Nat.le_refl _) (by simp) ?_; (case hd => rfl); (case hg => rfl); (case hr => first | (go_simp; done) | (go_simp; rfl)); (case hp => exact (Reps.none _ _)); intro v742 w17 ho18 hb hg_ hnew_; clear hg_ hnew_; (first | rw [← Ny741.out] at ho18 | (simp only [Int.reduceToNat] at ho18; rw [← Ny741.out] at ho18)); have HO743 := A_ (Kd.R_lower (Kd.R_new' ho18 (Kd.R_lt (vR_ HO_6.out))) (below_size bB_)); replace HO_6 := A_ (Kd.R_elder' (vR_ HO_6.out) (kb_ ho18) hb); replace HB := A_ (below_step bB_ hb); clear hb ho18) | ((with_reducible refine gate_builtin (b := .append) (xs := #[.tmp 24, .tmp 25]) rfl ?_); at_builtin; refine Kd.R_append_rows k72 (w0 := w) w.heap.size rfl (.tmp 24) (.tmp 25) 55 72 (.agg #[(.string ⟨#[]⟩), (.string ⟨#[]⟩), (.string ⟨#[]⟩)]) 48 rfl Try.underlying55 info72 rfl (by decide) (by omega) v742 y741 l0 _ _ _ (fun k_ => some k_ ≠ (u6 : Value).ownBlock) (fun _ => False) rfl rfl ?aO ?aR (fun _ _ h => h) (fun _ h => h.elim) ?aF ?aB ?aS ?aL ?_; (case aR => exact cC_ (Kd.C_below HR0.out HB.out)); (case aB => exact bB_); (case aF => exact (fun k_ hk => Kd.fresh' (Kd.R_lt (vR_ HO_6.out)) k_ hk)); (case aO => exact (by (with_reducible repeat (first | apply Kd.R_alloc | apply Kd.R_drewN | apply Kd.R_drew)); exact Kd.R_mono HO743.out (fun _ hk => hk.2))); (case aS => exact (below_size bB_)); (case aL => have := LMc15.out; omega); intro v745 w19 ho hb hg hat; rw [← Ny744.out] at ho; replace HO_6 := A_ (Kd.R_after (ok := (fun _ => True)) (vR_ HO_6.out) hg hat); replace HB := A_ (hb); have HO746 := A_ (ho); clear HO743; clear ho hb hg hat))
     go_ret2
     exact ⟨_, rr_, by (with_reducible repeat (first | apply Kd.R_alloc | apply Kd.R_drewN | apply Kd.R_drew)); exact Kd.R_mono HO746.out (fun _ hk => trivial), bB_⟩
mutual
def impl_setProp.l0 : Nat → List (S72) → Bool → List (S72) → Int → Int → Bool → ByteArray → ByteArray → ByteArray → Option ((List (S72)))
 | 0, _, _, _, _, _, _, _, _, _ => none
 | k + 1, x5, x6, x11, x12, x13, x774000, x774001, x774002, x774003 => if x13 < x12 then (if 0 ≤ x13 then (if x13 < (x11.length : Int) then (if x6 = true then (impl_setProp.j1 k x5 x6 x11 x12 x13 false x774000 x774001 x774002 x774003 ((rd_T72 x11 x13).f0) ((rd_T72 x11 x13).f1) ((rd_T72 x11 x13).f2)) else ((impl_lessProp.f ((rd_T72 x11 x13).f0) ((rd_T72 x11 x13).f1) ((rd_T72 x11 x13).f2) x774001 x774002 x774003).bind fun t779 => (impl_setProp.j1 k x5 x6 x11 x12 x13 (!t779) x774000 x774001 x774002 x774003 ((rd_T72 x11 x13).f0) ((rd_T72 x11 x13).f1) ((rd_T72 x11 x13).f2)))) else (none)) else (none)) else (if x6 = true then (some x5) else (if x5.length < 2932031007402 then (some (x5 ++ [(⟨x774001, x774002, x774003⟩ : S72)])) else (none)))
def impl_setProp.j1 : Nat → List (S72) → Bool → List (S72) → Int → Int → Bool → Bool → ByteArray → ByteArray → ByteArray → ByteArray → ByteArray → ByteArray → Option ((List (S72)))
 | 0, _, _, _, _, _, _, _, _, _, _, _, _, _ => none
 | k + 1, x5, x6, x11, x12, x13, x25, x774000, x774001, x774002, x774003, x779000, x779001, x779002 => if x25 = true then (if x5.length < 2932031007402 then ((some (x5 ++ [(⟨x774001, x774002, x774003⟩ : S72)] : List (S72))).bind fun y780 => (if x779000.toList = x774001.toList then (if x779001.toList = x774002.toList then (impl_setProp.l0 k y780 true x11 x12 (wrap64 (x13 + 1)) x774000 x774001 x774002 x774003) else (if y780.length < 2932031007402 then (impl_setProp.l0 k (y780 ++ [(⟨x779000, x779001, x779002⟩ : S72)]) true x11 x12 (wrap64 (x13 + 1)) x774000 x774001 x774002 x774003) else (none))) else (if y780.length < 2932031007402 then (impl_setProp.l0 k (y780 ++ [(⟨x779000, x779001, x779002⟩ : S72)]) true x11 x12 (wrap64 (x13 + 1)) x774000 x774001 x774002 x774003) else (none)))) else (none)) else (if x779000.toList = x774001.toList then (if x779001.toList = x774002.toList then (impl_setProp.l0 k x5 x6 x11 x12 (wrap64 (x13 + 1)) x774000 x774001 x774002 x774003) else (if x5.length < 2932031007402 then (impl_setProp.l0 k (x5 ++ [(⟨x779000, x779001, x779002⟩ : S72)]) x6 x11 x12 (wrap64 (x13 + 1)) x774000 x774001 x774002 x774003) else (none))) else (if x5.length < 2932031007402 then (impl_setProp.l0 k (x5 ++ [(⟨x779000, x779001, x779002⟩ : S72)]) x6 x11 x12 (wrap64 (x13 + 1)) x774000 x774001 x774002 x774003) else (none)))
end
def impl_setProp.f (k : Nat) (l0 : List (S72)) (a1_0 : Bool) (a1_1 : ByteArray) (a1_2 : ByteArray) (a1_3 : ByteArray) : Option ((List (S72))) := impl_setProp.l0 k ([] : List (S72)) a1_0 l0 (l0.length : Int) 0 a1_0 a1_1 a1_2 a1_3
set_option maxHeartbeats 8000000 in
set_option maxRecDepth 100000 in
theorem impl_setProp.calls (k : Nat) (A0 : Option Addr) (c0 : Nat) (l0 : List (S72)) (a1_0 : Bool) (a1_1 : ByteArray) (a1_2 : ByteArray) (a1_3 : ByteArray) (r : List (S72)) (w : World) (hr0 : Kd.C k72 w A0 l0.length l0) (hc0 : l0.length ≤ c0) (h : impl_setProp.f k l0 a1_0 a1_1 a1_2 a1_3 = some r) :
 Calls Try.prog 94 #[.slice A0 l0.length c0, .agg #[.bool a1_0, .string a1_1, .string a1_2, .string a1_3]] w fun e w' => ∃ v0_ : Value, e = .returned (v0_) ∧ Kd.R k72 72 w' w.heap.size (fun _ => True) v0_ r ∧ Below w.heap.size w w' := by
 have hu74 := Try.underlying74
 have hu72 := Try.underlying72
 have HR0 := Aside0.mk hr0
 have HC0 := Aside0.mk hc0
 clear hr0 hc0
 have HB := A_ (Below.refl w.heap.size w)
 have H : (impl_setProp.l0 k ([] : List (S72)) a1_0 l0 (l0.length : Int) 0 a1_0 a1_1 a1_2 a1_3) = some r := h
 clear h
 have H' := Aside0.mk H
 clear H
 go_enter Try.func94, Try.ntmps94
 go_wp2_with (first | ((with_reducible refine gate_dst (N := 3) rfl ?_); refine bx_ (N := 3) (cs := #[.bool a1_0, .string a1_1, .string a1_2, .string a1_3]) (t := 74) ?_; intro gb773 hg w3 hbox hb; have BK773 := A_ (hbox); have GW773 := A_ (ge_ hg bB_ : w.heap.size ≤ gb773); have GE773 := A_ (ge_ hg bB_ : w.heap.size ≤ gb773); replace HB := A_ (below_step bB_ hb); clear hb hbox hg; obtain ⟨hcz4_0, hcz4_1, hcz4_2, hcz4_3, hfz4_0, hfz4_1, hfz4_2, hfz4_3⟩ := cz4_ BK773.out))
 go_loopg [5, 6, 13] k (fun kq v5 v6 v13 w' => ∃ (x5_1 : List (S72)) (x6_1 : Bool) (x13_1 : Int), v6 = .bool x6_1 ∧ v13 = .int .i64 x13_1 ∧ Aside0 (impl_setProp.l0 kq x5_1 x6_1 l0 (l0.length : Int) x13_1 a1_0 a1_1 a1_2 a1_3 = some r) ∧ Aside0 (kq ≤ k) ∧ Aside0 (Kd.R k72 72 w' w.heap.size (fun _ => True) v5 x5_1) ∧ Aside0 (w'.heap[gb773]? = some (.cells #[.bool a1_0, .string a1_1, .string a1_2, .string a1_3] 74 (0, 0))) ∧ Aside0 (Below w.heap.size w w'))
 case atStart => exact ⟨(([] : List (S72))), (a1_0), (0), rs_, rs_, H', ⟨Nat.le_refl _⟩, ⟨by first | exact Kd.R_nil _ _ _ _ _ | exact Kd.N_nil _ _ _ _ _ | exact Kd.V_nil _ _ _ _ _ | exact Kd.Q_nil _ _ _ _ _ | exact Kd.S_nil _ _ _ _ _⟩, ⟨vb_ BK773.out⟩, ⟨bG_ GE773.out⟩⟩
 case round =>
  clear H'
  try clear p2
  try clear hcz4_0
  try clear hcz4_1
  try clear hcz4_2
  try clear hcz4_3
  try clear hfz4_0
  try clear hfz4_1
  try clear hfz4_2
  try clear hfz4_3
  obtain ⟨x5_1, x6_1, x13_1, rfl, rfl, HA, HK1, HO_5, BK773, HB⟩ := hrel
  cases gk with
  | zero => exact absurd HA.out (by simp [impl_setProp.l0])
  | succ k1 =>
   have H := HA.out
   clear HA
   simp only [impl_setProp.l0] at H
   by_cases c5 : x13_1 < (l0.length : Int)
   rotate_left
   · rw [if_neg c5] at H
     have c5b0 : decide (x13_1 < (l0.length : Int)) = false := decide_eq_false c5
     clear c5
     by_cases c56 : x6_1 = true
     · subst c56
       rw [if_pos rfl] at H
       obtain rfl := Option.some.inj H
       go_wp2
       go_ret
       exact ⟨_, rr_, by (with_reducible repeat (first | apply Kd.R_alloc | apply Kd.R_drewN | apply Kd.R_drew)); exact HO_5.out, bG_ GE773.out⟩
     · replace c56 := Bool.eq_false_iff.mpr c56
       subst c56
       rw [if_neg nf_] at H
       by_cases c57 : x5_1.length < 2932031007402
       rotate_left
       · exact absurd H (by rw [if_neg c57]; simp)
       rw [if_pos c57] at H
       have LMc57 := Aside0.mk c57
       clear c57
       obtain ⟨y774, hy774⟩ : ∃ y_ : List (S72), y_ = (x5_1 ++ [(⟨a1_1, a1_2, a1_3⟩ : S72)]) := ⟨_, rfl⟩
       replace H : (some y774) = some r := hy_ hy774 H
       have Ny774 := Aside0.mk hy774
       clear hy774
       obtain rfl := Option.some.inj H
       have hcz58_0 : wr.cell? ⟨gb773, 0, none⟩ = some (.bool a1_0) := (blk_cell BK773.out 0).trans rfl
       have hcz58_1 : wr.cell? ⟨gb773, 1, none⟩ = some (.string a1_1) := (blk_cell BK773.out 1).trans rfl
       have hcz58_2 : wr.cell? ⟨gb773, 2, none⟩ = some (.string a1_2) := (blk_cell BK773.out 2).trans rfl
       have hcz58_3 : wr.cell? ⟨gb773, 3, none⟩ = some (.string a1_3) := (blk_cell BK773.out 3).trans rfl
       have hfz58_0 := blk_frozen BK773.out 0
       have hfz58_1 := blk_frozen BK773.out 1
       have hfz58_2 := blk_frozen BK773.out 2
       have hfz58_3 := blk_frozen BK773.out 3
       go_wp2_with (first | ((with_reducible refine gate_builtin (b := .append) (xs := #[.tmp 52, .tmp 55]) rfl ?_); at_builtin; refine Kd.R_append k72 (w0 := w) w.heap.size rfl (.tmp 52) (.tmp 55) 55 72 (.agg #[(.string ⟨#[]⟩), (.string ⟨#[]⟩), (.string ⟨#[]⟩)]) 48 rfl Try.underlying55 info72 rfl (by decide) (by omega) u5 x5_1 (⟨a1_1, a1_2, a1_3⟩ : S72) [.string a1_1, .string a1_2, .string a1_3] (fun _ => True) (fun _ => False) rfl rfl ?aP (fun _ hk => hk.elim) ?aF ?aO ?aB ?aS ?aL ?_; (case aP => exact k72_mkM _ _ _ (⟨a1_1, a1_2, a1_3⟩ : S72)); (case aB => exact (bG_ GE773.out)); (case aF => exact (fun _ _ => trivial)); (case aO => exact (vR_ HO_5.out)); (case aS => exact (below_size (bG_ GE773.out))); (case aL => have := LMc57.out; omega); intro v775 w59 ho hb hg hat; rw [← Ny774.out] at ho; replace BK773 := A_ (blk_grown (g := gb773) (o := .cells #[.bool a1_0, .string a1_1, .string a1_2, .string a1_3] 74 (0, 0)) (vb_ BK773.out) hg (Kd.R_ne HO_5.out BK773.out (by decide))); replace HB := A_ (hb); have HO776 := A_ (ho); clear HO_5; clear ho hb hg hat))
       go_ret
       exact ⟨_, rr_, by (with_reducible repeat (first | apply Kd.R_alloc | apply Kd.R_drewN | apply Kd.R_drew)); exact HO776.out, bG_ GE773.out⟩
   rw [if_pos c5] at H
   have c5b0 : decide (x13_1 < (l0.length : Int)) = true := decide_eq_true c5
   clear c5
   by_cases c6 : 0 ≤ x13_1
   rotate_left
   · exact absurd H (by rw [if_neg c6]; simp)
   rw [if_pos c6] at H
   have c6b0 : decide (0 ≤ x13_1) = true := decide_eq_true c6
   clear c6
   by_cases c7 : x13_1 < (l0.length : Int)
   rotate_left
   · exact absurd H (by rw [if_neg c7]; simp)
   rw [if_pos c7] at H
   have c7b0 : decide (x13_1 < (l0.length : Int)) = true := decide_eq_true c7
   clear c7
   have HC8 := Aside0.mk H
   clear H
   have p777 : 0 ≤ (x13_1 : Int) := of_decide_eq_true as_
   have q777 : x13_1 < (l0.length : Int) := of_decide_eq_true as_
   obtain ⟨ad777, e777, hx777_0, hx777_1, hx777_2⟩ := at_T72 HR0.out x13_1 p777 q777
   cases e777
   replace hx777_0 := bc_ HB.out hx777_0
   replace hx777_1 := bc_ HB.out hx777_1
   replace hx777_2 := bc_ HB.out hx777_2
   replace p777 := eq_true p777
   replace q777 := eq_true q777
   go_upto_region 6 with (first | ((with_reducible refine gate_dst (N := 8) rfl ?_); refine bx_ (N := 8) (cs := #[.string (⟨#[]⟩ : ByteArray), .string (⟨#[]⟩ : ByteArray), .string (⟨#[]⟩ : ByteArray)]) (t := 72) ?_; intro gb778 hg w9 hbox hb; replace HO_5 := A_ (Kd.R_below (Kd.R_elderB (vR_ HO_5.out) gb778 (Nat.le_of_eq hg.symm)) hb); have BK778 := A_ (hbox); have GW778 := A_ (ge_ hg (bG_ GE773.out) : w.heap.size ≤ gb778); have GE778 := A_ (ge_ hg (bG_ GE773.out) : w.heap.size ≤ gb778); replace HB := A_ (below_step (bG_ GE773.out) hb); have NB773_778 := A_ (gm_ hg BK773.out); have NB778_773 := A_ (gn_ hg BK773.out); replace BK773 := A_ (bw_ BK773.out hb); clear hb hbox hg; have hnb10 := NB778_773.out; have hnc10 := NB773_778.out; obtain ⟨hcz11_0, hcz11_1, hcz11_2, hfz11_0, hfz11_1, hfz11_2⟩ := cz3_ BK778.out))
   (try simp only [Act.put, List.setIfInBounds_toArray, List.set_cons_zero, List.set_cons_succ])
   go_cut [25] (fun v25 wc => ∃ (kq : Nat) (x25_7 : Bool), v25 = .bool x25_7 ∧ Aside0 (impl_setProp.j1 kq x5_1 x6_1 l0 (l0.length : Int) x13_1 x25_7 a1_0 a1_1 a1_2 a1_3 ((rd_T72 l0 x13_1).f0) ((rd_T72 l0 x13_1).f1) ((rd_T72 l0 x13_1).f2) = some r) ∧ Aside0 (kq ≤ k1) ∧ Aside0 (Kd.R k72 72 wc w.heap.size (fun k_ => k_ ≠ gb778) u5 x5_1) ∧ Aside0 (wc.heap[gb773]? = some (.cells #[.bool a1_0, .string a1_1, .string a1_2, .string a1_3] 74 (0, 0))) ∧ Aside0 (wc.heap[gb778]? = some (.cells #[.string ((rd_T72 l0 x13_1).f0), .string ((rd_T72 l0 x13_1).f1), .string ((rd_T72 l0 x13_1).f2)] 72 (0, 0))) ∧ Aside0 (Below w.heap.size w wc))
   case first =>
    have H := HC8.out
    clear HC8
    by_cases c12 : x6_1 = true
    · subst c12
      rw [if_pos rfl] at H
      have H' := Aside0.mk H
      clear H
      go_wp2
      go_meet
      case rel => exact ⟨_, (false), rs_, H', ⟨by have := HK1.out; first | omega | exact Nat.le_refl _⟩, ⟨by (with_reducible repeat (first | apply Kd.R_alloc | apply Kd.R_drewN | apply Kd.R_drew)); exact Kd.R_mono (Kd.R_far (p := ⟨gb778, 2, none⟩) (Kd.R_far (p := ⟨gb778, 1, none⟩) (Kd.R_far (p := ⟨gb778, 0, none⟩) (Kd.R_mono HO_5.out (fun k_ hk => (⟨hk, hk.2⟩ : _ ∧ k_ ≠ gb778))) (fun _ hk => hk.2) (.string ((rd_T72 l0 x13_1).f0))) (fun _ hk => hk.2) (.string ((rd_T72 l0 x13_1).f1))) (fun _ hk => hk.2) (.string ((rd_T72 l0 x13_1).f2))) (fun _ hk => hk.1.2)⟩, ⟨by (with_reducible repeat (first | refine blk_drewN ?_ _ | refine blk_drew ?_ | refine blk_alloc ?_ _)); refine blk_far ?_ NB773_778.out _; (with_reducible repeat (first | refine blk_drewN ?_ _ | refine blk_drew ?_ | refine blk_alloc ?_ _)); refine blk_far ?_ NB773_778.out _; (with_reducible repeat (first | refine blk_drewN ?_ _ | refine blk_drew ?_ | refine blk_alloc ?_ _)); refine blk_far ?_ NB773_778.out _; (with_reducible repeat (first | refine blk_drewN ?_ _ | refine blk_drew ?_ | refine blk_alloc ?_ _)); exact BK773.out⟩, ⟨by (with_reducible repeat (first | refine blk_drewN ?_ _ | refine blk_drew ?_ | refine blk_alloc ?_ _)); refine blk_put (cs := #[.string ((rd_T72 l0 x13_1).f0), .string ((rd_T72 l0 x13_1).f1), .string (⟨#[]⟩ : ByteArray)]) ?_ 2 _ rfl; (with_reducible repeat (first | refine blk_drewN ?_ _ | refine blk_drew ?_ | refine blk_alloc ?_ _)); refine blk_put (cs := #[.string ((rd_T72 l0 x13_1).f0), .string (⟨#[]⟩ : ByteArray), .string (⟨#[]⟩ : ByteArray)]) ?_ 1 _ rfl; (with_reducible repeat (first | refine blk_drewN ?_ _ | refine blk_drew ?_ | refine blk_alloc ?_ _)); refine blk_put (cs := #[.string (⟨#[]⟩ : ByteArray), .string (⟨#[]⟩ : ByteArray), .string (⟨#[]⟩ : ByteArray)]) ?_ 0 _ rfl; (with_reducible repeat (first | refine blk_drewN ?_ _ | refine blk_drew ?_ | refine blk_alloc ?_ _)); exact BK778.out⟩, ⟨by repeat (first | (with_reducible first | exact HB.out | apply below_alloc | apply pw_below_drewN | apply below_drew1 | refine below_set ?_ GE773.out | refine below_set ?_ GE778.out) | exact HB.out)⟩⟩
    · replace c12 := Bool.eq_false_iff.mpr c12
      subst c12
      rw [if_neg nf_] at H
      obtain ⟨t779, A13, H⟩ := bo_ H
      (try dsimp only at H)
      have H' := Aside0.mk H
      clear H
      have hnb14 := NB778_773.out
      have hnc14 := NB773_778.out
      obtain ⟨hcz15_0, hcz15_1, hcz15_2, hfz15_0, hfz15_1, hfz15_2⟩ := cz3_ BK778.out
      obtain ⟨hcz16_0, hcz16_1, hcz16_2, hcz16_3, hfz16_0, hfz16_1, hfz16_2, hfz16_3⟩ := cz4_ BK773.out
      go_wp2_with (first | (go_at_call 100; (with_reducible refine (impl_lessProp.calls ((rd_T72 l0 x13_1).f0) ((rd_T72 l0 x13_1).f1) ((rd_T72 l0 x13_1).f2) a1_1 a1_2 a1_3 t779 _ A13.out).mono ?_); rintro e w17 ⟨rfl, hb⟩; replace HO_5 := A_ (Kd.R_below (by (with_reducible repeat (first | apply Kd.R_alloc | apply Kd.R_drewN | apply Kd.R_drew)); exact (Kd.R_mono (Kd.R_far (p := ⟨gb778, 2, none⟩) (Kd.R_far (p := ⟨gb778, 1, none⟩) (Kd.R_far (p := ⟨gb778, 0, none⟩) (Kd.R_mono HO_5.out (fun k_ hk => (⟨hk, hk.2⟩ : _ ∧ k_ ≠ gb778))) (fun _ hk => hk.2) (.string ((rd_T72 l0 x13_1).f0))) (fun _ hk => hk.2) (.string ((rd_T72 l0 x13_1).f1))) (fun _ hk => hk.2) (.string ((rd_T72 l0 x13_1).f2))) (fun _ h_ => h_.1))) hb); replace BK773 := A_ (blk_below (g := gb773) (o := .cells #[.bool a1_0, .string a1_1, .string a1_2, .string a1_3] 74 (0, 0)) (by (with_reducible repeat (first | refine blk_drewN ?_ _ | refine blk_drew ?_ | refine blk_alloc ?_ _)); refine blk_far ?_ NB773_778.out _; (with_reducible repeat (first | refine blk_drewN ?_ _ | refine blk_drew ?_ | refine blk_alloc ?_ _)); refine blk_far ?_ NB773_778.out _; (with_reducible repeat (first | refine blk_drewN ?_ _ | refine blk_drew ?_ | refine blk_alloc ?_ _)); refine blk_far ?_ NB773_778.out _; (with_reducible repeat (first | refine blk_drewN ?_ _ | refine blk_drew ?_ | refine blk_alloc ?_ _)); exact BK773.out) hb); replace BK778 := A_ (blk_below (g := gb778) (o := .cells #[.string ((rd_T72 l0 x13_1).f0), .string ((rd_T72 l0 x13_1).f1), .string ((rd_T72 l0 x13_1).f2)] 72 (0, 0)) (by (with_reducible repeat (first | refine blk_drewN ?_ _ | refine blk_drew ?_ | refine blk_alloc ?_ _)); refine blk_put (cs := #[.string ((rd_T72 l0 x13_1).f0), .string ((rd_T72 l0 x13_1).f1), .string (⟨#[]⟩ : ByteArray)]) ?_ 2 _ rfl; (with_reducible repeat (first | refine blk_drewN ?_ _ | refine blk_drew ?_ | refine blk_alloc ?_ _)); refine blk_put (cs := #[.string ((rd_T72 l0 x13_1).f0), .string (⟨#[]⟩ : ByteArray), .string (⟨#[]⟩ : ByteArray)]) ?_ 1 _ rfl; (with_reducible repeat (first | refine blk_drewN ?_ _ | refine blk_drew ?_ | refine blk_alloc ?_ _)); refine blk_put (cs := #[.string (⟨#[]⟩ : ByteArray), .string (⟨#[]⟩ : ByteArray), .string (⟨#[]⟩ : ByteArray)]) ?_ 0 _ rfl; (with_reducible repeat (first | refine blk_drewN ?_ _ | refine blk_drew ?_ | refine blk_alloc ?_ _)); exact BK778.out) hb); replace HB := A_ (below_step (by repeat (first | (with_reducible first | exact HB.out | apply below_alloc | apply pw_below_drewN | apply below_drew1 | refine below_set ?_ GE773.out | refine below_set ?_ GE778.out) | exact HB.out)) hb); (try clear hb); (try clear hk)))
      go_meet
      case rel => exact ⟨_, (!t779), rs_, H', ⟨by have := HK1.out; first | omega | exact Nat.le_refl _⟩, ⟨by (with_reducible repeat (first | apply Kd.R_alloc | apply Kd.R_drewN | apply Kd.R_drew)); exact Kd.R_mono HO_5.out (fun _ hk => hk.2)⟩, ⟨vb_ BK773.out⟩, ⟨vb_ BK778.out⟩, ⟨by repeat (first | (with_reducible first | exact HB.out | apply below_alloc | apply pw_below_drewN | apply below_drew1 | refine below_set ?_ GE773.out | refine below_set ?_ GE778.out) | exact HB.out)⟩⟩
   case rest =>
    clear HC8
    try clear c1
    try clear p2
    try clear c5
    try clear c5b0
    try clear c6
    try clear c6b0
    try clear c7
    try clear c7b0
    try clear p7
    try clear q7
    try clear hx7
    try clear c9
    try clear c10
    try clear c12
    try clear c14
    try clear hcz11_0
    try clear hcz11_1
    try clear hcz11_2
    try clear hcz15_0
    try clear hcz15_1
    try clear hcz15_2
    try clear hcz16_0
    try clear hcz16_1
    try clear hcz16_2
    try clear hcz16_3
    try clear hcz4_0
    try clear hcz4_1
    try clear hcz4_2
    try clear hcz4_3
    try clear hfz11_0
    try clear hfz11_1
    try clear hfz11_2
    try clear hfz15_0
    try clear hfz15_1
    try clear hfz15_2
    try clear hfz16_0
    try clear hfz16_1
    try clear hfz16_2
    try clear hfz16_3
    try clear hfz4_0
    try clear hfz4_1
    try clear hfz4_2
    try clear hfz4_3
    try clear hx777_0
    try clear hx777_1
    try clear hx777_2
    try clear p2
    try clear p777
    try clear q777
    obtain ⟨kq, x25_7, rfl, HA, HJ7, HO_5, BK773, BK778, HB⟩ := hcut
    cases kq with
    | zero => exact absurd HA.out (by simp [impl_setProp.j1])
    | succ kj7 =>
     have H := HA.out
     clear HA
     simp only [impl_setProp.j1] at H
     by_cases c18 : x25_7 = true
     · subst c18
       rw [if_pos rfl] at H
       by_cases c19 : x5_1.length < 2932031007402
       rotate_left
       · exact absurd H (by rw [if_neg c19]; simp)
       rw [if_pos c19] at H
       have LMc19 := Aside0.mk c19
       clear c19
       obtain ⟨y780, hy780⟩ : ∃ y_ : List (S72), y_ = (x5_1 ++ [(⟨a1_1, a1_2, a1_3⟩ : S72)]) := ⟨_, rfl⟩
       replace H : (if ((rd_T72 l0 x13_1).f0).toList = a1_1.toList then (if ((rd_T72 l0 x13_1).f1).toList = a1_2.toList then (impl_setProp.l0 kj7 y780 true l0 (l0.length : Int) (wrap64 (x13_1 + 1)) a1_0 a1_1 a1_2 a1_3) else (if y780.length < 2932031007402 then (impl_setProp.l0 kj7 (y780 ++ [(⟨((rd_T72 l0 x13_1).f0), ((rd_T72 l0 x13_1).f1), ((rd_T72 l0 x13_1).f2)⟩ : S72)]) true l0 (l0.length : Int) (wrap64 (x13_1 + 1)) a1_0 a1_1 a1_2 a1_3) else (none))) else (if y780.length < 2932031007402 then (impl_setProp.l0 kj7 (y780 ++ [(⟨((rd_T72 l0 x13_1).f0), ((rd_T72 l0 x13_1).f1), ((rd_T72 l0 x13_1).f2)⟩ : S72)]) true l0 (l0.length : Int) (wrap64 (x13_1 + 1)) a1_0 a1_1 a1_2 a1_3) else (none))) = some r := hy_ hy780 H
       have Ny780 := Aside0.mk hy780
       clear hy780
       by_cases c20 : ((rd_T72 l0 x13_1).f0).toList = a1_1.toList
       rotate_left
       · rw [if_neg c20] at H
         have c20b0 : (((rd_T72 l0 x13_1).f0).toList == a1_1.toList) = false := beq_eq_false_iff_ne.mpr c20
         have c20b1 : (((rd_T72 l0 x13_1).f0).toList != a1_1.toList) = true := bne_iff_ne.mpr c20
         by_cases c34 : y780.length < 2932031007402
         rotate_left
         · exact absurd H (by rw [if_neg c34]; simp)
         rw [if_pos c34] at H
         have LMc34 := Aside0.mk c34
         clear c34
         obtain ⟨y786, hy786⟩ : ∃ y_ : List (S72), y_ = (y780 ++ [(⟨((rd_T72 l0 x13_1).f0), ((rd_T72 l0 x13_1).f1), ((rd_T72 l0 x13_1).f2)⟩ : S72)]) := ⟨_, rfl⟩
         replace H : (impl_setProp.l0 kj7 y786 true l0 (l0.length : Int) (wrap64 (x13_1 + 1)) a1_0 a1_1 a1_2 a1_3) = some r := hy_ hy786 H
         have Ny786 := Aside0.mk hy786
         clear hy786
         have H' := Aside0.mk H
         clear H
         have hnb35 := NB773_778.out
         have hnc35 := NB778_773.out
         have hcz36_0 : wc.cell? ⟨gb773, 0, none⟩ = some (.bool a1_0) := (blk_cell BK773.out 0).trans rfl
         have hcz36_1 : wc.cell? ⟨gb773, 1, none⟩ = some (.string a1_1) := (blk_cell BK773.out 1).trans rfl
         have hcz36_2 : wc.cell? ⟨gb773, 2, none⟩ = some (.string a1_2) := (blk_cell BK773.out 2).trans rfl
         have hcz36_3 : wc.cell? ⟨gb773, 3, none⟩ = some (.string a1_3) := (blk_cell BK773.out 3).trans rfl
         have hfz36_0 := blk_frozen BK773.out 0
         have hfz36_1 := blk_frozen BK773.out 1
         have hfz36_2 := blk_frozen BK773.out 2
         have hfz36_3 := blk_frozen BK773.out 3
         go_wp2_with (first | ((with_reducible refine gate_builtin (b := .append) (xs := #[.tmp 26, .tmp 29]) rfl ?_); at_builtin; refine Kd.R_append k72 (w0 := w) w.heap.size rfl (.tmp 26) (.tmp 29) 55 72 (.agg #[(.string ⟨#[]⟩), (.string ⟨#[]⟩), (.string ⟨#[]⟩)]) 48 rfl Try.underlying55 info72 rfl (by decide) (by omega) u5 x5_1 (⟨a1_1, a1_2, a1_3⟩ : S72) [.string a1_1, .string a1_2, .string a1_3] (fun k_ => k_ ≠ gb778) (fun _ => False) rfl rfl ?aP (fun _ hk => hk.elim) ?aF ?aO ?aB ?aS ?aL ?_; (case aP => exact k72_mkM _ _ _ (⟨a1_1, a1_2, a1_3⟩ : S72)); (case aB => exact (by repeat (first | (with_reducible first | exact HB.out | apply below_alloc | apply pw_below_drewN | apply below_drew1 | refine below_set ?_ GE773.out | refine below_set ?_ GE778.out) | exact HB.out))); (case aF => exact (fun k_ hk => Kd.freshB (g := gb778) (o := .cells #[.string ((rd_T72 l0 x13_1).f0), .string ((rd_T72 l0 x13_1).f1), .string ((rd_T72 l0 x13_1).f2)] 72 (0, 0)) (vb_ BK778.out) k_ hk)); (case aO => exact (vR_ HO_5.out)); (case aS => exact (below_size (by repeat (first | (with_reducible first | exact HB.out | apply below_alloc | apply pw_below_drewN | apply below_drew1 | refine below_set ?_ GE773.out | refine below_set ?_ GE778.out) | exact HB.out)))); (case aL => have := LMc19.out; omega); intro v781 w37 ho hb hg hat; rw [← Ny780.out] at ho; replace BK773 := A_ (blk_grown (g := gb773) (o := .cells #[.bool a1_0, .string a1_1, .string a1_2, .string a1_3] 74 (0, 0)) (vb_ BK773.out) hg (Kd.R_ne HO_5.out BK773.out (by decide))); replace BK778 := A_ (blk_grown (g := gb778) (o := .cells #[.string ((rd_T72 l0 x13_1).f0), .string ((rd_T72 l0 x13_1).f1), .string ((rd_T72 l0 x13_1).f2)] 72 (0, 0)) (vb_ BK778.out) hg (Kd.R_away HO_5.out (fun _ hk => hk))); replace HB := A_ (hb); have HO782 := A_ (ho); clear HO_5; clear ho hb hg hat; obtain ⟨hcz38_0, hcz38_1, hcz38_2, hfz38_0, hfz38_1, hfz38_2⟩ := cz3_ BK778.out; obtain ⟨hcz39_0, hcz39_1, hcz39_2, hcz39_3, hfz39_0, hfz39_1, hfz39_2, hfz39_3⟩ := cz4_ BK773.out) | ((with_reducible refine gate_builtin (b := .append) (xs := #[.tmp 45, .tmp 47]) rfl ?_); at_builtin; refine Kd.R_append k72 (w0 := w) w.heap.size rfl (.tmp 45) (.tmp 47) 55 72 (.agg #[(.string ⟨#[]⟩), (.string ⟨#[]⟩), (.string ⟨#[]⟩)]) 48 rfl Try.underlying55 info72 rfl (by decide) (by omega) v781 y780 (⟨((rd_T72 l0 x13_1).f0), ((rd_T72 l0 x13_1).f1), ((rd_T72 l0 x13_1).f2)⟩ : S72) [.string ((rd_T72 l0 x13_1).f0), .string ((rd_T72 l0 x13_1).f1), .string ((rd_T72 l0 x13_1).f2)] (fun k_ => k_ ≠ gb778) (fun _ => False) rfl rfl ?aP (fun _ hk => hk.elim) ?aF ?aO ?aB ?aS ?aL ?_; (case aP => exact k72_mkM _ _ _ (⟨((rd_T72 l0 x13_1).f0), ((rd_T72 l0 x13_1).f1), ((rd_T72 l0 x13_1).f2)⟩ : S72)); (case aB => exact (by repeat (first | (with_reducible first | exact HB.out | apply below_alloc | apply pw_below_drewN | apply below_drew1 | refine below_set ?_ GE773.out | refine below_set ?_ GE778.out) | exact HB.out))); (case aF => exact (fun k_ hk => Kd.freshB (g := gb778) (o := .cells #[.string ((rd_T72 l0 x13_1).f0), .string ((rd_T72 l0 x13_1).f1), .string ((rd_T72 l0 x13_1).f2)] 72 (0, 0)) (vb_ BK778.out) k_ hk)); (case aO => exact (vR_ HO782.out)); (case aS => exact (below_size (by repeat (first | (with_reducible first | exact HB.out | apply below_alloc | apply pw_below_drewN | apply below_drew1 | refine below_set ?_ GE773.out | refine below_set ?_ GE778.out) | exact HB.out)))); (case aL => have := LMc34.out; omega); intro v787 w40 ho hb hg hat; rw [← Ny786.out] at ho; replace BK773 := A_ (blk_grown (g := gb773) (o := .cells #[.bool a1_0, .string a1_1, .string a1_2, .string a1_3] 74 (0, 0)) (vb_ BK773.out) hg (Kd.R_ne HO782.out BK773.out (by decide))); replace BK778 := A_ (blk_grown (g := gb778) (o := .cells #[.string ((rd_T72 l0 x13_1).f0), .string ((rd_T72 l0 x13_1).f1), .string ((rd_T72 l0 x13_1).f2)] 72 (0, 0)) (vb_ BK778.out) hg (Kd.R_away HO782.out (fun _ hk => hk))); replace HB := A_ (hb); have HO788 := A_ (ho); clear HO782; clear ho hb hg hat))
         go_roundg kj7
         case measure => have := HK1.out; have := HJ7.out; omega
         case rel => exact ⟨(y786), (true), (wrap64 (x13_1 + 1)), rs_, rs_, H', ⟨by have := HK1.out; have := HJ7.out; omega⟩, ⟨by (with_reducible repeat (first | apply Kd.R_alloc | apply Kd.R_drewN | apply Kd.R_drew)); exact Kd.R_mono HO788.out (fun _ hk => trivial)⟩, ⟨vb_ BK773.out⟩, ⟨by repeat (first | (with_reducible first | exact HB.out | apply below_alloc | apply pw_below_drewN | apply below_drew1 | refine below_set ?_ GE773.out | refine below_set ?_ GE778.out) | exact HB.out)⟩⟩
       rw [if_pos c20] at H
       have c20b0 : (((rd_T72 l0 x13_1).f0).toList == a1_1.toList) = true := beq_iff_eq.mpr c20
       have c20b1 : (((rd_T72 l0 x13_1).f0).toList != a1_1.toList) = false := bne_eq_false_iff_eq.mpr c20
       clear c20
       by_cases c21 : ((rd_T72 l0 x13_1).f1).toList = a1_2.toList
       · rw [if_pos c21] at H
         have c21b0 : (((rd_T72 l0 x13_1).f1).toList == a1_2.toList) = true := beq_iff_eq.mpr c21
         have c21b1 : (((rd_T72 l0 x13_1).f1).toList != a1_2.toList) = false := bne_eq_false_iff_eq.mpr c21
         clear c21
         have H' := Aside0.mk H
         clear H
         have hnb22 := NB773_778.out
         have hnc22 := NB778_773.out
         have hcz23_0 : wc.cell? ⟨gb773, 0, none⟩ = some (.bool a1_0) := (blk_cell BK773.out 0).trans rfl
         have hcz23_1 : wc.cell? ⟨gb773, 1, none⟩ = some (.string a1_1) := (blk_cell BK773.out 1).trans rfl
         have hcz23_2 : wc.cell? ⟨gb773, 2, none⟩ = some (.string a1_2) := (blk_cell BK773.out 2).trans rfl
         have hcz23_3 : wc.cell? ⟨gb773, 3, none⟩ = some (.string a1_3) := (blk_cell BK773.out 3).trans rfl
         have hfz23_0 := blk_frozen BK773.out 0
         have hfz23_1 := blk_frozen BK773.out 1
         have hfz23_2 := blk_frozen BK773.out 2
         have hfz23_3 := blk_frozen BK773.out 3
         go_wp2_with (first | ((with_reducible refine gate_builtin (b := .append) (xs := #[.tmp 26, .tmp 29]) rfl ?_); at_builtin; refine Kd.R_append k72 (w0 := w) w.heap.size rfl (.tmp 26) (.tmp 29) 55 72 (.agg #[(.string ⟨#[]⟩), (.string ⟨#[]⟩), (.string ⟨#[]⟩)]) 48 rfl Try.underlying55 info72 rfl (by decide) (by omega) u5 x5_1 (⟨a1_1, a1_2, a1_3⟩ : S72) [.string a1_1, .string a1_2, .string a1_3] (fun k_ => k_ ≠ gb778) (fun _ => False) rfl rfl ?aP (fun _ hk => hk.elim) ?aF ?aO ?aB ?aS ?aL ?_; (case aP => exact k72_mkM _ _ _ (⟨a1_1, a1_2, a1_3⟩ : S72)); (case aB => exact (by repeat (first | (with_reducible first | exact HB.out | apply below_alloc | apply pw_below_drewN | apply below_drew1 | refine below_set ?_ GE773.out | refine below_set ?_ GE778.out) | exact HB.out))); (case aF => exact (fun k_ hk => Kd.freshB (g := gb778) (o := .cells #[.string ((rd_T72 l0 x13_1).f0), .string ((rd_T72 l0 x13_1).f1), .string ((rd_T72 l0 x13_1).f2)] 72 (0, 0)) (vb_ BK778.out) k_ hk)); (case aO => exact (vR_ HO_5.out)); (case aS => exact (below_size (by repeat (first | (with_reducible first | exact HB.out | apply below_alloc | apply pw_below_drewN | apply below_drew1 | refine below_set ?_ GE773.out | refine below_set ?_ GE778.out) | exact HB.out)))); (case aL => have := LMc19.out; omega); intro v781 w24 ho hb hg hat; rw [← Ny780.out] at ho; replace BK773 := A_ (blk_grown (g := gb773) (o := .cells #[.bool a1_0, .string a1_1, .string a1_2, .string a1_3] 74 (0, 0)) (vb_ BK773.out) hg (Kd.R_ne HO_5.out BK773.out (by decide))); replace BK778 := A_ (blk_grown (g := gb778) (o := .cells #[.string ((rd_T72 l0 x13_1).f0), .string ((rd_T72 l0 x13_1).f1), .string ((rd_T72 l0 x13_1).f2)] 72 (0, 0)) (vb_ BK778.out) hg (Kd.R_away HO_5.out (fun _ hk => hk))); replace HB := A_ (hb); have HO782 := A_ (ho); clear HO_5; clear ho hb hg hat; obtain ⟨hcz25_0, hcz25_1, hcz25_2, hfz25_0, hfz25_1, hfz25_2⟩ := cz3_ BK778.out; obtain ⟨hcz26_0, hcz26_1, hcz26_2, hcz26_3, hfz26_0, hfz26_1, hfz26_2, hfz26_3⟩ := cz4_ BK773.out))
         go_roundg kj7
         case measure => have := HK1.out; have := HJ7.out; omega
         case rel => exact ⟨(y780), (true), (wrap64 (x13_1 + 1)), rs_, rs_, H', ⟨by have := HK1.out; have := HJ7.out; omega⟩, ⟨by (with_reducible repeat (first | apply Kd.R_alloc | apply Kd.R_drewN | apply Kd.R_drew)); exact Kd.R_mono HO782.out (fun _ hk => trivial)⟩, ⟨vb_ BK773.out⟩, ⟨by repeat (first | (with_reducible first | exact HB.out | apply below_alloc | apply pw_below_drewN | apply below_drew1 | refine below_set ?_ GE773.out | refine below_set ?_ GE778.out) | exact HB.out)⟩⟩
       rw [if_neg c21] at H
       have c21b0 : (((rd_T72 l0 x13_1).f1).toList == a1_2.toList) = false := beq_eq_false_iff_ne.mpr c21
       have c21b1 : (((rd_T72 l0 x13_1).f1).toList != a1_2.toList) = true := bne_iff_ne.mpr c21
       by_cases c27 : y780.length < 2932031007402
       rotate_left
       · exact absurd H (by rw [if_neg c27]; simp)
       rw [if_pos c27] at H
       have LMc27 := Aside0.mk c27
       clear c27
       obtain ⟨y783, hy783⟩ : ∃ y_ : List (S72), y_ = (y780 ++ [(⟨((rd_T72 l0 x13_1).f0), ((rd_T72 l0 x13_1).f1), ((rd_T72 l0 x13_1).f2)⟩ : S72)]) := ⟨_, rfl⟩
       replace H : (impl_setProp.l0 kj7 y783 true l0 (l0.length : Int) (wrap64 (x13_1 + 1)) a1_0 a1_1 a1_2 a1_3) = some r := hy_ hy783 H
       have Ny783 := Aside0.mk hy783
       clear hy783
       have H' := Aside0.mk H
       clear H
       have hnb28 := NB773_778.out
       have hnc28 := NB778_773.out
       have hcz29_0 : wc.cell? ⟨gb773, 0, none⟩ = some (.bool a1_0) := (blk_cell BK773.out 0).trans rfl
       have hcz29_1 : wc.cell? ⟨gb773, 1, none⟩ = some (.string a1_1) := (blk_cell BK773.out 1).trans rfl
       have hcz29_2 : wc.cell? ⟨gb773, 2, none⟩ = some (.string a1_2) := (blk_cell BK773.out 2).trans rfl
       have hcz29_3 : wc.cell? ⟨gb773, 3, none⟩ = some (.string a1_3) := (blk_cell BK773.out 3).trans rfl
       have hfz29_0 := blk_frozen BK773.out 0
       have hfz29_1 := blk_frozen BK773.out 1
       have hfz29_2 := blk_frozen BK773.out 2
       have hfz29_3 := blk_frozen BK773.out 3
       go_wp2_with (first | ((with_reducible refine gate_builtin (b := .append) (xs := #[.tmp 26, .tmp 29]) rfl ?_); at_builtin; refine Kd.R_append k72 (w0 := w) w.heap.size rfl (.tmp 26) (.tmp 29) 55 72 (.agg #[(.string ⟨#[]⟩), (.string ⟨#[]⟩), (.string ⟨#[]⟩)]) 48 rfl Try.underlying55 info72 rfl (by decide) (by omega) u5 x5_1 (⟨a1_1, a1_2, a1_3⟩ : S72) [.string a1_1, .string a1_2, .string a1_3] (fun k_ => k_ ≠ gb778) (fun _ => False) rfl rfl ?aP (fun _ hk => hk.elim) ?aF ?aO ?aB ?aS ?aL ?_; (case aP => exact k72_mkM _ _ _ (⟨a1_1, a1_2, a1_3⟩ : S72)); (case aB => exact (by repeat (first | (with_reducible first | exact HB.out | apply below_alloc | apply pw_below_drewN | apply below_drew1 | refine below_set ?_ GE773.out | refine below_set ?_ GE778.out) | exact HB.out))); (case aF => exact (fun k_ hk => Kd.freshB (g := gb778) (o := .cells #[.string ((rd_T72 l0 x13_1).f0), .string ((rd_T72 l0 x13_1).f1), .string ((rd_T72 l0 x13_1).f2)] 72 (0, 0)) (vb_ BK778.out) k_ hk)); (case aO => exact (vR_ HO_5.out)); (case aS => exact (below_size (by repeat (first | (with_reducible first | exact HB.out | apply below_alloc | apply pw_below_drewN | apply below_drew1 | refine below_set ?_ GE773.out | refine below_set ?_ GE778.out) | exact HB.out)))); (case aL => have := LMc19.out; omega); intro v781 w30 ho hb hg hat; rw [← Ny780.out] at ho; replace BK773 := A_ (blk_grown (g := gb773) (o := .cells #[.bool a1_0, .string a1_1, .string a1_2, .string a1_3] 74 (0, 0)) (vb_ BK773.out) hg (Kd.R_ne HO_5.out BK773.out (by decide))); replace BK778 := A_ (blk_grown (g := gb778) (o := .cells #[.string ((rd_T72 l0 x13_1).f0), .string ((rd_T72 l0 x13_1).f1), .string ((rd_T72 l0 x13_1).f2)] 72 (0, 0)) (vb_ BK778.out) hg (Kd.R_away HO_5.out (fun _ hk => hk))); replace HB := A_ (hb); have HO782 := A_ (ho); clear HO_5; clear ho hb hg hat; obtain ⟨hcz31_0, hcz31_1, hcz31_2, hfz31_0, hfz31_1, hfz31_2⟩ := cz3_ BK778.out; obtain ⟨hcz32_0, hcz32_1, hcz32_2, hcz32_3, hfz32_0, hfz32_1, hfz32_2, hfz32_3⟩ := cz4_ BK773.out) | ((with_reducible refine gate_builtin (b := .append) (xs := #[.tmp 45, .tmp 47]) rfl ?_); at_builtin; refine Kd.R_append k72 (w0 := w) w.heap.size rfl (.tmp 45) (.tmp 47) 55 72 (.agg #[(.string ⟨#[]⟩), (.string ⟨#[]⟩), (.string ⟨#[]⟩)]) 48 rfl Try.underlying55 info72 rfl (by decide) (by omega) v781 y780 (⟨((rd_T72 l0 x13_1).f0), ((rd_T72 l0 x13_1).f1), ((rd_T72 l0 x13_1).f2)⟩ : S72) [.string ((rd_T72 l0 x13_1).f0), .string ((rd_T72 l0 x13_1).f1), .string ((rd_T72 l0 x13_1).f2)] (fun k_ => k_ ≠ gb778) (fun _ => False) rfl rfl ?aP (fun _ hk => hk.elim) ?aF ?aO ?aB ?aS ?aL ?_; (case aP => exact k72_mkM _ _ _ (⟨((rd_T72 l0 x13_1).f0), ((rd_T72 l0 x13_1).f1), ((rd_T72 l0 x13_1).f2)⟩ : S72)); (case aB => exact (by repeat (first | (with_reducible first | exact HB.out | apply below_alloc | apply pw_below_drewN | apply below_drew1 | refine below_set ?_ GE773.out | refine below_set ?_ GE778.out) | exact HB.out))); (case aF => exact (fun k_ hk => Kd.freshB (g := gb778) (o := .cells #[.string ((rd_T72 l0 x13_1).f0), .string ((rd_T72 l0 x13_1).f1), .string ((rd_T72 l0 x13_1).f2)] 72 (0, 0)) (vb_ BK778.out) k_ hk)); (case aO => exact (vR_ HO782.out)); (case aS => exact (below_size (by repeat (first | (with_reducible first | exact HB.out | apply below_alloc | apply pw_below_drewN | apply below_drew1 | refine below_set ?_ GE773.out | refine below_set ?_ GE778.out) | exact HB.out)))); (case aL => have := LMc27.out; omega); intro v784 w33 ho hb hg hat; rw [← Ny783.out] at ho; replace BK773 := A_ (blk_grown (g := gb773) (o := .cells #[.bool a1_0, .string a1_1, .string a1_2, .string a1_3] 74 (0, 0)) (vb_ BK773.out) hg (Kd.R_ne HO782.out BK773.out (by decide))); replace BK778 := A_ (blk_grown (g := gb778) (o := .cells #[.string ((rd_T72 l0 x13_1).f0), .string ((rd_T72 l0 x13_1).f1), .string ((rd_T72 l0 x13_1).f2)] 72 (0, 0)) (vb_ BK778.out) hg (Kd.R_away HO782.out (fun _ hk => hk))); replace HB := A_ (hb); have HO785 := A_ (ho); clear HO782; clear ho hb hg hat))
       go_roundg kj7
       case measure => have := HK1.out; have := HJ7.out; omega
       case rel => exact ⟨(y783), (true), (wrap64 (x13_1 + 1)), rs_, rs_, H', ⟨by have := HK1.out; have := HJ7.out; omega⟩, ⟨by (with_reducible repeat (first | apply Kd.R_alloc | apply Kd.R_drewN | apply Kd.R_drew)); exact Kd.R_mono HO785.out (fun _ hk => trivial)⟩, ⟨vb_ BK773.out⟩, ⟨by repeat (first | (with_reducible first | exact HB.out | apply below_alloc | apply pw_below_drewN | apply below_drew1 | refine below_set ?_ GE773.out | refine below_set ?_ GE778.out) | exact HB.out)⟩⟩
     · replace c18 := Bool.eq_false_iff.mpr c18
       subst c18
       rw [if_neg nf_] at H
       by_cases c41 : ((rd_T72 l0 x13_1).f0).toList = a1_1.toList
       rotate_left
       · rw [if_neg c41] at H
         have c41b0 : (((rd_T72 l0 x13_1).f0).toList == a1_1.toList) = false := beq_eq_false_iff_ne.mpr c41
         have c41b1 : (((rd_T72 l0 x13_1).f0).toList != a1_1.toList) = true := bne_iff_ne.mpr c41
         by_cases c51 : x5_1.length < 2932031007402
         rotate_left
         · exact absurd H (by rw [if_neg c51]; simp)
         rw [if_pos c51] at H
         have LMc51 := Aside0.mk c51
         clear c51
         obtain ⟨y792, hy792⟩ : ∃ y_ : List (S72), y_ = (x5_1 ++ [(⟨((rd_T72 l0 x13_1).f0), ((rd_T72 l0 x13_1).f1), ((rd_T72 l0 x13_1).f2)⟩ : S72)]) := ⟨_, rfl⟩
         replace H : (impl_setProp.l0 kj7 y792 x6_1 l0 (l0.length : Int) (wrap64 (x13_1 + 1)) a1_0 a1_1 a1_2 a1_3) = some r := hy_ hy792 H
         have Ny792 := Aside0.mk hy792
         clear hy792
         have H' := Aside0.mk H
         clear H
         have hnb52 := NB778_773.out
         have hnc52 := NB773_778.out
         have hcz53_0 : wc.cell? ⟨gb778, 0, none⟩ = some (.string ((rd_T72 l0 x13_1).f0)) := (blk_cell BK778.out 0).trans rfl
         have hcz53_1 : wc.cell? ⟨gb778, 1, none⟩ = some (.string ((rd_T72 l0 x13_1).f1)) := (blk_cell BK778.out 1).trans rfl
         have hcz53_2 : wc.cell? ⟨gb778, 2, none⟩ = some (.string ((rd_T72 l0 x13_1).f2)) := (blk_cell BK778.out 2).trans rfl
         have hfz53_0 := blk_frozen BK778.out 0
         have hfz53_1 := blk_frozen BK778.out 1
         have hfz53_2 := blk_frozen BK778.out 2
         have hcz54_0 : wc.cell? ⟨gb773, 0, none⟩ = some (.bool a1_0) := (blk_cell BK773.out 0).trans rfl
         have hcz54_1 : wc.cell? ⟨gb773, 1, none⟩ = some (.string a1_1) := (blk_cell BK773.out 1).trans rfl
         have hcz54_2 : wc.cell? ⟨gb773, 2, none⟩ = some (.string a1_2) := (blk_cell BK773.out 2).trans rfl
         have hcz54_3 : wc.cell? ⟨gb773, 3, none⟩ = some (.string a1_3) := (blk_cell BK773.out 3).trans rfl
         have hfz54_0 := blk_frozen BK773.out 0
         have hfz54_1 := blk_frozen BK773.out 1
         have hfz54_2 := blk_frozen BK773.out 2
         have hfz54_3 := blk_frozen BK773.out 3
         go_wp2_with (first | ((with_reducible refine gate_builtin (b := .append) (xs := #[.tmp 45, .tmp 47]) rfl ?_); at_builtin; refine Kd.R_append k72 (w0 := w) w.heap.size rfl (.tmp 45) (.tmp 47) 55 72 (.agg #[(.string ⟨#[]⟩), (.string ⟨#[]⟩), (.string ⟨#[]⟩)]) 48 rfl Try.underlying55 info72 rfl (by decide) (by omega) u5 x5_1 (⟨((rd_T72 l0 x13_1).f0), ((rd_T72 l0 x13_1).f1), ((rd_T72 l0 x13_1).f2)⟩ : S72) [.string ((rd_T72 l0 x13_1).f0), .string ((rd_T72 l0 x13_1).f1), .string ((rd_T72 l0 x13_1).f2)] (fun k_ => k_ ≠ gb778) (fun _ => False) rfl rfl ?aP (fun _ hk => hk.elim) ?aF ?aO ?aB ?aS ?aL ?_; (case aP => exact k72_mkM _ _ _ (⟨((rd_T72 l0 x13_1).f0), ((rd_T72 l0 x13_1).f1), ((rd_T72 l0 x13_1).f2)⟩ : S72)); (case aB => exact (by repeat (first | (with_reducible first | exact HB.out | apply below_alloc | apply pw_below_drewN | apply below_drew1 | refine below_set ?_ GE773.out | refine below_set ?_ GE778.out) | exact HB.out))); (case aF => exact (fun k_ hk => Kd.freshB (g := gb778) (o := .cells #[.string ((rd_T72 l0 x13_1).f0), .string ((rd_T72 l0 x13_1).f1), .string ((rd_T72 l0 x13_1).f2)] 72 (0, 0)) (vb_ BK778.out) k_ hk)); (case aO => exact (vR_ HO_5.out)); (case aS => exact (below_size (by repeat (first | (with_reducible first | exact HB.out | apply below_alloc | apply pw_below_drewN | apply below_drew1 | refine below_set ?_ GE773.out | refine below_set ?_ GE778.out) | exact HB.out)))); (case aL => have := LMc51.out; omega); intro v793 w55 ho hb hg hat; rw [← Ny792.out] at ho; replace BK773 := A_ (blk_grown (g := gb773) (o := .cells #[.bool a1_0, .string a1_1, .string a1_2, .string a1_3] 74 (0, 0)) (vb_ BK773.out) hg (Kd.R_ne HO_5.out BK773.out (by decide))); replace BK778 := A_ (blk_grown (g := gb778) (o := .cells #[.string ((rd_T72 l0 x13_1).f0), .string ((rd_T72 l0 x13_1).f1), .string ((rd_T72 l0 x13_1).f2)] 72 (0, 0)) (vb_ BK778.out) hg (Kd.R_away HO_5.out (fun _ hk => hk))); replace HB := A_ (hb); have HO794 := A_ (ho); clear HO_5; clear ho hb hg hat))
         go_roundg kj7
         case measure => have := HK1.out; have := HJ7.out; omega
         case rel => exact ⟨(y792), (x6_1), (wrap64 (x13_1 + 1)), rs_, rs_, H', ⟨by have := HK1.out; have := HJ7.out; omega⟩, ⟨by (with_reducible repeat (first | apply Kd.R_alloc | apply Kd.R_drewN | apply Kd.R_drew)); exact Kd.R_mono HO794.out (fun _ hk => trivial)⟩, ⟨vb_ BK773.out⟩, ⟨by repeat (first | (with_reducible first | exact HB.out | apply below_alloc | apply pw_below_drewN | apply below_drew1 | refine below_set ?_ GE773.out | refine below_set ?_ GE778.out) | exact HB.out)⟩⟩
       rw [if_pos c41] at H
       have c41b0 : (((rd_T72 l0 x13_1).f0).toList == a1_1.toList) = true := beq_iff_eq.mpr c41
       have c41b1 : (((rd_T72 l0 x13_1).f0).toList != a1_1.toList) = false := bne_eq_false_iff_eq.mpr c41
       clear c41
       by_cases c42 : ((rd_T72 l0 x13_1).f1).toList = a1_2.toList
       · rw [if_pos c42] at H
         have c42b0 : (((rd_T72 l0 x13_1).f1).toList == a1_2.toList) = true := beq_iff_eq.mpr c42
         have c42b1 : (((rd_T72 l0 x13_1).f1).toList != a1_2.toList) = false := bne_eq_false_iff_eq.mpr c42
         clear c42
         have H' := Aside0.mk H
         clear H
         have hnb43 := NB778_773.out
         have hnc43 := NB773_778.out
         have hcz44_0 : wc.cell? ⟨gb778, 0, none⟩ = some (.string ((rd_T72 l0 x13_1).f0)) := (blk_cell BK778.out 0).trans rfl
         have hcz44_1 : wc.cell? ⟨gb778, 1, none⟩ = some (.string ((rd_T72 l0 x13_1).f1)) := (blk_cell BK778.out 1).trans rfl
         have hcz44_2 : wc.cell? ⟨gb778, 2, none⟩ = some (.string ((rd_T72 l0 x13_1).f2)) := (blk_cell BK778.out 2).trans rfl
         have hfz44_0 := blk_frozen BK778.out 0
         have hfz44_1 := blk_frozen BK778.out 1
         have hfz44_2 := blk_frozen BK778.out 2
         have hcz45_0 : wc.cell? ⟨gb773, 0, none⟩ = some (.bool a1_0) := (blk_cell BK773.out 0).trans rfl
         have hcz45_1 : wc.cell? ⟨gb773, 1, none⟩ = some (.string a1_1) := (blk_cell BK773.out 1).trans rfl
         have hcz45_2 : wc.cell? ⟨gb773, 2, none⟩ = some (.string a1_2) := (blk_cell BK773.out 2).trans rfl
         have hcz45_3 : wc.cell? ⟨gb773, 3, none⟩ = some (.string a1_3) := (blk_cell BK773.out 3).trans rfl
         have hfz45_0 := blk_frozen BK773.out 0
         have hfz45_1 := blk_frozen BK773.out 1
         have hfz45_2 := blk_frozen BK773.out 2
         have hfz45_3 := blk_frozen BK773.out 3
         go_wp2
         go_roundg kj7
         case measure => have := HK1.out; have := HJ7.out; omega
         case rel => exact ⟨(x5_1), (x6_1), (wrap64 (x13_1 + 1)), rs_, rs_, H', ⟨by have := HK1.out; have := HJ7.out; omega⟩, ⟨by (with_reducible repeat (first | apply Kd.R_alloc | apply Kd.R_drewN | apply Kd.R_drew)); exact Kd.R_mono HO_5.out (fun _ hk => trivial)⟩, ⟨vb_ BK773.out⟩, ⟨by repeat (first | (with_reducible first | exact HB.out | apply below_alloc | apply pw_below_drewN | apply below_drew1 | refine below_set ?_ GE773.out | refine below_set ?_ GE778.out) | exact HB.out)⟩⟩
       rw [if_neg c42] at H
       have c42b0 : (((rd_T72 l0 x13_1).f1).toList == a1_2.toList) = false := beq_eq_false_iff_ne.mpr c42
       have c42b1 : (((rd_T72 l0 x13_1).f1).toList != a1_2.toList) = true := bne_iff_ne.mpr c42
       by_cases c46 : x5_1.length < 2932031007402
       rotate_left
       · exact absurd H (by rw [if_neg c46]; simp)
       rw [if_pos c46] at H
       have LMc46 := Aside0.mk c46
       clear c46
       obtain ⟨y789, hy789⟩ : ∃ y_ : List (S72), y_ = (x5_1 ++ [(⟨((rd_T72 l0 x13_1).f0), ((rd_T72 l0 x13_1).f1), ((rd_T72 l0 x13_1).f2)⟩ : S72)]) := ⟨_, rfl⟩
       replace H : (impl_setProp.l0 kj7 y789 x6_1 l0 (l0.length : Int) (wrap64 (x13_1 + 1)) a1_0 a1_1 a1_2 a1_3) = some r := hy_ hy789 H
       have Ny789 := Aside0.mk hy789
       clear hy789
       have H' := Aside0.mk H
       clear H
       have hnb47 := NB778_773.out
       have hnc47 := NB773_778.out
       have hcz48_0 : wc.cell? ⟨gb778, 0, none⟩ = some (.string ((rd_T72 l0 x13_1).f0)) := (blk_cell BK778.out 0).trans rfl
       have hcz48_1 : wc.cell? ⟨gb778, 1, none⟩ = some (.string ((rd_T72 l0 x13_1).f1)) := (blk_cell BK778.out 1).trans rfl
       have hcz48_2 : wc.cell? ⟨gb778, 2, none⟩ = some (.string ((rd_T72 l0 x13_1).f2)) := (blk_cell BK778.out 2).trans rfl
       have hfz48_0 := blk_frozen BK778.out 0
       have hfz48_1 := blk_frozen BK778.out 1
       have hfz48_2 := blk_frozen BK778.out 2
       have hcz49_0 : wc.cell? ⟨gb773, 0, none⟩ = some (.bool a1_0) := (blk_cell BK773.out 0).trans rfl
       have hcz49_1 : wc.cell? ⟨gb773, 1, none⟩ = some (.string a1_1) := (blk_cell BK773.out 1).trans rfl
       have hcz49_2 : wc.cell? ⟨gb773, 2, none⟩ = some (.string a1_2) := (blk_cell BK773.out 2).trans rfl
       have hcz49_3 : wc.cell? ⟨gb773, 3, none⟩ = some (.string a1_3) := (blk_cell BK773.out 3).trans rfl
       have hfz49_0 := blk_frozen BK773.out 0
       have hfz49_1 := blk_frozen BK773.out 1
       have hfz49_2 := blk_frozen BK773.out 2
       have hfz49_3 := blk_frozen BK773.out 3
       go_wp2_with (first | ((with_reducible refine gate_builtin (b := .append) (xs := #[.tmp 45, .tmp 47]) rfl ?_); at_builtin; refine Kd.R_append k72 (w0 := w) w.heap.size rfl (.tmp 45) (.tmp 47) 55 72 (.agg #[(.string ⟨#[]⟩), (.string ⟨#[]⟩), (.string ⟨#[]⟩)]) 48 rfl Try.underlying55 info72 rfl (by decide) (by omega) u5 x5_1 (⟨((rd_T72 l0 x13_1).f0), ((rd_T72 l0 x13_1).f1), ((rd_T72 l0 x13_1).f2)⟩ : S72) [.string ((rd_T72 l0 x13_1).f0), .string ((rd_T72 l0 x13_1).f1), .string ((rd_T72 l0 x13_1).f2)] (fun k_ => k_ ≠ gb778) (fun _ => False) rfl rfl ?aP (fun _ hk => hk.elim) ?aF ?aO ?aB ?aS ?aL ?_; (case aP => exact k72_mkM _ _ _ (⟨((rd_T72 l0 x13_1).f0), ((rd_T72 l0 x13_1).f1), ((rd_T72 l0 x13_1).f2)⟩ : S72)); (case aB => exact (by repeat (first | (with_reducible first | exact HB.out | apply below_alloc | apply pw_below_drewN | apply below_drew1 | refine below_set ?_ GE773.out | refine below_set ?_ GE778.out) | exact HB.out))); (case aF => exact (fun k_ hk => Kd.freshB (g := gb778) (o := .cells #[.string ((rd_T72 l0 x13_1).f0), .string ((rd_T72 l0 x13_1).f1), .string ((rd_T72 l0 x13_1).f2)] 72 (0, 0)) (vb_ BK778.out) k_ hk)); (case aO => exact (vR_ HO_5.out)); (case aS => exact (below_size (by repeat (first | (with_reducible first | exact HB.out | apply below_alloc | apply pw_below_drewN | apply below_drew1 | refine below_set ?_ GE773.out | refine below_set ?_ GE778.out) | exact HB.out)))); (case aL => have := LMc46.out; omega); intro v790 w50 ho hb hg hat; rw [← Ny789.out] at ho; replace BK773 := A_ (blk_grown (g := gb773) (o := .cells #[.bool a1_0, .string a1_1, .string a1_2, .string a1_3] 74 (0, 0)) (vb_ BK773.out) hg (Kd.R_ne HO_5.out BK773.out (by decide))); replace BK778 := A_ (blk_grown (g := gb778) (o := .cells #[.string ((rd_T72 l0 x13_1).f0), .string ((rd_T72 l0 x13_1).f1), .string ((rd_T72 l0 x13_1).f2)] 72 (0, 0)) (vb_ BK778.out) hg (Kd.R_away HO_5.out (fun _ hk => hk))); replace HB := A_ (hb); have HO791 := A_ (ho); clear HO_5; clear ho hb hg hat))
       go_roundg kj7
       case measure => have := HK1.out; have := HJ7.out; omega
       case rel => exact ⟨(y789), (x6_1), (wrap64 (x13_1 + 1)), rs_, rs_, H', ⟨by have := HK1.out; have := HJ7.out; omega⟩, ⟨by (with_reducible repeat (first | apply Kd.R_alloc | apply Kd.R_drewN | apply Kd.R_drew)); exact Kd.R_mono HO791.out (fun _ hk => trivial)⟩, ⟨vb_ BK773.out⟩, ⟨by repeat (first | (with_reducible first | exact HB.out | apply below_alloc | apply pw_below_drewN | apply below_drew1 | refine below_set ?_ GE773.out | refine below_set ?_ GE778.out) | exact HB.out)⟩⟩
def impl_SetProps.l0 : Nat → List (S72) → List (S72) → List (S74) → Int → Int → Option ((List (S72)) × Bool)
 | 0, _, _, _, _, _ => none
 | k + 1, x6, x7, x14, x15, x16 => if x16 < x15 then (if 0 ≤ x16 then (if x16 < (x14.length : Int) then ((impl_propOk.f k ((rd_T74 x14 x16).f1.f0) ((rd_T74 x14 x16).f1.f1) ((rd_T74 x14 x16).f1.f2)).bind fun t804 => (if t804 = true then ((impl_setProp.f k x7 ((rd_T74 x14 x16).f0) ((rd_T74 x14 x16).f1.f0) ((rd_T74 x14 x16).f1.f1) ((rd_T74 x14 x16).f1.f2)).bind fun t805 => (impl_SetProps.l0 k x6 t805 x14 x15 (wrap64 (x16 + 1)))) else (some (x6, false)))) else (none)) else (none)) else ((impl_PropsOk.f k x7).bind fun t801 => (if t801 = true then (some (x7, true)) else (some (x6, false))))
def impl_SetProps.f (k : Nat) (l0 : List (S72)) (l1 : List (S74)) : Option ((List (S72)) × Bool) := if ([] : List (S72)).length + l0.length < 2932031007402 then (impl_SetProps.l0 k (([] : List (S72)) ++ l0) (([] : List (S72)) ++ l0) l1 (l1.length : Int) 0) else (none)
set_option maxHeartbeats 8000000 in
set_option maxRecDepth 100000 in
theorem impl_SetProps.calls (k : Nat) (A0 : Option Addr) (c0 : Nat) (l0 : List (S72)) (A1 : Option Addr) (c1 : Nat) (l1 : List (S74)) (r1 : List (S72)) (r2 : Bool) (w : World) (hr0 : Kd.C k72 w A0 l0.length l0) (hc0 : l0.length ≤ c0) (hr1 : Kd.C k74 w A1 l1.length l1) (hc1 : l1.length ≤ c1) (h : impl_SetProps.f k l0 l1 = some (r1, r2)) :
 Calls Try.prog 53 #[.slice A0 l0.length c0, .slice A1 l1.length c1] w fun e w' => ∃ v0_ : Value, e = .returned (.tuple #[v0_, .bool r2]) ∧ Kd.R k72 72 w' w.heap.size (fun _ => True) v0_ r1 ∧ Below w.heap.size w w' := by
 have hu74 := Try.underlying74
 have hu72 := Try.underlying72
 have HR0 := Aside0.mk hr0
 have HC0 := Aside0.mk hc0
 clear hr0 hc0
 have HR1 := Aside0.mk hr1
 have HC1 := Aside0.mk hc1
 clear hr1 hc1
 have HB := A_ (Below.refl w.heap.size w)
 have H : (if ([] : List (S72)).length + l0.length < 2932031007402 then (impl_SetProps.l0 k (([] : List (S72)) ++ l0) (([] : List (S72)) ++ l0) l1 (l1.length : Int) 0) else (none)) = some (r1, r2) := h
 clear h
 by_cases c3 : ([] : List (S72)).length + l0.length < 2932031007402
 rotate_left
 · exact absurd H (by rw [if_neg c3]; simp)
 rw [if_pos c3] at H
 have LMc3 := Aside0.mk c3
 clear c3
 obtain ⟨y795, hy795⟩ : ∃ y_ : List (S72), y_ = (([] : List (S72)) ++ l0) := ⟨_, rfl⟩
 replace H : (impl_SetProps.l0 k y795 (([] : List (S72)) ++ l0) l1 (l1.length : Int) 0) = some (r1, r2) := hy_ hy795 H
 have Ny795 := Aside0.mk hy795
 clear hy795
 obtain ⟨y798, hy798⟩ : ∃ y_ : List (S72), y_ = (([] : List (S72)) ++ l0) := ⟨_, rfl⟩
 replace H : (impl_SetProps.l0 k y795 y798 l1 (l1.length : Int) 0) = some (r1, r2) := hy_ hy798 H
 have Ny798 := Aside0.mk hy798
 clear hy798
 have H' := Aside0.mk H
 clear H
 go_enter Try.func53, Try.ntmps53
 go_wp2_with (first | ((with_reducible refine gate_builtin (b := .append) (xs := #[.const (.slice none 0 0), .tmp 10]) rfl ?_); at_builtin; refine Kd.R_append_rows k72 (w0 := w) w.heap.size rfl (.const (.slice none 0 0)) (.tmp 10) 55 72 (.agg #[(.string ⟨#[]⟩), (.string ⟨#[]⟩), (.string ⟨#[]⟩)]) 48 rfl Try.underlying55 info72 rfl (by decide) (by omega) (.slice none 0 0) ([] : List (S72)) l0 _ _ _ (fun _ => True) (fun _ => False) rfl rfl ?aO ?aR (fun _ _ h => h) (fun _ h => h.elim) ?aF ?aB ?aS ?aL ?_; (case aR => exact cC_ HR0.out); (case aB => exact bB_); (case aF => exact (fun _ _ => trivial)); (case aO => exact ((Kd.R_nil _ _ _ _ (fun _ => True)))); (case aS => exact (below_size bB_)); (case aL => have := LMc3.out; omega); intro v796 w4 ho hb hg hat; rw [← Ny795.out] at ho; replace HB := A_ (hb); have HO797 := A_ (ho); clear ho hb hg hat) | ((with_reducible refine gate_builtin (b := .append) (xs := #[.const (.slice none 0 0), .tmp 12]) rfl ?_); at_builtin; refine Kd.R_append_rows k72 (w0 := w) w.heap.size rfl (.const (.slice none 0 0)) (.tmp 12) 55 72 (.agg #[(.string ⟨#[]⟩), (.string ⟨#[]⟩), (.string ⟨#[]⟩)]) 48 rfl Try.underlying55 info72 rfl (by decide) (by omega) (.slice none 0 0) ([] : List (S72)) l0 _ _ _ (fun k_ => some k_ ≠ (v796 : Value).ownBlock) (fun _ => False) rfl rfl ?aO ?aR (fun _ _ h => h) (fun _ h => h.elim) ?aF ?aB ?aS ?aL ?_; (case aR => exact cC_ (Kd.C_below HR0.out HB.out)); (case aB => exact bB_); (case aF => exact (fun k_ hk => Kd.fresh' (Kd.R_lt (vR_ HO797.out)) k_ hk)); (case aO => exact ((Kd.R_nil _ _ _ _ (fun k_ => some k_ ≠ (v796 : Value).ownBlock)))); (case aS => exact (below_size bB_)); (case aL => have := LMc3.out; omega); intro v799 w5 ho hb hg hat; rw [← Ny798.out] at ho; replace HO797 := A_ (Kd.R_after (Kd.R_apart_nil (vR_ HO797.out)) hg hat); replace HB := A_ (hb); have HO800 := A_ (ho); clear ho hb hg hat))
 go_loopg [7, 16] k (fun kq v7 v16 w' => ∃ (x7_1 : List (S72)) (x16_1 : Int), v16 = .int .i64 x16_1 ∧ Aside0 (impl_SetProps.l0 kq y795 x7_1 l1 (l1.length : Int) x16_1 = some (r1, r2)) ∧ Aside0 (kq ≤ k) ∧ Aside0 (Kd.R k72 72 w' w.heap.size (fun k_ => some k_ ≠ (v7 : Value).ownBlock) v796 y795) ∧ Aside0 (Kd.R k72 72 w' w.heap.size (fun k_ => some k_ ≠ (v796 : Value).ownBlock) v7 x7_1) ∧ Aside0 (Below w.heap.size w w'))
 case atStart => exact ⟨(y798), (0), rs_, H', ⟨Nat.le_refl _⟩, ⟨by (with_reducible repeat (first | apply Kd.R_alloc | apply Kd.R_drewN | apply Kd.R_drew)); exact Kd.R_mono HO797.out (fun _ hk => hk.2)⟩, ⟨vR_ HO800.out⟩, ⟨bB_⟩⟩
 case round =>
  clear H'
  try clear c1
  try clear p2
  try clear c3
  try clear c5
  obtain ⟨x7_1, x16_1, rfl, HA, HK1, HO_6, HO_7, HB⟩ := hrel
  cases gk with
  | zero => exact absurd HA.out (by simp [impl_SetProps.l0])
  | succ k1 =>
   have H := HA.out
   clear HA
   simp only [impl_SetProps.l0] at H
   by_cases c6 : x16_1 < (l1.length : Int)
   rotate_left
   · rw [if_neg c6] at H
     have c6b0 : decide (x16_1 < (l1.length : Int)) = false := decide_eq_false c6
     clear c6
     obtain ⟨t801, A21, H⟩ := bo_ H
     (try dsimp only at H)
     by_cases c22 : t801 = true
     · subst c22
       rw [if_pos rfl] at H
       simp only [Option.some.injEq, Prod.mk.injEq] at H
       obtain ⟨rfl, rfl⟩ := H
       obtain ⟨Ao23, co23, eo23⟩ := Kd.R_slice HO_7.out
       subst eo23
       go_wp2_with (first | ((with_reducible refine gate_callee (f := 58) rfl ?_); refine gL_ (some 30) Try.func58 #[.slice Ao23 x7_1.length co23] ?_; (with_reducible refine (impl_PropsOk.calls k1 _ _ x7_1 true _ ?s1 ?s2 A21.out).mono ?_); (case s1 => exact cC_ (Kd.R_reads' HO_7.out).2.2); (case s2 => exact (Kd.R_reads' HO_7.out).2.1); rintro e w24 ⟨rfl, hb⟩; refine ⟨_, rfl, ?_⟩; replace HO_6 := A_ (Kd.R_below (vR_ HO_6.out) hb); replace HO_7 := A_ (Kd.R_below (vR_ HO_7.out) hb); replace HB := A_ (below_step bB_ hb); (try clear hb)))
       go_ret2
       exact ⟨_, rr_, by (with_reducible repeat (first | apply Kd.R_alloc | apply Kd.R_drewN | apply Kd.R_drew)); exact Kd.R_mono HO_7.out (fun _ hk => trivial), bB_⟩
     · replace c22 := Bool.eq_false_iff.mpr c22
       subst c22
       rw [if_neg nf_] at H
       simp only [Option.some.injEq, Prod.mk.injEq] at H
       obtain ⟨rfl, rfl⟩ := H
       obtain ⟨Ao25, co25, eo25⟩ := Kd.R_slice HO_7.out
       subst eo25
       go_wp2_with (first | ((with_reducible refine gate_callee (f := 58) rfl ?_); refine gL_ (some 30) Try.func58 #[.slice Ao25 x7_1.length co25] ?_; (with_reducible refine (impl_PropsOk.calls k1 _ _ x7_1 false _ ?s1 ?s2 A21.out).mono ?_); (case s1 => exact cC_ (Kd.R_reads' HO_7.out).2.2); (case s2 => exact (Kd.R_reads' HO_7.out).2.1); rintro e w26 ⟨rfl, hb⟩; refine ⟨_, rfl, ?_⟩; replace HO_6 := A_ (Kd.R_below (vR_ HO_6.out) hb); replace HO_7 := A_ (Kd.R_below (vR_ HO_7.out) hb); replace HB := A_ (below_step bB_ hb); (try clear hb)))
       go_ret2
       exact ⟨_, rr_, by (with_reducible repeat (first | apply Kd.R_alloc | apply Kd.R_drewN | apply Kd.R_drew)); exact Kd.R_mono HO_6.out (fun _ hk => trivial), bB_⟩
   rw [if_pos c6] at H
   have c6b0 : decide (x16_1 < (l1.length : Int)) = true := decide_eq_true c6
   clear c6
   by_cases c7 : 0 ≤ x16_1
   rotate_left
   · exact absurd H (by rw [if_neg c7]; simp)
   rw [if_pos c7] at H
   have c7b0 : decide (0 ≤ x16_1) = true := decide_eq_true c7
   clear c7
   by_cases c8 : x16_1 < (l1.length : Int)
   rotate_left
   · exact absurd H (by rw [if_neg c8]; simp)
   rw [if_pos c8] at H
   have c8b0 : decide (x16_1 < (l1.length : Int)) = true := decide_eq_true c8
   clear c8
   obtain ⟨t804, A9, H⟩ := bo_ H
   (try dsimp only at H)
   by_cases c10 : t804 = true
   · subst c10
     rw [if_pos rfl] at H
     obtain ⟨t805, A11, H⟩ := bo_ H
     (try dsimp only at H)
     have H' := Aside0.mk H
     clear H
     have p802 : 0 ≤ (x16_1 : Int) := of_decide_eq_true as_
     have q802 : x16_1 < (l1.length : Int) := of_decide_eq_true as_
     obtain ⟨ad802, e802, hx802_0, hx802_1, hx802_2, hx802_3⟩ := at_T74 HR1.out x16_1 p802 q802
     cases e802
     replace hx802_0 := bc_ HB.out hx802_0
     replace hx802_1 := bc_ HB.out hx802_1
     replace hx802_2 := bc_ HB.out hx802_2
     replace hx802_3 := bc_ HB.out hx802_3
     replace p802 := eq_true p802
     replace q802 := eq_true q802
     go_wp2_with (first | ((with_reducible refine gate_dst (N := 9) rfl ?_); refine bx_ (N := 9) (cs := #[.bool false, .string (⟨#[]⟩ : ByteArray), .string (⟨#[]⟩ : ByteArray), .string (⟨#[]⟩ : ByteArray)]) (t := 74) ?_; intro gb803 hg w12 hbox hb; replace HO_6 := A_ (Kd.R_below (vR_ HO_6.out) hb); replace HO_7 := A_ (Kd.R_below (vR_ HO_7.out) hb); have BK803 := A_ (hbox); have GW803 := A_ (ge_ hg bB_ : w.heap.size ≤ gb803); have GE803 := A_ (ge_ hg bB_ : w.heap.size ≤ gb803); replace HB := A_ (below_step bB_ hb); clear hb hbox hg; obtain ⟨hcz13_0, hcz13_1, hcz13_2, hcz13_3, hfz13_0, hfz13_1, hfz13_2, hfz13_3⟩ := cz4_ BK803.out) | ((with_reducible refine gate_callee (f := 93) rfl ?_); refine gL_ (some 22) Try.func93 #[.agg #[.string ((rd_T74 l1 x16_1).f1.f0), .string ((rd_T74 l1 x16_1).f1.f1), .string ((rd_T74 l1 x16_1).f1.f2)]] ?_; (with_reducible refine (impl_propOk.calls k1 ((rd_T74 l1 x16_1).f1.f0) ((rd_T74 l1 x16_1).f1.f1) ((rd_T74 l1 x16_1).f1.f2) true _ A9.out).mono ?_); rintro e w14 ⟨rfl, hb⟩; refine ⟨_, rfl, ?_⟩; replace HO_6 := A_ (Kd.R_below (by (with_reducible repeat (first | apply Kd.R_alloc | apply Kd.R_drewN | apply Kd.R_drew)); exact (Kd.R_mono (Kd.R_far (p := ⟨gb803, 3, none⟩) (Kd.R_far (p := ⟨gb803, 2, none⟩) (Kd.R_far (p := ⟨gb803, 1, none⟩) (Kd.R_far (p := ⟨gb803, 0, none⟩) (Kd.R_types HO_6.out BK803.out (by decide)) (fun _ hk => hk.2) (.bool ((rd_T74 l1 x16_1).f0))) (fun _ hk => hk.2) (.string ((rd_T74 l1 x16_1).f1.f0))) (fun _ hk => hk.2) (.string ((rd_T74 l1 x16_1).f1.f1))) (fun _ hk => hk.2) (.string ((rd_T74 l1 x16_1).f1.f2))) (fun _ h_ => h_.1))) hb); replace HO_7 := A_ (Kd.R_below (by (with_reducible repeat (first | apply Kd.R_alloc | apply Kd.R_drewN | apply Kd.R_drew)); exact (Kd.R_mono (Kd.R_far (p := ⟨gb803, 3, none⟩) (Kd.R_far (p := ⟨gb803, 2, none⟩) (Kd.R_far (p := ⟨gb803, 1, none⟩) (Kd.R_far (p := ⟨gb803, 0, none⟩) (Kd.R_types HO_7.out BK803.out (by decide)) (fun _ hk => hk.2) (.bool ((rd_T74 l1 x16_1).f0))) (fun _ hk => hk.2) (.string ((rd_T74 l1 x16_1).f1.f0))) (fun _ hk => hk.2) (.string ((rd_T74 l1 x16_1).f1.f1))) (fun _ hk => hk.2) (.string ((rd_T74 l1 x16_1).f1.f2))) (fun _ h_ => h_.1))) hb); replace BK803 := A_ (blk_below (g := gb803) (o := .cells #[.bool ((rd_T74 l1 x16_1).f0), .string ((rd_T74 l1 x16_1).f1.f0), .string ((rd_T74 l1 x16_1).f1.f1), .string ((rd_T74 l1 x16_1).f1.f2)] 74 (0, 0)) (by (with_reducible repeat (first | refine blk_drewN ?_ _ | refine blk_drew ?_ | refine blk_alloc ?_ _)); refine blk_put (cs := #[.bool ((rd_T74 l1 x16_1).f0), .string ((rd_T74 l1 x16_1).f1.f0), .string ((rd_T74 l1 x16_1).f1.f1), .string (⟨#[]⟩ : ByteArray)]) ?_ 3 _ rfl; (with_reducible repeat (first | refine blk_drewN ?_ _ | refine blk_drew ?_ | refine blk_alloc ?_ _)); refine blk_put (cs := #[.bool ((rd_T74 l1 x16_1).f0), .string ((rd_T74 l1 x16_1).f1.f0), .string (⟨#[]⟩ : ByteArray), .string (⟨#[]⟩ : ByteArray)]) ?_ 2 _ rfl; (with_reducible repeat (first | refine blk_drewN ?_ _ | refine blk_drew ?_ | refine blk_alloc ?_ _)); refine blk_put (cs := #[.bool ((rd_T74 l1 x16_1).f0), .string (⟨#[]⟩ : ByteArray), .string (⟨#[]⟩ : ByteArray), .string (⟨#[]⟩ : ByteArray)]) ?_ 1 _ rfl; (with_reducible repeat (first | refine blk_drewN ?_ _ | refine blk_drew ?_ | refine blk_alloc ?_ _)); refine blk_put (cs := #[.bool false, .string (⟨#[]⟩ : ByteArray), .string (⟨#[]⟩ : ByteArray), .string (⟨#[]⟩ : ByteArray)]) ?_ 0 _ rfl; (with_reducible repeat (first | refine blk_drewN ?_ _ | refine blk_drew ?_ | refine blk_alloc ?_ _)); exact BK803.out) hb); replace HB := A_ (below_step (bG_ GE803.out) hb); (try clear hb); obtain ⟨hcz15_0, hcz15_1, hcz15_2, hcz15_3, hfz15_0, hfz15_1, hfz15_2, hfz15_3⟩ := cz4_ BK803.out; obtain ⟨Ao16, co16, eo16⟩ := Kd.R_slice HO_7.out; subst eo16) | ((with_reducible refine gate_callee (f := 94) rfl ?_); refine gL_ (some 27) Try.func94 #[.slice Ao16 x7_1.length co16, .agg #[.bool ((rd_T74 l1 x16_1).f0), .string ((rd_T74 l1 x16_1).f1.f0), .string ((rd_T74 l1 x16_1).f1.f1), .string ((rd_T74 l1 x16_1).f1.f2)]] ?_; (with_reducible refine (impl_setProp.calls k1 _ _ x7_1 ((rd_T74 l1 x16_1).f0) ((rd_T74 l1 x16_1).f1.f0) ((rd_T74 l1 x16_1).f1.f1) ((rd_T74 l1 x16_1).f1.f2) t805 _ ?s1 ?s2 A11.out).mono ?_); (case s1 => exact cC_ (Kd.R_reads' HO_7.out).2.2); (case s2 => exact (Kd.R_reads' HO_7.out).2.1); rintro e w17 ⟨v806, rfl, ho0, hb⟩; refine ⟨_, rfl, ?_⟩; have HO807 := A_ (Kd.R_lower (Kd.R_new' (Kd.R_new' ho0 (Kd.R_lt (vR_ HO_6.out))) (Kd.R_lt (vR_ HO_7.out))) (below_size (bG_ GE803.out))); replace HO_6 := A_ (Kd.R_elder' (vR_ HO_6.out) (kb_ ho0) hb); replace HO_7 := A_ (Kd.R_elder' (vR_ HO_7.out) (kb_ ho0) hb); replace BK803 := A_ (bw_ BK803.out hb); replace HB := A_ (below_step (bG_ GE803.out) hb); (try clear hb); (try clear ho0)))
     go_roundg k1
     case measure => have := HK1.out; omega
     case rel => exact ⟨(t805), (wrap64 (x16_1 + 1)), rs_, H', ⟨by have := HK1.out; omega⟩, ⟨by (with_reducible repeat (first | apply Kd.R_alloc | apply Kd.R_drewN | apply Kd.R_drew)); exact Kd.R_mono HO_6.out (fun _ hk => hk.2)⟩, ⟨by (with_reducible repeat (first | apply Kd.R_alloc | apply Kd.R_drewN | apply Kd.R_drew)); exact Kd.R_mono HO807.out (fun _ hk => hk.1.2)⟩, ⟨bG_ GE803.out⟩⟩
   · replace c10 := Bool.eq_false_iff.mpr c10
     subst c10
     rw [if_neg nf_] at H
     simp only [Option.some.injEq, Prod.mk.injEq] at H
     obtain ⟨rfl, rfl⟩ := H
     have p802 : 0 ≤ (x16_1 : Int) := of_decide_eq_true as_
     have q802 : x16_1 < (l1.length : Int) := of_decide_eq_true as_
     obtain ⟨ad802, e802, hx802_0, hx802_1, hx802_2, hx802_3⟩ := at_T74 HR1.out x16_1 p802 q802
     cases e802
     replace hx802_0 := bc_ HB.out hx802_0
     replace hx802_1 := bc_ HB.out hx802_1
     replace hx802_2 := bc_ HB.out hx802_2
     replace hx802_3 := bc_ HB.out hx802_3
     replace p802 := eq_true p802
     replace q802 := eq_true q802
     go_wp2_with (first | ((with_reducible refine gate_dst (N := 9) rfl ?_); refine bx_ (N := 9) (cs := #[.bool false, .string (⟨#[]⟩ : ByteArray), .string (⟨#[]⟩ : ByteArray), .string (⟨#[]⟩ : ByteArray)]) (t := 74) ?_; intro gb803 hg w18 hbox hb; replace HO_6 := A_ (Kd.R_below (vR_ HO_6.out) hb); replace HO_7 := A_ (Kd.R_below (vR_ HO_7.out) hb); have BK803 := A_ (hbox); have GW803 := A_ (ge_ hg bB_ : w.heap.size ≤ gb803); have GE803 := A_ (ge_ hg bB_ : w.heap.size ≤ gb803); replace HB := A_ (below_step bB_ hb); clear hb hbox hg; obtain ⟨hcz19_0, hcz19_1, hcz19_2, hcz19_3, hfz19_0, hfz19_1, hfz19_2, hfz19_3⟩ := cz4_ BK803.out) | ((with_reducible refine gate_callee (f := 93) rfl ?_); refine gL_ (some 22) Try.func93 #[.agg #[.string ((rd_T74 l1 x16_1).f1.f0), .string ((rd_T74 l1 x16_1).f1.f1), .string ((rd_T74 l1 x16_1).f1.f2)]] ?_; (with_reducible refine (impl_propOk.calls k1 ((rd_T74 l1 x16_1).f1.f0) ((rd_T74 l1 x16_1).f1.f1) ((rd_T74 l1 x16_1).f1.f2) false _ A9.out).mono ?_); rintro e w20 ⟨rfl, hb⟩; refine ⟨_, rfl, ?_⟩; replace HO_6 := A_ (Kd.R_below (by (with_reducible repeat (first | apply Kd.R_alloc | apply Kd.R_drewN | apply Kd.R_drew)); exact (Kd.R_mono (Kd.R_far (p := ⟨gb803, 3, none⟩) (Kd.R_far (p := ⟨gb803, 2, none⟩) (Kd.R_far (p := ⟨gb803, 1, none⟩) (Kd.R_far (p := ⟨gb803, 0, none⟩) (Kd.R_types HO_6.out BK803.out (by decide)) (fun _ hk => hk.2) (.bool ((rd_T74 l1 x16_1).f0))) (fun _ hk => hk.2) (.string ((rd_T74 l1 x16_1).f1.f0))) (fun _ hk => hk.2) (.string ((rd_T74 l1 x16_1).f1.f1))) (fun _ hk => hk.2) (.string ((rd_T74 l1 x16_1).f1.f2))) (fun _ h_ => h_.1))) hb); replace HO_7 := A_ (Kd.R_below (by (with_reducible repeat (first | apply Kd.R_alloc | apply Kd.R_drewN | apply Kd.R_drew)); exact (Kd.R_mono (Kd.R_far (p := ⟨gb803, 3, none⟩) (Kd.R_far (p := ⟨gb803, 2, none⟩) (Kd.R_far (p := ⟨gb803, 1, none⟩) (Kd.R_far (p := ⟨gb803, 0, none⟩) (Kd.R_types HO_7.out BK803.out (by decide)) (fun _ hk => hk.2) (.bool ((rd_T74 l1 x16_1).f0))) (fun _ hk => hk.2) (.string ((rd_T74 l1 x16_1).f1.f0))) (fun _ hk => hk.2) (.string ((rd_T74 l1 x16_1).f1.f1))) (fun _ hk => hk.2) (.string ((rd_T74 l1 x16_1).f1.f2))) (fun _ h_ => h_.1))) hb); replace BK803 := A_ (blk_below (g := gb803) (o := .cells #[.bool ((rd_T74 l1 x16_1).f0), .string ((rd_T74 l1 x16_1).f1.f0), .string ((rd_T74 l1 x16_1).f1.f1), .string ((rd_T74 l1 x16_1).f1.f2)] 74 (0, 0)) (by (with_reducible repeat (first | refine blk_drewN ?_ _ | refine blk_drew ?_ | refine blk_alloc ?_ _)); refine blk_put (cs := #[.bool ((rd_T74 l1 x16_1).f0), .string ((rd_T74 l1 x16_1).f1.f0), .string ((rd_T74 l1 x16_1).f1.f1), .string (⟨#[]⟩ : ByteArray)]) ?_ 3 _ rfl; (with_reducible repeat (first | refine blk_drewN ?_ _ | refine blk_drew ?_ | refine blk_alloc ?_ _)); refine blk_put (cs := #[.bool ((rd_T74 l1 x16_1).f0), .string ((rd_T74 l1 x16_1).f1.f0), .string (⟨#[]⟩ : ByteArray), .string (⟨#[]⟩ : ByteArray)]) ?_ 2 _ rfl; (with_reducible repeat (first | refine blk_drewN ?_ _ | refine blk_drew ?_ | refine blk_alloc ?_ _)); refine blk_put (cs := #[.bool ((rd_T74 l1 x16_1).f0), .string (⟨#[]⟩ : ByteArray), .string (⟨#[]⟩ : ByteArray), .string (⟨#[]⟩ : ByteArray)]) ?_ 1 _ rfl; (with_reducible repeat (first | refine blk_drewN ?_ _ | refine blk_drew ?_ | refine blk_alloc ?_ _)); refine blk_put (cs := #[.bool false, .string (⟨#[]⟩ : ByteArray), .string (⟨#[]⟩ : ByteArray), .string (⟨#[]⟩ : ByteArray)]) ?_ 0 _ rfl; (with_reducible repeat (first | refine blk_drewN ?_ _ | refine blk_drew ?_ | refine blk_alloc ?_ _)); exact BK803.out) hb); replace HB := A_ (below_step (bG_ GE803.out) hb); (try clear hb)))
     go_ret2
     exact ⟨_, rr_, by (with_reducible repeat (first | apply Kd.R_alloc | apply Kd.R_drewN | apply Kd.R_drew)); exact Kd.R_mono HO_6.out (fun _ hk => trivial), bG_ GE803.out⟩
end Go.Proofs.Ytbgggcgjijljkaa.Q
