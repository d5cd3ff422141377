-- PRINTED by print.py (a twelfth state) out of the translation. Not trusted: Lean checks it.
import Derived.Test.YtbgggcgjijljkaaVFnShelvesG22
import Derived.Test.YtbgggcgjijljkaaVFnShelvesG23
import Derived.Test.YtbgggcgjijljkaaVFnShelvesG24
import Derived.Test.YtbgggcgjijljkaaVFnShelvesG29
import Derived.Test.YtbgggcgjijljkaaVFnShelvesG28
namespace Go.Proofs.Ytbgggcgjijljkaa.Q
open Go.RowKit Go.Proofs.YtbgggcgjijljkaaW.PrintWords Go.Proofs.YtbgggcgjijljkaaW.PrintLast Go.Proofs.YtbgggcgjijljkaaW.PrintMore
attribute [local go_sem] max2_int min2_int max_two min_two max_three min_three max_four min_four   -- for this text's walks alone
set_option linter.unusedVariables false
set_option linter.unusedSimpArgs false
def spec_SetProps.l0 : Nat → List (S72) → List (S74) → List (S72) → Int → Option ((List (S72)) × Bool)
 | 0, _, _, _, _ => none
 | k + 1, x0, x1, x6, x7 => if x7 < (x1.length : Int) then (if 0 ≤ x7 then ((spec_l10Prop.f k ((rd_T74 x1 x7).f1.f0) ((rd_T74 x1 x7).f1.f1) ((rd_T74 x1 x7).f1.f2)).bind fun t736 => (if t736 = true then ((spec_l12One.f k x6 ((rd_T74 x1 x7).f0) ((rd_T74 x1 x7).f1.f0) ((rd_T74 x1 x7).f1.f1) ((rd_T74 x1 x7).f1.f2)).bind fun t738 => (spec_SetProps.l0 k x0 x1 t738 (wrap64 (x7 + 1)))) else ((some (([] : List (S72)) : List (S72))).bind fun y741 => (if y741.length + x0.length < 2932031007402 then (some ((y741 ++ x0), false)) else (none))))) else (none)) else ((spec_PropsOk.f k x6).bind fun t728 => (if t728 = true then (some (x6, true)) else ((some (([] : List (S72)) : List (S72))).bind fun y729 => (if y729.length + x0.length < 2932031007402 then (some ((y729 ++ x0), false)) else (none)))))
def spec_SetProps.f (k : Nat) (l0 : List (S72)) (l1 : List (S74)) : Option ((List (S72)) × Bool) := (some (([] : List (S72)) : List (S72))).bind fun y722 => (if y722.length + l0.length < 2932031007402 then (spec_SetProps.l0 k l0 l1 (y722 ++ l0) 0) else (none))
set_option maxHeartbeats 8000000 in
set_option maxRecDepth 100000 in
theorem spec_SetProps.calls (k : Nat) (A0 : Option Addr) (c0 : Nat) (l0 : List (S72)) (A1 : Option Addr) (c1 : Nat) (l1 : List (S74)) (r1 : List (S72)) (r2 : Bool) (w : World) (hr0 : Kd.C k72 w A0 l0.length l0) (hc0 : l0.length ≤ c0) (hr1 : Kd.C k74 w A1 l1.length l1) (hc1 : l1.length ≤ c1) (h : spec_SetProps.f k l0 l1 = some (r1, r2)) :
 Calls Try.prog 54 #[.slice A0 l0.length c0, .slice A1 l1.length c1] w fun e w' => ∃ v0_ : Value, e = .returned (.tuple #[v0_, .bool r2]) ∧ Kd.R k72 72 w' w.heap.size (fun _ => True) v0_ r1 ∧ Below w.heap.size w w' := by
 have hu72 := Try.underlying72
 have hu74 := Try.underlying74
 have HR0 := Aside0.mk hr0
 have HC0 := Aside0.mk hc0
 clear hr0 hc0
 have HR1 := Aside0.mk hr1
 have HC1 := Aside0.mk hc1
 clear hr1 hc1
 have HB := A_ (Below.refl w.heap.size w)
 have H : ((some (([] : List (S72)) : List (S72))).bind fun y722 => (if y722.length + l0.length < 2932031007402 then (spec_SetProps.l0 k l0 l1 (y722 ++ l0) 0) else (none))) = some (r1, r2) := h
 clear h
 obtain ⟨y722, hy722⟩ : ∃ y_ : List (S72), y_ = (([] : List (S72))) := ⟨_, rfl⟩
 replace H : (if y722.length + l0.length < 2932031007402 then (spec_SetProps.l0 k l0 l1 (y722 ++ l0) 0) else (none)) = some (r1, r2) := hy_ hy722 H
 have Ny722 := Aside0.mk hy722
 clear hy722
 by_cases c3 : y722.length + l0.length < 2932031007402
 rotate_left
 · exact absurd H (by rw [if_neg c3]; simp)
 rw [if_pos c3] at H
 have LMc3 := Aside0.mk c3
 clear c3
 obtain ⟨y725, hy725⟩ : ∃ y_ : List (S72), y_ = (y722 ++ l0) := ⟨_, rfl⟩
 replace H : (spec_SetProps.l0 k l0 l1 y725 0) = some (r1, r2) := hy_ hy725 H
 have Ny725 := Aside0.mk hy725
 clear hy725
 have H' := Aside0.mk H
 clear H
 go_enter Try.func54, Try.ntmps54
 go_wp2_with (first | ((with_reducible refine gate_dst (N := 8) rfl ?_); refine Kd.R_lit k72 _ 72 ?hg (N := 8) ?hd (xs := ([] : List (S72))) (inner := []) (ok := fun _ => True) (okp := fun _ => True) ?hr ?hp (fun _ hk => hk) trivial (Below.refl _ _) (Nat.le_refl _) (by simp) ?_; (case hd => rfl); (case hg => rfl); (case hr => first | (go_simp; done) | (go_simp; rfl)); (case hp => exact (Reps.none _ _)); intro v723 w4 ho5 hb hg_ hnew_; clear hg_ hnew_; (first | rw [← Ny722.out] at ho5 | (simp only [Int.reduceToNat] at ho5; rw [← Ny722.out] at ho5)); have HO724 := A_ (Kd.R_lower ho5 (below_size bB_)); replace HB := A_ (below_step bB_ hb); clear hb ho5) | ((with_reducible refine gate_builtin (b := .append) (xs := #[.tmp 8, .tmp 9]) rfl ?_); at_builtin; refine Kd.R_append_rows k72 (w0 := w) w.heap.size rfl (.tmp 8) (.tmp 9) 55 72 (.agg #[(.string ⟨#[]⟩), (.string ⟨#[]⟩), (.string ⟨#[]⟩)]) 48 rfl Try.underlying55 info72 rfl (by decide) (by omega) v723 y722 l0 _ _ _ (fun _ => True) (fun _ => False) rfl rfl ?aO ?aR (fun _ _ h => h) (fun _ h => h.elim) ?aF ?aB ?aS ?aL ?_; (case aR => exact cC_ (Kd.C_below HR0.out HB.out)); (case aB => exact bB_); (case aF => exact (fun _ _ => trivial)); (case aO => exact (vR_ HO724.out)); (case aS => exact (below_size bB_)); (case aL => have := LMc3.out; omega); intro v726 w6 ho hb hg hat; rw [← Ny725.out] at ho; replace HB := A_ (hb); have HO727 := A_ (ho); clear HO724; clear ho hb hg hat))
 go_loopg [6, 7] k (fun kq v6 v7 w' => ∃ (x6_1 : List (S72)) (x7_1 : Int), v7 = .int .i64 x7_1 ∧ Aside0 (spec_SetProps.l0 kq l0 l1 x6_1 x7_1 = some (r1, r2)) ∧ Aside0 (kq ≤ k) ∧ Aside0 (Kd.R k72 72 w' w.heap.size (fun _ => True) v6 x6_1) ∧ Aside0 (Below w.heap.size w w'))
 case atStart => exact ⟨(y725), (0), rs_, H', ⟨Nat.le_refl _⟩, ⟨vR_ HO727.out⟩, ⟨bB_⟩⟩
 case round =>
  clear H'
  try clear c1
  try clear p2
  try clear c3
  try clear c5
  obtain ⟨x6_1, x7_1, rfl, HA, HK1, HO_6, HB⟩ := hrel
  cases gk with
  | zero => exact absurd HA.out (by simp [spec_SetProps.l0])
  | succ k1 =>
   have H := HA.out
   clear HA
   simp only [spec_SetProps.l0] at H
   by_cases c7 : x7_1 < (l1.length : Int)
   rotate_left
   · rw [if_neg c7] at H
     have c7b0 : decide (x7_1 < (l1.length : Int)) = false := decide_eq_false c7
     clear c7
     obtain ⟨t728, A20, H⟩ := bo_ H
     (try dsimp only at H)
     by_cases c21 : t728 = true
     · subst c21
       rw [if_pos rfl] at H
       simp only [Option.some.injEq, Prod.mk.injEq] at H
       obtain ⟨rfl, rfl⟩ := H
       obtain ⟨Ao22, co22, eo22⟩ := Kd.R_slice HO_6.out
       subst eo22
       go_wp2_with (first | ((with_reducible refine gate_callee (f := 97) rfl ?_); refine gL_ (some 34) Try.func97 #[.slice Ao22 x6_1.length co22] ?_; (with_reducible refine (spec_PropsOk.calls k1 _ _ x6_1 true _ ?s1 ?s2 A20.out).mono ?_); (case s1 => exact cC_ (Kd.R_reads' HO_6.out).2.2); (case s2 => exact (Kd.R_reads' HO_6.out).2.1); rintro e w23 ⟨rfl, hb⟩; refine ⟨_, rfl, ?_⟩; replace HO_6 := A_ (Kd.R_below (vR_ HO_6.out) hb); replace HB := A_ (below_step bB_ hb); (try clear hb)))
       go_ret2
       exact ⟨_, rr_, by (with_reducible repeat (first | apply Kd.R_alloc | apply Kd.R_drewN | apply Kd.R_drew)); exact HO_6.out, bB_⟩
     · replace c21 := Bool.eq_false_iff.mpr c21
       subst c21
       rw [if_neg nf_] at H
       obtain ⟨y729, hy729⟩ : ∃ y_ : List (S72), y_ = (([] : List (S72))) := ⟨_, rfl⟩
       replace H : (if y729.length + l0.length < 2932031007402 then (some ((y729 ++ l0), false)) else (none)) = some (r1, r2) := hy_ hy729 H
       have Ny729 := Aside0.mk hy729
       clear hy729
       by_cases c24 : y729.length + l0.length < 2932031007402
       rotate_left
       · exact absurd H (by rw [if_neg c24]; simp)
       rw [if_pos c24] at H
       have LMc24 := Aside0.mk c24
       clear c24
       obtain ⟨y732, hy732⟩ : ∃ y_ : List (S72), y_ = (y729 ++ l0) := ⟨_, rfl⟩
       replace H : (some (y732, false)) = some (r1, r2) := hy_ hy732 H
       have Ny732 := Aside0.mk hy732
       clear hy732
       simp only [Option.some.injEq, Prod.mk.injEq] at H
       obtain ⟨rfl, rfl⟩ := H
       obtain ⟨Ao25, co25, eo25⟩ := Kd.R_slice HO_6.out
       subst eo25
       go_wp2_with (first | ((with_reducible refine gate_callee (f := 97) rfl ?_); refine gL_ (some 34) Try.func97 #[.slice Ao25 x6_1.length co25] ?_; (with_reducible refine (spec_PropsOk.calls k1 _ _ x6_1 false _ ?s1 ?s2 A20.out).mono ?_); (case s1 => exact cC_ (Kd.R_reads' HO_6.out).2.2); (case s2 => exact (Kd.R_reads' HO_6.out).2.1); rintro e w26 ⟨rfl, hb⟩; refine ⟨_, rfl, ?_⟩; replace HO_6 := A_ (Kd.R_below (vR_ HO_6.out) hb); replace HB := A_ (below_step bB_ hb); (try clear hb)) | ((with_reducible refine gate_dst (N := 36) rfl ?_); refine Kd.R_lit k72 _ 72 ?hg (N := 36) ?hd (xs := ([] : List (S72))) (inner := []) (ok := fun _ => True) (okp := fun _ => True) ?hr ?hp (fun _ hk => hk) trivial (Below.refl _ _) (Nat.le_refl _) (by simp) ?_; (case hd => rfl); (case hg => rfl); (case hr => first | (go_simp; done) | (go_simp; rfl)); (case hp => exact (Reps.none _ _)); intro v730 w27 ho28 hb hg_ hnew_; clear hg_ hnew_; (first | rw [← Ny729.out] at ho28 | (simp only [Int.reduceToNat] at ho28; rw [← Ny729.out] at ho28)); have HO731 := A_ (Kd.R_lower (Kd.R_new' ho28 (Kd.R_lt (vR_ HO_6.out))) (below_size bB_)); replace HO_6 := A_ (Kd.R_elder' (vR_ HO_6.out) (kb_ ho28) hb); replace HB := A_ (below_step bB_ hb); clear hb ho28) | ((with_reducible refine gate_builtin (b := .append) (xs := #[.tmp 36, .tmp 37]) rfl ?_); at_builtin; refine Kd.R_append_rows k72 (w0 := w) w.heap.size rfl (.tmp 36) (.tmp 37) 55 72 (.agg #[(.string ⟨#[]⟩), (.string ⟨#[]⟩), (.string ⟨#[]⟩)]) 48 rfl Try.underlying55 info72 rfl (by decide) (by omega) v730 y729 l0 _ _ _ (fun k_ => some k_ ≠ (.slice Ao25 x6_1.length co25 : Value).ownBlock) (fun _ => False) rfl rfl ?aO ?aR (fun _ _ h => h) (fun _ h => h.elim) ?aF ?aB ?aS ?aL ?_; (case aR => exact cC_ (Kd.C_below HR0.out HB.out)); (case aB => exact bB_); (case aF => exact (fun k_ hk => Kd.fresh' (Kd.R_lt (vR_ HO_6.out)) k_ hk)); (case aO => exact (by (with_reducible repeat (first | apply Kd.R_alloc | apply Kd.R_drewN | apply Kd.R_drew)); exact Kd.R_mono HO731.out (fun _ hk => hk.2))); (case aS => exact (below_size bB_)); (case aL => have := LMc24.out; omega); intro v733 w29 ho hb hg hat; rw [← Ny732.out] at ho; replace HO_6 := A_ (Kd.R_after (ok := (fun _ => True)) (vR_ HO_6.out) hg hat); replace HB := A_ (hb); have HO734 := A_ (ho); clear HO731; clear ho hb hg hat))
       go_ret2
       exact ⟨_, rr_, by (with_reducible repeat (first | apply Kd.R_alloc | apply Kd.R_drewN | apply Kd.R_drew)); exact Kd.R_mono HO734.out (fun _ hk => trivial), bB_⟩
   rw [if_pos c7] at H
   have c7b0 : decide (x7_1 < (l1.length : Int)) = true := decide_eq_true c7
   clear c7
   by_cases c8 : 0 ≤ x7_1
   rotate_left
   · exact absurd H (by rw [if_neg c8]; simp)
   rw [if_pos c8] at H
   have c8b0 : decide (0 ≤ x7_1) = true := decide_eq_true c8
   clear c8
   obtain ⟨t736, A9, H⟩ := bo_ H
   (try dsimp only at H)
   by_cases c10 : t736 = true
   · subst c10
     rw [if_pos rfl] at H
     obtain ⟨t738, A11, H⟩ := bo_ H
     (try dsimp only at H)
     have H' := Aside0.mk H
     clear H
     have p735 : 0 ≤ (x7_1 : Int) := of_decide_eq_true as_
     have q735 : x7_1 < (l1.length : Int) := of_decide_eq_true as_
     obtain ⟨ad735, e735, hx735_0, hx735_1, hx735_2, hx735_3⟩ := at_T74 HR1.out x7_1 p735 q735
     cases e735
     replace hx735_0 := bc_ HB.out hx735_0
     replace hx735_1 := bc_ HB.out hx735_1
     replace hx735_2 := bc_ HB.out hx735_2
     replace hx735_3 := bc_ HB.out hx735_3
     replace p735 := eq_true p735
     replace q735 := eq_true q735
     go_wp2_with (first | ((with_reducible refine gate_callee (f := 95) rfl ?_); refine gL_ (some 22) Try.func95 #[.agg #[.string ((rd_T74 l1 x7_1).f1.f0), .string ((rd_T74 l1 x7_1).f1.f1), .string ((rd_T74 l1 x7_1).f1.f2)]] ?_; (with_reducible refine (spec_l10Prop.calls k1 ((rd_T74 l1 x7_1).f1.f0) ((rd_T74 l1 x7_1).f1.f1) ((rd_T74 l1 x7_1).f1.f2) true _ A9.out).mono ?_); rintro e w12 ⟨rfl, hb⟩; refine ⟨_, rfl, ?_⟩; replace HO_6 := A_ (Kd.R_below (vR_ HO_6.out) hb); replace HB := A_ (below_step bB_ hb); (try clear hb); have p737 : 0 ≤ (x7_1 : Int) := of_decide_eq_true as_; have q737 : x7_1 < (l1.length : Int) := of_decide_eq_true as_; obtain ⟨ad737, e737, hx737_0, hx737_1, hx737_2, hx737_3⟩ := at_T74 HR1.out x7_1 p737 q737; obtain rfl : ad735 = ad737 := (by injection e737); replace hx737_0 := bc_ HB.out hx737_0; replace hx737_1 := bc_ HB.out hx737_1; replace hx737_2 := bc_ HB.out hx737_2; replace hx737_3 := bc_ HB.out hx737_3; replace p737 := eq_true p737; replace q737 := eq_true q737; obtain ⟨Ao13, co13, eo13⟩ := Kd.R_slice HO_6.out; subst eo13) | ((with_reducible refine gate_callee (f := 96) rfl ?_); refine gL_ (some 32) Try.func96 #[.slice Ao13 x6_1.length co13, .agg #[.bool ((rd_T74 l1 x7_1).f0), .string ((rd_T74 l1 x7_1).f1.f0), .string ((rd_T74 l1 x7_1).f1.f1), .string ((rd_T74 l1 x7_1).f1.f2)]] ?_; (with_reducible refine (spec_l12One.calls k1 _ _ x6_1 ((rd_T74 l1 x7_1).f0) ((rd_T74 l1 x7_1).f1.f0) ((rd_T74 l1 x7_1).f1.f1) ((rd_T74 l1 x7_1).f1.f2) t738 _ ?s1 ?s2 A11.out).mono ?_); (case s1 => exact cC_ (Kd.R_reads' HO_6.out).2.2); (case s2 => exact (Kd.R_reads' HO_6.out).2.1); rintro e w14 ⟨v739, rfl, ho0, hb⟩; refine ⟨_, rfl, ?_⟩; have HO740 := A_ (Kd.R_lower (Kd.R_new' ho0 (Kd.R_lt (vR_ HO_6.out))) (below_size bB_)); replace HO_6 := A_ (Kd.R_elder' (vR_ HO_6.out) (kb_ ho0) hb); replace HB := A_ (below_step bB_ hb); (try clear hb); (try clear ho0)))
     go_roundg k1
     case measure => have := HK1.out; omega
     case rel => exact ⟨(t738), (wrap64 (x7_1 + 1)), rs_, H', ⟨by have := HK1.out; omega⟩, ⟨by (with_reducible repeat (first | apply Kd.R_alloc | apply Kd.R_drewN | apply Kd.R_drew)); exact Kd.R_mono HO740.out (fun _ hk => trivial)⟩, ⟨bB_⟩⟩
   · replace c10 := Bool.eq_false_iff.mpr c10
     subst c10
     rw [if_neg nf_] at H
     obtain ⟨y741, hy741⟩ : ∃ y_ : List (S72), y_ = (([] : List (S72))) := ⟨_, rfl⟩
     replace H : (if y741.length + l0.length < 2932031007402 then (some ((y741 ++ l0), false)) else (none)) = some (r1, r2) := hy_ hy741 H
     have Ny741 := Aside0.mk hy741
     clear hy741
     by_cases c15 : y741.length + l0.length < 2932031007402
     rotate_left
     · exact absurd H (by rw [if_neg c15]; simp)
     rw [if_pos c15] at H
     have LMc15 := Aside0.mk c15
     clear c15
     obtain ⟨y744, hy744⟩ : ∃ y_ : List (S72), y_ = (y741 ++ l0) := ⟨_, rfl⟩
     replace H : (some (y744, false)) = some (r1, r2) := hy_ hy744 H
     have Ny744 := Aside0.mk hy744
     clear hy744
     simp only [Option.some.injEq, Prod.mk.injEq] at H
     obtain ⟨rfl, rfl⟩ := H
     have p735 : 0 ≤ (x7_1 : Int) := of_decide_eq_true as_
     have q735 : x7_1 < (l1.length : Int) := of_decide_eq_true as_
     obtain ⟨ad735, e735, hx735_0, hx735_1, hx735_2, hx735_3⟩ := at_T74 HR1.out x7_1 p735 q735
     cases e735
     replace hx735_0 := bc_ HB.out hx735_0
     replace hx735_1 := bc_ HB.out hx735_1
     replace hx735_2 := bc_ HB.out hx735_2
     replace hx735_3 := bc_ HB.out hx735_3
     replace p735 := eq_true p735
     replace q735 := eq_true q735
     go_wp2_with (first | ((with_reducible refine gate_callee (f := 95) rfl ?_); refine gL_ (some 22) Try.func95 #[.agg #[.string ((rd_T74 l1 x7_1).f1.f0), .string ((rd_T74 l1 x7_1).f1.f1), .string ((rd_T74 l1 x7_1).f1.f2)]] ?_; (with_reducible refine (spec_l10Prop.calls k1 ((rd_T74 l1 x7_1).f1.f0) ((rd_T74 l1 x7_1).f1.f1) ((rd_T74 l1 x7_1).f1.f2) false _ A9.out).mono ?_); rintro e w16 ⟨rfl, hb⟩; refine ⟨_, rfl, ?_⟩; replace HO_6 := A_ (Kd.R_below (vR_ HO_6.out) hb); replace HB := A_ (below_step bB_ hb); (try clear hb)) | ((with_reducible refine gate_dst (N := 24) rfl ?_); refine Kd.R_lit k72 _ 72 ?hg (N := 24) ?hd (xs := ([] : List (S72))) (inner := []) (ok := fun _ => True) (okp := fun _ => True) ?hr ?hp (fun _ hk => hk) trivial (Below.refl _ _) (Nat.le_refl _) (by simp) ?_; (case hd => rfl); (case hg => rfl); (case hr => first | (go_simp; done) | (go_simp; rfl)); (case hp => exact (Reps.none _ _)); intro v742 w17 ho18 hb hg_ hnew_; clear hg_ hnew_; (first | rw [← Ny741.out] at ho18 | (simp only [Int.reduceToNat] at ho18; rw [← Ny741.out] at ho18)); have HO743 := A_ (Kd.R_lower (Kd.R_new' ho18 (Kd.R_lt (vR_ HO_6.out))) (below_size bB_)); replace HO_6 := A_ (Kd.R_elder' (vR_ HO_6.out) (kb_ ho18) hb); replace HB := A_ (below_step bB_ hb); clear hb ho18) | ((with_reducible refine gate_builtin (b := .append) (xs := #[.tmp 24, .tmp 25]) rfl ?_); at_builtin; refine Kd.R_append_rows k72 (w0 := w) w.heap.size rfl (.tmp 24) (.tmp 25) 55 72 (.agg #[(.string ⟨#[]⟩), (.string ⟨#[]⟩), (.string ⟨#[]⟩)]) 48 rfl Try.underlying55 info72 rfl (by decide) (by omega) v742 y741 l0 _ _ _ (fun k_ => some k_ ≠ (u6 : Value).ownBlock) (fun _ => False) rfl rfl ?aO ?aR (fun _ _ h => h) (fun _ h => h.elim) ?aF ?aB ?aS ?aL ?_; (case aR => exact cC_ (Kd.C_below HR0.out HB.out)); (case aB => exact bB_); (case aF => exact (fun k_ hk => Kd.fresh' (Kd.R_lt (vR_ HO_6.out)) k_ hk)); (case aO => exact (by (with_reducible repeat (first | apply Kd.R_alloc | apply Kd.R_drewN | apply Kd.R_drew)); exact Kd.R_mono HO743.out (fun _ hk => hk.2))); (case aS => exact (below_size bB_)); (case aL => have := LMc15.out; omega); intro v745 w19 ho hb hg hat; rw [← Ny744.out] at ho; replace HO_6 := A_ (Kd.R_after (ok := (fun _ => True)) (vR_ HO_6.out) hg hat); replace HB := A_ (hb); have HO746 := A_ (ho); clear HO743; clear ho hb hg hat))
     go_ret2
     exact ⟨_, rr_, by (with_reducible repeat (first | apply Kd.R_alloc | apply Kd.R_drewN | apply Kd.R_drew)); exact Kd.R_mono HO746.out (fun _ hk => trivial), bB_⟩
theorem bIQx290_ {P : Prop} (h : P := by repeat (first | (with_reducible first | exact HB.out | apply below_alloc | apply pw_below_drewN | apply below_drew1 | refine below_set ?_ (IsS116.ge HI0.out)) | exact HB.out)) : P := h
theorem bIQx291_ {P : Prop} (h : P := by repeat (first | (with_reducible first | exact HI0.out | apply IsS116.alloc | apply IsS116.drewN | apply IsS116.drew | apply IsS116.set_1 | apply IsS116.set_2) | exact HI0.out)) : P := h
def spec_l10Path.j0 : Nat → List (S57) → Bool → List Int → Int → Int → Option (List ByteArray × Int × Int)
 | 0, _, _, _, _, _ => none
 | k + 1, x1, x13, x1000, x1001, x1002 => if x13 = true then ((some (([] : List ByteArray) : List ByteArray)).bind fun y1111 => ((spec_l1Below.f x1000 x1001 x1002 (x1.length : Int)).bind fun bt1114 => (if 0 ≤ bt1114.1 then (if bt1114.1 < (x1.length : Int) then (if y1111.length + ((rd_T57 x1 bt1114.1).f0).length < 8796093022208 then ((some (y1111 ++ ((rd_T57 x1 bt1114.1).f0) : List ByteArray)).bind fun y1118 => ((spec_l1Once.f x1000 bt1114.2.1 bt1114.2.2 3).bind fun bt1121 => (if bt1121.1 = true then ((spec_l2Name.f x1000 bt1121.2.1 bt1121.2.2).bind fun bt1124 => (if y1118.length < 8796093022208 then (some ((y1118 ++ [bt1124.1]), bt1124.2.1, bt1124.2.2)) else (none))) else (some (y1118, bt1121.2.1, bt1121.2.2))))) else (none)) else (none)) else (none)))) else ((spec_l2Draw.f k x1000 x1001 x1002).bind fun bt1130 => (some (bt1130.1, bt1130.2.1, bt1130.2.2)))
def spec_l10Path.f (k : Nat) (s0_0 : List Int) (s0_1 : Int) (s0_2 : Int) (l1 : List (S57)) : Option (List ByteArray × Int × Int) := if (l1.length : Int) > 0 then ((spec_l1Once.f s0_0 s0_1 s0_2 3).bind fun bt1108 => (spec_l10Path.j0 k l1 (!bt1108.1) s0_0 bt1108.2.1 bt1108.2.2)) else (spec_l10Path.j0 k l1 false s0_0 s0_1 s0_2)
set_option maxHeartbeats 8000000 in
set_option maxRecDepth 100000 in
theorem spec_l10Path.calls (k : Nat) (g : Nat) (s0_0 : List Int) (s0_1 : Int) (s0_2 : Int) (A1 : Option Addr) (c1 : Nat) (l1 : List (S57)) (r1 : List ByteArray) (r2 : Int) (r3 : Int) (w0 w : World) (hI : IsS116 w0 w g s0_0 s0_1 s0_2) (hB : Below w0.heap.size w0 w) (hr1 : ∀ W_, KeepBut w W_ g none → Kd.C k57 W_ A1 l1.length l1) (hc1 : l1.length ≤ c1) (h : spec_l10Path.f k s0_0 s0_1 s0_2 l1 = some (r1, r2, r3)) :
 Calls Try.prog 86 #[.pointer (some ⟨g, 0, none⟩), .slice A1 l1.length c1] w fun e w' => ∃ v0_ : Value, e = .returned (v0_) ∧ Kd.R Kd.string 9 w' w.heap.size (fun _ => True) v0_ r1 ∧ IsS116 w0 w' g s0_0 r2 r3 ∧ Below w0.heap.size w0 w' ∧ KeepBut w w' g none := by
 have HR1 := Aside0.mk hr1
 have HC1 := Aside0.mk hc1
 clear hr1 hc1
 have HI0 := Aside0.mk hI
 have HK := A_ (KeepBut.refl w g none)
 have HL := Aside0.mk hB.size
 clear hI
 have HW0 := Aside0.mk hB.size
 have HB := Aside0.mk hB
 clear hB
 have H : (if (l1.length : Int) > 0 then ((spec_l1Once.f s0_0 s0_1 s0_2 3).bind fun bt1108 => (spec_l10Path.j0 k l1 (!bt1108.1) s0_0 bt1108.2.1 bt1108.2.2)) else (spec_l10Path.j0 k l1 false s0_0 s0_1 s0_2)) = some (r1, r2, r3) := h
 clear h
 have HC3 := Aside0.mk H
 clear H
 go_enter Try.func86, Try.ntmps86
 go_upto_region 1 with (fail)
 go_cut [13] (fun v13 wc => ∃ (kq : Nat) (x13_2 : Bool) (x1001_2 : Int) (x1002_2 : Int), v13 = .bool x13_2 ∧ Aside0 (spec_l10Path.j0 kq l1 x13_2 s0_0 x1001_2 x1002_2 = some (r1, r2, r3)) ∧ Aside0 (kq ≤ k) ∧ Aside0 (IsS116 w0 wc g s0_0 x1001_2 x1002_2) ∧ Aside0 (KeepBut w wc g none) ∧ Aside0 (Below w0.heap.size w0 wc))
 case first =>
  have H := HC3.out
  clear HC3
  by_cases c4 : (l1.length : Int) > 0
  rotate_left
  · rw [if_neg c4] at H
    have c4b0 : decide (0 < (l1.length : Int)) = false := decide_eq_false c4
    have c4b1 : decide (0 < l1.length) = false := decide_eq_false (by omega)
    clear c4
    (first | rw [c4b0] | (simp only [i64_w, i32_w]; rw [c4b0]) | skip)
    have H' := Aside0.mk H
    clear H
    go_wp2
    go_meet
    case rel => exact ⟨_, (false), (s0_1), (s0_2), rs_, H', ⟨by first | omega | exact Nat.le_refl _⟩, ⟨bIQx291_⟩, ⟨bK_⟩, ⟨bIQx290_⟩⟩
  rw [if_pos c4] at H
  have c4b0 : decide (0 < (l1.length : Int)) = true := decide_eq_true c4
  have c4b1 : decide (0 < l1.length) = true := decide_eq_true (by omega)
  clear c4
  (first | rw [c4b0] | (simp only [i64_w, i32_w]; rw [c4b0]) | skip)
  obtain ⟨⟨t1108, t1109, t1110⟩, A5, H⟩ := bo_ H
  (try dsimp only at H)
  have H' := Aside0.mk H
  clear H
  go_wp2_with (first | (go_at_call 118; (with_reducible refine (spec_l1Once.calls g s0_0 s0_1 s0_2 3 t1108 t1109 t1110 w0 _ ?s1 ?s2 A5.out).mono ?_); (case s1 => exact bIQx291_); (case s2 => exact bIQx290_); rintro e w6 ⟨rfl, hi, hb, hk⟩; replace HK := A_ (KeepBut.trans bK_ hk (.inl rfl)); replace HB := A_ (hb); replace HI0 := A_ (hi); (try clear hb); (try clear hk); (try clear hi)))
  go_meet
  case rel => exact ⟨_, (!t1108), (t1109), (t1110), rs_, H', ⟨by first | omega | exact Nat.le_refl _⟩, ⟨bIQx291_⟩, ⟨bK_⟩, ⟨bIQx290_⟩⟩
 case rest =>
  clear HC3
  try clear c1
  try clear p2
  try clear c4
  try clear c4b0
  try clear c4b1
  obtain ⟨kq, x13_2, x1001_2, x1002_2, rfl, HA, HJ2, HI0, HK, HB⟩ := hcut
  cases kq with
  | zero => exact absurd HA.out (by simp [spec_l10Path.j0])
  | succ kj2 =>
   have H := HA.out
   clear HA
   simp only [spec_l10Path.j0] at H
   by_cases c7 : x13_2 = true
   · subst c7
     rw [if_pos rfl] at H
     obtain ⟨y1111, hy1111⟩ : ∃ y_ : List ByteArray, y_ = (([] : List ByteArray)) := ⟨_, rfl⟩
     replace H : ((spec_l1Below.f s0_0 x1001_2 x1002_2 (l1.length : Int)).bind fun bt1114 => (if 0 ≤ bt1114.1 then (if bt1114.1 < (l1.length : Int) then (if y1111.length + ((rd_T57 l1 bt1114.1).f0).length < 8796093022208 then ((some (y1111 ++ ((rd_T57 l1 bt1114.1).f0) : List ByteArray)).bind fun y1118 => ((spec_l1Once.f s0_0 bt1114.2.1 bt1114.2.2 3).bind fun bt1121 => (if bt1121.1 = true then ((spec_l2Name.f s0_0 bt1121.2.1 bt1121.2.2).bind fun bt1124 => (if y1118.length < 8796093022208 then (some ((y1118 ++ [bt1124.1]), bt1124.2.1, bt1124.2.2)) else (none))) else (some (y1118, bt1121.2.1, bt1121.2.2))))) else (none)) else (none)) else (none))) = some (r1, r2, r3) := hy_ hy1111 H
     have Ny1111 := Aside0.mk hy1111
     clear hy1111
     obtain ⟨⟨t1114, t1115, t1116⟩, A8, H⟩ := bo_ H
     (try dsimp only at H)
     by_cases c9 : 0 ≤ t1114
     rotate_left
     · exact absurd H (by rw [if_neg c9]; simp)
     rw [if_pos c9] at H
     have c9b0 : decide (0 ≤ t1114) = true := decide_eq_true c9
     clear c9
     by_cases c10 : t1114 < (l1.length : Int)
     rotate_left
     · exact absurd H (by rw [if_neg c10]; simp)
     rw [if_pos c10] at H
     have c10b0 : decide (t1114 < (l1.length : Int)) = true := decide_eq_true c10
     clear c10
     by_cases c11 : y1111.length + ((rd_T57 l1 t1114).f0).length < 8796093022208
     rotate_left
     · exact absurd H (by rw [if_neg c11]; simp)
     rw [if_pos c11] at H
     have LMc11 := Aside0.mk c11
     clear c11
     obtain ⟨y1118, hy1118⟩ : ∃ y_ : List ByteArray, y_ = (y1111 ++ ((rd_T57 l1 t1114).f0)) := ⟨_, rfl⟩
     replace H : ((spec_l1Once.f s0_0 t1115 t1116 3).bind fun bt1121 => (if bt1121.1 = true then ((spec_l2Name.f s0_0 bt1121.2.1 bt1121.2.2).bind fun bt1124 => (if y1118.length < 8796093022208 then (some ((y1118 ++ [bt1124.1]), bt1124.2.1, bt1124.2.2)) else (none))) else (some (y1118, bt1121.2.1, bt1121.2.2)))) = some (r1, r2, r3) := hy_ hy1118 H
     have Ny1118 := Aside0.mk hy1118
     clear hy1118
     obtain ⟨⟨t1121, t1122, t1123⟩, A12, H⟩ := bo_ H
     (try dsimp only at H)
     by_cases c13 : t1121 = true
     · subst c13
       rw [if_pos rfl] at H
       obtain ⟨⟨t1124, t1125, t1126⟩, A14, H⟩ := bo_ H
       (try dsimp only at H)
       by_cases c15 : y1118.length < 8796093022208
       rotate_left
       · exact absurd H (by rw [if_neg c15]; simp)
       rw [if_pos c15] at H
       have LMc15 := Aside0.mk c15
       clear c15
       obtain ⟨y1127, hy1127⟩ : ∃ y_ : List ByteArray, y_ = (y1118 ++ [t1124]) := ⟨_, rfl⟩
       replace H : (some (y1127, t1125, t1126)) = some (r1, r2, r3) := hy_ hy1127 H
       have Ny1127 := Aside0.mk hy1127
       clear hy1127
       simp only [Option.some.injEq, Prod.mk.injEq] at H
       obtain ⟨rfl, rfl, rfl⟩ := H
       go_wp2_with (first | ((with_reducible refine gate_dst (N := 14) rfl ?_); refine Kd.R_lit Kd.string _ 9 ?hg (N := 14) ?hd (xs := ([] : List ByteArray)) (inner := []) (ok := fun _ => True) (okp := fun _ => True) ?hr ?hp (fun _ hk => hk) trivial (Below.refl _ _) (Nat.le_refl _) (by simp) ?_; (case hd => rfl); (case hg => rfl); (case hr => first | (go_simp; done) | (go_simp; rfl)); (case hp => exact (Reps.none _ _)); intro v1112 w16 ho17 hb hg_ hnew_; clear hg_ hnew_; (first | rw [← Ny1111.out] at ho17 | (simp only [Int.reduceToNat] at ho17; rw [← Ny1111.out] at ho17)); have HO1113 := A_ (Kd.R_lower ho17 (keep_size (w := w) (g := g) (row := none) bK_)); replace HK := A_ (KeepBut.trans bK_ (KeepBut.of_below hb g none) (.inl rfl)); replace HB := A_ (below_step bIQx290_ hb); replace HI0 := A_ (IsS116.below bIQx291_ hb); clear hb ho17) | ((with_reducible refine gate_callee (f := 117) rfl ?_); refine gL_ (some 19) Try.func117 #[.pointer (some ⟨g, 0, none⟩), .int .i64 (l1.length : Int)] ?_; (with_reducible refine (spec_l1Below.calls g s0_0 x1001_2 x1002_2 (l1.length : Int) t1114 t1115 t1116 w0 _ ?s1 ?s2 A8.out).mono ?_); (case s1 => exact bIQx291_); (case s2 => exact bIQx290_); rintro e w18 ⟨rfl, hi, hb, hk⟩; refine ⟨_, rfl, ?_⟩; replace HO1113 := A_ (Kd.R_mono (Kd.R_keep (IsS116.apart (show IsS116 w0 _ g s0_0 x1001_2 x1002_2 from bIQx291_) (vR_ HO1113.out) (by decide)) hk (fun _ h => h.2)) (fun _ h => h.1)); replace HK := A_ (KeepBut.trans bK_ hk (.inl rfl)); replace HB := A_ (hb); replace HI0 := A_ (hi); (try clear hb); (try clear hk); (try clear hi); have p1117 : 0 ≤ (t1114 : Int) := of_decide_eq_true as_; have q1117 : t1114 < (l1.length : Int) := of_decide_eq_true as_; obtain ⟨ad1117, A1117_0, c1117_0, A1117_4, c1117_4, e1117, hx1117_0, hx1117_1, hx1117_2, hx1117_3, hx1117_4, hl1117_0, hi1117_0, hl1117_4, hi1117_4⟩ := at_T57 (Kd.C_foot_now HR1.out HK.out) t1114 p1117 q1117; cases e1117; have HR1117_0 := Aside0.mk hi1117_0; have HC1117_0 := Aside0.mk hl1117_0; clear hi1117_0 hl1117_0; have HR1117_4 := Aside0.mk hi1117_4; have HC1117_4 := Aside0.mk hl1117_4; clear hi1117_4 hl1117_4; replace p1117 := eq_true p1117; replace q1117 := eq_true q1117) | ((with_reducible refine gate_builtin (b := .append) (xs := #[.tmp 14, .tmp 22]) rfl ?_); at_builtin; refine Kd.R_append_rows Kd.string w.heap.size rfl (.tmp 14) (.tmp 22) 23 9 (.string ⟨#[]⟩) 16 rfl Try.underlying23 info9 rfl (by decide) (by omega) v1112 y1111 ((rd_T57 l1 t1114).f0) _ _ _ (fun _ => True) (fun _ => False) rfl rfl ?aO ?aR (fun _ _ h => h) (fun _ h => h.elim) ?aF (Below.refl _ _) ?aS ?aL ?_; (case aR => repeat (first | exact (cC_ HR1117_0.out) | (with_reducible refine Kd.C_alloc ?_ _) | (with_reducible refine Kd.C_drewN ?_ _) | (with_reducible refine Kd.C_drew ?_))); (case aF => exact (fun _ _ => trivial)); (case aO => exact (vR_ HO1113.out)); (case aS => exact (keep_size (w := w) (g := g) (row := none) bK_)); (case aL => have := LMc11.out; omega); intro v1119 w19 ho hb hg hat; rw [← Ny1118.out] at ho; replace HB := A_ (below_weaken bIQx290_ HL.out hb); replace HI0 := A_ (IsS116.grown bIQx291_ hg (IsS116.own_ne HI0.out HO1113.out (by decide))); replace HK := A_ (KeepBut.trans bK_ (KeepBut.of_grown hg g) (Kd.R_base2 HO1113.out)); have HO1120 := A_ (ho); clear HO1113; clear ho hb hg hat) | ((with_reducible refine gate_callee (f := 118) rfl ?_); refine gL_ (some 25) Try.func118 #[.pointer (some ⟨g, 0, none⟩), .int .i64 3] ?_; (with_reducible refine (spec_l1Once.calls g s0_0 t1115 t1116 3 true t1122 t1123 w0 _ ?s1 ?s2 A12.out).mono ?_); (case s1 => exact bIQx291_); (case s2 => exact bIQx290_); rintro e w20 ⟨rfl, hi, hb, hk⟩; refine ⟨_, rfl, ?_⟩; replace HO1120 := A_ (Kd.R_mono (Kd.R_keep (IsS116.apart (show IsS116 w0 _ g s0_0 t1115 t1116 from bIQx291_) (vR_ HO1120.out) (by decide)) hk (fun _ h => h.2)) (fun _ h => h.1)); replace HK := A_ (KeepBut.trans bK_ hk (.inl rfl)); replace HB := A_ (hb); replace HI0 := A_ (hi); (try clear hb); (try clear hk); (try clear hi)) | ((with_reducible refine gate_callee (f := 119) rfl ?_); refine gL_ (some 28) Try.func119 #[.pointer (some ⟨g, 0, none⟩)] ?_; (with_reducible refine (spec_l2Name.calls g s0_0 t1122 t1123 t1124 t1125 t1126 w0 _ ?s1 ?s2 A14.out).mono ?_); (case s1 => exact bIQx291_); (case s2 => exact bIQx290_); rintro e w21 ⟨rfl, hi, hb, hk⟩; refine ⟨_, rfl, ?_⟩; replace HO1120 := A_ (Kd.R_mono (Kd.R_keep (IsS116.apart (show IsS116 w0 _ g s0_0 t1122 t1123 from bIQx291_) (vR_ HO1120.out) (by decide)) hk (fun _ h => h.2)) (fun _ h => h.1)); replace HK := A_ (KeepBut.trans bK_ hk (.inl rfl)); replace HB := A_ (hb); replace HI0 := A_ (hi); (try clear hb); (try clear hk); (try clear hi)) | ((with_reducible refine gate_builtin (b := .append) (xs := #[.tmp 26, .tmp 29]) rfl ?_); at_builtin; refine Kd.R_append Kd.string w.heap.size rfl (.tmp 26) (.tmp 29) 23 9 (.string ⟨#[]⟩) 16 rfl Try.underlying23 info9 rfl (by decide) (by omega) v1119 y1118 t1124 [.string t1124] (fun _ => True) (fun _ => False) rfl rfl ?aP (fun _ hk => hk.elim) ?aF ?aO (Below.refl _ _) ?aS ?aL ?_; (case aP => exact rfl); (case aF => exact (fun _ _ => trivial)); (case aO => exact (vR_ HO1120.out)); (case aS => exact (keep_size (w := w) (g := g) (row := none) bK_)); (case aL => have := LMc15.out; omega); intro v1128 w22 ho hb hg hat; rw [← Ny1127.out] at ho; replace HB := A_ (below_weaken bIQx290_ HL.out hb); replace HI0 := A_ (IsS116.grown bIQx291_ hg (IsS116.own_ne HI0.out HO1120.out (by decide))); replace HK := A_ (KeepBut.trans bK_ (KeepBut.of_grown hg g) (Kd.R_base2 HO1120.out)); have HO1129 := A_ (ho); clear HO1120; clear ho hb hg hat))
       go_ret
       exact ⟨_, rr_, by (with_reducible repeat (first | apply Kd.R_alloc | apply Kd.R_drewN | apply Kd.R_drew)); exact HO1129.out, bIQx291_, bIQx290_, bK_⟩
     · replace c13 := Bool.eq_false_iff.mpr c13
       subst c13
       rw [if_neg nf_] at H
       simp only [Option.some.injEq, Prod.mk.injEq] at H
       obtain ⟨rfl, rfl, rfl⟩ := H
       go_wp2_with (first | ((with_reducible refine gate_dst (N := 14) rfl ?_); refine Kd.R_lit Kd.string _ 9 ?hg (N := 14) ?hd (xs := ([] : List ByteArray)) (inner := []) (ok := fun _ => True) (okp := fun _ => True) ?hr ?hp (fun _ hk => hk) trivial (Below.refl _ _) (Nat.le_refl _) (by simp) ?_; (case hd => rfl); (case hg => rfl); (case hr => first | (go_simp; done) | (go_simp; rfl)); (case hp => exact (Reps.none _ _)); intro v1112 w23 ho24 hb hg_ hnew_; clear hg_ hnew_; (first | rw [← Ny1111.out] at ho24 | (simp only [Int.reduceToNat] at ho24; rw [← Ny1111.out] at ho24)); have HO1113 := A_ (Kd.R_lower ho24 (keep_size (w := w) (g := g) (row := none) bK_)); replace HK := A_ (KeepBut.trans bK_ (KeepBut.of_below hb g none) (.inl rfl)); replace HB := A_ (below_step bIQx290_ hb); replace HI0 := A_ (IsS116.below bIQx291_ hb); clear hb ho24) | ((with_reducible refine gate_callee (f := 117) rfl ?_); refine gL_ (some 19) Try.func117 #[.pointer (some ⟨g, 0, none⟩), .int .i64 (l1.length : Int)] ?_; (with_reducible refine (spec_l1Below.calls g s0_0 x1001_2 x1002_2 (l1.length : Int) t1114 t1115 t1116 w0 _ ?s1 ?s2 A8.out).mono ?_); (case s1 => exact bIQx291_); (case s2 => exact bIQx290_); rintro e w25 ⟨rfl, hi, hb, hk⟩; refine ⟨_, rfl, ?_⟩; replace HO1113 := A_ (Kd.R_mono (Kd.R_keep (IsS116.apart (show IsS116 w0 _ g s0_0 x1001_2 x1002_2 from bIQx291_) (vR_ HO1113.out) (by decide)) hk (fun _ h => h.2)) (fun _ h => h.1)); replace HK := A_ (KeepBut.trans bK_ hk (.inl rfl)); replace HB := A_ (hb); replace HI0 := A_ (hi); (try clear hb); (try clear hk); (try clear hi); have p1117 : 0 ≤ (t1114 : Int) := of_decide_eq_true as_; have q1117 : t1114 < (l1.length : Int) := of_decide_eq_true as_; obtain ⟨ad1117, A1117_0, c1117_0, A1117_4, c1117_4, e1117, hx1117_0, hx1117_1, hx1117_2, hx1117_3, hx1117_4, hl1117_0, hi1117_0, hl1117_4, hi1117_4⟩ := at_T57 (Kd.C_foot_now HR1.out HK.out) t1114 p1117 q1117; cases e1117; have HR1117_0 := Aside0.mk hi1117_0; have HC1117_0 := Aside0.mk hl1117_0; clear hi1117_0 hl1117_0; have HR1117_4 := Aside0.mk hi1117_4; have HC1117_4 := Aside0.mk hl1117_4; clear hi1117_4 hl1117_4; replace p1117 := eq_true p1117; replace q1117 := eq_true q1117) | ((with_reducible refine gate_builtin (b := .append) (xs := #[.tmp 14, .tmp 22]) rfl ?_); at_builtin; refine Kd.R_append_rows Kd.string w.heap.size rfl (.tmp 14) (.tmp 22) 23 9 (.string ⟨#[]⟩) 16 rfl Try.underlying23 info9 rfl (by decide) (by omega) v1112 y1111 ((rd_T57 l1 t1114).f0) _ _ _ (fun _ => True) (fun _ => False) rfl rfl ?aO ?aR (fun _ _ h => h) (fun _ h => h.elim) ?aF (Below.refl _ _) ?aS ?aL ?_; (case aR => repeat (first | exact (cC_ HR1117_0.out) | (with_reducible refine Kd.C_alloc ?_ _) | (with_reducible refine Kd.C_drewN ?_ _) | (with_reducible refine Kd.C_drew ?_))); (case aF => exact (fun _ _ => trivial)); (case aO => exact (vR_ HO1113.out)); (case aS => exact (keep_size (w := w) (g := g) (row := none) bK_)); (case aL => have := LMc11.out; omega); intro v1119 w26 ho hb hg hat; rw [← Ny1118.out] at ho; replace HB := A_ (below_weaken bIQx290_ HL.out hb); replace HI0 := A_ (IsS116.grown bIQx291_ hg (IsS116.own_ne HI0.out HO1113.out (by decide))); replace HK := A_ (KeepBut.trans bK_ (KeepBut.of_grown hg g) (Kd.R_base2 HO1113.out)); have HO1120 := A_ (ho); clear HO1113; clear ho hb hg hat) | ((with_reducible refine gate_callee (f := 118) rfl ?_); refine gL_ (some 25) Try.func118 #[.pointer (some ⟨g, 0, none⟩), .int .i64 3] ?_; (with_reducible refine (spec_l1Once.calls g s0_0 t1115 t1116 3 false t1122 t1123 w0 _ ?s1 ?s2 A12.out).mono ?_); (case s1 => exact bIQx291_); (case s2 => exact bIQx290_); rintro e w27 ⟨rfl, hi, hb, hk⟩; refine ⟨_, rfl, ?_⟩; replace HO1120 := A_ (Kd.R_mono (Kd.R_keep (IsS116.apart (show IsS116 w0 _ g s0_0 t1115 t1116 from bIQx291_) (vR_ HO1120.out) (by decide)) hk (fun _ h => h.2)) (fun _ h => h.1)); replace HK := A_ (KeepBut.trans bK_ hk (.inl rfl)); replace HB := A_ (hb); replace HI0 := A_ (hi); (try clear hb); (try clear hk); (try clear hi)))
       go_ret
       exact ⟨_, rr_, by (with_reducible repeat (first | apply Kd.R_alloc | apply Kd.R_drewN | apply Kd.R_drew)); exact HO1120.out, bIQx291_, bIQx290_, bK_⟩
   · replace c7 := Bool.eq_false_iff.mpr c7
     subst c7
     rw [if_neg nf_] at H
     obtain ⟨⟨t1130, t1133, t1134⟩, A28, H⟩ := bo_ H
     (try dsimp only at H)
     simp only [Option.some.injEq, Prod.mk.injEq] at H
     obtain ⟨rfl, rfl, rfl⟩ := H
     go_wp2_with (first | ((with_reducible refine gate_callee (f := 120) rfl ?_); refine gL_ (some 33) Try.func120 #[.pointer (some ⟨g, 0, none⟩)] ?_; (with_reducible refine (spec_l2Draw.calls kj2 g s0_0 x1001_2 x1002_2 t1130 t1133 t1134 w0 _ ?s1 ?s2 A28.out).mono ?_); (case s1 => exact bIQx291_); (case s2 => exact bIQx290_); rintro e w29 ⟨v1131, rfl, ho0, hi, hb, hk⟩; refine ⟨_, rfl, ?_⟩; have HO1132 := A_ (Kd.R_lower ho0 (keep_size (w := w) (g := g) (row := none) bK_)); replace HK := A_ (KeepBut.trans bK_ hk (.inl rfl)); replace HB := A_ (hb); replace HI0 := A_ (hi); (try clear hb); (try clear hk); (try clear hi); (try clear ho0)))
     go_ret
     exact ⟨_, rr_, by (with_reducible repeat (first | apply Kd.R_alloc | apply Kd.R_drewN | apply Kd.R_drew)); exact HO1132.out, bIQx291_, bIQx290_, bK_⟩
def spec_l10OneProp.f (s0_0 : List Int) (s0_1 : Int) (s0_2 : Int) : Option (ByteArray × ByteArray × ByteArray × Int × Int) := (spec_l1Str.f s0_0 s0_1 s0_2 (([(⟨#[68, 65, 86, 58]⟩ : ByteArray), (⟨#[117, 58, 120]⟩ : ByteArray), (⟨#[]⟩ : ByteArray)] : List ByteArray))).bind fun bt1139 => ((spec_l1Str.f s0_0 bt1139.2.1 bt1139.2.2 (([(⟨#[97]⟩ : ByteArray), (⟨#[99, 111, 108, 111, 114]⟩ : ByteArray), (⟨#[98]⟩ : ByteArray)] : List ByteArray))).bind fun bt1145 => ((spec_l1Str.f s0_0 bt1145.2.1 bt1145.2.2 (([(⟨#[]⟩ : ByteArray), (⟨#[114, 101, 100]⟩ : ByteArray), (⟨#[97, 60, 98]⟩ : ByteArray)] : List ByteArray))).bind fun bt1151 => (some (bt1139.1, bt1145.1, bt1151.1, bt1151.2.1, bt1151.2.2))))
set_option maxHeartbeats 8000000 in
set_option maxRecDepth 100000 in
theorem spec_l10OneProp.calls (g : Nat) (s0_0 : List Int) (s0_1 : Int) (s0_2 : Int) (r1 : ByteArray) (r2 : ByteArray) (r3 : ByteArray) (r4 : Int) (r5 : Int) (w0 w : World) (hI : IsS116 w0 w g s0_0 s0_1 s0_2) (hB : Below w0.heap.size w0 w) (h : spec_l10OneProp.f s0_0 s0_1 s0_2 = some (r1, r2, r3, r4, r5)) :
 Calls Try.prog 128 #[.pointer (some ⟨g, 0, none⟩)] w fun e w' => e = .returned (.agg #[.string r1, .string r2, .string r3]) ∧ IsS116 w0 w' g s0_0 r4 r5 ∧ Below w0.heap.size w0 w' ∧ KeepBut w w' g none := by
 have hu72 := Try.underlying72
 have HI0 := Aside0.mk hI
 have HK := A_ (KeepBut.refl w g none)
 have HL := Aside0.mk hB.size
 clear hI
 have HW0 := Aside0.mk hB.size
 have HB := Aside0.mk hB
 clear hB
 have H : ((spec_l1Str.f s0_0 s0_1 s0_2 (([(⟨#[68, 65, 86, 58]⟩ : ByteArray), (⟨#[117, 58, 120]⟩ : ByteArray), (⟨#[]⟩ : ByteArray)] : List ByteArray))).bind fun bt1139 => ((spec_l1Str.f s0_0 bt1139.2.1 bt1139.2.2 (([(⟨#[97]⟩ : ByteArray), (⟨#[99, 111, 108, 111, 114]⟩ : ByteArray), (⟨#[98]⟩ : ByteArray)] : List ByteArray))).bind fun bt1145 => ((spec_l1Str.f s0_0 bt1145.2.1 bt1145.2.2 (([(⟨#[]⟩ : ByteArray), (⟨#[114, 101, 100]⟩ : ByteArray), (⟨#[97, 60, 98]⟩ : ByteArray)] : List ByteArray))).bind fun bt1151 => (some (bt1139.1, bt1145.1, bt1151.1, bt1151.2.1, bt1151.2.2))))) = some (r1, r2, r3, r4, r5) := h
 clear h
 obtain ⟨y1136, hy1136⟩ : ∃ y_ : List ByteArray, y_ = (([(⟨#[68, 65, 86, 58]⟩ : ByteArray), (⟨#[117, 58, 120]⟩ : ByteArray), (⟨#[]⟩ : ByteArray)] : List ByteArray)) := ⟨_, rfl⟩
 replace H : ((spec_l1Str.f s0_0 s0_1 s0_2 y1136).bind fun bt1139 => ((spec_l1Str.f s0_0 bt1139.2.1 bt1139.2.2 (([(⟨#[97]⟩ : ByteArray), (⟨#[99, 111, 108, 111, 114]⟩ : ByteArray), (⟨#[98]⟩ : ByteArray)] : List ByteArray))).bind fun bt1145 => ((spec_l1Str.f s0_0 bt1145.2.1 bt1145.2.2 (([(⟨#[]⟩ : ByteArray), (⟨#[114, 101, 100]⟩ : ByteArray), (⟨#[97, 60, 98]⟩ : ByteArray)] : List ByteArray))).bind fun bt1151 => (some (bt1139.1, bt1145.1, bt1151.1, bt1151.2.1, bt1151.2.2))))) = some (r1, r2, r3, r4, r5) := hy_ hy1136 H
 have Ny1136 := Aside0.mk hy1136
 clear hy1136
 obtain ⟨⟨t1139, t1140, t1141⟩, A2, H⟩ := bo_ H
 (try dsimp only at H)
 obtain ⟨y1142, hy1142⟩ : ∃ y_ : List ByteArray, y_ = (([(⟨#[97]⟩ : ByteArray), (⟨#[99, 111, 108, 111, 114]⟩ : ByteArray), (⟨#[98]⟩ : ByteArray)] : List ByteArray)) := ⟨_, rfl⟩
 replace H : ((spec_l1Str.f s0_0 t1140 t1141 y1142).bind fun bt1145 => ((spec_l1Str.f s0_0 bt1145.2.1 bt1145.2.2 (([(⟨#[]⟩ : ByteArray), (⟨#[114, 101, 100]⟩ : ByteArray), (⟨#[97, 60, 98]⟩ : ByteArray)] : List ByteArray))).bind fun bt1151 => (some (t1139, bt1145.1, bt1151.1, bt1151.2.1, bt1151.2.2)))) = some (r1, r2, r3, r4, r5) := hy_ hy1142 H
 have Ny1142 := Aside0.mk hy1142
 clear hy1142
 obtain ⟨⟨t1145, t1146, t1147⟩, A3, H⟩ := bo_ H
 (try dsimp only at H)
 obtain ⟨y1148, hy1148⟩ : ∃ y_ : List ByteArray, y_ = (([(⟨#[]⟩ : ByteArray), (⟨#[114, 101, 100]⟩ : ByteArray), (⟨#[97, 60, 98]⟩ : ByteArray)] : List ByteArray)) := ⟨_, rfl⟩
 replace H : ((spec_l1Str.f s0_0 t1146 t1147 y1148).bind fun bt1151 => (some (t1139, t1145, bt1151.1, bt1151.2.1, bt1151.2.2))) = some (r1, r2, r3, r4, r5) := hy_ hy1148 H
 have Ny1148 := Aside0.mk hy1148
 clear hy1148
 obtain ⟨⟨t1151, t1152, t1153⟩, A4, H⟩ := bo_ H
 (try dsimp only at H)
 simp only [Option.some.injEq, Prod.mk.injEq] at H
 obtain ⟨rfl, rfl, rfl, rfl, rfl⟩ := H
 go_enter Try.func128, Try.ntmps128
 go_wp2_with (first | ((with_reducible refine gate_dst (N := 2) rfl ?_); refine bx_ (N := 2) (cs := #[.string (⟨#[]⟩ : ByteArray), .string (⟨#[]⟩ : ByteArray), .string (⟨#[]⟩ : ByteArray)]) (t := 72) ?_; intro gb1135 hg w5 hbox hb; replace HB := A_ (below_step bIQx290_ hb); have BK1135 := A_ (hbox); have GW1135 := A_ ((by rw [hg]; exact (keep_size (w := w) (g := g) (row := none) bK_) : w.heap.size ≤ gb1135)); have GE1135 := A_ ((Nat.le_trans HW0.out (by rw [hg]; exact (keep_size (w := w) (g := g) (row := none) bK_) : w.heap.size ≤ gb1135) : w0.heap.size ≤ gb1135)); replace HK := A_ (KeepBut.trans bK_ (KeepBut.of_below hb g none) (.inl rfl)); have NB0_1135 := A_ ((by rw [hg]; exact Nat.ne_of_lt (IsS116.lt (show IsS116 w0 _ g s0_0 s0_1 s0_2 from bIQx291_)) : g ≠ gb1135)); have NB1135_0 := A_ ((by rw [hg]; exact Nat.ne_of_gt (IsS116.lt (show IsS116 w0 _ g s0_0 s0_1 s0_2 from bIQx291_)) : gb1135 ≠ g)); replace HI0 := A_ (IsS116.below bIQx291_ hb); clear hb hbox hg) | ((with_reducible refine gate_dst (N := 4) rfl ?_); refine Kd.R_lit Kd.string _ 9 ?hg (N := 4) ?hd (xs := ([(⟨#[68, 65, 86, 58]⟩ : ByteArray), (⟨#[117, 58, 120]⟩ : ByteArray), (⟨#[]⟩ : ByteArray)] : List ByteArray)) (inner := [.string (⟨#[68, 65, 86, 58]⟩ : ByteArray), .string (⟨#[117, 58, 120]⟩ : ByteArray), .string (⟨#[]⟩ : ByteArray)]) (ok := fun _ => True) (okp := fun _ => True) ?hr ?hp (fun _ hk => hk) trivial (Below.refl _ _) (Nat.le_refl _) (by simp) ?_; (case hd => rfl); (case hg => rfl); (case hr => first | (go_simp; done) | (go_simp; rfl)); (case hp => exact (Reps.one (show Kd.M Kd.string _ _ _ (⟨#[68, 65, 86, 58]⟩ : ByteArray) [.string (⟨#[68, 65, 86, 58]⟩ : ByteArray)] from rfl) (Reps.one (show Kd.M Kd.string _ _ _ (⟨#[117, 58, 120]⟩ : ByteArray) [.string (⟨#[117, 58, 120]⟩ : ByteArray)] from rfl) (Reps.one (show Kd.M Kd.string _ _ _ (⟨#[]⟩ : ByteArray) [.string (⟨#[]⟩ : ByteArray)] from rfl) (Reps.none _ _))))); intro v1137 w6 ho7 hb hg_ hnew_; clear hg_ hnew_; (first | rw [← Ny1136.out] at ho7 | (simp only [Int.reduceToNat] at ho7; rw [← Ny1136.out] at ho7)); have HO1138 := A_ (Kd.R_lower ho7 (keep_size (w := w) (g := g) (row := none) (by repeat (first | (with_reducible first | exact HK.out | apply KeepBut.set_ | apply keep_drewN | apply keep_drew | apply keep_alloc | refine keep_far ?_ GW1135.out _) | exact HK.out)))); replace BK1135 := A_ (bw_ BK1135.out hb); replace HK := A_ (KeepBut.trans (by repeat (first | (with_reducible first | exact HK.out | apply KeepBut.set_ | apply keep_drewN | apply keep_drew | apply keep_alloc | refine keep_far ?_ GW1135.out _) | exact HK.out)) (KeepBut.of_below hb g none) (.inl rfl)); replace HB := A_ (below_step (by repeat (first | (with_reducible first | exact HB.out | apply below_alloc | apply pw_below_drewN | apply below_drew1 | refine below_set ?_ (IsS116.ge HI0.out) | refine below_set ?_ GE1135.out) | exact HB.out)) hb); replace HI0 := A_ (IsS116.below (by repeat (first | (with_reducible first | exact HI0.out | apply IsS116.alloc | apply IsS116.drewN | apply IsS116.drew | apply IsS116.set_1 | apply IsS116.set_2 | refine IsS116.far ?_ NB0_1135.out _) | exact HI0.out)) hb); clear hb ho7; obtain ⟨Ao8, co8, eo8⟩ := Kd.R_slice HO1138.out; subst eo8) | ((with_reducible refine gate_callee (f := 99) rfl ?_); refine gL_ (some 5) Try.func99 #[.pointer (some ⟨g, 0, none⟩), .slice Ao8 y1136.length co8] ?_; (with_reducible refine (spec_l1Str.calls g s0_0 s0_1 s0_2 _ _ y1136 t1139 t1140 t1141 w0 _ ?s1 ?s2 ?s3 ?s4 ?s5 A2.out).mono ?_); (case s1 => repeat (first | (with_reducible first | exact HI0.out | apply IsS116.alloc | apply IsS116.drewN | apply IsS116.drew | apply IsS116.set_1 | apply IsS116.set_2 | refine IsS116.far ?_ NB0_1135.out _) | exact HI0.out)); (case s2 => repeat (first | (with_reducible first | exact HB.out | apply below_alloc | apply pw_below_drewN | apply below_drew1 | refine below_set ?_ (IsS116.ge HI0.out) | refine below_set ?_ GE1135.out) | exact HB.out)); (case s3 => exact cC_ (Kd.R_reads' HO1138.out).2.2); (case s4 => exact (Kd.R_reads' HO1138.out).2.1); (case s5 => exact far_slice (IsS116.own_ne HI0.out HO1138.out (by decide))); rintro e w9 ⟨rfl, hi, hb, hk⟩; refine ⟨_, rfl, ?_⟩; replace BK1135 := A_ (KeepBut.blk hk (g' := gb1135) (o := .cells #[.string (⟨#[]⟩ : ByteArray), .string (⟨#[]⟩ : ByteArray), .string (⟨#[]⟩ : ByteArray)] 72 (0, 0)) (vb_ BK1135.out) NB1135_0.out (by simp)); replace HO1138 := A_ (Kd.R_mono (Kd.R_keep (IsS116.apart (show IsS116 w0 _ g s0_0 s0_1 s0_2 from by repeat (first | (with_reducible first | exact HI0.out | apply IsS116.alloc | apply IsS116.drewN | apply IsS116.drew | apply IsS116.set_1 | apply IsS116.set_2 | refine IsS116.far ?_ NB0_1135.out _) | exact HI0.out)) (vR_ HO1138.out) (by decide)) hk (fun _ h => h.2)) (fun _ h => h.1)); replace HK := A_ (KeepBut.trans (by repeat (first | (with_reducible first | exact HK.out | apply KeepBut.set_ | apply keep_drewN | apply keep_drew | apply keep_alloc | refine keep_far ?_ GW1135.out _) | exact HK.out)) hk (.inl rfl)); replace HB := A_ (hb); replace HI0 := A_ (hi); (try clear hb); (try clear hk); (try clear hi)) | ((with_reducible refine gate_dst (N := 7) rfl ?_); refine Kd.R_lit Kd.string _ 9 ?hg (N := 7) ?hd (xs := ([(⟨#[97]⟩ : ByteArray), (⟨#[99, 111, 108, 111, 114]⟩ : ByteArray), (⟨#[98]⟩ : ByteArray)] : List ByteArray)) (inner := [.string (⟨#[97]⟩ : ByteArray), .string (⟨#[99, 111, 108, 111, 114]⟩ : ByteArray), .string (⟨#[98]⟩ : ByteArray)]) (ok := fun _ => True) (okp := fun _ => True) ?hr ?hp (fun _ hk => hk) trivial (Below.refl _ _) (Nat.le_refl _) (by simp) ?_; (case hd => rfl); (case hg => rfl); (case hr => first | (go_simp; done) | (go_simp; rfl)); (case hp => exact (Reps.one (show Kd.M Kd.string _ _ _ (⟨#[97]⟩ : ByteArray) [.string (⟨#[97]⟩ : ByteArray)] from rfl) (Reps.one (show Kd.M Kd.string _ _ _ (⟨#[99, 111, 108, 111, 114]⟩ : ByteArray) [.string (⟨#[99, 111, 108, 111, 114]⟩ : ByteArray)] from rfl) (Reps.one (show Kd.M Kd.string _ _ _ (⟨#[98]⟩ : ByteArray) [.string (⟨#[98]⟩ : ByteArray)] from rfl) (Reps.none _ _))))); intro v1143 w10 ho11 hb hg_ hnew_; clear hg_ hnew_; (first | rw [← Ny1142.out] at ho11 | (simp only [Int.reduceToNat] at ho11; rw [← Ny1142.out] at ho11)); have HO1144 := A_ (Kd.R_lower (Kd.R_new' ho11 (Kd.R_lt (vR_ HO1138.out))) (keep_size (w := w) (g := g) (row := none) (by repeat (first | (with_reducible first | exact HK.out | apply KeepBut.set_ | apply keep_drewN | apply keep_drew | apply keep_alloc | refine keep_far ?_ GW1135.out _) | exact HK.out)))); replace HO1138 := A_ (Kd.R_elder' (vR_ HO1138.out) (kb_ ho11) hb); replace BK1135 := A_ (bw_ BK1135.out hb); replace HK := A_ (KeepBut.trans (by repeat (first | (with_reducible first | exact HK.out | apply KeepBut.set_ | apply keep_drewN | apply keep_drew | apply keep_alloc | refine keep_far ?_ GW1135.out _) | exact HK.out)) (KeepBut.of_below hb g none) (.inl rfl)); replace HB := A_ (below_step (by repeat (first | (with_reducible first | exact HB.out | apply below_alloc | apply pw_below_drewN | apply below_drew1 | refine below_set ?_ (IsS116.ge HI0.out) | refine below_set ?_ GE1135.out) | exact HB.out)) hb); replace HI0 := A_ (IsS116.below (by repeat (first | (with_reducible first | exact HI0.out | apply IsS116.alloc | apply IsS116.drewN | apply IsS116.drew | apply IsS116.set_1 | apply IsS116.set_2 | refine IsS116.far ?_ NB0_1135.out _) | exact HI0.out)) hb); clear hb ho11; obtain ⟨Ao12, co12, eo12⟩ := Kd.R_slice HO1144.out; subst eo12) | ((with_reducible refine gate_callee (f := 99) rfl ?_); refine gL_ (some 8) Try.func99 #[.pointer (some ⟨g, 0, none⟩), .slice Ao12 y1142.length co12] ?_; (with_reducible refine (spec_l1Str.calls g s0_0 t1140 t1141 _ _ y1142 t1145 t1146 t1147 w0 _ ?s1 ?s2 ?s3 ?s4 ?s5 A3.out).mono ?_); (case s1 => repeat (first | (with_reducible first | exact HI0.out | apply IsS116.alloc | apply IsS116.drewN | apply IsS116.drew | apply IsS116.set_1 | apply IsS116.set_2 | refine IsS116.far ?_ NB0_1135.out _) | exact HI0.out)); (case s2 => repeat (first | (with_reducible first | exact HB.out | apply below_alloc | apply pw_below_drewN | apply below_drew1 | refine below_set ?_ (IsS116.ge HI0.out) | refine below_set ?_ GE1135.out) | exact HB.out)); (case s3 => exact cC_ (Kd.R_reads' HO1144.out).2.2); (case s4 => exact (Kd.R_reads' HO1144.out).2.1); (case s5 => exact far_slice (IsS116.own_ne HI0.out HO1144.out (by decide))); rintro e w13 ⟨rfl, hi, hb, hk⟩; refine ⟨_, rfl, ?_⟩; replace BK1135 := A_ (KeepBut.blk hk (g' := gb1135) (o := .cells #[.string (⟨#[]⟩ : ByteArray), .string (⟨#[]⟩ : ByteArray), .string (⟨#[]⟩ : ByteArray)] 72 (0, 0)) (vb_ BK1135.out) NB1135_0.out (by simp)); replace HO1138 := A_ (Kd.R_mono (Kd.R_keep (IsS116.apart (show IsS116 w0 _ g s0_0 t1140 t1141 from by repeat (first | (with_reducible first | exact HI0.out | apply IsS116.alloc | apply IsS116.drewN | apply IsS116.drew | apply IsS116.set_1 | apply IsS116.set_2 | refine IsS116.far ?_ NB0_1135.out _) | exact HI0.out)) (vR_ HO1138.out) (by decide)) hk (fun _ h => h.2)) (fun _ h => h.1)); replace HO1144 := A_ (Kd.R_mono (Kd.R_keep (IsS116.apart (show IsS116 w0 _ g s0_0 t1140 t1141 from by repeat (first | (with_reducible first | exact HI0.out | apply IsS116.alloc | apply IsS116.drewN | apply IsS116.drew | apply IsS116.set_1 | apply IsS116.set_2 | refine IsS116.far ?_ NB0_1135.out _) | exact HI0.out)) (vR_ HO1144.out) (by decide)) hk (fun _ h => h.2)) (fun _ h => h.1)); replace HK := A_ (KeepBut.trans (by repeat (first | (with_reducible first | exact HK.out | apply KeepBut.set_ | apply keep_drewN | apply keep_drew | apply keep_alloc | refine keep_far ?_ GW1135.out _) | exact HK.out)) hk (.inl rfl)); replace HB := A_ (hb); replace HI0 := A_ (hi); (try clear hb); (try clear hk); (try clear hi)) | ((with_reducible refine gate_dst (N := 10) rfl ?_); refine Kd.R_lit Kd.string _ 9 ?hg (N := 10) ?hd (xs := ([(⟨#[]⟩ : ByteArray), (⟨#[114, 101, 100]⟩ : ByteArray), (⟨#[97, 60, 98]⟩ : ByteArray)] : List ByteArray)) (inner := [.string (⟨#[]⟩ : ByteArray), .string (⟨#[114, 101, 100]⟩ : ByteArray), .string (⟨#[97, 60, 98]⟩ : ByteArray)]) (ok := fun _ => True) (okp := fun _ => True) ?hr ?hp (fun _ hk => hk) trivial (Below.refl _ _) (Nat.le_refl _) (by simp) ?_; (case hd => rfl); (case hg => rfl); (case hr => first | (go_simp; done) | (go_simp; rfl)); (case hp => exact (Reps.one (show Kd.M Kd.string _ _ _ (⟨#[]⟩ : ByteArray) [.string (⟨#[]⟩ : ByteArray)] from rfl) (Reps.one (show Kd.M Kd.string _ _ _ (⟨#[114, 101, 100]⟩ : ByteArray) [.string (⟨#[114, 101, 100]⟩ : ByteArray)] from rfl) (Reps.one (show Kd.M Kd.string _ _ _ (⟨#[97, 60, 98]⟩ : ByteArray) [.string (⟨#[97, 60, 98]⟩ : ByteArray)] from rfl) (Reps.none _ _))))); intro v1149 w14 ho15 hb hg_ hnew_; clear hg_ hnew_; (first | rw [← Ny1148.out] at ho15 | (simp only [Int.reduceToNat] at ho15; rw [← Ny1148.out] at ho15)); have HO1150 := A_ (Kd.R_lower (Kd.R_new' (Kd.R_new' ho15 (Kd.R_lt (vR_ HO1138.out))) (Kd.R_lt (vR_ HO1144.out))) (keep_size (w := w) (g := g) (row := none) (by repeat (first | (with_reducible first | exact HK.out | apply KeepBut.set_ | apply keep_drewN | apply keep_drew | apply keep_alloc | refine keep_far ?_ GW1135.out _) | exact HK.out)))); replace HO1138 := A_ (Kd.R_elder' (vR_ HO1138.out) (kb_ ho15) hb); replace HO1144 := A_ (Kd.R_elder' (vR_ HO1144.out) (kb_ ho15) hb); replace BK1135 := A_ (bw_ BK1135.out hb); replace HK := A_ (KeepBut.trans (by repeat (first | (with_reducible first | exact HK.out | apply KeepBut.set_ | apply keep_drewN | apply keep_drew | apply keep_alloc | refine keep_far ?_ GW1135.out _) | exact HK.out)) (KeepBut.of_below hb g none) (.inl rfl)); replace HB := A_ (below_step (by repeat (first | (with_reducible first | exact HB.out | apply below_alloc | apply pw_below_drewN | apply below_drew1 | refine below_set ?_ (IsS116.ge HI0.out) | refine below_set ?_ GE1135.out) | exact HB.out)) hb); replace HI0 := A_ (IsS116.below (by repeat (first | (with_reducible first | exact HI0.out | apply IsS116.alloc | apply IsS116.drewN | apply IsS116.drew | apply IsS116.set_1 | apply IsS116.set_2 | refine IsS116.far ?_ NB0_1135.out _) | exact HI0.out)) hb); clear hb ho15; obtain ⟨Ao16, co16, eo16⟩ := Kd.R_slice HO1150.out; subst eo16) | ((with_reducible refine gate_callee (f := 99) rfl ?_); refine gL_ (some 11) Try.func99 #[.pointer (some ⟨g, 0, none⟩), .slice Ao16 y1148.length co16] ?_; (with_reducible refine (spec_l1Str.calls g s0_0 t1146 t1147 _ _ y1148 t1151 t1152 t1153 w0 _ ?s1 ?s2 ?s3 ?s4 ?s5 A4.out).mono ?_); (case s1 => repeat (first | (with_reducible first | exact HI0.out | apply IsS116.alloc | apply IsS116.drewN | apply IsS116.drew | apply IsS116.set_1 | apply IsS116.set_2 | refine IsS116.far ?_ NB0_1135.out _) | exact HI0.out)); (case s2 => repeat (first | (with_reducible first | exact HB.out | apply below_alloc | apply pw_below_drewN | apply below_drew1 | refine below_set ?_ (IsS116.ge HI0.out) | refine below_set ?_ GE1135.out) | exact HB.out)); (case s3 => exact cC_ (Kd.R_reads' HO1150.out).2.2); (case s4 => exact (Kd.R_reads' HO1150.out).2.1); (case s5 => exact far_slice (IsS116.own_ne HI0.out HO1150.out (by decide))); rintro e w17 ⟨rfl, hi, hb, hk⟩; refine ⟨_, rfl, ?_⟩; replace BK1135 := A_ (KeepBut.blk hk (g' := gb1135) (o := .cells #[.string (⟨#[]⟩ : ByteArray), .string (⟨#[]⟩ : ByteArray), .string (⟨#[]⟩ : ByteArray)] 72 (0, 0)) (vb_ BK1135.out) NB1135_0.out (by simp)); replace HO1138 := A_ (Kd.R_mono (Kd.R_keep (IsS116.apart (show IsS116 w0 _ g s0_0 t1146 t1147 from by repeat (first | (with_reducible first | exact HI0.out | apply IsS116.alloc | apply IsS116.drewN | apply IsS116.drew | apply IsS116.set_1 | apply IsS116.set_2 | refine IsS116.far ?_ NB0_1135.out _) | exact HI0.out)) (vR_ HO1138.out) (by decide)) hk (fun _ h => h.2)) (fun _ h => h.1)); replace HO1144 := A_ (Kd.R_mono (Kd.R_keep (IsS116.apart (show IsS116 w0 _ g s0_0 t1146 t1147 from by repeat (first | (with_reducible first | exact HI0.out | apply IsS116.alloc | apply IsS116.drewN | apply IsS116.drew | apply IsS116.set_1 | apply IsS116.set_2 | refine IsS116.far ?_ NB0_1135.out _) | exact HI0.out)) (vR_ HO1144.out) (by decide)) hk (fun _ h => h.2)) (fun _ h => h.1)); replace HO1150 := A_ (Kd.R_mono (Kd.R_keep (IsS116.apart (show IsS116 w0 _ g s0_0 t1146 t1147 from by repeat (first | (with_reducible first | exact HI0.out | apply IsS116.alloc | apply IsS116.drewN | apply IsS116.drew | apply IsS116.set_1 | apply IsS116.set_2 | refine IsS116.far ?_ NB0_1135.out _) | exact HI0.out)) (vR_ HO1150.out) (by decide)) hk (fun _ h => h.2)) (fun _ h => h.1)); replace HK := A_ (KeepBut.trans (by repeat (first | (with_reducible first | exact HK.out | apply KeepBut.set_ | apply keep_drewN | apply keep_drew | apply keep_alloc | refine keep_far ?_ GW1135.out _) | exact HK.out)) hk (.inl rfl)); replace HB := A_ (hb); replace HI0 := A_ (hi); (try clear hb); (try clear hk); (try clear hi); have hnb18 := NB1135_0.out; have hnc18 := NB0_1135.out; obtain ⟨hcz19_0, hcz19_1, hcz19_2, hfz19_0, hfz19_1, hfz19_2⟩ := cz3_ BK1135.out))
 refine bodyPost_ret (results_cell_row rfl _ _ gb1135 72 #[.string t1139, .string t1145, .string t1151] (0, 0) _ rfl (by (with_reducible repeat (first | refine blk_drewN ?_ _ | refine blk_drew ?_ | refine blk_alloc ?_ _)); refine blk_put (cs := #[.string t1139, .string t1145, .string (⟨#[]⟩ : ByteArray)]) ?_ 2 _ rfl; (with_reducible repeat (first | refine blk_drewN ?_ _ | refine blk_drew ?_ | refine blk_alloc ?_ _)); refine blk_put (cs := #[.string t1139, .string (⟨#[]⟩ : ByteArray), .string (⟨#[]⟩ : ByteArray)]) ?_ 1 _ rfl; (with_reducible repeat (first | refine blk_drewN ?_ _ | refine blk_drew ?_ | refine blk_alloc ?_ _)); refine blk_put (cs := #[.string (⟨#[]⟩ : ByteArray), .string (⟨#[]⟩ : ByteArray), .string (⟨#[]⟩ : ByteArray)]) ?_ 0 _ rfl; (with_reducible repeat (first | refine blk_drewN ?_ _ | refine blk_drew ?_ | refine blk_alloc ?_ _)); exact BK1135.out) Try.underlying72 rfl (by kernel_rfl)) rfl ?_
 exact ⟨rr_, by repeat (first | (with_reducible first | exact HI0.out | apply IsS116.alloc | apply IsS116.drewN | apply IsS116.drew | apply IsS116.set_1 | apply IsS116.set_2 | refine IsS116.far ?_ NB0_1135.out _) | exact HI0.out), by repeat (first | (with_reducible first | exact HB.out | apply below_alloc | apply pw_below_drewN | apply below_drew1 | refine below_set ?_ (IsS116.ge HI0.out) | refine below_set ?_ GE1135.out) | exact HB.out), by repeat (first | (with_reducible first | exact HK.out | apply KeepBut.set_ | apply keep_drewN | apply keep_drew | apply keep_alloc | refine keep_far ?_ GW1135.out _) | exact HK.out)⟩
def spec_l10Props.l0 : Nat → List (S72) → Int → List Int → Int → Int → Option ((List (S72)) × Int × Int)
 | 0, _, _, _, _, _ => none
 | k + 1, x3, x4, x1000, x1001, x1002 => if x4 > 0 then ((spec_l10OneProp.f x1000 x1001 x1002).bind fun bt1160 => ((spec_SetProps.f k x3 (([(⟨false, (⟨bt1160.1, bt1160.2.1, bt1160.2.2.1⟩ : S72)⟩ : S74)] : List (S74)))).bind fun bt1168 => (spec_l10Props.l0 k bt1168.1 (wrap64 (x4 - 1)) x1000 bt1160.2.2.2.1 bt1160.2.2.2.2))) else (some (x3, x1001, x1002))
def spec_l10Props.f (k : Nat) (s0_0 : List Int) (s0_1 : Int) (s0_2 : Int) : Option ((List (S72)) × Int × Int) := (spec_l1Below.f s0_0 s0_1 s0_2 3).bind fun bt1157 => (spec_l10Props.l0 k (([] : List (S72))) bt1157.1 s0_0 bt1157.2.1 bt1157.2.2)
set_option maxHeartbeats 8000000 in
set_option maxRecDepth 100000 in
theorem spec_l10Props.calls (k : Nat) (g : Nat) (s0_0 : List Int) (s0_1 : Int) (s0_2 : Int) (r1 : List (S72)) (r2 : Int) (r3 : Int) (w0 w : World) (hI : IsS116 w0 w g s0_0 s0_1 s0_2) (hB : Below w0.heap.size w0 w) (h : spec_l10Props.f k s0_0 s0_1 s0_2 = some (r1, r2, r3)) :
 Calls Try.prog 98 #[.pointer (some ⟨g, 0, none⟩)] w fun e w' => ∃ v0_ : Value, e = .returned (v0_) ∧ Kd.R k72 72 w' w.heap.size (fun _ => True) v0_ r1 ∧ IsS116 w0 w' g s0_0 r2 r3 ∧ Below w0.heap.size w0 w' ∧ KeepBut w w' g none := by
 have hu74 := Try.underlying74
 have HI0 := Aside0.mk hI
 have HK := A_ (KeepBut.refl w g none)
 have HL := Aside0.mk hB.size
 clear hI
 have HW0 := Aside0.mk hB.size
 have HB := Aside0.mk hB
 clear hB
 have H : ((spec_l1Below.f s0_0 s0_1 s0_2 3).bind fun bt1157 => (spec_l10Props.l0 k (([] : List (S72))) bt1157.1 s0_0 bt1157.2.1 bt1157.2.2)) = some (r1, r2, r3) := h
 clear h
 obtain ⟨y1154, hy1154⟩ : ∃ y_ : List (S72), y_ = (([] : List (S72))) := ⟨_, rfl⟩
 replace H : ((spec_l1Below.f s0_0 s0_1 s0_2 3).bind fun bt1157 => (spec_l10Props.l0 k y1154 bt1157.1 s0_0 bt1157.2.1 bt1157.2.2)) = some (r1, r2, r3) := hy_ hy1154 H
 have Ny1154 := Aside0.mk hy1154
 clear hy1154
 obtain ⟨⟨t1157, t1158, t1159⟩, A2, H⟩ := bo_ H
 (try dsimp only at H)
 have H' := Aside0.mk H
 clear H
 go_enter Try.func98, Try.ntmps98
 go_wp2_with (first | ((with_reducible refine gate_dst (N := 5) rfl ?_); refine Kd.R_lit k72 _ 72 ?hg (N := 5) ?hd (xs := ([] : List (S72))) (inner := []) (ok := fun _ => True) (okp := fun _ => True) ?hr ?hp (fun _ hk => hk) trivial (Below.refl _ _) (Nat.le_refl _) (by simp) ?_; (case hd => rfl); (case hg => rfl); (case hr => first | (go_simp; done) | (go_simp; rfl)); (case hp => exact (Reps.none _ _)); intro v1155 w3 ho4 hb hg_ hnew_; clear hg_ hnew_; (first | rw [← Ny1154.out] at ho4 | (simp only [Int.reduceToNat] at ho4; rw [← Ny1154.out] at ho4)); have HO1156 := A_ (Kd.R_lower ho4 (keep_size (w := w) (g := g) (row := none) bK_)); replace HK := A_ (KeepBut.trans bK_ (KeepBut.of_below hb g none) (.inl rfl)); replace HB := A_ (below_step bIQx290_ hb); replace HI0 := A_ (IsS116.below bIQx291_ hb); clear hb ho4) | ((with_reducible refine gate_callee (f := 117) rfl ?_); refine gL_ (some 7) Try.func117 #[.pointer (some ⟨g, 0, none⟩), .int .i64 3] ?_; (with_reducible refine (spec_l1Below.calls g s0_0 s0_1 s0_2 3 t1157 t1158 t1159 w0 _ ?s1 ?s2 A2.out).mono ?_); (case s1 => exact bIQx291_); (case s2 => exact bIQx290_); rintro e w5 ⟨rfl, hi, hb, hk⟩; refine ⟨_, rfl, ?_⟩; replace HO1156 := A_ (Kd.R_mono (Kd.R_keep (IsS116.apart (show IsS116 w0 _ g s0_0 s0_1 s0_2 from bIQx291_) (vR_ HO1156.out) (by decide)) hk (fun _ h => h.2)) (fun _ h => h.1)); replace HK := A_ (KeepBut.trans bK_ hk (.inl rfl)); replace HB := A_ (hb); replace HI0 := A_ (hi); (try clear hb); (try clear hk); (try clear hi)))
 go_loopg [3, 4] k (fun kq v3 v4 w' => ∃ (x3_1 : List (S72)) (x4_1 : Int) (x1001_1 : Int) (x1002_1 : Int), v4 = .int .i64 x4_1 ∧ Aside0 (spec_l10Props.l0 kq x3_1 x4_1 s0_0 x1001_1 x1002_1 = some (r1, r2, r3)) ∧ Aside0 (kq ≤ k) ∧ Aside0 (Kd.R k72 72 w' w.heap.size (fun _ => True) v3 x3_1) ∧ Aside0 (IsS116 w0 w' g s0_0 x1001_1 x1002_1) ∧ Aside0 (KeepBut w w' g none) ∧ Aside0 (Below w0.heap.size w0 w'))
 case atStart => exact ⟨(y1154), (t1157), (t1158), (t1159), rs_, H', ⟨Nat.le_refl _⟩, ⟨vR_ HO1156.out⟩, ⟨bIQx291_⟩, ⟨bK_⟩, ⟨bIQx290_⟩⟩
 case round =>
  clear H'
  try clear c1
  try clear p2
  obtain ⟨x3_1, x4_1, x1001_1, x1002_1, rfl, HA, HK1, HO_3, HI0, HK, HB⟩ := hrel
  cases gk with
  | zero => exact absurd HA.out (by simp [spec_l10Props.l0])
  | succ k1 =>
   have H := HA.out
   clear HA
   simp only [spec_l10Props.l0] at H
   by_cases c6 : x4_1 > 0
   rotate_left
   · rw [if_neg c6] at H
     have c6b0 : decide (0 < x4_1) = false := decide_eq_false c6
     clear c6
     simp only [Option.some.injEq, Prod.mk.injEq] at H
     obtain ⟨rfl, rfl, rfl⟩ := H
     go_wp2
     go_ret
     exact ⟨_, rr_, by (with_reducible repeat (first | apply Kd.R_alloc | apply Kd.R_drewN | apply Kd.R_drew)); exact HO_3.out, bIQx291_, bIQx290_, bK_⟩
   rw [if_pos c6] at H
   have c6b0 : decide (0 < x4_1) = true := decide_eq_true c6
   clear c6
   obtain ⟨⟨t1160, t1161, t1162, t1163, t1164⟩, A7, H⟩ := bo_ H
   (try dsimp only at H)
   obtain ⟨y1165, hy1165⟩ : ∃ y_ : List (S74), y_ = (([(⟨false, (⟨t1160, t1161, t1162⟩ : S72)⟩ : S74)] : List (S74))) := ⟨_, rfl⟩
   replace H : ((spec_SetProps.f k1 x3_1 y1165).bind fun bt1168 => (spec_l10Props.l0 k1 bt1168.1 (wrap64 (x4_1 - 1)) s0_0 t1163 t1164)) = some (r1, r2, r3) := hy_ hy1165 H
   have Ny1165 := Aside0.mk hy1165
   clear hy1165
   obtain ⟨⟨t1168, t1169⟩, A8, H⟩ := bo_ H
   (try dsimp only at H)
   have H' := Aside0.mk H
   clear H
   go_wp2_with (first | ((with_reducible refine gate_callee (f := 128) rfl ?_); refine gL_ (some 15) Try.func128 #[.pointer (some ⟨g, 0, none⟩)] ?_; (with_reducible refine (spec_l10OneProp.calls g s0_0 x1001_1 x1002_1 t1160 t1161 t1162 t1163 t1164 w0 _ ?s1 ?s2 A7.out).mono ?_); (case s1 => exact bIQx291_); (case s2 => exact bIQx290_); rintro e w9 ⟨rfl, hi, hb, hk⟩; refine ⟨_, rfl, ?_⟩; replace HO_3 := A_ (Kd.R_mono (Kd.R_keep (IsS116.apart (show IsS116 w0 _ g s0_0 x1001_1 x1002_1 from bIQx291_) (vR_ HO_3.out) (by decide)) hk (fun _ h => h.2)) (fun _ h => h.1)); replace HK := A_ (KeepBut.trans bK_ hk (.inl rfl)); replace HB := A_ (hb); replace HI0 := A_ (hi); (try clear hb); (try clear hk); (try clear hi)) | ((with_reducible refine gate_dst (N := 17) rfl ?_); refine Kd.R_lit k74 _ 74 ?hg (N := 17) ?hd (xs := ([(⟨false, (⟨t1160, t1161, t1162⟩ : S72)⟩ : S74)] : List (S74))) (inner := [.bool false, .string t1160, .string t1161, .string t1162]) (ok := fun _ => True) (okp := fun _ => True) ?hr ?hp (fun _ hk => hk) trivial (Below.refl _ _) (Nat.le_refl _) (by simp) ?_; (case hd => rfl); (case hg => rfl); (case hr => first | (go_simp; done) | (go_simp; rfl)); (case hp => exact (Reps.c4 (show Kd.M k74 _ _ _ (⟨false, (⟨t1160, t1161, t1162⟩ : S72)⟩ : S74) [.bool false, .string t1160, .string t1161, .string t1162] from (k74_mkM _ _ _ (⟨false, (⟨t1160, t1161, t1162⟩ : S72)⟩ : S74) )) (Reps.none _ _))); intro v1166 w10 ho11 hb hg_ hnew_; clear hg_ hnew_; (first | rw [← Ny1165.out] at ho11 | (simp only [Int.reduceToNat] at ho11; rw [← Ny1165.out] at ho11)); replace HO_3 := A_ (Kd.R_below (vR_ HO_3.out) hb); have HO1167 := A_ (Kd.R_lower ho11 (keep_size (w := w) (g := g) (row := none) bK_)); replace HK := A_ (KeepBut.trans bK_ (KeepBut.of_below hb g none) (.inl rfl)); replace HB := A_ (below_step bIQx290_ hb); replace HI0 := A_ (IsS116.below bIQx291_ hb); clear hb ho11; obtain ⟨Ao12, co12, eo12⟩ := Kd.R_slice HO_3.out; subst eo12; obtain ⟨Ao13, co13, eo13⟩ := Kd.R_slice HO1167.out; subst eo13) | ((with_reducible refine gate_callee (f := 54) rfl ?_); refine gL_ (some 18) Try.func54 #[.slice Ao12 x3_1.length co12, .slice Ao13 y1165.length co13] ?_; (with_reducible refine (spec_SetProps.calls k1 _ _ x3_1 _ _ y1165 t1168 t1169 _ ?s1 ?s2 ?s3 ?s4 A8.out).mono ?_); (case s1 => exact cC_ (Kd.R_reads' HO_3.out).2.2); (case s2 => exact (Kd.R_reads' HO_3.out).2.1); (case s3 => exact cC_ (Kd.R_reads' HO1167.out).2.2); (case s4 => exact (Kd.R_reads' HO1167.out).2.1); rintro e w14 ⟨v1170, rfl, ho0, hb⟩; refine ⟨_, rfl, ?_⟩; replace HO1167 := A_ (Kd.R_below (vR_ HO1167.out) hb); have HO1171 := A_ (Kd.R_lower (Kd.R_new' ho0 (Kd.R_lt (vR_ HO_3.out))) (keep_size (w := w) (g := g) (row := none) bK_)); replace HO_3 := A_ (Kd.R_elder' (vR_ HO_3.out) (kb_ ho0) hb); replace HK := A_ (KeepBut.trans bK_ (KeepBut.of_below hb g none) (.inl rfl)); replace HB := A_ (below_step bIQx290_ hb); replace HI0 := A_ (IsS116.below bIQx291_ hb); (try clear hb); (try clear hk); (try clear hi); (try clear ho0)))
   go_roundg k1
   case measure => have := HK1.out; omega
   case rel => exact ⟨(t1168), (wrap64 (x4_1 - 1)), (t1163), (t1164), rs_, H', ⟨by have := HK1.out; omega⟩, ⟨by (with_reducible repeat (first | apply Kd.R_alloc | apply Kd.R_drewN | apply Kd.R_drew)); exact Kd.R_mono HO1171.out (fun _ hk => trivial)⟩, ⟨bIQx291_⟩, ⟨bK_⟩, ⟨bIQx290_⟩⟩
mutual
def spec_l10Draw.l0 : Nat → List (S57) → Int → List Int → Int → Int → Option ((List (S57)) × Int × Int)
 | 0, _, _, _, _, _ => none
 | k + 1, x3, x4, x1000, x1001, x1002 => if x4 > 0 then ((spec_l10Path.f k x1000 x1001 x1002 x3).bind fun bt1178 => ((spec_l1Once.f x1000 bt1178.2.1 bt1178.2.2 2).bind fun bt1183 => (if bt1183.1 = true then ((spec_l1Below.f x1000 bt1183.2.1 bt1183.2.2 9).bind fun bt1186 => ((spec_MakeColl.f k x3 bt1178.1 bt1186.1).bind fun bt1189 => (spec_l10Draw.j1 k bt1189.1 x4 x1000 bt1186.2.1 bt1186.2.2))) else ((spec_l1Str.f x1000 bt1183.2.1 bt1183.2.2 (([(⟨#[]⟩ : ByteArray), (⟨#[120]⟩ : ByteArray), (⟨#[104, 101, 108, 108, 111]⟩ : ByteArray)] : List ByteArray))).bind fun bt1196 => ((spec_l1Below.f x1000 bt1196.2.1 bt1196.2.2 9).bind fun bt1199 => ((spec_PutFile.f k x3 bt1178.1 bt1196.1 bt1199.1).bind fun bt1202 => (spec_l10Draw.j1 k bt1202.1 x4 x1000 bt1199.2.1 bt1199.2.2))))))) else (some (x3, x1001, x1002))
def spec_l10Draw.j1 : Nat → List (S57) → Int → List Int → Int → Int → Option ((List (S57)) × Int × Int)
 | 0, _, _, _, _, _ => none
 | k + 1, x3, x4, x1000, x1001, x1002 => if (x3.length : Int) > 0 then ((spec_l1Once.f x1000 x1001 x1002 3).bind fun bt1206 => (spec_l10Draw.j2 k x3 x4 bt1206.1 x1000 bt1206.2.1 bt1206.2.2)) else (spec_l10Draw.j2 k x3 x4 false x1000 x1001 x1002)
def spec_l10Draw.j2 : Nat → List (S57) → Int → Bool → List Int → Int → Int → Option ((List (S57)) × Int × Int)
 | 0, _, _, _, _, _, _ => none
 | k + 1, x3, x4, x43, x1000, x1001, x1002 => if x43 = true then ((spec_l1Below.f x1000 x1001 x1002 (x3.length : Int)).bind fun bt1209 => ((spec_l10Props.f k x1000 bt1209.2.1 bt1209.2.2).bind fun bt1212 => (if 0 ≤ bt1209.1 then (if bt1209.1 < (x3.length : Int) then (spec_l10Draw.l0 k (x3.set (bt1209.1 : Int).toNat (⟨(rd_T57 x3 bt1209.1).f0, (rd_T57 x3 bt1209.1).f1, (rd_T57 x3 bt1209.1).f2, (rd_T57 x3 bt1209.1).f3, bt1212.1⟩ : S57)) (wrap64 (x4 - 1)) x1000 bt1212.2.1 bt1212.2.2) else (none)) else (none)))) else (spec_l10Draw.l0 k x3 (wrap64 (x4 - 1)) x1000 x1001 x1002)
end
def spec_l10Draw.f (k : Nat) (s0_0 : List Int) (s0_1 : Int) (s0_2 : Int) : Option ((List (S57)) × Int × Int) := (spec_l1Below.f s0_0 s0_1 s0_2 10).bind fun bt1175 => (spec_l10Draw.l0 k (([] : List (S57))) bt1175.1 s0_0 bt1175.2.1 bt1175.2.2)
def spec_DrawShelves.f (k : Nat) (l0 : List Int) : Option ((List (S57)) × List ByteArray × List ByteArray) := (spec_l1New.f k l0).bind fun bt1218 => ((spec_l10Draw.f k bt1218.1 bt1218.2.1 bt1218.2.2).bind fun bt1222 => ((spec_l10Path.f k bt1218.1 bt1222.2.1 bt1222.2.2 bt1222.1).bind fun bt1227 => ((spec_l10Path.f k bt1218.1 bt1227.2.1 bt1227.2.2 bt1222.1).bind fun bt1232 => (some (bt1222.1, bt1227.1, bt1232.1)))))
theorem eqA72 (d : Nat) (w : World) (x0 y0 : ByteArray) (x1 y1 : ByteArray) (x2 y2 : ByteArray) :
    (Op.equalIn (d + 2) 72 (.agg #[.string x0, .string x1, .string x2]) (.agg #[.string y0, .string y1, .string y2])).run Try.prog w = .ok (x0.toList == y0.toList && (x1.toList == y1.toList && (x2.toList == y2.toList))) w := by
  refine eqA_of Try.underlying72 (by kernel_rfl) ?_
  refine eqf_cons (by rfl) (by go_simp; rfl) (by go_simp; rfl) (by go_simp) ?_
  refine eqf_cons (by rfl) (by go_simp; rfl) (by go_simp; rfl) (by go_simp) ?_
  exact eqf_last (by rfl) (by go_simp; rfl) (by go_simp; rfl) (by go_simp)
end Go.Proofs.Ytbgggcgjijljkaa.Q
