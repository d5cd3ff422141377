-- PRINTED by print.py (a twelfth state) out of the translation. Not trusted: Lean checks it.
import Derived.Test.YteabkidfgdmmpaaVFnTreesBentG28
namespace Go.Proofs.Yteabkidfgdmmpaa.Q
open Go.RowKit Go.Proofs.YteabkidfgdmmpaaW.PrintWords Go.Proofs.YteabkidfgdmmpaaW.PrintLast Go.Proofs.YteabkidfgdmmpaaW.PrintMore
attribute [local go_sem] max2_int min2_int max_two min_two max_three min_three max_four min_four   -- for this text's walks alone
set_option linter.unusedVariables false
set_option linter.unusedSimpArgs false
mutual
def spec_l12One.l0 : Nat → List (S71) → List (S71) → Bool → Int → Bool → ByteArray → ByteArray → ByteArray → Option ((List (S71)))
 | 0, _, _, _, _, _, _, _, _ => none
 | k + 1, x0, x5, x6, x7, x726000, x726001, x726002, x726003 => if x7 < (x0.length : Int) then (if x6 = true then (spec_l12One.j1 k x0 x5 x6 x7 false x726000 x726001 x726002 x726003) else (if 0 ≤ x7 then ((spec_l10LessProp.f ((rd_T71 x0 x7).f0) ((rd_T71 x0 x7).f1) ((rd_T71 x0 x7).f2) x726001 x726002 x726003).bind fun t733 => (spec_l12One.j1 k x0 x5 x6 x7 (!t733) x726000 x726001 x726002 x726003)) else (none))) else (if x6 = true then (some x5) else (if x5.length < 2932031007402 then (some (x5 ++ [(⟨x726001, x726002, x726003⟩ : S71)])) else (none)))
def spec_l12One.j1 : Nat → List (S71) → List (S71) → Bool → Int → Bool → Bool → ByteArray → ByteArray → ByteArray → Option ((List (S71)))
 | 0, _, _, _, _, _, _, _, _, _ => none
 | k + 1, x0, x5, x6, x7, x28, x726000, x726001, x726002, x726003 => if x28 = true then (if x5.length < 2932031007402 then ((some (x5 ++ [(⟨x726001, x726002, x726003⟩ : S71)] : List (S71))).bind fun y734 => (if 0 ≤ x7 then (if x7 < (x0.length : Int) then (if ((rd_T71 x0 x7).f0).toList = x726001.toList then (if ((rd_T71 x0 x7).f1).toList = x726002.toList then (spec_l12One.l0 k x0 y734 true (wrap64 (x7 + 1)) x726000 x726001 x726002 x726003) else (if y734.length < 2932031007402 then (spec_l12One.l0 k x0 (y734 ++ [(⟨(rd_T71 x0 x7).f0, (rd_T71 x0 x7).f1, (rd_T71 x0 x7).f2⟩ : S71)]) true (wrap64 (x7 + 1)) x726000 x726001 x726002 x726003) else (none))) else (if y734.length < 2932031007402 then (spec_l12One.l0 k x0 (y734 ++ [(⟨(rd_T71 x0 x7).f0, (rd_T71 x0 x7).f1, (rd_T71 x0 x7).f2⟩ : S71)]) true (wrap64 (x7 + 1)) x726000 x726001 x726002 x726003) else (none))) else (none)) else (none))) else (none)) else (if 0 ≤ x7 then (if x7 < (x0.length : Int) then (if ((rd_T71 x0 x7).f0).toList = x726001.toList then (if ((rd_T71 x0 x7).f1).toList = x726002.toList then (spec_l12One.l0 k x0 x5 x6 (wrap64 (x7 + 1)) x726000 x726001 x726002 x726003) else (if x5.length < 2932031007402 then (spec_l12One.l0 k x0 (x5 ++ [(⟨(rd_T71 x0 x7).f0, (rd_T71 x0 x7).f1, (rd_T71 x0 x7).f2⟩ : S71)]) x6 (wrap64 (x7 + 1)) x726000 x726001 x726002 x726003) else (none))) else (if x5.length < 2932031007402 then (spec_l12One.l0 k x0 (x5 ++ [(⟨(rd_T71 x0 x7).f0, (rd_T71 x0 x7).f1, (rd_T71 x0 x7).f2⟩ : S71)]) x6 (wrap64 (x7 + 1)) x726000 x726001 x726002 x726003) else (none))) else (none)) else (none))
end
def spec_l12One.f (k : Nat) (l0 : List (S71)) (a1_0 : Bool) (a1_1 : ByteArray) (a1_2 : ByteArray) (a1_3 : ByteArray) : Option ((List (S71))) := spec_l12One.l0 k l0 (([] : List (S71))) a1_0 0 a1_0 a1_1 a1_2 a1_3
def spec_l12One.T6 : Bool × List (List Nat × List Nat) := (true, [([], []), ([0], [0]), ([1], [1]), ([2], [2]), ([2], [2]), ([3, 4, 2], [2, 3, 4]), ([5, 2], [2, 5]), ([2], [2]), ([7, 2], [2, 7]), ([6, 8, 2, 2], [2, 6, 8]), ([9, 2], [2, 9]), ([2, 10], [2, 10])])
def spec_l12One.B6 : List Nat := [0, 1, 3, 7, 7, 31, 63, 7, 135, 511, 1023, 2047]
theorem spec_l12One.tab6 : rtab .any (opsOf Try.f122 6) = spec_l12One.T6 := by kernel_rfl
theorem spec_l12One.bits6 : waitsOk spec_l12One.T6.2 spec_l12One.B6 = true := by kernel_rfl
def spec_l12One.T9 : Bool × List (List Nat × List Nat) := (true, [([], []), ([], []), ([0, 1], [0, 1]), ([2], [2]), ([3], [3]), ([], []), ([5], [5]), ([6], [6]), ([4, 7], [4, 7]), ([8], [8]), ([9], [9]), ([9], [9]), ([10, 11, 9], [9, 10, 11]), ([12, 9], [9, 12]), ([13, 9], [9, 13]), ([9], [9]), ([15, 9], [9, 15]), ([16, 9], [9, 16]), ([14, 17, 9], [9, 14, 17]), ([9, 18], [9, 18])])
def spec_l12One.B9 : List Nat := [0, 0, 3, 7, 15, 0, 32, 96, 255, 511, 1023, 1023, 4095, 8191, 16383, 1023, 33791, 99327, 262143, 524287]
theorem spec_l12One.tab9 : rtab .any (opsOf Try.f122 9) = spec_l12One.T9 := by kernel_rfl
theorem spec_l12One.bits9 : waitsOk spec_l12One.T9.2 spec_l12One.B9 = true := by kernel_rfl
set_option maxHeartbeats 8000000 in
set_option maxRecDepth 100000 in
theorem spec_l12One.calls (k : Nat) (A0 : Option Addr) (c0 : Nat) (l0 : List (S71)) (a1_0 : Bool) (a1_1 : ByteArray) (a1_2 : ByteArray) (a1_3 : ByteArray) (r : List (S71)) (w : World) (hr0 : Kd.C k71 w A0 l0.length l0) (hc0 : l0.length ≤ c0) (h : spec_l12One.f k l0 a1_0 a1_1 a1_2 a1_3 = some r) :
 Calls Try.prog 122 #[.slice A0 l0.length c0, .agg #[.bool a1_0, .string a1_1, .string a1_2, .string a1_3]] w fun e w' => ∃ v0_ : Value, e = .returned (v0_) ∧ Kd.R k71 71 w' w.heap.size (fun _ => True) v0_ r ∧ Below w.heap.size w w' := by
 have hu106 := Try.underlying106
 have hu71 := Try.underlying71
 have HR0 := A_ hr0
 have HC0 := A_ hc0
 clear hr0 hc0
 have HB := A_ (Below.refl w.heap.size w)
 have H : (spec_l12One.l0 k l0 (([] : List (S71))) a1_0 0 a1_0 a1_1 a1_2 a1_3) = some r := h
 clear h
 obtain ⟨y726, hy726⟩ : ∃ y_ : List (S71), y_ = (([] : List (S71))) := ⟨_, rfl⟩
 replace H : (spec_l12One.l0 k l0 y726 a1_0 0 a1_0 a1_1 a1_2 a1_3) = some r := hy_ hy726 H
 have Ny726 := A_ hy726
 clear hy726
 have H' := A_ H
 clear H
 go_enter Try.func122, Try.ntmps122
 go_wp2_with (first | ((with_reducible refine gd_ (N := 3) rfl ?_); refine bx_ (N := 3) (cs := #[.bool a1_0, .string a1_1, .string a1_2, .string a1_3]) (t := 106) ?_; intro gb725 hg w3 hbox hb; have BK725 := A_ (hbox); have GW725 := A_ (ge_ hg bB_ : w.heap.size ≤ gb725); have GE725 := A_ (ge_ hg bB_ : w.heap.size ≤ gb725); replace HB := A_ (below_step bB_ hb); clear hb hbox hg) | ((with_reducible refine gd_ (N := 8) rfl ?_); refine Kd.R_lit k71 _ 71 ?hg (N := 8) ?hd (xs := ([] : List (S71))) (inner := []) (ok := fun _ => True) (okp := fun _ => True) ?hr ?hp (fun _ hk => hk) trivial (Below.refl _ _) (Nat.le_refl _) (by simp) ?_; (case hd => rfl); (case hg => rfl); (case hr => first | (go_simp; done) | (go_simp; rfl)); (case hp => exact (Reps.none _ _)); intro v727 w4 ho5 hb hg_ hnew_; clear hg_ hnew_; (first | rw [← Ny726.out] at ho5 | (simp only [Int.reduceToNat] at ho5; rw [← Ny726.out] at ho5)); have HO728 := A_ (Kd.R_lower ho5 (below_size (bG_ GE725.out))); replace BK725 := A_ (bw_ BK725.out hb); replace HB := A_ (below_step (bG_ GE725.out) hb); clear hb ho5; obtain ⟨hcz6_0, hcz6_1, hcz6_2, hcz6_3, hfz6_0, hfz6_1, hfz6_2, hfz6_3⟩ := cz4_ BK725.out))
 go_loopg [5, 6, 7] k (fun kq v5 v6 v7 w' => ∃ (x5_1 : List (S71)) (x6_1 : Bool) (x7_1 : Int), v6 = .bool x6_1 ∧ v7 = .int .i64 x7_1 ∧ Aside0 (spec_l12One.l0 kq l0 x5_1 x6_1 x7_1 a1_0 a1_1 a1_2 a1_3 = some r) ∧ Aside0 (kq ≤ k) ∧ Aside0 (Kd.R k71 71 w' w.heap.size (fun _ => True) v5 x5_1) ∧ Aside0 (w'.heap[gb725]? = some (.cells #[.bool a1_0, .string a1_1, .string a1_2, .string a1_3] 106 (0, 0))) ∧ Aside0 (Below w.heap.size w w'))
 case atStart => exact ⟨(y726), (a1_0), (0), rs_, rs_, H', ⟨Nat.le_refl _⟩, ⟨vR_ HO728.out⟩, ⟨vb_ BK725.out⟩, ⟨bG_ GE725.out⟩⟩
 case round =>
  clear H'
  try clear c1
  try clear p2
  try clear hcz6_0
  try clear hcz6_1
  try clear hcz6_2
  try clear hcz6_3
  try clear hfz6_0
  try clear hfz6_1
  try clear hfz6_2
  try clear hfz6_3
  obtain ⟨x5_1, x6_1, x7_1, rfl, rfl, HA, HK1, HO_5, BK725, HB⟩ := hrel
  cases gk with
  | zero => exact absurd HA.out (by simp [spec_l12One.l0])
  | succ k1 =>
   have H := HA.out
   clear HA
   simp only [spec_l12One.l0] at H
   by_cases c7 : x7_1 < (l0.length : Int)
   rotate_left
   · rw [if_neg c7] at H
     have c7b0 : decide (x7_1 < (l0.length : Int)) = false := decide_eq_false c7
     clear c7
     by_cases c45 : x6_1 = true
     · subst c45
       rw [if_pos rfl] at H
       obtain rfl := si_ H
       go_wp2
       go_ret
       exact ⟨_, rr_, by (with_reducible repeat (first | apply Kd.R_alloc | apply Kd.R_drewN | apply Kd.R_drew)); exact HO_5.out, bG_ GE725.out⟩
     · replace c45 := Bool.eq_false_iff.mpr c45
       subst c45
       rw [if_neg nf_] at H
       by_cases c46 : x5_1.length < 2932031007402
       rotate_left
       · exact absurd H (by rw [if_neg c46]; simp)
       rw [if_pos c46] at H
       have LMc46 := A_ c46
       clear c46
       obtain ⟨y729, hy729⟩ : ∃ y_ : List (S71), y_ = (x5_1 ++ [(⟨a1_1, a1_2, a1_3⟩ : S71)]) := ⟨_, rfl⟩
       replace H : (some y729) = some r := hy_ hy729 H
       have Ny729 := A_ hy729
       clear hy729
       obtain rfl := si_ H
       have hcz47_0 : wr.cell? ⟨gb725, 0, none⟩ = some (.bool a1_0) := bl_ BK725.out 0
       have hcz47_1 : wr.cell? ⟨gb725, 1, none⟩ = some (.string a1_1) := bl_ BK725.out 1
       have hcz47_2 : wr.cell? ⟨gb725, 2, none⟩ = some (.string a1_2) := bl_ BK725.out 2
       have hcz47_3 : wr.cell? ⟨gb725, 3, none⟩ = some (.string a1_3) := bl_ BK725.out 3
       have hfz47_0 := blk_frozen BK725.out 0
       have hfz47_1 := blk_frozen BK725.out 1
       have hfz47_2 := blk_frozen BK725.out 2
       have hfz47_3 := blk_frozen BK725.out 3
       go_wp2_with (first | ((with_reducible refine gate_builtin (b := .append) (xs := #[.tmp 63, .tmp 66]) rfl ?_); at_builtin; refine Kd.R_append k71 (w0 := w) w.heap.size rfl (.tmp 63) (.tmp 66) 31 71 (.agg #[(.string ⟨#[]⟩), (.string ⟨#[]⟩), (.string ⟨#[]⟩)]) 48 rfl Try.underlying31 info71 rfl (by decide) (by omega) u5 x5_1 (⟨a1_1, a1_2, a1_3⟩ : S71) [.string a1_1, .string a1_2, .string a1_3] (fun _ => True) (fun _ => False) rfl rfl ?aP (fun _ hk => hk.elim) ?aF ?aO ?aB ?aS ?aL ?_; (case aP => exact k71_mkM _ _ _ (⟨a1_1, a1_2, a1_3⟩ : S71)); (case aB => exact (bG_ GE725.out)); (case aF => exact (fun _ _ => trivial)); (case aO => exact (vR_ HO_5.out)); (case aS => exact (below_size (bG_ GE725.out))); (case aL => have := LMc46.out; omega); intro v730 w48 ho hb hg hat; rw [← Ny729.out] at ho; replace BK725 := A_ (blk_grown (g := gb725) (o := .cells #[.bool a1_0, .string a1_1, .string a1_2, .string a1_3] 106 (0, 0)) (vb_ BK725.out) hg (Kd.R_ne HO_5.out BK725.out (by decide))); replace HB := A_ (hb); have HO731 := A_ (ho); clear HO_5; clear ho hb hg hat))
       go_ret
       exact ⟨_, rr_, by (with_reducible repeat (first | apply Kd.R_alloc | apply Kd.R_drewN | apply Kd.R_drew)); exact HO731.out, bG_ GE725.out⟩
   rw [if_pos c7] at H
   have c7b0 : decide (x7_1 < (l0.length : Int)) = true := decide_eq_true c7
   clear c7
   have HC8 := A_ H
   clear H
   go_upto_region 6 with (fail)
   go_cut [28] (fun v28 wc => ∃ (kq : Nat) (x28_7 : Bool), v28 = .bool x28_7 ∧ Aside0 (spec_l12One.j1 kq l0 x5_1 x6_1 x7_1 x28_7 a1_0 a1_1 a1_2 a1_3 = some r) ∧ Aside0 (kq ≤ k1) ∧ Aside0 (Kd.R k71 71 wc w.heap.size (fun _ => True) u5 x5_1) ∧ Aside0 (wc.heap[gb725]? = some (.cells #[.bool a1_0, .string a1_1, .string a1_2, .string a1_3] 106 (0, 0))) ∧ Aside0 (Below w.heap.size w wc))
   case first =>
    have H := HC8.out
    clear HC8
    by_cases c9 : x6_1 = true
    · subst c9
      rw [if_pos rfl] at H
      have H' := A_ H
      clear H
      try go_wp2
      replace HO_5 := A_ (Kd.R_drew HO_5.out)
      replace BK725 := A_ (blk_drew BK725.out)
      replace HB := A_ (below_drew1 HB.out)
      refine start_ (n := 12) (S := fun w' => True) (ds := []) #[false, false, false, false, false, false, false, false, false, false, false, false] (by kernel_rfl) rfl rfl trivial (fun hHeld => ?_); refine with_tabW spec_l12One.tab6 spec_l12One.bits6 (fun HT_ HW_ => ?_)
      generalize wr.drew = w10 at HO_5 BK725 HB hHeld ⊢
      refine pu_ (i := 0) (N := some 17) ?_
      refine pu_ (i := 1) (N := some 18) ?_
      refine pu_ (i := 2) (N := some 19) ?_
      refine pn_ (i := 3) (N := some 20) ?_
      refine pn_ (i := 4) (N := some 21) ?_
      refine pn_ (i := 5) (N := some 22) ?_
      refine pn_ (i := 6) (N := some 23) ?_
      refine pn_ (i := 7) (N := some 24) ?_
      refine pn_ (i := 8) (N := some 25) ?_
      refine pn_ (i := 9) (N := some 26) ?_
      refine pn_ (i := 10) (N := some 27) ?_
      refine pu_ (i := 11) (N := some 28) ?_
      refine done_ (done_of HT_.out (by kernel_rfl)) ?_
      (try clear hHeld)
      try go_wp2
      go_meet
      case rel => exact ⟨_, (false), rs_, H', ⟨by have := HK1.out; first | omega | exact Nat.le_refl _⟩, ⟨vR_ HO_5.out⟩, ⟨vb_ BK725.out⟩, ⟨bG_ GE725.out⟩⟩
    · replace c9 := Bool.eq_false_iff.mpr c9
      subst c9
      rw [if_neg nf_] at H
      by_cases c11 : 0 ≤ x7_1
      rotate_left
      · exact absurd H (by rw [if_neg c11]; simp)
      rw [if_pos c11] at H
      have c11b0 : decide (0 ≤ x7_1) = true := decide_eq_true c11
      clear c11
      (first | rw [c11b0] | (simp only [i64_w, i32_w]; rw [c11b0]) | skip)
      obtain ⟨t733, A12, H⟩ := bo_ H
      (try dsimp only at H)
      have H' := A_ H
      clear H
      try go_wp2
      replace HO_5 := A_ (Kd.R_drew HO_5.out)
      replace BK725 := A_ (blk_drew BK725.out)
      replace HB := A_ (below_drew1 HB.out)
      have p732 : 0 ≤ (x7_1 : Int) := od_
      have q732 : x7_1 < (l0.length : Int) := od_
      obtain ⟨ad732, e732, hx732_0, hx732_1, hx732_2⟩ := at_T71 HR0.out x7_1 p732 q732
      have hw732_2 := hx732_2
      have hw732_1 := hx732_1
      have hw732_0 := hx732_0
      cases e732
      replace hx732_0 := bc_ HB.out hx732_0
      replace hx732_1 := bc_ HB.out hx732_1
      replace hx732_2 := bc_ HB.out hx732_2
      replace p732 := eq_true p732
      replace q732 := eq_true q732
      refine start_ (n := 12) (S := fun w' => w'.cell? ⟨gb725, 0, none⟩ = some (.bool a1_0) ∧ w'.cell? ⟨gb725, 1, none⟩ = some (.string a1_1) ∧ w'.cell? ⟨gb725, 2, none⟩ = some (.string a1_2) ∧ w'.cell? ⟨gb725, 3, none⟩ = some (.string a1_3) ∧ w'.cell? (ad732.add ((x7_1).toNat * 3)) = some (.string ((rd_T71 l0 x7_1).f0)) ∧ w'.cell? ⟨(ad732.add ((x7_1).toNat * 3)).block, (ad732.add ((x7_1).toNat * 3)).off + 1, none⟩ = some (.string ((rd_T71 l0 x7_1).f1)) ∧ w'.cell? ⟨(ad732.add ((x7_1).toNat * 3)).block, (ad732.add ((x7_1).toNat * 3)).off + 2, none⟩ = some (.string ((rd_T71 l0 x7_1).f2))) (ds := []) #[false, false, false, false, false, false, false, false, false, false, false, false] (by kernel_rfl) rfl rfl ⟨bl_ BK725.out 0, bl_ BK725.out 1, bl_ BK725.out 2, bl_ BK725.out 3, (be_ hw732_0), (be_ hw732_1), (be_ hw732_2)⟩ (fun hHeld => ?_); refine with_tabW spec_l12One.tab6 spec_l12One.bits6 (fun HT_ HW_ => ?_)
      generalize wr.drew = w13 at HO_5 BK725 HB hx732_0 hx732_1 hx732_2 hHeld ⊢
      refine pu_ (i := 0) (N := some 17) ?_
      refine pu_ (i := 1) (N := some 18) ?_
      refine pu_ (i := 2) (N := some 19) ?_
      refine pu_ (i := 3) (N := some 20) ?_
      refine pu_ (i := 4) (N := some 21) ?_
      refine pu_ (i := 5) (N := some 22) ?_
      refine pu_ (i := 7) (N := some 24) ?_
      refine tk_ (i := 6) (N := some 23) hHeld ?_
      refine tk_ (i := 8) (N := some 25) hHeld ?_
      refine on_ (i := 9) (N := some 26) (fun K hK => ?_)
      refine goes_ Try.func68 (by kernel_rfl) rfl #[.agg #[.string ((rd_T71 l0 x7_1).f0), .string ((rd_T71 l0 x7_1).f1), .string ((rd_T71 l0 x7_1).f2)], .agg #[.string a1_1, .string a1_2, .string a1_3]] (by rfl) rfl rfl ml_ ?_
      with_reducible refine (spec_l10LessProp.calls ((rd_T71 l0 x7_1).f0) ((rd_T71 l0 x7_1).f1) ((rd_T71 l0 x7_1).f2) a1_1 a1_2 a1_3 t733 _ A12.out).mono ?_
      rintro e w14 ⟨rfl, hb⟩
      refine ⟨_, rfl, ?_⟩
      replace HO_5 := A_ (Kd.R_below (vR_ HO_5.out) hb)
      replace BK725 := A_ (bw_ BK725.out hb)
      replace HB := A_ (below_step (bG_ GE725.out) hb)
      (try clear hb)
      (try clear hb2)
      (try clear hk)
      (try clear hi)
      refine hK.out _ _ ⟨bl_ BK725.out 0, bl_ BK725.out 1, bl_ BK725.out 2, bl_ BK725.out 3, (be_ hw732_0), (be_ hw732_1), (be_ hw732_2)⟩ (fun hHeld => ?_)
      clear hK K
      refine no_ (some 26) ?_
      refine pu_ (i := 10) (N := some 27) ?_
      refine pu_ (i := 11) (N := some 28) ?_
      refine done_ (done_of HT_.out (by kernel_rfl)) ?_
      (try clear hHeld)
      try go_wp2
      go_meet
      case rel => exact ⟨_, (!t733), rs_, H', ⟨by have := HK1.out; first | omega | exact Nat.le_refl _⟩, ⟨vR_ HO_5.out⟩, ⟨vb_ BK725.out⟩, ⟨bG_ GE725.out⟩⟩
   case rest =>
    clear HC8
    try clear c1
    try clear p2
    try clear c6
    try clear c7
    try clear c7b0
    try clear p7
    try clear q7
    try clear hx7
    try clear c9
    try clear c11
    try clear c11b0
    try clear c12
    try clear hcz6_0
    try clear hcz6_1
    try clear hcz6_2
    try clear hcz6_3
    try clear hfz6_0
    try clear hfz6_1
    try clear hfz6_2
    try clear hfz6_3
    try clear hx732_0
    try clear hx732_1
    try clear hx732_2
    try clear p2
    try clear p732
    try clear q732
    obtain ⟨kq, x28_7, rfl, HA, HJ7, HO_5, BK725, HB⟩ := hcut
    cases kq with
    | zero => exact absurd HA.out (by simp [spec_l12One.j1])
    | succ kj7 =>
     have H := HA.out
     clear HA
     simp only [spec_l12One.j1] at H
     by_cases c15 : x28_7 = true
     · subst c15
       rw [if_pos rfl] at H
       by_cases c16 : x5_1.length < 2932031007402
       rotate_left
       · exact absurd H (by rw [if_neg c16]; simp)
       rw [if_pos c16] at H
       have LMc16 := A_ c16
       clear c16
       obtain ⟨y734, hy734⟩ : ∃ y_ : List (S71), y_ = (x5_1 ++ [(⟨a1_1, a1_2, a1_3⟩ : S71)]) := ⟨_, rfl⟩
       replace H : (if 0 ≤ x7_1 then (if x7_1 < (l0.length : Int) then (if ((rd_T71 l0 x7_1).f0).toList = a1_1.toList then (if ((rd_T71 l0 x7_1).f1).toList = a1_2.toList then (spec_l12One.l0 kj7 l0 y734 true (wrap64 (x7_1 + 1)) a1_0 a1_1 a1_2 a1_3) else (if y734.length < 2932031007402 then (spec_l12One.l0 kj7 l0 (y734 ++ [(⟨(rd_T71 l0 x7_1).f0, (rd_T71 l0 x7_1).f1, (rd_T71 l0 x7_1).f2⟩ : S71)]) true (wrap64 (x7_1 + 1)) a1_0 a1_1 a1_2 a1_3) else (none))) else (if y734.length < 2932031007402 then (spec_l12One.l0 kj7 l0 (y734 ++ [(⟨(rd_T71 l0 x7_1).f0, (rd_T71 l0 x7_1).f1, (rd_T71 l0 x7_1).f2⟩ : S71)]) true (wrap64 (x7_1 + 1)) a1_0 a1_1 a1_2 a1_3) else (none))) else (none)) else (none)) = some r := hy_ hy734 H
       have Ny734 := A_ hy734
       clear hy734
       by_cases c17 : 0 ≤ x7_1
       rotate_left
       · exact absurd H (by rw [if_neg c17]; simp)
       rw [if_pos c17] at H
       have c17b0 : decide (0 ≤ x7_1) = true := decide_eq_true c17
       clear c17
       by_cases c18 : x7_1 < (l0.length : Int)
       rotate_left
       · exact absurd H (by rw [if_neg c18]; simp)
       rw [if_pos c18] at H
       have c18b0 : decide (x7_1 < (l0.length : Int)) = true := decide_eq_true c18
       clear c18
       by_cases c19 : ((rd_T71 l0 x7_1).f0).toList = a1_1.toList
       rotate_left
       · rw [if_neg c19] at H
         have c19b0 : (((rd_T71 l0 x7_1).f0).toList == a1_1.toList) = false := beq_eq_false_iff_ne.mpr c19
         have c19b1 : (((rd_T71 l0 x7_1).f0).toList != a1_1.toList) = true := bne_iff_ne.mpr c19
         by_cases c29 : y734.length < 2932031007402
         rotate_left
         · exact absurd H (by rw [if_neg c29]; simp)
         rw [if_pos c29] at H
         have LMc29 := A_ c29
         clear c29
         obtain ⟨y744, hy744⟩ : ∃ y_ : List (S71), y_ = (y734 ++ [(⟨(rd_T71 l0 x7_1).f0, (rd_T71 l0 x7_1).f1, (rd_T71 l0 x7_1).f2⟩ : S71)]) := ⟨_, rfl⟩
         replace H : (spec_l12One.l0 kj7 l0 y744 true (wrap64 (x7_1 + 1)) a1_0 a1_1 a1_2 a1_3) = some r := hy_ hy744 H
         have Ny744 := A_ hy744
         clear hy744
         have H' := A_ H
         clear H
         have hcz30_0 : wc.cell? ⟨gb725, 0, none⟩ = some (.bool a1_0) := bl_ BK725.out 0
         have hcz30_1 : wc.cell? ⟨gb725, 1, none⟩ = some (.string a1_1) := bl_ BK725.out 1
         have hcz30_2 : wc.cell? ⟨gb725, 2, none⟩ = some (.string a1_2) := bl_ BK725.out 2
         have hcz30_3 : wc.cell? ⟨gb725, 3, none⟩ = some (.string a1_3) := bl_ BK725.out 3
         have hfz30_0 := blk_frozen BK725.out 0
         have hfz30_1 := blk_frozen BK725.out 1
         have hfz30_2 := blk_frozen BK725.out 2
         have hfz30_3 := blk_frozen BK725.out 3
         try go_wp2_with (first | ((with_reducible refine gate_builtin (b := .append) (xs := #[.tmp 29, .tmp 32]) rfl ?_); at_builtin; refine Kd.R_append k71 (w0 := w) w.heap.size rfl (.tmp 29) (.tmp 32) 31 71 (.agg #[(.string ⟨#[]⟩), (.string ⟨#[]⟩), (.string ⟨#[]⟩)]) 48 rfl Try.underlying31 info71 rfl (by decide) (by omega) u5 x5_1 (⟨a1_1, a1_2, a1_3⟩ : S71) [.string a1_1, .string a1_2, .string a1_3] (fun _ => True) (fun _ => False) rfl rfl ?aP (fun _ hk => hk.elim) ?aF ?aO ?aB ?aS ?aL ?_; (case aP => exact k71_mkM _ _ _ (⟨a1_1, a1_2, a1_3⟩ : S71)); (case aB => exact (bG_ GE725.out)); (case aF => exact (fun _ _ => trivial)); (case aO => exact (vR_ HO_5.out)); (case aS => exact (below_size (bG_ GE725.out))); (case aL => have := LMc16.out; omega); intro v735 w31 ho hb hg hat; rw [← Ny734.out] at ho; replace BK725 := A_ (blk_grown (g := gb725) (o := .cells #[.bool a1_0, .string a1_1, .string a1_2, .string a1_3] 106 (0, 0)) (vb_ BK725.out) hg (Kd.R_ne HO_5.out BK725.out (by decide))); replace HB := A_ (hb); have HO736 := A_ (ho); clear HO_5; clear ho hb hg hat))
         replace HO736 := A_ (Kd.R_drew HO736.out)
         replace BK725 := A_ (blk_drew BK725.out)
         replace HB := A_ (below_drew1 HB.out)
         have p737 : 0 ≤ (x7_1 : Int) := od_
         have q737 : x7_1 < (l0.length : Int) := od_
         obtain ⟨ad737, e737, hx737_0, hx737_1, hx737_2⟩ := at_T71 HR0.out x7_1 p737 q737
         have hw737_2 := hx737_2
         have hw737_1 := hx737_1
         have hw737_0 := hx737_0
         cases e737
         replace hx737_0 := bc_ HB.out hx737_0
         replace hx737_1 := bc_ HB.out hx737_1
         replace hx737_2 := bc_ HB.out hx737_2
         replace p737 := eq_true p737
         replace q737 := eq_true q737
         refine start_ (n := 20) (S := fun w' => w'.cell? ⟨gb725, 0, none⟩ = some (.bool a1_0) ∧ w'.cell? ⟨gb725, 1, none⟩ = some (.string a1_1) ∧ w'.cell? ⟨gb725, 2, none⟩ = some (.string a1_2) ∧ w'.cell? ⟨gb725, 3, none⟩ = some (.string a1_3) ∧ w'.cell? (ad737.add ((x7_1).toNat * 3)) = some (.string ((rd_T71 l0 x7_1).f0)) ∧ w'.cell? ⟨(ad737.add ((x7_1).toNat * 3)).block, (ad737.add ((x7_1).toNat * 3)).off + 1, none⟩ = some (.string ((rd_T71 l0 x7_1).f1)) ∧ w'.cell? ⟨(ad737.add ((x7_1).toNat * 3)).block, (ad737.add ((x7_1).toNat * 3)).off + 2, none⟩ = some (.string ((rd_T71 l0 x7_1).f2))) (ds := []) #[false, false, false, false, false, false, false, false, false, false, false, false, false, false, false, false, false, false, false, false] (by kernel_rfl) rfl rfl ⟨bl_ BK725.out 0, bl_ BK725.out 1, bl_ BK725.out 2, bl_ BK725.out 3, (be_ hw737_0), (be_ hw737_1), (be_ hw737_2)⟩ (fun hHeld => ?_); refine with_tabW spec_l12One.tab9 spec_l12One.bits9 (fun HT_ HW_ => ?_)
         generalize w31.drew = w32 at HO736 BK725 HB hx737_0 hx737_1 hx737_2 hHeld ⊢
         refine pu_ (i := 0) (N := some 34) ?_
         refine pu_ (i := 1) (N := some 35) ?_
         refine pu_ (i := 2) (N := some 36) ?_
         refine pu_ (i := 3) (N := some 37) ?_
         refine pu_ (i := 5) (N := some 39) ?_
         refine pu_ (i := 6) (N := some 40) ?_
         refine tk_ (i := 4) (N := some 38) hHeld ?_
         refine tk_ (i := 7) (N := some 41) hHeld ?_
         refine pu_ (i := 8) (N := some 42) ?_
         refine pu_ (i := 9) (N := some 43) ?_
         refine pn_ (i := 10) (N := some 44) ?_
         refine pn_ (i := 11) (N := some 45) ?_
         refine pn_ (i := 12) (N := some 46) ?_
         refine pn_ (i := 13) (N := some 47) ?_
         refine pn_ (i := 14) (N := some 48) ?_
         refine pn_ (i := 15) (N := some 49) ?_
         refine pn_ (i := 16) (N := some 50) ?_
         refine pn_ (i := 17) (N := some 51) ?_
         refine pn_ (i := 18) (N := some 52) ?_
         refine pu_ (i := 19) (N := some 53) ?_
         refine done_ (done_of HT_.out (by kernel_rfl)) ?_
         (try clear hHeld)
         have p743 : 0 ≤ (x7_1 : Int) := od_
         have q743 : x7_1 < (l0.length : Int) := od_
         obtain ⟨ad743, e743, hx743_0, hx743_1, hx743_2⟩ := at_T71 HR0.out x7_1 p743 q743
         obtain rfl : ad737 = ad743 := (by injection e743)
         replace hx743_0 := bc_ HB.out hx743_0
         replace hx743_1 := bc_ HB.out hx743_1
         replace hx743_2 := bc_ HB.out hx743_2
         replace p743 := eq_true p743
         replace q743 := eq_true q743
         try go_wp2_with (first | ((with_reducible refine gate_builtin (b := .append) (xs := #[.tmp 54, .tmp 59]) rfl ?_); at_builtin; refine Kd.R_append k71 (w0 := w) w.heap.size rfl (.tmp 54) (.tmp 59) 31 71 (.agg #[(.string ⟨#[]⟩), (.string ⟨#[]⟩), (.string ⟨#[]⟩)]) 48 rfl Try.underlying31 info71 rfl (by decide) (by omega) v735 y734 (⟨(rd_T71 l0 x7_1).f0, (rd_T71 l0 x7_1).f1, (rd_T71 l0 x7_1).f2⟩ : S71) [.string ((rd_T71 l0 x7_1).f0), .string ((rd_T71 l0 x7_1).f1), .string ((rd_T71 l0 x7_1).f2)] (fun _ => True) (fun _ => False) rfl rfl ?aP (fun _ hk => hk.elim) ?aF ?aO ?aB ?aS ?aL ?_; (case aP => exact k71_mkM _ _ _ (⟨(rd_T71 l0 x7_1).f0, (rd_T71 l0 x7_1).f1, (rd_T71 l0 x7_1).f2⟩ : S71)); (case aB => exact (bG_ GE725.out)); (case aF => exact (fun _ _ => trivial)); (case aO => exact (vR_ HO736.out)); (case aS => exact (below_size (bG_ GE725.out))); (case aL => have := LMc29.out; omega); intro v745 w33 ho hb hg hat; rw [← Ny744.out] at ho; replace BK725 := A_ (blk_grown (g := gb725) (o := .cells #[.bool a1_0, .string a1_1, .string a1_2, .string a1_3] 106 (0, 0)) (vb_ BK725.out) hg (Kd.R_ne HO736.out BK725.out (by decide))); replace HB := A_ (hb); have HO746 := A_ (ho); clear HO736; clear ho hb hg hat))
         go_roundg kj7
         case measure => have := HK1.out; have := HJ7.out; omega
         case rel => exact ⟨(y744), (true), (wrap64 (x7_1 + 1)), rs_, rs_, H', ⟨by have := HK1.out; have := HJ7.out; omega⟩, ⟨vR_ HO746.out⟩, ⟨vb_ BK725.out⟩, ⟨bG_ GE725.out⟩⟩
       rw [if_pos c19] at H
       have c19b0 : (((rd_T71 l0 x7_1).f0).toList == a1_1.toList) = true := beq_iff_eq.mpr c19
       have c19b1 : (((rd_T71 l0 x7_1).f0).toList != a1_1.toList) = false := bne_eq_false_iff_eq.mpr c19
       clear c19
       by_cases c20 : ((rd_T71 l0 x7_1).f1).toList = a1_2.toList
       · rw [if_pos c20] at H
         have c20b0 : (((rd_T71 l0 x7_1).f1).toList == a1_2.toList) = true := beq_iff_eq.mpr c20
         have c20b1 : (((rd_T71 l0 x7_1).f1).toList != a1_2.toList) = false := bne_eq_false_iff_eq.mpr c20
         clear c20
         have H' := A_ H
         clear H
         have hcz21_0 : wc.cell? ⟨gb725, 0, none⟩ = some (.bool a1_0) := bl_ BK725.out 0
         have hcz21_1 : wc.cell? ⟨gb725, 1, none⟩ = some (.string a1_1) := bl_ BK725.out 1
         have hcz21_2 : wc.cell? ⟨gb725, 2, none⟩ = some (.string a1_2) := bl_ BK725.out 2
         have hcz21_3 : wc.cell? ⟨gb725, 3, none⟩ = some (.string a1_3) := bl_ BK725.out 3
         have hfz21_0 := blk_frozen BK725.out 0
         have hfz21_1 := blk_frozen BK725.out 1
         have hfz21_2 := blk_frozen BK725.out 2
         have hfz21_3 := blk_frozen BK725.out 3
         try go_wp2_with (first | ((with_reducible refine gate_builtin (b := .append) (xs := #[.tmp 29, .tmp 32]) rfl ?_); at_builtin; refine Kd.R_append k71 (w0 := w) w.heap.size rfl (.tmp 29) (.tmp 32) 31 71 (.agg #[(.string ⟨#[]⟩), (.string ⟨#[]⟩), (.string ⟨#[]⟩)]) 48 rfl Try.underlying31 info71 rfl (by decide) (by omega) u5 x5_1 (⟨a1_1, a1_2, a1_3⟩ : S71) [.string a1_1, .string a1_2, .string a1_3] (fun _ => True) (fun _ => False) rfl rfl ?aP (fun _ hk => hk.elim) ?aF ?aO ?aB ?aS ?aL ?_; (case aP => exact k71_mkM _ _ _ (⟨a1_1, a1_2, a1_3⟩ : S71)); (case aB => exact (bG_ GE725.out)); (case aF => exact (fun _ _ => trivial)); (case aO => exact (vR_ HO_5.out)); (case aS => exact (below_size (bG_ GE725.out))); (case aL => have := LMc16.out; omega); intro v735 w22 ho hb hg hat; rw [← Ny734.out] at ho; replace BK725 := A_ (blk_grown (g := gb725) (o := .cells #[.bool a1_0, .string a1_1, .string a1_2, .string a1_3] 106 (0, 0)) (vb_ BK725.out) hg (Kd.R_ne HO_5.out BK725.out (by decide))); replace HB := A_ (hb); have HO736 := A_ (ho); clear HO_5; clear ho hb hg hat))
         replace HO736 := A_ (Kd.R_drew HO736.out)
         replace BK725 := A_ (blk_drew BK725.out)
         replace HB := A_ (below_drew1 HB.out)
         have p737 : 0 ≤ (x7_1 : Int) := od_
         have q737 : x7_1 < (l0.length : Int) := od_
         obtain ⟨ad737, e737, hx737_0, hx737_1, hx737_2⟩ := at_T71 HR0.out x7_1 p737 q737
         have hw737_2 := hx737_2
         have hw737_1 := hx737_1
         have hw737_0 := hx737_0
         cases e737
         replace hx737_0 := bc_ HB.out hx737_0
         replace hx737_1 := bc_ HB.out hx737_1
         replace hx737_2 := bc_ HB.out hx737_2
         replace p737 := eq_true p737
         replace q737 := eq_true q737
         have p738 : 0 ≤ (x7_1 : Int) := od_
         have q738 : x7_1 < (l0.length : Int) := od_
         obtain ⟨ad738, e738, hx738_0, hx738_1, hx738_2⟩ := at_T71 HR0.out x7_1 p738 q738
         have hw738_2 := hx738_2
         have hw738_1 := hx738_1
         have hw738_0 := hx738_0
         obtain rfl : ad737 = ad738 := (by injection e738)
         replace hx738_0 := bc_ HB.out hx738_0
         replace hx738_1 := bc_ HB.out hx738_1
         replace hx738_2 := bc_ HB.out hx738_2
         replace p738 := eq_true p738
         replace q738 := eq_true q738
         refine start_ (n := 20) (S := fun w' => w'.cell? ⟨gb725, 0, none⟩ = some (.bool a1_0) ∧ w'.cell? ⟨gb725, 1, none⟩ = some (.string a1_1) ∧ w'.cell? ⟨gb725, 2, none⟩ = some (.string a1_2) ∧ w'.cell? ⟨gb725, 3, none⟩ = some (.string a1_3) ∧ w'.cell? (ad737.add ((x7_1).toNat * 3)) = some (.string ((rd_T71 l0 x7_1).f0)) ∧ w'.cell? ⟨(ad737.add ((x7_1).toNat * 3)).block, (ad737.add ((x7_1).toNat * 3)).off + 1, none⟩ = some (.string ((rd_T71 l0 x7_1).f1)) ∧ w'.cell? ⟨(ad737.add ((x7_1).toNat * 3)).block, (ad737.add ((x7_1).toNat * 3)).off + 2, none⟩ = some (.string ((rd_T71 l0 x7_1).f2)) ∧ w'.cell? (ad737.add ((x7_1).toNat * 3)) = some (.string ((rd_T71 l0 x7_1).f0)) ∧ w'.cell? ⟨(ad737.add ((x7_1).toNat * 3)).block, (ad737.add ((x7_1).toNat * 3)).off + 1, none⟩ = some (.string ((rd_T71 l0 x7_1).f1)) ∧ w'.cell? ⟨(ad737.add ((x7_1).toNat * 3)).block, (ad737.add ((x7_1).toNat * 3)).off + 2, none⟩ = some (.string ((rd_T71 l0 x7_1).f2))) (ds := []) #[false, false, false, false, false, false, false, false, false, false, false, false, false, false, false, false, false, false, false, false] (by kernel_rfl) rfl rfl ⟨bl_ BK725.out 0, bl_ BK725.out 1, bl_ BK725.out 2, bl_ BK725.out 3, (be_ hw737_0), (be_ hw737_1), (be_ hw737_2), (be_ hw738_0), (be_ hw738_1), (be_ hw738_2)⟩ (fun hHeld => ?_); refine with_tabW spec_l12One.tab9 spec_l12One.bits9 (fun HT_ HW_ => ?_)
         generalize w22.drew = w23 at HO736 BK725 HB hx737_0 hx737_1 hx737_2 hx738_0 hx738_1 hx738_2 hHeld ⊢
         refine pu_ (i := 0) (N := some 34) ?_
         refine pu_ (i := 1) (N := some 35) ?_
         refine pu_ (i := 2) (N := some 36) ?_
         refine pu_ (i := 3) (N := some 37) ?_
         refine pu_ (i := 5) (N := some 39) ?_
         refine pu_ (i := 6) (N := some 40) ?_
         refine tk_ (i := 4) (N := some 38) hHeld ?_
         refine tk_ (i := 7) (N := some 41) hHeld ?_
         refine pu_ (i := 8) (N := some 42) ?_
         refine pu_ (i := 9) (N := some 43) ?_
         refine pu_ (i := 10) (N := some 44) ?_
         refine pu_ (i := 11) (N := some 45) ?_
         refine pu_ (i := 12) (N := some 46) ?_
         refine pu_ (i := 13) (N := some 47) ?_
         refine pu_ (i := 15) (N := some 49) ?_
         refine pu_ (i := 16) (N := some 50) ?_
         refine tk_ (i := 14) (N := some 48) hHeld ?_
         refine tk_ (i := 17) (N := some 51) hHeld ?_
         refine pu_ (i := 18) (N := some 52) ?_
         refine pu_ (i := 19) (N := some 53) ?_
         refine done_ (done_of HT_.out (by kernel_rfl)) ?_
         (try clear hHeld)
         try go_wp2
         go_roundg kj7
         case measure => have := HK1.out; have := HJ7.out; omega
         case rel => exact ⟨(y734), (true), (wrap64 (x7_1 + 1)), rs_, rs_, H', ⟨by have := HK1.out; have := HJ7.out; omega⟩, ⟨vR_ HO736.out⟩, ⟨vb_ BK725.out⟩, ⟨bG_ GE725.out⟩⟩
       rw [if_neg c20] at H
       have c20b0 : (((rd_T71 l0 x7_1).f1).toList == a1_2.toList) = false := beq_eq_false_iff_ne.mpr c20
       have c20b1 : (((rd_T71 l0 x7_1).f1).toList != a1_2.toList) = true := bne_iff_ne.mpr c20
       by_cases c24 : y734.length < 2932031007402
       rotate_left
       · exact absurd H (by rw [if_neg c24]; simp)
       rw [if_pos c24] at H
       have LMc24 := A_ c24
       clear c24
       obtain ⟨y740, hy740⟩ : ∃ y_ : List (S71), y_ = (y734 ++ [(⟨(rd_T71 l0 x7_1).f0, (rd_T71 l0 x7_1).f1, (rd_T71 l0 x7_1).f2⟩ : S71)]) := ⟨_, rfl⟩
       replace H : (spec_l12One.l0 kj7 l0 y740 true (wrap64 (x7_1 + 1)) a1_0 a1_1 a1_2 a1_3) = some r := hy_ hy740 H
       have Ny740 := A_ hy740
       clear hy740
       have H' := A_ H
       clear H
       have hcz25_0 : wc.cell? ⟨gb725, 0, none⟩ = some (.bool a1_0) := bl_ BK725.out 0
       have hcz25_1 : wc.cell? ⟨gb725, 1, none⟩ = some (.string a1_1) := bl_ BK725.out 1
       have hcz25_2 : wc.cell? ⟨gb725, 2, none⟩ = some (.string a1_2) := bl_ BK725.out 2
       have hcz25_3 : wc.cell? ⟨gb725, 3, none⟩ = some (.string a1_3) := bl_ BK725.out 3
       have hfz25_0 := blk_frozen BK725.out 0
       have hfz25_1 := blk_frozen BK725.out 1
       have hfz25_2 := blk_frozen BK725.out 2
       have hfz25_3 := blk_frozen BK725.out 3
       try go_wp2_with (first | ((with_reducible refine gate_builtin (b := .append) (xs := #[.tmp 29, .tmp 32]) rfl ?_); at_builtin; refine Kd.R_append k71 (w0 := w) w.heap.size rfl (.tmp 29) (.tmp 32) 31 71 (.agg #[(.string ⟨#[]⟩), (.string ⟨#[]⟩), (.string ⟨#[]⟩)]) 48 rfl Try.underlying31 info71 rfl (by decide) (by omega) u5 x5_1 (⟨a1_1, a1_2, a1_3⟩ : S71) [.string a1_1, .string a1_2, .string a1_3] (fun _ => True) (fun _ => False) rfl rfl ?aP (fun _ hk => hk.elim) ?aF ?aO ?aB ?aS ?aL ?_; (case aP => exact k71_mkM _ _ _ (⟨a1_1, a1_2, a1_3⟩ : S71)); (case aB => exact (bG_ GE725.out)); (case aF => exact (fun _ _ => trivial)); (case aO => exact (vR_ HO_5.out)); (case aS => exact (below_size (bG_ GE725.out))); (case aL => have := LMc16.out; omega); intro v735 w26 ho hb hg hat; rw [← Ny734.out] at ho; replace BK725 := A_ (blk_grown (g := gb725) (o := .cells #[.bool a1_0, .string a1_1, .string a1_2, .string a1_3] 106 (0, 0)) (vb_ BK725.out) hg (Kd.R_ne HO_5.out BK725.out (by decide))); replace HB := A_ (hb); have HO736 := A_ (ho); clear HO_5; clear ho hb hg hat))
       replace HO736 := A_ (Kd.R_drew HO736.out)
       replace BK725 := A_ (blk_drew BK725.out)
       replace HB := A_ (below_drew1 HB.out)
       have p737 : 0 ≤ (x7_1 : Int) := od_
       have q737 : x7_1 < (l0.length : Int) := od_
       obtain ⟨ad737, e737, hx737_0, hx737_1, hx737_2⟩ := at_T71 HR0.out x7_1 p737 q737
       have hw737_2 := hx737_2
       have hw737_1 := hx737_1
       have hw737_0 := hx737_0
       cases e737
       replace hx737_0 := bc_ HB.out hx737_0
       replace hx737_1 := bc_ HB.out hx737_1
       replace hx737_2 := bc_ HB.out hx737_2
       replace p737 := eq_true p737
       replace q737 := eq_true q737
       have p738 : 0 ≤ (x7_1 : Int) := od_
       have q738 : x7_1 < (l0.length : Int) := od_
       obtain ⟨ad738, e738, hx738_0, hx738_1, hx738_2⟩ := at_T71 HR0.out x7_1 p738 q738
       have hw738_2 := hx738_2
       have hw738_1 := hx738_1
       have hw738_0 := hx738_0
       obtain rfl : ad737 = ad738 := (by injection e738)
       replace hx738_0 := bc_ HB.out hx738_0
       replace hx738_1 := bc_ HB.out hx738_1
       replace hx738_2 := bc_ HB.out hx738_2
       replace p738 := eq_true p738
       replace q738 := eq_true q738
       refine start_ (n := 20) (S := fun w' => w'.cell? ⟨gb725, 0, none⟩ = some (.bool a1_0) ∧ w'.cell? ⟨gb725, 1, none⟩ = some (.string a1_1) ∧ w'.cell? ⟨gb725, 2, none⟩ = some (.string a1_2) ∧ w'.cell? ⟨gb725, 3, none⟩ = some (.string a1_3) ∧ w'.cell? (ad737.add ((x7_1).toNat * 3)) = some (.string ((rd_T71 l0 x7_1).f0)) ∧ w'.cell? ⟨(ad737.add ((x7_1).toNat * 3)).block, (ad737.add ((x7_1).toNat * 3)).off + 1, none⟩ = some (.string ((rd_T71 l0 x7_1).f1)) ∧ w'.cell? ⟨(ad737.add ((x7_1).toNat * 3)).block, (ad737.add ((x7_1).toNat * 3)).off + 2, none⟩ = some (.string ((rd_T71 l0 x7_1).f2)) ∧ w'.cell? (ad737.add ((x7_1).toNat * 3)) = some (.string ((rd_T71 l0 x7_1).f0)) ∧ w'.cell? ⟨(ad737.add ((x7_1).toNat * 3)).block, (ad737.add ((x7_1).toNat * 3)).off + 1, none⟩ = some (.string ((rd_T71 l0 x7_1).f1)) ∧ w'.cell? ⟨(ad737.add ((x7_1).toNat * 3)).block, (ad737.add ((x7_1).toNat * 3)).off + 2, none⟩ = some (.string ((rd_T71 l0 x7_1).f2))) (ds := []) #[false, false, false, false, false, false, false, false, false, false, false, false, false, false, false, false, false, false, false, false] (by kernel_rfl) rfl rfl ⟨bl_ BK725.out 0, bl_ BK725.out 1, bl_ BK725.out 2, bl_ BK725.out 3, (be_ hw737_0), (be_ hw737_1), (be_ hw737_2), (be_ hw738_0), (be_ hw738_1), (be_ hw738_2)⟩ (fun hHeld => ?_); refine with_tabW spec_l12One.tab9 spec_l12One.bits9 (fun HT_ HW_ => ?_)
       generalize w26.drew = w27 at HO736 BK725 HB hx737_0 hx737_1 hx737_2 hx738_0 hx738_1 hx738_2 hHeld ⊢
       refine pu_ (i := 0) (N := some 34) ?_
       refine pu_ (i := 1) (N := some 35) ?_
       refine pu_ (i := 2) (N := some 36) ?_
       refine pu_ (i := 3) (N := some 37) ?_
       refine pu_ (i := 5) (N := some 39) ?_
       refine pu_ (i := 6) (N := some 40) ?_
       refine tk_ (i := 4) (N := some 38) hHeld ?_
       refine tk_ (i := 7) (N := some 41) hHeld ?_
       refine pu_ (i := 8) (N := some 42) ?_
       refine pu_ (i := 9) (N := some 43) ?_
       refine pu_ (i := 10) (N := some 44) ?_
       refine pu_ (i := 11) (N := some 45) ?_
       refine pu_ (i := 12) (N := some 46) ?_
       refine pu_ (i := 13) (N := some 47) ?_
       refine pu_ (i := 15) (N := some 49) ?_
       refine pu_ (i := 16) (N := some 50) ?_
       refine tk_ (i := 14) (N := some 48) hHeld ?_
       refine tk_ (i := 17) (N := some 51) hHeld ?_
       refine pu_ (i := 18) (N := some 52) ?_
       refine pu_ (i := 19) (N := some 53) ?_
       refine done_ (done_of HT_.out (by kernel_rfl)) ?_
       (try clear hHeld)
       have p739 : 0 ≤ (x7_1 : Int) := od_
       have q739 : x7_1 < (l0.length : Int) := od_
       obtain ⟨ad739, e739, hx739_0, hx739_1, hx739_2⟩ := at_T71 HR0.out x7_1 p739 q739
       obtain rfl : ad737 = ad739 := (by injection e739)
       replace hx739_0 := bc_ HB.out hx739_0
       replace hx739_1 := bc_ HB.out hx739_1
       replace hx739_2 := bc_ HB.out hx739_2
       replace p739 := eq_true p739
       replace q739 := eq_true q739
       try go_wp2_with (first | ((with_reducible refine gate_builtin (b := .append) (xs := #[.tmp 54, .tmp 59]) rfl ?_); at_builtin; refine Kd.R_append k71 (w0 := w) w.heap.size rfl (.tmp 54) (.tmp 59) 31 71 (.agg #[(.string ⟨#[]⟩), (.string ⟨#[]⟩), (.string ⟨#[]⟩)]) 48 rfl Try.underlying31 info71 rfl (by decide) (by omega) v735 y734 (⟨(rd_T71 l0 x7_1).f0, (rd_T71 l0 x7_1).f1, (rd_T71 l0 x7_1).f2⟩ : S71) [.string ((rd_T71 l0 x7_1).f0), .string ((rd_T71 l0 x7_1).f1), .string ((rd_T71 l0 x7_1).f2)] (fun _ => True) (fun _ => False) rfl rfl ?aP (fun _ hk => hk.elim) ?aF ?aO ?aB ?aS ?aL ?_; (case aP => exact k71_mkM _ _ _ (⟨(rd_T71 l0 x7_1).f0, (rd_T71 l0 x7_1).f1, (rd_T71 l0 x7_1).f2⟩ : S71)); (case aB => exact (bG_ GE725.out)); (case aF => exact (fun _ _ => trivial)); (case aO => exact (vR_ HO736.out)); (case aS => exact (below_size (bG_ GE725.out))); (case aL => have := LMc24.out; omega); intro v741 w28 ho hb hg hat; rw [← Ny740.out] at ho; replace BK725 := A_ (blk_grown (g := gb725) (o := .cells #[.bool a1_0, .string a1_1, .string a1_2, .string a1_3] 106 (0, 0)) (vb_ BK725.out) hg (Kd.R_ne HO736.out BK725.out (by decide))); replace HB := A_ (hb); have HO742 := A_ (ho); clear HO736; clear ho hb hg hat))
       go_roundg kj7
       case measure => have := HK1.out; have := HJ7.out; omega
       case rel => exact ⟨(y740), (true), (wrap64 (x7_1 + 1)), rs_, rs_, H', ⟨by have := HK1.out; have := HJ7.out; omega⟩, ⟨vR_ HO742.out⟩, ⟨vb_ BK725.out⟩, ⟨bG_ GE725.out⟩⟩
     · replace c15 := Bool.eq_false_iff.mpr c15
       subst c15
       rw [if_neg nf_] at H
       by_cases c34 : 0 ≤ x7_1
       rotate_left
       · exact absurd H (by rw [if_neg c34]; simp)
       rw [if_pos c34] at H
       have c34b0 : decide (0 ≤ x7_1) = true := decide_eq_true c34
       clear c34
       by_cases c35 : x7_1 < (l0.length : Int)
       rotate_left
       · exact absurd H (by rw [if_neg c35]; simp)
       rw [if_pos c35] at H
       have c35b0 : decide (x7_1 < (l0.length : Int)) = true := decide_eq_true c35
       clear c35
       by_cases c36 : ((rd_T71 l0 x7_1).f0).toList = a1_1.toList
       rotate_left
       · rw [if_neg c36] at H
         have c36b0 : (((rd_T71 l0 x7_1).f0).toList == a1_1.toList) = false := beq_eq_false_iff_ne.mpr c36
         have c36b1 : (((rd_T71 l0 x7_1).f0).toList != a1_1.toList) = true := bne_iff_ne.mpr c36
         by_cases c42 : x5_1.length < 2932031007402
         rotate_left
         · exact absurd H (by rw [if_neg c42]; simp)
         rw [if_pos c42] at H
         have LMc42 := A_ c42
         clear c42
         obtain ⟨y754, hy754⟩ : ∃ y_ : List (S71), y_ = (x5_1 ++ [(⟨(rd_T71 l0 x7_1).f0, (rd_T71 l0 x7_1).f1, (rd_T71 l0 x7_1).f2⟩ : S71)]) := ⟨_, rfl⟩
         replace H : (spec_l12One.l0 kj7 l0 y754 x6_1 (wrap64 (x7_1 + 1)) a1_0 a1_1 a1_2 a1_3) = some r := hy_ hy754 H
         have Ny754 := A_ hy754
         clear hy754
         have H' := A_ H
         clear H
         try go_wp2
         replace HO_5 := A_ (Kd.R_drew HO_5.out)
         replace BK725 := A_ (blk_drew BK725.out)
         replace HB := A_ (below_drew1 HB.out)
         have p747 : 0 ≤ (x7_1 : Int) := od_
         have q747 : x7_1 < (l0.length : Int) := od_
         obtain ⟨ad747, e747, hx747_0, hx747_1, hx747_2⟩ := at_T71 HR0.out x7_1 p747 q747
         have hw747_2 := hx747_2
         have hw747_1 := hx747_1
         have hw747_0 := hx747_0
         cases e747
         replace hx747_0 := bc_ HB.out hx747_0
         replace hx747_1 := bc_ HB.out hx747_1
         replace hx747_2 := bc_ HB.out hx747_2
         replace p747 := eq_true p747
         replace q747 := eq_true q747
         refine start_ (n := 20) (S := fun w' => w'.cell? ⟨gb725, 0, none⟩ = some (.bool a1_0) ∧ w'.cell? ⟨gb725, 1, none⟩ = some (.string a1_1) ∧ w'.cell? ⟨gb725, 2, none⟩ = some (.string a1_2) ∧ w'.cell? ⟨gb725, 3, none⟩ = some (.string a1_3) ∧ w'.cell? (ad747.add ((x7_1).toNat * 3)) = some (.string ((rd_T71 l0 x7_1).f0)) ∧ w'.cell? ⟨(ad747.add ((x7_1).toNat * 3)).block, (ad747.add ((x7_1).toNat * 3)).off + 1, none⟩ = some (.string ((rd_T71 l0 x7_1).f1)) ∧ w'.cell? ⟨(ad747.add ((x7_1).toNat * 3)).block, (ad747.add ((x7_1).toNat * 3)).off + 2, none⟩ = some (.string ((rd_T71 l0 x7_1).f2))) (ds := []) #[false, false, false, false, false, false, false, false, false, false, false, false, false, false, false, false, false, false, false, false] (by kernel_rfl) rfl rfl ⟨bl_ BK725.out 0, bl_ BK725.out 1, bl_ BK725.out 2, bl_ BK725.out 3, (be_ hw747_0), (be_ hw747_1), (be_ hw747_2)⟩ (fun hHeld => ?_); refine with_tabW spec_l12One.tab9 spec_l12One.bits9 (fun HT_ HW_ => ?_)
         generalize wc.drew = w43 at HO_5 BK725 HB hx747_0 hx747_1 hx747_2 hHeld ⊢
         refine pu_ (i := 0) (N := some 34) ?_
         refine pu_ (i := 1) (N := some 35) ?_
         refine pu_ (i := 2) (N := some 36) ?_
         refine pu_ (i := 3) (N := some 37) ?_
         refine pu_ (i := 5) (N := some 39) ?_
         refine pu_ (i := 6) (N := some 40) ?_
         refine tk_ (i := 4) (N := some 38) hHeld ?_
         refine tk_ (i := 7) (N := some 41) hHeld ?_
         refine pu_ (i := 8) (N := some 42) ?_
         refine pu_ (i := 9) (N := some 43) ?_
         refine pn_ (i := 10) (N := some 44) ?_
         refine pn_ (i := 11) (N := some 45) ?_
         refine pn_ (i := 12) (N := some 46) ?_
         refine pn_ (i := 13) (N := some 47) ?_
         refine pn_ (i := 14) (N := some 48) ?_
         refine pn_ (i := 15) (N := some 49) ?_
         refine pn_ (i := 16) (N := some 50) ?_
         refine pn_ (i := 17) (N := some 51) ?_
         refine pn_ (i := 18) (N := some 52) ?_
         refine pu_ (i := 19) (N := some 53) ?_
         refine done_ (done_of HT_.out (by kernel_rfl)) ?_
         (try clear hHeld)
         have p753 : 0 ≤ (x7_1 : Int) := od_
         have q753 : x7_1 < (l0.length : Int) := od_
         obtain ⟨ad753, e753, hx753_0, hx753_1, hx753_2⟩ := at_T71 HR0.out x7_1 p753 q753
         obtain rfl : ad747 = ad753 := (by injection e753)
         replace hx753_0 := bc_ HB.out hx753_0
         replace hx753_1 := bc_ HB.out hx753_1
         replace hx753_2 := bc_ HB.out hx753_2
         replace p753 := eq_true p753
         replace q753 := eq_true q753
         try go_wp2_with (first | ((with_reducible refine gate_builtin (b := .append) (xs := #[.tmp 54, .tmp 59]) rfl ?_); at_builtin; refine Kd.R_append k71 (w0 := w) w.heap.size rfl (.tmp 54) (.tmp 59) 31 71 (.agg #[(.string ⟨#[]⟩), (.string ⟨#[]⟩), (.string ⟨#[]⟩)]) 48 rfl Try.underlying31 info71 rfl (by decide) (by omega) u5 x5_1 (⟨(rd_T71 l0 x7_1).f0, (rd_T71 l0 x7_1).f1, (rd_T71 l0 x7_1).f2⟩ : S71) [.string ((rd_T71 l0 x7_1).f0), .string ((rd_T71 l0 x7_1).f1), .string ((rd_T71 l0 x7_1).f2)] (fun _ => True) (fun _ => False) rfl rfl ?aP (fun _ hk => hk.elim) ?aF ?aO ?aB ?aS ?aL ?_; (case aP => exact k71_mkM _ _ _ (⟨(rd_T71 l0 x7_1).f0, (rd_T71 l0 x7_1).f1, (rd_T71 l0 x7_1).f2⟩ : S71)); (case aB => exact (bG_ GE725.out)); (case aF => exact (fun _ _ => trivial)); (case aO => exact (vR_ HO_5.out)); (case aS => exact (below_size (bG_ GE725.out))); (case aL => have := LMc42.out; omega); intro v755 w44 ho hb hg hat; rw [← Ny754.out] at ho; replace BK725 := A_ (blk_grown (g := gb725) (o := .cells #[.bool a1_0, .string a1_1, .string a1_2, .string a1_3] 106 (0, 0)) (vb_ BK725.out) hg (Kd.R_ne HO_5.out BK725.out (by decide))); replace HB := A_ (hb); have HO756 := A_ (ho); clear HO_5; clear ho hb hg hat))
         go_roundg kj7
         case measure => have := HK1.out; have := HJ7.out; omega
         case rel => exact ⟨(y754), (x6_1), (wrap64 (x7_1 + 1)), rs_, rs_, H', ⟨by have := HK1.out; have := HJ7.out; omega⟩, ⟨vR_ HO756.out⟩, ⟨vb_ BK725.out⟩, ⟨bG_ GE725.out⟩⟩
       rw [if_pos c36] at H
       have c36b0 : (((rd_T71 l0 x7_1).f0).toList == a1_1.toList) = true := beq_iff_eq.mpr c36
       have c36b1 : (((rd_T71 l0 x7_1).f0).toList != a1_1.toList) = false := bne_eq_false_iff_eq.mpr c36
       clear c36
       by_cases c37 : ((rd_T71 l0 x7_1).f1).toList = a1_2.toList
       · rw [if_pos c37] at H
         have c37b0 : (((rd_T71 l0 x7_1).f1).toList == a1_2.toList) = true := beq_iff_eq.mpr c37
         have c37b1 : (((rd_T71 l0 x7_1).f1).toList != a1_2.toList) = false := bne_eq_false_iff_eq.mpr c37
         clear c37
         have H' := A_ H
         clear H
         try go_wp2
         replace HO_5 := A_ (Kd.R_drew HO_5.out)
         replace BK725 := A_ (blk_drew BK725.out)
         replace HB := A_ (below_drew1 HB.out)
         have p747 : 0 ≤ (x7_1 : Int) := od_
         have q747 : x7_1 < (l0.length : Int) := od_
         obtain ⟨ad747, e747, hx747_0, hx747_1, hx747_2⟩ := at_T71 HR0.out x7_1 p747 q747
         have hw747_2 := hx747_2
         have hw747_1 := hx747_1
         have hw747_0 := hx747_0
         cases e747
         replace hx747_0 := bc_ HB.out hx747_0
         replace hx747_1 := bc_ HB.out hx747_1
         replace hx747_2 := bc_ HB.out hx747_2
         replace p747 := eq_true p747
         replace q747 := eq_true q747
         have p748 : 0 ≤ (x7_1 : Int) := od_
         have q748 : x7_1 < (l0.length : Int) := od_
         obtain ⟨ad748, e748, hx748_0, hx748_1, hx748_2⟩ := at_T71 HR0.out x7_1 p748 q748
         have hw748_2 := hx748_2
         have hw748_1 := hx748_1
         have hw748_0 := hx748_0
         obtain rfl : ad747 = ad748 := (by injection e748)
         replace hx748_0 := bc_ HB.out hx748_0
         replace hx748_1 := bc_ HB.out hx748_1
         replace hx748_2 := bc_ HB.out hx748_2
         replace p748 := eq_true p748
         replace q748 := eq_true q748
         refine start_ (n := 20) (S := fun w' => w'.cell? ⟨gb725, 0, none⟩ = some (.bool a1_0) ∧ w'.cell? ⟨gb725, 1, none⟩ = some (.string a1_1) ∧ w'.cell? ⟨gb725, 2, none⟩ = some (.string a1_2) ∧ w'.cell? ⟨gb725, 3, none⟩ = some (.string a1_3) ∧ w'.cell? (ad747.add ((x7_1).toNat * 3)) = some (.string ((rd_T71 l0 x7_1).f0)) ∧ w'.cell? ⟨(ad747.add ((x7_1).toNat * 3)).block, (ad747.add ((x7_1).toNat * 3)).off + 1, none⟩ = some (.string ((rd_T71 l0 x7_1).f1)) ∧ w'.cell? ⟨(ad747.add ((x7_1).toNat * 3)).block, (ad747.add ((x7_1).toNat * 3)).off + 2, none⟩ = some (.string ((rd_T71 l0 x7_1).f2)) ∧ w'.cell? (ad747.add ((x7_1).toNat * 3)) = some (.string ((rd_T71 l0 x7_1).f0)) ∧ w'.cell? ⟨(ad747.add ((x7_1).toNat * 3)).block, (ad747.add ((x7_1).toNat * 3)).off + 1, none⟩ = some (.string ((rd_T71 l0 x7_1).f1)) ∧ w'.cell? ⟨(ad747.add ((x7_1).toNat * 3)).block, (ad747.add ((x7_1).toNat * 3)).off + 2, none⟩ = some (.string ((rd_T71 l0 x7_1).f2))) (ds := []) #[false, false, false, false, false, false, false, false, false, false, false, false, false, false, false, false, false, false, false, false] (by kernel_rfl) rfl rfl ⟨bl_ BK725.out 0, bl_ BK725.out 1, bl_ BK725.out 2, bl_ BK725.out 3, (be_ hw747_0), (be_ hw747_1), (be_ hw747_2), (be_ hw748_0), (be_ hw748_1), (be_ hw748_2)⟩ (fun hHeld => ?_); refine with_tabW spec_l12One.tab9 spec_l12One.bits9 (fun HT_ HW_ => ?_)
         generalize wc.drew = w38 at HO_5 BK725 HB hx747_0 hx747_1 hx747_2 hx748_0 hx748_1 hx748_2 hHeld ⊢
         refine pu_ (i := 0) (N := some 34) ?_
         refine pu_ (i := 1) (N := some 35) ?_
         refine pu_ (i := 2) (N := some 36) ?_
         refine pu_ (i := 3) (N := some 37) ?_
         refine pu_ (i := 5) (N := some 39) ?_
         refine pu_ (i := 6) (N := some 40) ?_
         refine tk_ (i := 4) (N := some 38) hHeld ?_
         refine tk_ (i := 7) (N := some 41) hHeld ?_
         refine pu_ (i := 8) (N := some 42) ?_
         refine pu_ (i := 9) (N := some 43) ?_
         refine pu_ (i := 10) (N := some 44) ?_
         refine pu_ (i := 11) (N := some 45) ?_
         refine pu_ (i := 12) (N := some 46) ?_
         refine pu_ (i := 13) (N := some 47) ?_
         refine pu_ (i := 15) (N := some 49) ?_
         refine pu_ (i := 16) (N := some 50) ?_
         refine tk_ (i := 14) (N := some 48) hHeld ?_
         refine tk_ (i := 17) (N := some 51) hHeld ?_
         refine pu_ (i := 18) (N := some 52) ?_
         refine pu_ (i := 19) (N := some 53) ?_
         refine done_ (done_of HT_.out (by kernel_rfl)) ?_
         (try clear hHeld)
         try go_wp2
         go_roundg kj7
         case measure => have := HK1.out; have := HJ7.out; omega
         case rel => exact ⟨(x5_1), (x6_1), (wrap64 (x7_1 + 1)), rs_, rs_, H', ⟨by have := HK1.out; have := HJ7.out; omega⟩, ⟨vR_ HO_5.out⟩, ⟨vb_ BK725.out⟩, ⟨bG_ GE725.out⟩⟩
       rw [if_neg c37] at H
       have c37b0 : (((rd_T71 l0 x7_1).f1).toList == a1_2.toList) = false := beq_eq_false_iff_ne.mpr c37
       have c37b1 : (((rd_T71 l0 x7_1).f1).toList != a1_2.toList) = true := bne_iff_ne.mpr c37
       by_cases c39 : x5_1.length < 2932031007402
       rotate_left
       · exact absurd H (by rw [if_neg c39]; simp)
       rw [if_pos c39] at H
       have LMc39 := A_ c39
       clear c39
       obtain ⟨y750, hy750⟩ : ∃ y_ : List (S71), y_ = (x5_1 ++ [(⟨(rd_T71 l0 x7_1).f0, (rd_T71 l0 x7_1).f1, (rd_T71 l0 x7_1).f2⟩ : S71)]) := ⟨_, rfl⟩
       replace H : (spec_l12One.l0 kj7 l0 y750 x6_1 (wrap64 (x7_1 + 1)) a1_0 a1_1 a1_2 a1_3) = some r := hy_ hy750 H
       have Ny750 := A_ hy750
       clear hy750
       have H' := A_ H
       clear H
       try go_wp2
       replace HO_5 := A_ (Kd.R_drew HO_5.out)
       replace BK725 := A_ (blk_drew BK725.out)
       replace HB := A_ (below_drew1 HB.out)
       have p747 : 0 ≤ (x7_1 : Int) := od_
       have q747 : x7_1 < (l0.length : Int) := od_
       obtain ⟨ad747, e747, hx747_0, hx747_1, hx747_2⟩ := at_T71 HR0.out x7_1 p747 q747
       have hw747_2 := hx747_2
       have hw747_1 := hx747_1
       have hw747_0 := hx747_0
       cases e747
       replace hx747_0 := bc_ HB.out hx747_0
       replace hx747_1 := bc_ HB.out hx747_1
       replace hx747_2 := bc_ HB.out hx747_2
       replace p747 := eq_true p747
       replace q747 := eq_true q747
       have p748 : 0 ≤ (x7_1 : Int) := od_
       have q748 : x7_1 < (l0.length : Int) := od_
       obtain ⟨ad748, e748, hx748_0, hx748_1, hx748_2⟩ := at_T71 HR0.out x7_1 p748 q748
       have hw748_2 := hx748_2
       have hw748_1 := hx748_1
       have hw748_0 := hx748_0
       obtain rfl : ad747 = ad748 := (by injection e748)
       replace hx748_0 := bc_ HB.out hx748_0
       replace hx748_1 := bc_ HB.out hx748_1
       replace hx748_2 := bc_ HB.out hx748_2
       replace p748 := eq_true p748
       replace q748 := eq_true q748
       refine start_ (n := 20) (S := fun w' => w'.cell? ⟨gb725, 0, none⟩ = some (.bool a1_0) ∧ w'.cell? ⟨gb725, 1, none⟩ = some (.string a1_1) ∧ w'.cell? ⟨gb725, 2, none⟩ = some (.string a1_2) ∧ w'.cell? ⟨gb725, 3, none⟩ = some (.string a1_3) ∧ w'.cell? (ad747.add ((x7_1).toNat * 3)) = some (.string ((rd_T71 l0 x7_1).f0)) ∧ w'.cell? ⟨(ad747.add ((x7_1).toNat * 3)).block, (ad747.add ((x7_1).toNat * 3)).off + 1, none⟩ = some (.string ((rd_T71 l0 x7_1).f1)) ∧ w'.cell? ⟨(ad747.add ((x7_1).toNat * 3)).block, (ad747.add ((x7_1).toNat * 3)).off + 2, none⟩ = some (.string ((rd_T71 l0 x7_1).f2)) ∧ w'.cell? (ad747.add ((x7_1).toNat * 3)) = some (.string ((rd_T71 l0 x7_1).f0)) ∧ w'.cell? ⟨(ad747.add ((x7_1).toNat * 3)).block, (ad747.add ((x7_1).toNat * 3)).off + 1, none⟩ = some (.string ((rd_T71 l0 x7_1).f1)) ∧ w'.cell? ⟨(ad747.add ((x7_1).toNat * 3)).block, (ad747.add ((x7_1).toNat * 3)).off + 2, none⟩ = some (.string ((rd_T71 l0 x7_1).f2))) (ds := []) #[false, false, false, false, false, false, false, false, false, false, false, false, false, false, false, false, false, false, false, false] (by kernel_rfl) rfl rfl ⟨bl_ BK725.out 0, bl_ BK725.out 1, bl_ BK725.out 2, bl_ BK725.out 3, (be_ hw747_0), (be_ hw747_1), (be_ hw747_2), (be_ hw748_0), (be_ hw748_1), (be_ hw748_2)⟩ (fun hHeld => ?_); refine with_tabW spec_l12One.tab9 spec_l12One.bits9 (fun HT_ HW_ => ?_)
       generalize wc.drew = w40 at HO_5 BK725 HB hx747_0 hx747_1 hx747_2 hx748_0 hx748_1 hx748_2 hHeld ⊢
       refine pu_ (i := 0) (N := some 34) ?_
       refine pu_ (i := 1) (N := some 35) ?_
       refine pu_ (i := 2) (N := some 36) ?_
       refine pu_ (i := 3) (N := some 37) ?_
       refine pu_ (i := 5) (N := some 39) ?_
       refine pu_ (i := 6) (N := some 40) ?_
       refine tk_ (i := 4) (N := some 38) hHeld ?_
       refine tk_ (i := 7) (N := some 41) hHeld ?_
       refine pu_ (i := 8) (N := some 42) ?_
       refine pu_ (i := 9) (N := some 43) ?_
       refine pu_ (i := 10) (N := some 44) ?_
       refine pu_ (i := 11) (N := some 45) ?_
       refine pu_ (i := 12) (N := some 46) ?_
       refine pu_ (i := 13) (N := some 47) ?_
       refine pu_ (i := 15) (N := some 49) ?_
       refine pu_ (i := 16) (N := some 50) ?_
       refine tk_ (i := 14) (N := some 48) hHeld ?_
       refine tk_ (i := 17) (N := some 51) hHeld ?_
       refine pu_ (i := 18) (N := some 52) ?_
       refine pu_ (i := 19) (N := some 53) ?_
       refine done_ (done_of HT_.out (by kernel_rfl)) ?_
       (try clear hHeld)
       have p749 : 0 ≤ (x7_1 : Int) := od_
       have q749 : x7_1 < (l0.length : Int) := od_
       obtain ⟨ad749, e749, hx749_0, hx749_1, hx749_2⟩ := at_T71 HR0.out x7_1 p749 q749
       obtain rfl : ad747 = ad749 := (by injection e749)
       replace hx749_0 := bc_ HB.out hx749_0
       replace hx749_1 := bc_ HB.out hx749_1
       replace hx749_2 := bc_ HB.out hx749_2
       replace p749 := eq_true p749
       replace q749 := eq_true q749
       try go_wp2_with (first | ((with_reducible refine gate_builtin (b := .append) (xs := #[.tmp 54, .tmp 59]) rfl ?_); at_builtin; refine Kd.R_append k71 (w0 := w) w.heap.size rfl (.tmp 54) (.tmp 59) 31 71 (.agg #[(.string ⟨#[]⟩), (.string ⟨#[]⟩), (.string ⟨#[]⟩)]) 48 rfl Try.underlying31 info71 rfl (by decide) (by omega) u5 x5_1 (⟨(rd_T71 l0 x7_1).f0, (rd_T71 l0 x7_1).f1, (rd_T71 l0 x7_1).f2⟩ : S71) [.string ((rd_T71 l0 x7_1).f0), .string ((rd_T71 l0 x7_1).f1), .string ((rd_T71 l0 x7_1).f2)] (fun _ => True) (fun _ => False) rfl rfl ?aP (fun _ hk => hk.elim) ?aF ?aO ?aB ?aS ?aL ?_; (case aP => exact k71_mkM _ _ _ (⟨(rd_T71 l0 x7_1).f0, (rd_T71 l0 x7_1).f1, (rd_T71 l0 x7_1).f2⟩ : S71)); (case aB => exact (bG_ GE725.out)); (case aF => exact (fun _ _ => trivial)); (case aO => exact (vR_ HO_5.out)); (case aS => exact (below_size (bG_ GE725.out))); (case aL => have := LMc39.out; omega); intro v751 w41 ho hb hg hat; rw [← Ny750.out] at ho; replace BK725 := A_ (blk_grown (g := gb725) (o := .cells #[.bool a1_0, .string a1_1, .string a1_2, .string a1_3] 106 (0, 0)) (vb_ BK725.out) hg (Kd.R_ne HO_5.out BK725.out (by decide))); replace HB := A_ (hb); have HO752 := A_ (ho); clear HO_5; clear ho hb hg hat))
       go_roundg kj7
       case measure => have := HK1.out; have := HJ7.out; omega
       case rel => exact ⟨(y750), (x6_1), (wrap64 (x7_1 + 1)), rs_, rs_, H', ⟨by have := HK1.out; have := HJ7.out; omega⟩, ⟨vR_ HO752.out⟩, ⟨vb_ BK725.out⟩, ⟨bG_ GE725.out⟩⟩
set_option maxHeartbeats 8000000
set_option maxRecDepth 100000
theorem bIQx240_ {P : Prop} (h : P := by repeat (first | (with_reducible first | exact HI0.out | apply IsS94.alloc | apply IsS94.drewN | apply IsS94.drew | apply IsS94.set_1 | apply IsS94.set_2) | exact HI0.out)) : P := h
theorem bIQx241_ {P : Prop} (h : P := by repeat (first | (with_reducible first | exact HB.out | apply below_alloc | apply pw_below_drewN | apply below_drew1 | refine below_set ?_ (IsS94.ge HI0.out)) | exact HB.out)) : P := h
def spec_SetProps.l0 : Nat → List (S71) → List (S106) → List (S71) → Int → Option ((List (S71)) × Bool)
 | 0, _, _, _, _ => none
 | k + 1, x0, x1, x6, x7 => if x7 < (x1.length : Int) then (if 0 ≤ x7 then ((spec_l10Prop.f k ((rd_T106 x1 x7).f1.f0) ((rd_T106 x1 x7).f1.f1) ((rd_T106 x1 x7).f1.f2)).bind fun t771 => (if t771 = true then ((spec_l12One.f k x6 ((rd_T106 x1 x7).f0) ((rd_T106 x1 x7).f1.f0) ((rd_T106 x1 x7).f1.f1) ((rd_T106 x1 x7).f1.f2)).bind fun t773 => (spec_SetProps.l0 k x0 x1 t773 (wrap64 (x7 + 1)))) else ((some (([] : List (S71)) : List (S71))).bind fun y776 => (if y776.length + x0.length < 2932031007402 then (some ((y776 ++ x0), false)) else (none))))) else (none)) else ((spec_PropsOk.f k x6).bind fun t763 => (if t763 = true then (some (x6, true)) else ((some (([] : List (S71)) : List (S71))).bind fun y764 => (if y764.length + x0.length < 2932031007402 then (some ((y764 ++ x0), false)) else (none)))))
def spec_SetProps.f (k : Nat) (l0 : List (S71)) (l1 : List (S106)) : Option ((List (S71)) × Bool) := (some (([] : List (S71)) : List (S71))).bind fun y757 => (if y757.length + l0.length < 2932031007402 then (spec_SetProps.l0 k l0 l1 (y757 ++ l0) 0) else (none))
theorem spec_SetProps.calls (k : Nat) (A0 : Option Addr) (c0 : Nat) (l0 : List (S71)) (A1 : Option Addr) (c1 : Nat) (l1 : List (S106)) (r1 : List (S71)) (r2 : Bool) (w : World) (hr0 : Kd.C k71 w A0 l0.length l0) (hc0 : l0.length ≤ c0) (hr1 : Kd.C k106 w A1 l1.length l1) (hc1 : l1.length ≤ c1) (h : spec_SetProps.f k l0 l1 = some (r1, r2)) :
 Calls Try.prog 110 #[.slice A0 l0.length c0, .slice A1 l1.length c1] w fun e w' => ∃ v0_ : Value, e = .returned (.tuple #[v0_, .bool r2]) ∧ Kd.R k71 71 w' w.heap.size (fun _ => True) v0_ r1 ∧ Below w.heap.size w w' := by
 have hu71 := Try.underlying71
 have hu106 := Try.underlying106
 have HR0 := A_ hr0
 have HC0 := A_ hc0
 clear hr0 hc0
 have HR1 := A_ hr1
 have HC1 := A_ hc1
 clear hr1 hc1
 have HB := A_ (Below.refl w.heap.size w)
 have H : ((some (([] : List (S71)) : List (S71))).bind fun y757 => (if y757.length + l0.length < 2932031007402 then (spec_SetProps.l0 k l0 l1 (y757 ++ l0) 0) else (none))) = some (r1, r2) := h
 clear h
 obtain ⟨y757, hy757⟩ : ∃ y_ : List (S71), y_ = (([] : List (S71))) := ⟨_, rfl⟩
 replace H : (if y757.length + l0.length < 2932031007402 then (spec_SetProps.l0 k l0 l1 (y757 ++ l0) 0) else (none)) = some (r1, r2) := hy_ hy757 H
 have Ny757 := A_ hy757
 clear hy757
 by_cases c3 : y757.length + l0.length < 2932031007402
 rotate_left
 · exact absurd H (by rw [if_neg c3]; simp)
 rw [if_pos c3] at H
 have LMc3 := A_ c3
 clear c3
 obtain ⟨y760, hy760⟩ : ∃ y_ : List (S71), y_ = (y757 ++ l0) := ⟨_, rfl⟩
 replace H : (spec_SetProps.l0 k l0 l1 y760 0) = some (r1, r2) := hy_ hy760 H
 have Ny760 := A_ hy760
 clear hy760
 have H' := A_ H
 clear H
 go_enter Try.func110, Try.ntmps110
 go_wp2_with (first | ((with_reducible refine gd_ (N := 8) rfl ?_); refine Kd.R_lit k71 _ 71 ?hg (N := 8) ?hd (xs := ([] : List (S71))) (inner := []) (ok := fun _ => True) (okp := fun _ => True) ?hr ?hp (fun _ hk => hk) trivial (Below.refl _ _) (Nat.le_refl _) (by simp) ?_; (case hd => rfl); (case hg => rfl); (case hr => first | (go_simp; done) | (go_simp; rfl)); (case hp => exact (Reps.none _ _)); intro v758 w4 ho5 hb hg_ hnew_; clear hg_ hnew_; (first | rw [← Ny757.out] at ho5 | (simp only [Int.reduceToNat] at ho5; rw [← Ny757.out] at ho5)); have HO759 := A_ (Kd.R_lower ho5 (below_size bB_)); replace HB := A_ (below_step bB_ hb); clear hb ho5) | ((with_reducible refine gate_builtin (b := .append) (xs := #[.tmp 8, .tmp 9]) rfl ?_); at_builtin; refine Kd.R_append_rows k71 (w0 := w) w.heap.size rfl (.tmp 8) (.tmp 9) 31 71 (.agg #[(.string ⟨#[]⟩), (.string ⟨#[]⟩), (.string ⟨#[]⟩)]) 48 rfl Try.underlying31 info71 rfl (by decide) (by omega) v758 y757 l0 _ _ _ (fun _ => True) (fun _ => False) rfl rfl ?aO ?aR (fun _ _ h => h) (fun _ h => h.elim) ?aF ?aB ?aS ?aL ?_; (case aR => exact cC_ (Kd.C_below HR0.out HB.out)); (case aB => exact bB_); (case aF => exact (fun _ _ => trivial)); (case aO => exact (vR_ HO759.out)); (case aS => exact (below_size bB_)); (case aL => have := LMc3.out; omega); intro v761 w6 ho hb hg hat; rw [← Ny760.out] at ho; replace HB := A_ (hb); have HO762 := A_ (ho); clear HO759; clear ho hb hg hat))
 go_loopg [6, 7] k (fun kq v6 v7 w' => ∃ (x6_1 : List (S71)) (x7_1 : Int), v7 = .int .i64 x7_1 ∧ Aside0 (spec_SetProps.l0 kq l0 l1 x6_1 x7_1 = some (r1, r2)) ∧ Aside0 (kq ≤ k) ∧ Aside0 (Kd.R k71 71 w' w.heap.size (fun _ => True) v6 x6_1) ∧ Aside0 (Below w.heap.size w w'))
 case atStart => exact ⟨(y760), (0), rs_, H', ⟨Nat.le_refl _⟩, ⟨vR_ HO762.out⟩, ⟨bB_⟩⟩
 case round =>
  clear H'
  try clear c1
  try clear p2
  try clear c3
  obtain ⟨x6_1, x7_1, rfl, HA, HK1, HO_6, HB⟩ := hrel
  cases gk with
  | zero => exact absurd HA.out (by simp [spec_SetProps.l0])
  | succ k1 =>
   have H := HA.out
   clear HA
   simp only [spec_SetProps.l0] at H
   by_cases c7 : x7_1 < (l1.length : Int)
   rotate_left
   · rw [if_neg c7] at H
     have c7b0 : decide (x7_1 < (l1.length : Int)) = false := decide_eq_false c7
     clear c7
     obtain ⟨t763, A20, H⟩ := bo_ H
     (try dsimp only at H)
     by_cases c21 : t763 = true
     · subst c21
       rw [if_pos rfl] at H
       simp only [Option.some.injEq, Prod.mk.injEq] at H
       obtain ⟨rfl, rfl⟩ := H
       obtain ⟨Ao22, co22, eo22⟩ := Kd.R_slice HO_6.out
       subst eo22
       go_wp2_with (first | ((with_reducible refine gc_ (f := 29) rfl ?_); refine gL_ (some 34) Try.func29 #[.slice Ao22 x6_1.length co22] ?_; (with_reducible refine (spec_PropsOk.calls k1 _ _ x6_1 true _ ?s1 ?s2 A20.out).mono ?_); (case s1 => exact cC_ (Kd.R_reads' HO_6.out).2.2); (case s2 => exact (Kd.R_reads' HO_6.out).2.1); rintro e w23 ⟨rfl, hb⟩; refine ⟨_, rfl, ?_⟩; replace HO_6 := A_ (Kd.R_below (vR_ HO_6.out) hb); replace HB := A_ (below_step bB_ hb); (try clear hb)))
       go_ret2
       exact ⟨_, rr_, by (with_reducible repeat (first | apply Kd.R_alloc | apply Kd.R_drewN | apply Kd.R_drew)); exact HO_6.out, bB_⟩
     · replace c21 := Bool.eq_false_iff.mpr c21
       subst c21
       rw [if_neg nf_] at H
       obtain ⟨y764, hy764⟩ : ∃ y_ : List (S71), y_ = (([] : List (S71))) := ⟨_, rfl⟩
       replace H : (if y764.length + l0.length < 2932031007402 then (some ((y764 ++ l0), false)) else (none)) = some (r1, r2) := hy_ hy764 H
       have Ny764 := A_ hy764
       clear hy764
       by_cases c24 : y764.length + l0.length < 2932031007402
       rotate_left
       · exact absurd H (by rw [if_neg c24]; simp)
       rw [if_pos c24] at H
       have LMc24 := A_ c24
       clear c24
       obtain ⟨y767, hy767⟩ : ∃ y_ : List (S71), y_ = (y764 ++ l0) := ⟨_, rfl⟩
       replace H : (some (y767, false)) = some (r1, r2) := hy_ hy767 H
       have Ny767 := A_ hy767
       clear hy767
       simp only [Option.some.injEq, Prod.mk.injEq] at H
       obtain ⟨rfl, rfl⟩ := H
       obtain ⟨Ao25, co25, eo25⟩ := Kd.R_slice HO_6.out
       subst eo25
       go_wp2_with (first | ((with_reducible refine gc_ (f := 29) rfl ?_); refine gL_ (some 34) Try.func29 #[.slice Ao25 x6_1.length co25] ?_; (with_reducible refine (spec_PropsOk.calls k1 _ _ x6_1 false _ ?s1 ?s2 A20.out).mono ?_); (case s1 => exact cC_ (Kd.R_reads' HO_6.out).2.2); (case s2 => exact (Kd.R_reads' HO_6.out).2.1); rintro e w26 ⟨rfl, hb⟩; refine ⟨_, rfl, ?_⟩; replace HO_6 := A_ (Kd.R_below (vR_ HO_6.out) hb); replace HB := A_ (below_step bB_ hb); (try clear hb)) | ((with_reducible refine gd_ (N := 36) rfl ?_); refine Kd.R_lit k71 _ 71 ?hg (N := 36) ?hd (xs := ([] : List (S71))) (inner := []) (ok := fun _ => True) (okp := fun _ => True) ?hr ?hp (fun _ hk => hk) trivial (Below.refl _ _) (Nat.le_refl _) (by simp) ?_; (case hd => rfl); (case hg => rfl); (case hr => first | (go_simp; done) | (go_simp; rfl)); (case hp => exact (Reps.none _ _)); intro v765 w27 ho28 hb hg_ hnew_; clear hg_ hnew_; (first | rw [← Ny764.out] at ho28 | (simp only [Int.reduceToNat] at ho28; rw [← Ny764.out] at ho28)); have HO766 := A_ (Kd.R_lower (Kd.R_new' ho28 (Kd.R_lt (vR_ HO_6.out))) (below_size bB_)); replace HO_6 := A_ (Kd.R_elder' (vR_ HO_6.out) (kb_ ho28) hb); replace HB := A_ (below_step bB_ hb); clear hb ho28) | ((with_reducible refine gate_builtin (b := .append) (xs := #[.tmp 36, .tmp 37]) rfl ?_); at_builtin; refine Kd.R_append_rows k71 (w0 := w) w.heap.size rfl (.tmp 36) (.tmp 37) 31 71 (.agg #[(.string ⟨#[]⟩), (.string ⟨#[]⟩), (.string ⟨#[]⟩)]) 48 rfl Try.underlying31 info71 rfl (by decide) (by omega) v765 y764 l0 _ _ _ (fun k_ => some k_ ≠ (.slice Ao25 x6_1.length co25 : Value).ownBlock) (fun _ => False) rfl rfl ?aO ?aR (fun _ _ h => h) (fun _ h => h.elim) ?aF ?aB ?aS ?aL ?_; (case aR => exact cC_ (Kd.C_below HR0.out HB.out)); (case aB => exact bB_); (case aF => exact (fun k_ hk => Kd.fresh' (Kd.R_lt (vR_ HO_6.out)) k_ hk)); (case aO => exact (by (with_reducible repeat (first | apply Kd.R_alloc | apply Kd.R_drewN | apply Kd.R_drew)); exact Kd.R_mono HO766.out (fun _ hk => hk.2))); (case aS => exact (below_size bB_)); (case aL => have := LMc24.out; omega); intro v768 w29 ho hb hg hat; rw [← Ny767.out] at ho; replace HO_6 := A_ (Kd.R_after (ok := (fun _ => True)) (vR_ HO_6.out) hg hat); replace HB := A_ (hb); have HO769 := A_ (ho); clear HO766; clear ho hb hg hat))
       go_ret2
       exact ⟨_, rr_, by (with_reducible repeat (first | apply Kd.R_alloc | apply Kd.R_drewN | apply Kd.R_drew)); exact Kd.R_mono HO769.out (fun _ hk => trivial), bB_⟩
   rw [if_pos c7] at H
   have c7b0 : decide (x7_1 < (l1.length : Int)) = true := decide_eq_true c7
   clear c7
   by_cases c8 : 0 ≤ x7_1
   rotate_left
   · exact absurd H (by rw [if_neg c8]; simp)
   rw [if_pos c8] at H
   have c8b0 : decide (0 ≤ x7_1) = true := decide_eq_true c8
   clear c8
   obtain ⟨t771, A9, H⟩ := bo_ H
   (try dsimp only at H)
   by_cases c10 : t771 = true
   · subst c10
     rw [if_pos rfl] at H
     obtain ⟨t773, A11, H⟩ := bo_ H
     (try dsimp only at H)
     have H' := A_ H
     clear H
     have p770 : 0 ≤ (x7_1 : Int) := od_
     have q770 : x7_1 < (l1.length : Int) := od_
     obtain ⟨ad770, e770, hx770_0, hx770_1, hx770_2, hx770_3⟩ := at_T106 HR1.out x7_1 p770 q770
     cases e770
     replace hx770_0 := bc_ HB.out hx770_0
     replace hx770_1 := bc_ HB.out hx770_1
     replace hx770_2 := bc_ HB.out hx770_2
     replace hx770_3 := bc_ HB.out hx770_3
     replace p770 := eq_true p770
     replace q770 := eq_true q770
     go_wp2_with (first | ((with_reducible refine gc_ (f := 67) rfl ?_); refine gL_ (some 22) Try.func67 #[.agg #[.string ((rd_T106 l1 x7_1).f1.f0), .string ((rd_T106 l1 x7_1).f1.f1), .string ((rd_T106 l1 x7_1).f1.f2)]] ?_; (with_reducible refine (spec_l10Prop.calls k1 ((rd_T106 l1 x7_1).f1.f0) ((rd_T106 l1 x7_1).f1.f1) ((rd_T106 l1 x7_1).f1.f2) true _ A9.out).mono ?_); rintro e w12 ⟨rfl, hb⟩; refine ⟨_, rfl, ?_⟩; replace HO_6 := A_ (Kd.R_below (vR_ HO_6.out) hb); replace HB := A_ (below_step bB_ hb); (try clear hb); have p772 : 0 ≤ (x7_1 : Int) := od_; have q772 : x7_1 < (l1.length : Int) := od_; obtain ⟨ad772, e772, hx772_0, hx772_1, hx772_2, hx772_3⟩ := at_T106 HR1.out x7_1 p772 q772; obtain rfl : ad770 = ad772 := (by injection e772); replace hx772_0 := bc_ HB.out hx772_0; replace hx772_1 := bc_ HB.out hx772_1; replace hx772_2 := bc_ HB.out hx772_2; replace hx772_3 := bc_ HB.out hx772_3; replace p772 := eq_true p772; replace q772 := eq_true q772; obtain ⟨Ao13, co13, eo13⟩ := Kd.R_slice HO_6.out; subst eo13) | ((with_reducible refine gc_ (f := 122) rfl ?_); refine gL_ (some 32) Try.func122 #[.slice Ao13 x6_1.length co13, .agg #[.bool ((rd_T106 l1 x7_1).f0), .string ((rd_T106 l1 x7_1).f1.f0), .string ((rd_T106 l1 x7_1).f1.f1), .string ((rd_T106 l1 x7_1).f1.f2)]] ?_; (with_reducible refine (spec_l12One.calls k1 _ _ x6_1 ((rd_T106 l1 x7_1).f0) ((rd_T106 l1 x7_1).f1.f0) ((rd_T106 l1 x7_1).f1.f1) ((rd_T106 l1 x7_1).f1.f2) t773 _ ?s1 ?s2 A11.out).mono ?_); (case s1 => exact cC_ (Kd.R_reads' HO_6.out).2.2); (case s2 => exact (Kd.R_reads' HO_6.out).2.1); rintro e w14 ⟨v774, rfl, ho0, hb⟩; refine ⟨_, rfl, ?_⟩; have HO775 := A_ (Kd.R_lower (Kd.R_new' ho0 (Kd.R_lt (vR_ HO_6.out))) (below_size bB_)); replace HO_6 := A_ (Kd.R_elder' (vR_ HO_6.out) (kb_ ho0) hb); replace HB := A_ (below_step bB_ hb); (try clear hb); (try clear ho0)))
     go_roundg k1
     case measure => have := HK1.out; omega
     case rel => exact ⟨(t773), (wrap64 (x7_1 + 1)), rs_, H', ⟨by have := HK1.out; omega⟩, ⟨by (with_reducible repeat (first | apply Kd.R_alloc | apply Kd.R_drewN | apply Kd.R_drew)); exact Kd.R_mono HO775.out (fun _ hk => trivial)⟩, ⟨bB_⟩⟩
   · replace c10 := Bool.eq_false_iff.mpr c10
     subst c10
     rw [if_neg nf_] at H
     obtain ⟨y776, hy776⟩ : ∃ y_ : List (S71), y_ = (([] : List (S71))) := ⟨_, rfl⟩
     replace H : (if y776.length + l0.length < 2932031007402 then (some ((y776 ++ l0), false)) else (none)) = some (r1, r2) := hy_ hy776 H
     have Ny776 := A_ hy776
     clear hy776
     by_cases c15 : y776.length + l0.length < 2932031007402
     rotate_left
     · exact absurd H (by rw [if_neg c15]; simp)
     rw [if_pos c15] at H
     have LMc15 := A_ c15
     clear c15
     obtain ⟨y779, hy779⟩ : ∃ y_ : List (S71), y_ = (y776 ++ l0) := ⟨_, rfl⟩
     replace H : (some (y779, false)) = some (r1, r2) := hy_ hy779 H
     have Ny779 := A_ hy779
     clear hy779
     simp only [Option.some.injEq, Prod.mk.injEq] at H
     obtain ⟨rfl, rfl⟩ := H
     have p770 : 0 ≤ (x7_1 : Int) := od_
     have q770 : x7_1 < (l1.length : Int) := od_
     obtain ⟨ad770, e770, hx770_0, hx770_1, hx770_2, hx770_3⟩ := at_T106 HR1.out x7_1 p770 q770
     cases e770
     replace hx770_0 := bc_ HB.out hx770_0
     replace hx770_1 := bc_ HB.out hx770_1
     replace hx770_2 := bc_ HB.out hx770_2
     replace hx770_3 := bc_ HB.out hx770_3
     replace p770 := eq_true p770
     replace q770 := eq_true q770
     go_wp2_with (first | ((with_reducible refine gc_ (f := 67) rfl ?_); refine gL_ (some 22) Try.func67 #[.agg #[.string ((rd_T106 l1 x7_1).f1.f0), .string ((rd_T106 l1 x7_1).f1.f1), .string ((rd_T106 l1 x7_1).f1.f2)]] ?_; (with_reducible refine (spec_l10Prop.calls k1 ((rd_T106 l1 x7_1).f1.f0) ((rd_T106 l1 x7_1).f1.f1) ((rd_T106 l1 x7_1).f1.f2) false _ A9.out).mono ?_); rintro e w16 ⟨rfl, hb⟩; refine ⟨_, rfl, ?_⟩; replace HO_6 := A_ (Kd.R_below (vR_ HO_6.out) hb); replace HB := A_ (below_step bB_ hb); (try clear hb)) | ((with_reducible refine gd_ (N := 24) rfl ?_); refine Kd.R_lit k71 _ 71 ?hg (N := 24) ?hd (xs := ([] : List (S71))) (inner := []) (ok := fun _ => True) (okp := fun _ => True) ?hr ?hp (fun _ hk => hk) trivial (Below.refl _ _) (Nat.le_refl _) (by simp) ?_; (case hd => rfl); (case hg => rfl); (case hr => first | (go_simp; done) | (go_simp; rfl)); (case hp => exact (Reps.none _ _)); intro v777 w17 ho18 hb hg_ hnew_; clear hg_ hnew_; (first | rw [← Ny776.out] at ho18 | (simp only [Int.reduceToNat] at ho18; rw [← Ny776.out] at ho18)); have HO778 := A_ (Kd.R_lower (Kd.R_new' ho18 (Kd.R_lt (vR_ HO_6.out))) (below_size bB_)); replace HO_6 := A_ (Kd.R_elder' (vR_ HO_6.out) (kb_ ho18) hb); replace HB := A_ (below_step bB_ hb); clear hb ho18) | ((with_reducible refine gate_builtin (b := .append) (xs := #[.tmp 24, .tmp 25]) rfl ?_); at_builtin; refine Kd.R_append_rows k71 (w0 := w) w.heap.size rfl (.tmp 24) (.tmp 25) 31 71 (.agg #[(.string ⟨#[]⟩), (.string ⟨#[]⟩), (.string ⟨#[]⟩)]) 48 rfl Try.underlying31 info71 rfl (by decide) (by omega) v777 y776 l0 _ _ _ (fun k_ => some k_ ≠ (u6 : Value).ownBlock) (fun _ => False) rfl rfl ?aO ?aR (fun _ _ h => h) (fun _ h => h.elim) ?aF ?aB ?aS ?aL ?_; (case aR => exact cC_ (Kd.C_below HR0.out HB.out)); (case aB => exact bB_); (case aF => exact (fun k_ hk => Kd.fresh' (Kd.R_lt (vR_ HO_6.out)) k_ hk)); (case aO => exact (by (with_reducible repeat (first | apply Kd.R_alloc | apply Kd.R_drewN | apply Kd.R_drew)); exact Kd.R_mono HO778.out (fun _ hk => hk.2))); (case aS => exact (below_size bB_)); (case aL => have := LMc15.out; omega); intro v780 w19 ho hb hg hat; rw [← Ny779.out] at ho; replace HO_6 := A_ (Kd.R_after (ok := (fun _ => True)) (vR_ HO_6.out) hg hat); replace HB := A_ (hb); have HO781 := A_ (ho); clear HO778; clear ho hb hg hat))
     go_ret2
     exact ⟨_, rr_, by (with_reducible repeat (first | apply Kd.R_alloc | apply Kd.R_drewN | apply Kd.R_drew)); exact Kd.R_mono HO781.out (fun _ hk => trivial), bB_⟩
def spec_l10Props.l0 : Nat → List (S71) → Int → List Int → Int → Int → Option ((List (S71)) × Int × Int)
 | 0, _, _, _, _, _ => none
 | k + 1, x3, x4, x1000, x1001, x1002 => if x4 > 0 then ((spec_l10OneProp.f x1000 x1001 x1002).bind fun bt788 => ((spec_SetProps.f k x3 (([(⟨false, (⟨bt788.1, bt788.2.1, bt788.2.2.1⟩ : S71)⟩ : S106)] : List (S106)))).bind fun bt796 => (spec_l10Props.l0 k bt796.1 (wrap64 (x4 - 1)) x1000 bt788.2.2.2.1 bt788.2.2.2.2))) else (some (x3, x1001, x1002))
def spec_l10Props.f (k : Nat) (s0_0 : List Int) (s0_1 : Int) (s0_2 : Int) : Option ((List (S71)) × Int × Int) := (spec_l1Below.f s0_0 s0_1 s0_2 3).bind fun bt785 => (spec_l10Props.l0 k (([] : List (S71))) bt785.1 s0_0 bt785.2.1 bt785.2.2)
theorem spec_l10Props.calls (k : Nat) (g : Nat) (s0_0 : List Int) (s0_1 : Int) (s0_2 : Int) (r1 : List (S71)) (r2 : Int) (r3 : Int) (w0 w : World) (hI : IsS94 w0 w g s0_0 s0_1 s0_2) (hB : Below w0.heap.size w0 w) (h : spec_l10Props.f k s0_0 s0_1 s0_2 = some (r1, r2, r3)) :
 Calls Try.prog 89 #[.pointer (some ⟨g, 0, none⟩)] w fun e w' => ∃ v0_ : Value, e = .returned (v0_) ∧ Kd.R k71 71 w' w.heap.size (fun _ => True) v0_ r1 ∧ IsS94 w0 w' g s0_0 r2 r3 ∧ Below w0.heap.size w0 w' ∧ KeepBut w w' g none := by
 have hu106 := Try.underlying106
 have HI0 := A_ hI
 have HK := A_ (KeepBut.refl w g none)
 have HL := A_ hB.size
 clear hI
 have HW0 := A_ hB.size
 have HB := A_ hB
 clear hB
 have H : ((spec_l1Below.f s0_0 s0_1 s0_2 3).bind fun bt785 => (spec_l10Props.l0 k (([] : List (S71))) bt785.1 s0_0 bt785.2.1 bt785.2.2)) = some (r1, r2, r3) := h
 clear h
 obtain ⟨y782, hy782⟩ : ∃ y_ : List (S71), y_ = (([] : List (S71))) := ⟨_, rfl⟩
 replace H : ((spec_l1Below.f s0_0 s0_1 s0_2 3).bind fun bt785 => (spec_l10Props.l0 k y782 bt785.1 s0_0 bt785.2.1 bt785.2.2)) = some (r1, r2, r3) := hy_ hy782 H
 have Ny782 := A_ hy782
 clear hy782
 obtain ⟨⟨t785, t786, t787⟩, A2, H⟩ := bo_ H
 (try dsimp only at H)
 have H' := A_ H
 clear H
 go_enter Try.func89, Try.ntmps89
 go_wp2_with (first | ((with_reducible refine gd_ (N := 5) rfl ?_); refine Kd.R_lit k71 _ 71 ?hg (N := 5) ?hd (xs := ([] : List (S71))) (inner := []) (ok := fun _ => True) (okp := fun _ => True) ?hr ?hp (fun _ hk => hk) trivial (Below.refl _ _) (Nat.le_refl _) (by simp) ?_; (case hd => rfl); (case hg => rfl); (case hr => first | (go_simp; done) | (go_simp; rfl)); (case hp => exact (Reps.none _ _)); intro v783 w3 ho4 hb hg_ hnew_; clear hg_ hnew_; (first | rw [← Ny782.out] at ho4 | (simp only [Int.reduceToNat] at ho4; rw [← Ny782.out] at ho4)); have HO784 := A_ (Kd.R_lower ho4 (keep_size (w := w) (g := g) (row := none) bK_)); replace HK := A_ (KeepBut.trans bK_ (KeepBut.of_below hb g none) (.inl rfl)); replace HB := A_ (below_step bIQx241_ hb); replace HI0 := A_ (IsS94.below bIQx240_ hb); clear hb ho4) | ((with_reducible refine gc_ (f := 102) rfl ?_); refine gL_ (some 7) Try.func102 #[.pointer (some ⟨g, 0, none⟩), .int .i64 3] ?_; (with_reducible refine (spec_l1Below.calls g s0_0 s0_1 s0_2 3 t785 t786 t787 w0 _ ?s1 ?s2 A2.out).mono ?_); (case s1 => exact bIQx240_); (case s2 => exact bIQx241_); rintro e w5 ⟨rfl, hi, hb, hk⟩; refine ⟨_, rfl, ?_⟩; replace HO784 := A_ (Kd.R_mono (Kd.R_keep (IsS94.apart (show IsS94 w0 _ g s0_0 s0_1 s0_2 from bIQx240_) (vR_ HO784.out) (by decide)) hk (fun _ h => h.2)) (fun _ h => h.1)); replace HK := A_ (KeepBut.trans bK_ hk (.inl rfl)); replace HB := A_ (hb); replace HI0 := A_ (hi); (try clear hb); (try clear hk); (try clear hi)))
 go_loopg [3, 4] k (fun kq v3 v4 w' => ∃ (x3_1 : List (S71)) (x4_1 : Int) (x1001_1 : Int) (x1002_1 : Int), v4 = .int .i64 x4_1 ∧ Aside0 (spec_l10Props.l0 kq x3_1 x4_1 s0_0 x1001_1 x1002_1 = some (r1, r2, r3)) ∧ Aside0 (kq ≤ k) ∧ Aside0 (Kd.R k71 71 w' w.heap.size (fun _ => True) v3 x3_1) ∧ Aside0 (IsS94 w0 w' g s0_0 x1001_1 x1002_1) ∧ Aside0 (KeepBut w w' g none) ∧ Aside0 (Below w0.heap.size w0 w'))
 case atStart => exact ⟨(y782), (t785), (t786), (t787), rs_, H', ⟨Nat.le_refl _⟩, ⟨vR_ HO784.out⟩, ⟨bIQx240_⟩, ⟨bK_⟩, ⟨bIQx241_⟩⟩
 case round =>
  clear H'
  try clear c1
  try clear p2
  obtain ⟨x3_1, x4_1, x1001_1, x1002_1, rfl, HA, HK1, HO_3, HI0, HK, HB⟩ := hrel
  cases gk with
  | zero => exact absurd HA.out (by simp [spec_l10Props.l0])
  | succ k1 =>
   have H := HA.out
   clear HA
   simp only [spec_l10Props.l0] at H
   by_cases c6 : x4_1 > 0
   rotate_left
   · rw [if_neg c6] at H
     have c6b0 : decide (0 < x4_1) = false := decide_eq_false c6
     clear c6
     simp only [Option.some.injEq, Prod.mk.injEq] at H
     obtain ⟨rfl, rfl, rfl⟩ := H
     go_wp2
     go_ret
     exact ⟨_, rr_, by (with_reducible repeat (first | apply Kd.R_alloc | apply Kd.R_drewN | apply Kd.R_drew)); exact HO_3.out, bIQx240_, bIQx241_, bK_⟩
   rw [if_pos c6] at H
   have c6b0 : decide (0 < x4_1) = true := decide_eq_true c6
   clear c6
   obtain ⟨⟨t788, t789, t790, t791, t792⟩, A7, H⟩ := bo_ H
   (try dsimp only at H)
   obtain ⟨y793, hy793⟩ : ∃ y_ : List (S106), y_ = (([(⟨false, (⟨t788, t789, t790⟩ : S71)⟩ : S106)] : List (S106))) := ⟨_, rfl⟩
   replace H : ((spec_SetProps.f k1 x3_1 y793).bind fun bt796 => (spec_l10Props.l0 k1 bt796.1 (wrap64 (x4_1 - 1)) s0_0 t791 t792)) = some (r1, r2, r3) := hy_ hy793 H
   have Ny793 := A_ hy793
   clear hy793
   obtain ⟨⟨t796, t797⟩, A8, H⟩ := bo_ H
   (try dsimp only at H)
   have H' := A_ H
   clear H
   go_wp2_with (first | ((with_reducible refine gc_ (f := 108) rfl ?_); refine gL_ (some 15) Try.func108 #[.pointer (some ⟨g, 0, none⟩)] ?_; (with_reducible refine (spec_l10OneProp.calls g s0_0 x1001_1 x1002_1 t788 t789 t790 t791 t792 w0 _ ?s1 ?s2 A7.out).mono ?_); (case s1 => exact bIQx240_); (case s2 => exact bIQx241_); rintro e w9 ⟨rfl, hi, hb, hk⟩; refine ⟨_, rfl, ?_⟩; replace HO_3 := A_ (Kd.R_mono (Kd.R_keep (IsS94.apart (show IsS94 w0 _ g s0_0 x1001_1 x1002_1 from bIQx240_) (vR_ HO_3.out) (by decide)) hk (fun _ h => h.2)) (fun _ h => h.1)); replace HK := A_ (KeepBut.trans bK_ hk (.inl rfl)); replace HB := A_ (hb); replace HI0 := A_ (hi); (try clear hb); (try clear hk); (try clear hi)) | ((with_reducible refine gd_ (N := 17) rfl ?_); refine Kd.R_lit k106 _ 106 ?hg (N := 17) ?hd (xs := ([(⟨false, (⟨t788, t789, t790⟩ : S71)⟩ : S106)] : List (S106))) (inner := [.bool false, .string t788, .string t789, .string t790]) (ok := fun _ => True) (okp := fun _ => True) ?hr ?hp (fun _ hk => hk) trivial (Below.refl _ _) (Nat.le_refl _) (by simp) ?_; (case hd => rfl); (case hg => rfl); (case hr => first | (go_simp; done) | (go_simp; rfl)); (case hp => exact (Reps.c4 (show Kd.M k106 _ _ _ (⟨false, (⟨t788, t789, t790⟩ : S71)⟩ : S106) [.bool false, .string t788, .string t789, .string t790] from (k106_mkM _ _ _ (⟨false, (⟨t788, t789, t790⟩ : S71)⟩ : S106) )) (Reps.none _ _))); intro v794 w10 ho11 hb hg_ hnew_; clear hg_ hnew_; (first | rw [← Ny793.out] at ho11 | (simp only [Int.reduceToNat] at ho11; rw [← Ny793.out] at ho11)); replace HO_3 := A_ (Kd.R_below (vR_ HO_3.out) hb); have HO795 := A_ (Kd.R_lower ho11 (keep_size (w := w) (g := g) (row := none) bK_)); replace HK := A_ (KeepBut.trans bK_ (KeepBut.of_below hb g none) (.inl rfl)); replace HB := A_ (below_step bIQx241_ hb); replace HI0 := A_ (IsS94.below bIQx240_ hb); clear hb ho11; obtain ⟨Ao12, co12, eo12⟩ := Kd.R_slice HO_3.out; subst eo12; obtain ⟨Ao13, co13, eo13⟩ := Kd.R_slice HO795.out; subst eo13) | ((with_reducible refine gc_ (f := 110) rfl ?_); refine gL_ (some 18) Try.func110 #[.slice Ao12 x3_1.length co12, .slice Ao13 y793.length co13] ?_; (with_reducible refine (spec_SetProps.calls k1 _ _ x3_1 _ _ y793 t796 t797 _ ?s1 ?s2 ?s3 ?s4 A8.out).mono ?_); (case s1 => exact cC_ (Kd.R_reads' HO_3.out).2.2); (case s2 => exact (Kd.R_reads' HO_3.out).2.1); (case s3 => exact cC_ (Kd.R_reads' HO795.out).2.2); (case s4 => exact (Kd.R_reads' HO795.out).2.1); rintro e w14 ⟨v798, rfl, ho0, hb⟩; refine ⟨_, rfl, ?_⟩; replace HO795 := A_ (Kd.R_below (vR_ HO795.out) hb); have HO799 := A_ (Kd.R_lower (Kd.R_new' ho0 (Kd.R_lt (vR_ HO_3.out))) (keep_size (w := w) (g := g) (row := none) bK_)); replace HO_3 := A_ (Kd.R_elder' (vR_ HO_3.out) (kb_ ho0) hb); replace HK := A_ (KeepBut.trans bK_ (KeepBut.of_below hb g none) (.inl rfl)); replace HB := A_ (below_step bIQx241_ hb); replace HI0 := A_ (IsS94.below bIQx240_ hb); (try clear hb); (try clear hk); (try clear hi); (try clear ho0)))
   go_roundg k1
   case measure => have := HK1.out; omega
   case rel => exact ⟨(t796), (wrap64 (x4_1 - 1)), (t791), (t792), rs_, H', ⟨by have := HK1.out; omega⟩, ⟨by (with_reducible repeat (first | apply Kd.R_alloc | apply Kd.R_drewN | apply Kd.R_drew)); exact Kd.R_mono HO799.out (fun _ hk => trivial)⟩, ⟨bIQx240_⟩, ⟨bK_⟩, ⟨bIQx241_⟩⟩
def spec_l11May.f (k : Nat) (l0 : List (S59)) (l1 : List ByteArray) (a2 : Int) : Option (Int) := (spec_TreeOk.f k l0).bind fun t800 => (if t800 = true then ((spec_PathOk.f k l1).bind fun t801 => (if t801 = true then ((spec_l1In.f a2 0 99999).bind fun t802 => (if t802 = true then (some 0) else (some 507))) else (some 400))) else (some 500))
theorem spec_l11May.calls (k : Nat) (A0 : Option Addr) (c0 : Nat) (l0 : List (S59)) (A1 : Option Addr) (c1 : Nat) (l1 : List ByteArray) (a2 : Int) (r : Int) (w : World) (hr0 : Kd.C k59 w A0 l0.length l0) (hc0 : l0.length ≤ c0) (hr1 : Kd.C Kd.string w A1 l1.length l1) (hc1 : l1.length ≤ c1) (h : spec_l11May.f k l0 l1 a2 = some r) :
 Calls Try.prog 119 #[.slice A0 l0.length c0, .slice A1 l1.length c1, .int .i64 a2] w fun e w' => e = .returned (.int .i64 r) ∧ Below w.heap.size w w' := by
 have HR0 := A_ hr0
 have HC0 := A_ hc0
 clear hr0 hc0
 have HR1 := A_ hr1
 have HC1 := A_ hc1
 clear hr1 hc1
 have HB := A_ (Below.refl w.heap.size w)
 have H : ((spec_TreeOk.f k l0).bind fun t800 => (if t800 = true then ((spec_PathOk.f k l1).bind fun t801 => (if t801 = true then ((spec_l1In.f a2 0 99999).bind fun t802 => (if t802 = true then (some 0) else (some 507))) else (some 400))) else (some 500))) = some r := h
 clear h
 obtain ⟨t800, A4, H⟩ := bo_ H
 (try dsimp only at H)
 by_cases c5 : t800 = true
 · subst c5
   rw [if_pos rfl] at H
   obtain ⟨t801, A6, H⟩ := bo_ H
   (try dsimp only at H)
   by_cases c7 : t801 = true
   · subst c7
     rw [if_pos rfl] at H
     obtain ⟨t802, A8, H⟩ := bo_ H
     (try dsimp only at H)
     by_cases c9 : t802 = true
     · subst c9
       rw [if_pos rfl] at H
       obtain rfl := si_ H
       go_enter Try.func119, Try.ntmps119
       go_wp2_with (first | ((with_reducible refine gc_ (f := 49) rfl ?_); refine gL_ (some 9) Try.func49 #[.slice A0 l0.length c0] ?_; (with_reducible refine (spec_TreeOk.calls k _ _ l0 true _ ?s1 ?s2 A4.out).mono ?_); (case s1 => exact cC_ HR0.out); (case s2 => exact HC0.out); rintro e w10 ⟨rfl, hb⟩; refine ⟨_, rfl, ?_⟩; replace HB := A_ (below_step bB_ hb); (try clear hb)) | ((with_reducible refine gc_ (f := 82) rfl ?_); refine gL_ (some 13) Try.func82 #[.slice A1 l1.length c1] ?_; (with_reducible refine (spec_PathOk.calls k _ _ l1 true _ ?s1 ?s2 A6.out).mono ?_); (case s1 => exact cC_ (Kd.C_below HR1.out HB.out)); (case s2 => exact HC1.out); rintro e w' ⟨rfl, ⟨nd, rfl⟩⟩; refine ⟨_, rfl, ?_⟩) | ((with_reducible refine gc_ (f := 83) rfl ?_); refine gL_ (some 17) Try.func83 #[.int .i64 a2, .int .i64 0, .int .i64 99999] ?_; (with_reducible refine (spec_l1In.calls a2 0 99999 true _ A8.out).mono ?_); rintro e w' ⟨rfl, ⟨nd, rfl⟩⟩; refine ⟨_, rfl, ?_⟩))
       go_ret
       exact ⟨rr_, bB_⟩
     · replace c9 := Bool.eq_false_iff.mpr c9
       subst c9
       rw [if_neg nf_] at H
       obtain rfl := si_ H
       go_enter Try.func119, Try.ntmps119
       go_wp2_with (first | ((with_reducible refine gc_ (f := 49) rfl ?_); refine gL_ (some 9) Try.func49 #[.slice A0 l0.length c0] ?_; (with_reducible refine (spec_TreeOk.calls k _ _ l0 true _ ?s1 ?s2 A4.out).mono ?_); (case s1 => exact cC_ HR0.out); (case s2 => exact HC0.out); rintro e w11 ⟨rfl, hb⟩; refine ⟨_, rfl, ?_⟩; replace HB := A_ (below_step bB_ hb); (try clear hb)) | ((with_reducible refine gc_ (f := 82) rfl ?_); refine gL_ (some 13) Try.func82 #[.slice A1 l1.length c1] ?_; (with_reducible refine (spec_PathOk.calls k _ _ l1 true _ ?s1 ?s2 A6.out).mono ?_); (case s1 => exact cC_ (Kd.C_below HR1.out HB.out)); (case s2 => exact HC1.out); rintro e w' ⟨rfl, ⟨nd, rfl⟩⟩; refine ⟨_, rfl, ?_⟩) | ((with_reducible refine gc_ (f := 83) rfl ?_); refine gL_ (some 17) Try.func83 #[.int .i64 a2, .int .i64 0, .int .i64 99999] ?_; (with_reducible refine (spec_l1In.calls a2 0 99999 false _ A8.out).mono ?_); rintro e w' ⟨rfl, ⟨nd, rfl⟩⟩; refine ⟨_, rfl, ?_⟩))
       go_ret
       exact ⟨rr_, bB_⟩
   · replace c7 := Bool.eq_false_iff.mpr c7
     subst c7
     rw [if_neg nf_] at H
     obtain rfl := si_ H
     go_enter Try.func119, Try.ntmps119
     go_wp2_with (first | ((with_reducible refine gc_ (f := 49) rfl ?_); refine gL_ (some 9) Try.func49 #[.slice A0 l0.length c0] ?_; (with_reducible refine (spec_TreeOk.calls k _ _ l0 true _ ?s1 ?s2 A4.out).mono ?_); (case s1 => exact cC_ HR0.out); (case s2 => exact HC0.out); rintro e w12 ⟨rfl, hb⟩; refine ⟨_, rfl, ?_⟩; replace HB := A_ (below_step bB_ hb); (try clear hb)) | ((with_reducible refine gc_ (f := 82) rfl ?_); refine gL_ (some 13) Try.func82 #[.slice A1 l1.length c1] ?_; (with_reducible refine (spec_PathOk.calls k _ _ l1 false _ ?s1 ?s2 A6.out).mono ?_); (case s1 => exact cC_ (Kd.C_below HR1.out HB.out)); (case s2 => exact HC1.out); rintro e w' ⟨rfl, ⟨nd, rfl⟩⟩; refine ⟨_, rfl, ?_⟩))
     go_ret
     exact ⟨rr_, bB_⟩
 · replace c5 := Bool.eq_false_iff.mpr c5
   subst c5
   rw [if_neg nf_] at H
   obtain rfl := si_ H
   go_enter Try.func119, Try.ntmps119
   go_wp2_with (first | ((with_reducible refine gc_ (f := 49) rfl ?_); refine gL_ (some 9) Try.func49 #[.slice A0 l0.length c0] ?_; (with_reducible refine (spec_TreeOk.calls k _ _ l0 false _ ?s1 ?s2 A4.out).mono ?_); (case s1 => exact cC_ HR0.out); (case s2 => exact HC0.out); rintro e w13 ⟨rfl, hb⟩; refine ⟨_, rfl, ?_⟩; replace HB := A_ (below_step bB_ hb); (try clear hb)))
   go_ret
   exact ⟨rr_, bB_⟩
def spec_l10CopyAll.l0 : Nat → List (S59) → List (S59) → Int → Option ((List (S59)))
 | 0, _, _, _ => none
 | k + 1, x0, x3, x4 => if x4 < (x0.length : Int) then (if 0 ≤ x4 then ((spec_l10Copy.f ((rd_T59 x0 x4).f0) ((rd_T59 x0 x4).f1) ((rd_T59 x0 x4).f2) ((rd_T59 x0 x4).f3) ((rd_T59 x0 x4).f4)).bind fun bt807 => (if x3.length < 1759218604441 then (spec_l10CopyAll.l0 k x0 (x3 ++ [(⟨bt807.1, bt807.2.1, bt807.2.2.1, bt807.2.2.2.1, bt807.2.2.2.2⟩ : S59)]) (wrap64 (x4 + 1))) else (none))) else (none)) else (some x3)
def spec_l10CopyAll.f (k : Nat) (l0 : List (S59)) : Option ((List (S59))) := spec_l10CopyAll.l0 k l0 (([] : List (S59))) 0
theorem spec_l10CopyAll.calls (k : Nat) (A0 : Option Addr) (c0 : Nat) (l0 : List (S59)) (r : List (S59)) (w : World) (hr0 : Kd.C k59 w A0 l0.length l0) (hc0 : l0.length ≤ c0) (h : spec_l10CopyAll.f k l0 = some r) :
 Calls Try.prog 120 #[.slice A0 l0.length c0] w fun e w' => ∃ v0_ : Value, e = .returned (v0_) ∧ Kd.S k59 59 w' w.heap.size (fun _ => True) v0_ r ∧ Below w.heap.size w w' := by
 have hu59 := Try.underlying59
 have HR0 := A_ hr0
 have HC0 := A_ hc0
 clear hr0 hc0
 have HB := A_ (Below.refl w.heap.size w)
 have H : (spec_l10CopyAll.l0 k l0 (([] : List (S59))) 0) = some r := h
 clear h
 obtain ⟨y803, hy803⟩ : ∃ y_ : List (S59), y_ = (([] : List (S59))) := ⟨_, rfl⟩
 replace H : (spec_l10CopyAll.l0 k l0 y803 0) = some r := hy_ hy803 H
 have Ny803 := A_ hy803
 clear hy803
 have H' := A_ H
 clear H
 go_enter Try.func120, Try.ntmps120
 go_wp2_with (first | ((with_reducible refine gd_ (N := 5) rfl ?_); refine Kd.S_lit k59 _ 59 ?hg (N := 5) ?hd (xs := ([] : List (S59))) (inner := []) (ok := fun _ => True) (okp := fun _ => True) ?hr ?hp (fun _ hk => hk) trivial (Below.refl _ _) (Nat.le_refl _) (by simp) ?_; (case hd => rfl); (case hg => rfl); (case hr => first | (go_simp; done) | (go_simp; rfl)); (case hp => exact (Reps.none _ _)); intro v804 w2 ho3 hb hg_ hnew_; clear hg_ hnew_; (first | rw [← Ny803.out] at ho3 | (simp only [Int.reduceToNat] at ho3; rw [← Ny803.out] at ho3)); have HO805 := A_ (Kd.S_lower ho3 (below_size bB_)); replace HB := A_ (below_step bB_ hb); clear hb ho3))
 go_loopg [3, 4] k (fun kq v3 v4 w' => ∃ (x3_1 : List (S59)) (x4_1 : Int), v4 = .int .i64 x4_1 ∧ Aside0 (spec_l10CopyAll.l0 kq l0 x3_1 x4_1 = some r) ∧ Aside0 (kq ≤ k) ∧ Aside0 (Kd.S k59 59 w' w.heap.size (fun _ => True) v3 x3_1) ∧ Aside0 (Below w.heap.size w w'))
 case atStart => exact ⟨(y803), (0), rs_, H', ⟨Nat.le_refl _⟩, ⟨vS_ HO805.out⟩, ⟨bB_⟩⟩
 case round =>
  clear H'
  try clear c1
  try clear p2
  obtain ⟨x3_1, x4_1, rfl, HA, HK1, HO_3, HB⟩ := hrel
  cases gk with
  | zero => exact absurd HA.out (by simp [spec_l10CopyAll.l0])
  | succ k1 =>
   have H := HA.out
   clear HA
   simp only [spec_l10CopyAll.l0] at H
   by_cases c4 : x4_1 < (l0.length : Int)
   rotate_left
   · rw [if_neg c4] at H
     have c4b0 : decide (x4_1 < (l0.length : Int)) = false := decide_eq_false c4
     clear c4
     obtain rfl := si_ H
     go_wp2
     go_ret
     exact ⟨_, rr_, by (with_reducible repeat (first | apply Kd.S_alloc | apply Kd.S_drewN | apply Kd.S_drew)); exact HO_3.out, bB_⟩
   rw [if_pos c4] at H
   have c4b0 : decide (x4_1 < (l0.length : Int)) = true := decide_eq_true c4
   clear c4
   by_cases c5 : 0 ≤ x4_1
   rotate_left
   · exact absurd H (by rw [if_neg c5]; simp)
   rw [if_pos c5] at H
   have c5b0 : decide (0 ≤ x4_1) = true := decide_eq_true c5
   clear c5
   obtain ⟨⟨t807, t810, t811, t812, t813⟩, A6, H⟩ := bo_ H
   (try dsimp only at H)
   by_cases c7 : x3_1.length < 1759218604441
   rotate_left
   · exact absurd H (by rw [if_neg c7]; simp)
   rw [if_pos c7] at H
   have LMc7 := A_ c7
   clear c7
   obtain ⟨y816, hy816⟩ : ∃ y_ : List (S59), y_ = (x3_1 ++ [(⟨t807, t810, t811, t812, t813⟩ : S59)]) := ⟨_, rfl⟩
   replace H : (spec_l10CopyAll.l0 k1 l0 y816 (wrap64 (x4_1 + 1))) = some r := hy_ hy816 H
   have Ny816 := A_ hy816
   clear hy816
   have H' := A_ H
   clear H
   have p806 : 0 ≤ (x4_1 : Int) := od_
   have q806 : x4_1 < (l0.length : Int) := od_
   obtain ⟨ad806, A806_0, c806_0, A806_4, c806_4, e806, hx806_0, hx806_1, hx806_2, hx806_3, hx806_4, hl806_0, hi806_0, hl806_4, hi806_4⟩ := at_T59 HR0.out x4_1 p806 q806
   cases e806
   replace hx806_0 := bc_ HB.out hx806_0
   replace hx806_1 := bc_ HB.out hx806_1
   replace hx806_2 := bc_ HB.out hx806_2
   replace hx806_3 := bc_ HB.out hx806_3
   replace hx806_4 := bc_ HB.out hx806_4
   have HR806_0 := A_ hi806_0
   have HC806_0 := A_ hl806_0
   clear hi806_0 hl806_0
   have HR806_4 := A_ hi806_4
   have HC806_4 := A_ hl806_4
   clear hi806_4 hl806_4
   replace p806 := eq_true p806
   replace q806 := eq_true q806
   go_wp2_with (first | ((with_reducible refine gc_ (f := 78) rfl ?_); refine gL_ (some 17) Try.func78 #[.agg #[.slice A806_0 ((rd_T59 l0 x4_1).f0).length c806_0, .bool ((rd_T59 l0 x4_1).f1), .string ((rd_T59 l0 x4_1).f2), .int .i64 ((rd_T59 l0 x4_1).f3), .slice A806_4 ((rd_T59 l0 x4_1).f4).length c806_4]] ?_; (with_reducible refine (spec_l10Copy.calls _ _ ((rd_T59 l0 x4_1).f0) ((rd_T59 l0 x4_1).f1) ((rd_T59 l0 x4_1).f2) ((rd_T59 l0 x4_1).f3) _ _ ((rd_T59 l0 x4_1).f4) t807 t810 t811 t812 t813 _ ?s1 ?s2 ?s3 ?s4 A6.out).mono ?_); (case s1 => exact cC_ (Kd.C_below HR806_0.out HB.out)); (case s2 => exact HC806_0.out); (case s3 => exact cC_ (Kd.C_below HR806_4.out HB.out)); (case s4 => exact HC806_4.out); rintro e w8 ⟨v808, v814, rfl, ho0, ho1, hb⟩; refine ⟨_, rfl, ?_⟩; replace HO_3 := A_ (Kd.S_mono (Kd.S_told (Kd.S_told (Kd.S_old (vS_ HO_3.out) hb) (kb_ ho0)) (kb_ ho1)) (fun _ h_ => h_.1)); have HO809 := A_ (Kd.R_lower ho0 (below_size bB_)); have HO815 := A_ (Kd.R_lower ho1 (below_size bB_)); replace HB := A_ (below_step bB_ hb); (try clear hb); (try clear ho0); (try clear ho1); obtain ⟨Ao10, co10, eo10⟩ := Kd.R_slice HO809.out; subst eo10; obtain ⟨Ao11, co11, eo11⟩ := Kd.R_slice HO815.out; subst eo11) | ((with_reducible refine gate_builtin (b := .append) (xs := #[.tmp 12, .tmp 18]) rfl ?_); at_builtin; refine Kd.S_append k59 (w0 := w) w.heap.size rfl (.tmp 12) (.tmp 18) 40 59 (.agg #[(.slice none 0 0), (.bool false), (.string ⟨#[]⟩), (.int .i64 0), (.slice none 0 0)]) 80 rfl Try.underlying40 info59 rfl (by decide) (by omega) u3 x3_1 (⟨t807, t810, t811, t812, t813⟩ : S59) [.slice Ao10 t807.length co10, .bool t810, .string t811, .int .i64 t812, .slice Ao11 t813.length co11] (fun _ => True) (fun k_ => some k_ = (.slice Ao10 t807.length co10 : Value).ownBlock ∨ some k_ = (.slice Ao11 t813.length co11 : Value).ownBlock) rfl rfl ?aP (fun k_ hk_ => hk_.elim (fun h_ => ((Kd.R_mono (ok' := fun k_ => ((fun _ => True)) k_ ∧ some k_ ≠ (u3 : Value).ownBlock) (Kd.R_apart' (HO809.out) (Kd.S_typed HO_3.out) (by decide)) (fun k_ hk => ⟨trivial, hk.2⟩))).1 k_ h_.symm) (fun h_ => ((Kd.R_mono (ok' := fun k_ => ((fun _ => True)) k_ ∧ some k_ ≠ (u3 : Value).ownBlock) (Kd.R_apart' (HO815.out) (Kd.S_typed HO_3.out) (by decide)) (fun k_ hk => ⟨trivial, hk.2⟩))).1 k_ h_.symm)) ?aF ?aO ?aB ?aS ?aL ?_; (case aP => exact k59_mkM _ _ _ (⟨t807, t810, t811, t812, t813⟩ : S59) (Kd.R_mono (Kd.R_tight rfl (Kd.R_mono (ok' := fun k_ => ((fun _ => True)) k_ ∧ some k_ ≠ (u3 : Value).ownBlock) (Kd.R_apart' (HO809.out) (Kd.S_typed HO_3.out) (by decide)) (fun k_ hk => ⟨trivial, hk.2⟩))) (fun _ h_ => Or.inl h_)) (Kd.R_mono (Kd.R_tight rfl (Kd.R_mono (ok' := fun k_ => ((fun _ => True)) k_ ∧ some k_ ≠ (u3 : Value).ownBlock) (Kd.R_apart' (HO815.out) (Kd.S_typed HO_3.out) (by decide)) (fun k_ hk => ⟨trivial, hk.2⟩))) (fun _ h_ => Or.inr (h_)))); (case aB => exact bB_); (case aF => exact (fun _ _ => trivial)); (case aO => exact (by (with_reducible repeat (first | apply Kd.S_alloc | apply Kd.S_drewN | apply Kd.S_drew)); exact Kd.S_mono HO_3.out (fun k_ hk => ⟨trivial, fun e_ => e_.elim (fun h_ => hk.1.2 h_) (fun h_ => hk.2 h_)⟩))); (case aS => exact (below_size bB_)); (case aL => have := LMc7.out; omega); intro v817 w9 ho hb hg hat; rw [← Ny816.out] at ho; replace HB := A_ (hb); have HO818 := A_ (ho); clear HO_3 HO809 HO815; clear ho hb hg hat))
   go_roundg k1
   case measure => have := HK1.out; omega
   case rel => exact ⟨(y816), (wrap64 (x4_1 + 1)), rs_, H', ⟨by have := HK1.out; omega⟩, ⟨vS_ HO818.out⟩, ⟨bB_⟩⟩
end Go.Proofs.Yteabkidfgdmmpaa.Q
