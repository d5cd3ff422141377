-- PRINTED by print.py (a twelfth state) out of the translation. Not trusted: Lean checks it.
import Derived.Test.YtigoeooelfeopaaVSameSrvG24
set_option maxHeartbeats 8000000
set_option maxRecDepth 100000
namespace Go.Proofs.Ytigoeooelfeopaa.Q
open Go.RowKit Go.Proofs.YtigoeooelfeopaaW.PrintWords Go.Proofs.YtigoeooelfeopaaW.PrintLast Go.Proofs.YtigoeooelfeopaaW.PrintMore
attribute [local go_sem] max2_int min2_int max_two min_two max_three min_three max_four min_four   -- for this text's walks alone
set_option linter.unusedVariables false
set_option linter.unusedSimpArgs false
def spec_l15SameTree.l0 : Nat → List (S79) → List (S79) → Int → Option (Bool)
 | 0, _, _, _ => none
 | k + 1, x0, x1, x5 => if x5 < (x0.length : Int) then (if 0 ≤ x5 then (if x5 < (x1.length : Int) then ((spec_l15SameRes.f k ((rd_T79 x0 x5).f0) ((rd_T79 x0 x5).f1) ((rd_T79 x0 x5).f2) ((rd_T79 x0 x5).f3) ((rd_T79 x0 x5).f4) ((rd_T79 x1 x5).f0) ((rd_T79 x1 x5).f1) ((rd_T79 x1 x5).f2) ((rd_T79 x1 x5).f3) ((rd_T79 x1 x5).f4)).bind fun t156 => (if t156 = true then (spec_l15SameTree.l0 k x0 x1 (wrap64 (x5 + 1))) else (some false))) else (none)) else (none)) else (some true)
def spec_l15SameTree.f (k : Nat) (l0 : List (S79)) (l1 : List (S79)) : Option (Bool) := if (l0.length : Int) = (l1.length : Int) then (spec_l15SameTree.l0 k l0 l1 0) else (some false)
def spec_l15SameTree.T6 : Bool × List (List Nat × List Nat) := (true, [([], []), ([], []), ([0, 1], [0, 1]), ([2], [2]), ([], []), ([], []), ([4, 5], [4, 5]), ([6], [6]), ([3, 7], [3, 7]), ([8], [8])])
def spec_l15SameTree.B6 : List Nat := [0, 0, 3, 7, 0, 0, 48, 112, 255, 511]
theorem spec_l15SameTree.tab6 : rtab .any (opsOf Try.f47 6) = spec_l15SameTree.T6 := by kernel_rfl
theorem spec_l15SameTree.bits6 : waitsOk spec_l15SameTree.T6.2 spec_l15SameTree.B6 = true := by kernel_rfl
theorem spec_l15SameTree.calls (k : Nat) (A0 : Option Addr) (c0 : Nat) (l0 : List (S79)) (A1 : Option Addr) (c1 : Nat) (l1 : List (S79)) (r : Bool) (w : World) (hr0 : Kd.C k79 w A0 l0.length l0) (hc0 : l0.length ≤ c0) (hr1 : Kd.C k79 w A1 l1.length l1) (hc1 : l1.length ≤ c1) (h : spec_l15SameTree.f k l0 l1 = some r) :
 Calls Try.prog 47 #[.slice A0 l0.length c0, .slice A1 l1.length c1] w fun e w' => e = .returned (.bool r) ∧ Below w.heap.size w w' := by
 have hu79 := Try.underlying79
 have HR0 := A_ hr0
 have HC0 := A_ hc0
 clear hr0 hc0
 have HR1 := A_ hr1
 have HC1 := A_ hc1
 clear hr1 hc1
 have HB := A_ (Below.refl w.heap.size w)
 have H : (if (l0.length : Int) = (l1.length : Int) then (spec_l15SameTree.l0 k l0 l1 0) else (some false)) = some r := h
 clear h
 by_cases c3 : (l0.length : Int) = (l1.length : Int)
 rotate_left
 · rw [if_neg c3] at H
   have c3b0 : ((l0.length : Int) == (l1.length : Int)) = false := beq_eq_false_iff_ne.mpr c3
   have c3b1 : ((l0.length : Int) != (l1.length : Int)) = true := bne_iff_ne.mpr c3
   have c3b2 : (l0.length == l1.length) = false := by first | simpa using c3 | (simp at c3 ⊢; omega)
   obtain rfl := si_ H
   go_enter Try.func47, Try.ntmps47
   go_wp2
   go_ret
   exact ⟨rr_, bB_⟩
 rw [if_pos c3] at H
 have c3b0 : ((l0.length : Int) == (l1.length : Int)) = true := beq_iff_eq.mpr c3
 have c3b1 : ((l0.length : Int) != (l1.length : Int)) = false := bne_eq_false_iff_eq.mpr c3
 have c3b2 : (l0.length == l1.length) = true := by first | simpa using c3 | (simp at c3 ⊢; omega)
 clear c3
 have H' := A_ H
 clear H
 go_enter Try.func47, Try.ntmps47
 go_wp2
 go_loopg [5] k (fun kq v5 w' => ∃ (x5_1 : Int), v5 = .int .i64 x5_1 ∧ Aside0 (spec_l15SameTree.l0 kq l0 l1 x5_1 = some r) ∧ Aside0 (kq ≤ k) ∧ Aside0 (Below w.heap.size w w'))
 case atStart => exact ⟨(0), rs_, H', ⟨Nat.le_refl _⟩, ⟨bB_⟩⟩
 case round =>
  clear H'
  try clear c1
  try clear p2
  try clear c3
  try clear c3b0
  try clear c3b1
  try clear c3b2
  obtain ⟨x5_1, rfl, HA, HK1, HB⟩ := hrel
  cases gk with
  | zero => exact absurd HA.out (by simp [spec_l15SameTree.l0])
  | succ k1 =>
   have H := HA.out
   clear HA
   simp only [spec_l15SameTree.l0] at H
   by_cases c4 : x5_1 < (l0.length : Int)
   rotate_left
   · rw [if_neg c4] at H
     have c4b0 : decide (x5_1 < (l0.length : Int)) = false := decide_eq_false c4
     clear c4
     obtain rfl := si_ H
     go_wp2
     go_ret
     exact ⟨rr_, bB_⟩
   rw [if_pos c4] at H
   have c4b0 : decide (x5_1 < (l0.length : Int)) = true := decide_eq_true c4
   clear c4
   by_cases c5 : 0 ≤ x5_1
   rotate_left
   · exact absurd H (by rw [if_neg c5]; simp)
   rw [if_pos c5] at H
   have c5b0 : decide (0 ≤ x5_1) = true := decide_eq_true c5
   clear c5
   by_cases c6 : x5_1 < (l1.length : Int)
   rotate_left
   · exact absurd H (by rw [if_neg c6]; simp)
   rw [if_pos c6] at H
   have c6b0 : decide (x5_1 < (l1.length : Int)) = true := decide_eq_true c6
   clear c6
   obtain ⟨t156, A7, H⟩ := bo_ H
   (try dsimp only at H)
   by_cases c8 : t156 = true
   · subst c8
     rw [if_pos rfl] at H
     have H' := A_ H
     clear H
     try go_wp2
     replace HB := A_ (below_drew1 HB.out)
     have p154 : 0 ≤ (x5_1 : Int) := od_
     have q154 : x5_1 < (l0.length : Int) := od_
     obtain ⟨ad154, A154_0, c154_0, A154_4, c154_4, e154, hx154_0, hx154_1, hx154_2, hx154_3, hx154_4, hl154_0, hi154_0, hl154_4, hi154_4⟩ := at_T79 HR0.out x5_1 p154 q154
     have hw154_4 := hx154_4
     have hw154_3 := hx154_3
     have hw154_2 := hx154_2
     have hw154_1 := hx154_1
     have hw154_0 := hx154_0
     cases e154
     replace hx154_0 := bc_ HB.out hx154_0
     replace hx154_1 := bc_ HB.out hx154_1
     replace hx154_2 := bc_ HB.out hx154_2
     replace hx154_3 := bc_ HB.out hx154_3
     replace hx154_4 := bc_ HB.out hx154_4
     have HR154_0 := A_ hi154_0
     have HC154_0 := A_ hl154_0
     clear hi154_0 hl154_0
     have HR154_4 := A_ hi154_4
     have HC154_4 := A_ hl154_4
     clear hi154_4 hl154_4
     replace p154 := eq_true p154
     replace q154 := eq_true q154
     have p155 : 0 ≤ (x5_1 : Int) := od_
     have q155 : x5_1 < (l1.length : Int) := od_
     obtain ⟨ad155, A155_0, c155_0, A155_4, c155_4, e155, hx155_0, hx155_1, hx155_2, hx155_3, hx155_4, hl155_0, hi155_0, hl155_4, hi155_4⟩ := at_T79 HR1.out x5_1 p155 q155
     have hw155_4 := hx155_4
     have hw155_3 := hx155_3
     have hw155_2 := hx155_2
     have hw155_1 := hx155_1
     have hw155_0 := hx155_0
     cases e155
     replace hx155_0 := bc_ HB.out hx155_0
     replace hx155_1 := bc_ HB.out hx155_1
     replace hx155_2 := bc_ HB.out hx155_2
     replace hx155_3 := bc_ HB.out hx155_3
     replace hx155_4 := bc_ HB.out hx155_4
     have HR155_0 := A_ hi155_0
     have HC155_0 := A_ hl155_0
     clear hi155_0 hl155_0
     have HR155_4 := A_ hi155_4
     have HC155_4 := A_ hl155_4
     clear hi155_4 hl155_4
     replace p155 := eq_true p155
     replace q155 := eq_true q155
     refine start_ (n := 10) (S := fun w' => w'.cell? (ad154.add ((x5_1).toNat * 5)) = some (.slice A154_0 ((rd_T79 l0 x5_1).f0).length c154_0) ∧ w'.cell? ⟨(ad154.add ((x5_1).toNat * 5)).block, (ad154.add ((x5_1).toNat * 5)).off + 1, none⟩ = some (.bool ((rd_T79 l0 x5_1).f1)) ∧ w'.cell? ⟨(ad154.add ((x5_1).toNat * 5)).block, (ad154.add ((x5_1).toNat * 5)).off + 2, none⟩ = some (.string ((rd_T79 l0 x5_1).f2)) ∧ w'.cell? ⟨(ad154.add ((x5_1).toNat * 5)).block, (ad154.add ((x5_1).toNat * 5)).off + 3, none⟩ = some (.int .i64 ((rd_T79 l0 x5_1).f3)) ∧ w'.cell? ⟨(ad154.add ((x5_1).toNat * 5)).block, (ad154.add ((x5_1).toNat * 5)).off + 4, none⟩ = some (.slice A154_4 ((rd_T79 l0 x5_1).f4).length c154_4) ∧ w'.cell? (ad155.add ((x5_1).toNat * 5)) = some (.slice A155_0 ((rd_T79 l1 x5_1).f0).length c155_0) ∧ w'.cell? ⟨(ad155.add ((x5_1).toNat * 5)).block, (ad155.add ((x5_1).toNat * 5)).off + 1, none⟩ = some (.bool ((rd_T79 l1 x5_1).f1)) ∧ w'.cell? ⟨(ad155.add ((x5_1).toNat * 5)).block, (ad155.add ((x5_1).toNat * 5)).off + 2, none⟩ = some (.string ((rd_T79 l1 x5_1).f2)) ∧ w'.cell? ⟨(ad155.add ((x5_1).toNat * 5)).block, (ad155.add ((x5_1).toNat * 5)).off + 3, none⟩ = some (.int .i64 ((rd_T79 l1 x5_1).f3)) ∧ w'.cell? ⟨(ad155.add ((x5_1).toNat * 5)).block, (ad155.add ((x5_1).toNat * 5)).off + 4, none⟩ = some (.slice A155_4 ((rd_T79 l1 x5_1).f4).length c155_4)) (ds := []) #[false, false, false, false, false, false, false, false, false, false] (by kernel_rfl) rfl rfl ⟨(be_ hw154_0), (be_ hw154_1), (be_ hw154_2), (be_ hw154_3), (be_ hw154_4), (be_ hw155_0), (be_ hw155_1), (be_ hw155_2), (be_ hw155_3), (be_ hw155_4)⟩ (fun hHeld => ?_); refine with_tabW spec_l15SameTree.tab6 spec_l15SameTree.bits6 (fun HT_ HW_ => ?_)
     generalize wr.drew = w9 at HB HR154_0 HR154_4 HR155_0 HR155_4 hx154_0 hx154_1 hx154_2 hx154_3 hx154_4 hx155_0 hx155_1 hx155_2 hx155_3 hx155_4 hHeld ⊢
     refine pu_ (i := 0) (N := some 17) ?_
     refine pu_ (i := 1) (N := some 18) ?_
     refine pu_ (i := 2) (N := some 19) ?_
     refine pu_ (i := 4) (N := some 21) ?_
     refine pu_ (i := 5) (N := some 22) ?_
     refine pu_ (i := 6) (N := some 23) ?_
     refine tk_ (i := 3) (N := some 20) hHeld ?_
     refine tk_ (i := 7) (N := some 24) hHeld ?_
     refine on_ (i := 8) (N := some 25) (fun K hK => ?_)
     refine goes_ Try.func67 (by kernel_rfl) rfl #[.agg #[.slice A154_0 ((rd_T79 l0 x5_1).f0).length c154_0, .bool ((rd_T79 l0 x5_1).f1), .string ((rd_T79 l0 x5_1).f2), .int .i64 ((rd_T79 l0 x5_1).f3), .slice A154_4 ((rd_T79 l0 x5_1).f4).length c154_4], .agg #[.slice A155_0 ((rd_T79 l1 x5_1).f0).length c155_0, .bool ((rd_T79 l1 x5_1).f1), .string ((rd_T79 l1 x5_1).f2), .int .i64 ((rd_T79 l1 x5_1).f3), .slice A155_4 ((rd_T79 l1 x5_1).f4).length c155_4]] (by rfl) rfl rfl ml_ ?_
     with_reducible refine (spec_l15SameRes.calls k1 _ _ ((rd_T79 l0 x5_1).f0) ((rd_T79 l0 x5_1).f1) ((rd_T79 l0 x5_1).f2) ((rd_T79 l0 x5_1).f3) _ _ ((rd_T79 l0 x5_1).f4) _ _ ((rd_T79 l1 x5_1).f0) ((rd_T79 l1 x5_1).f1) ((rd_T79 l1 x5_1).f2) ((rd_T79 l1 x5_1).f3) _ _ ((rd_T79 l1 x5_1).f4) true _ ?s1 ?s2 ?s3 ?s4 ?s5 ?s6 ?s7 ?s8 A7.out).mono ?_
     (case s1 => exact cC_ (Kd.C_below HR154_0.out HB.out))
     (case s2 => exact HC154_0.out)
     (case s3 => exact cC_ (Kd.C_below HR154_4.out HB.out))
     (case s4 => exact HC154_4.out)
     (case s5 => exact cC_ (Kd.C_below HR155_0.out HB.out))
     (case s6 => exact HC155_0.out)
     (case s7 => exact cC_ (Kd.C_below HR155_4.out HB.out))
     (case s8 => exact HC155_4.out)
     rintro e w10 ⟨rfl, hb⟩
     refine ⟨_, rfl, ?_⟩
     replace HB := A_ (below_step bB_ hb)
     (try clear hb)
     (try clear hb2)
     (try clear hk)
     (try clear hi)
     refine hK.out _ _ ⟨(be_ hw154_0), (be_ hw154_1), (be_ hw154_2), (be_ hw154_3), (be_ hw154_4), (be_ hw155_0), (be_ hw155_1), (be_ hw155_2), (be_ hw155_3), (be_ hw155_4)⟩ (fun hHeld => ?_)
     clear hK K
     refine no_ (some 25) ?_
     refine pu_ (i := 9) (N := some 26) ?_
     refine done_ (done_of HT_.out (by kernel_rfl)) ?_
     (try clear hHeld)
     try go_wp2
     go_roundg k1
     case measure => have := HK1.out; omega
     case rel => exact ⟨(wrap64 (x5_1 + 1)), rs_, H', ⟨by have := HK1.out; omega⟩, ⟨bB_⟩⟩
   · replace c8 := Bool.eq_false_iff.mpr c8
     subst c8
     rw [if_neg nf_] at H
     obtain rfl := si_ H
     try go_wp2
     replace HB := A_ (below_drew1 HB.out)
     have p154 : 0 ≤ (x5_1 : Int) := od_
     have q154 : x5_1 < (l0.length : Int) := od_
     obtain ⟨ad154, A154_0, c154_0, A154_4, c154_4, e154, hx154_0, hx154_1, hx154_2, hx154_3, hx154_4, hl154_0, hi154_0, hl154_4, hi154_4⟩ := at_T79 HR0.out x5_1 p154 q154
     have hw154_4 := hx154_4
     have hw154_3 := hx154_3
     have hw154_2 := hx154_2
     have hw154_1 := hx154_1
     have hw154_0 := hx154_0
     cases e154
     replace hx154_0 := bc_ HB.out hx154_0
     replace hx154_1 := bc_ HB.out hx154_1
     replace hx154_2 := bc_ HB.out hx154_2
     replace hx154_3 := bc_ HB.out hx154_3
     replace hx154_4 := bc_ HB.out hx154_4
     have HR154_0 := A_ hi154_0
     have HC154_0 := A_ hl154_0
     clear hi154_0 hl154_0
     have HR154_4 := A_ hi154_4
     have HC154_4 := A_ hl154_4
     clear hi154_4 hl154_4
     replace p154 := eq_true p154
     replace q154 := eq_true q154
     have p155 : 0 ≤ (x5_1 : Int) := od_
     have q155 : x5_1 < (l1.length : Int) := od_
     obtain ⟨ad155, A155_0, c155_0, A155_4, c155_4, e155, hx155_0, hx155_1, hx155_2, hx155_3, hx155_4, hl155_0, hi155_0, hl155_4, hi155_4⟩ := at_T79 HR1.out x5_1 p155 q155
     have hw155_4 := hx155_4
     have hw155_3 := hx155_3
     have hw155_2 := hx155_2
     have hw155_1 := hx155_1
     have hw155_0 := hx155_0
     cases e155
     replace hx155_0 := bc_ HB.out hx155_0
     replace hx155_1 := bc_ HB.out hx155_1
     replace hx155_2 := bc_ HB.out hx155_2
     replace hx155_3 := bc_ HB.out hx155_3
     replace hx155_4 := bc_ HB.out hx155_4
     have HR155_0 := A_ hi155_0
     have HC155_0 := A_ hl155_0
     clear hi155_0 hl155_0
     have HR155_4 := A_ hi155_4
     have HC155_4 := A_ hl155_4
     clear hi155_4 hl155_4
     replace p155 := eq_true p155
     replace q155 := eq_true q155
     refine start_ (n := 10) (S := fun w' => w'.cell? (ad154.add ((x5_1).toNat * 5)) = some (.slice A154_0 ((rd_T79 l0 x5_1).f0).length c154_0) ∧ w'.cell? ⟨(ad154.add ((x5_1).toNat * 5)).block, (ad154.add ((x5_1).toNat * 5)).off + 1, none⟩ = some (.bool ((rd_T79 l0 x5_1).f1)) ∧ w'.cell? ⟨(ad154.add ((x5_1).toNat * 5)).block, (ad154.add ((x5_1).toNat * 5)).off + 2, none⟩ = some (.string ((rd_T79 l0 x5_1).f2)) ∧ w'.cell? ⟨(ad154.add ((x5_1).toNat * 5)).block, (ad154.add ((x5_1).toNat * 5)).off + 3, none⟩ = some (.int .i64 ((rd_T79 l0 x5_1).f3)) ∧ w'.cell? ⟨(ad154.add ((x5_1).toNat * 5)).block, (ad154.add ((x5_1).toNat * 5)).off + 4, none⟩ = some (.slice A154_4 ((rd_T79 l0 x5_1).f4).length c154_4) ∧ w'.cell? (ad155.add ((x5_1).toNat * 5)) = some (.slice A155_0 ((rd_T79 l1 x5_1).f0).length c155_0) ∧ w'.cell? ⟨(ad155.add ((x5_1).toNat * 5)).block, (ad155.add ((x5_1).toNat * 5)).off + 1, none⟩ = some (.bool ((rd_T79 l1 x5_1).f1)) ∧ w'.cell? ⟨(ad155.add ((x5_1).toNat * 5)).block, (ad155.add ((x5_1).toNat * 5)).off + 2, none⟩ = some (.string ((rd_T79 l1 x5_1).f2)) ∧ w'.cell? ⟨(ad155.add ((x5_1).toNat * 5)).block, (ad155.add ((x5_1).toNat * 5)).off + 3, none⟩ = some (.int .i64 ((rd_T79 l1 x5_1).f3)) ∧ w'.cell? ⟨(ad155.add ((x5_1).toNat * 5)).block, (ad155.add ((x5_1).toNat * 5)).off + 4, none⟩ = some (.slice A155_4 ((rd_T79 l1 x5_1).f4).length c155_4)) (ds := []) #[false, false, false, false, false, false, false, false, false, false] (by kernel_rfl) rfl rfl ⟨(be_ hw154_0), (be_ hw154_1), (be_ hw154_2), (be_ hw154_3), (be_ hw154_4), (be_ hw155_0), (be_ hw155_1), (be_ hw155_2), (be_ hw155_3), (be_ hw155_4)⟩ (fun hHeld => ?_); refine with_tabW spec_l15SameTree.tab6 spec_l15SameTree.bits6 (fun HT_ HW_ => ?_)
     generalize wr.drew = w11 at HB HR154_0 HR154_4 HR155_0 HR155_4 hx154_0 hx154_1 hx154_2 hx154_3 hx154_4 hx155_0 hx155_1 hx155_2 hx155_3 hx155_4 hHeld ⊢
     refine pu_ (i := 0) (N := some 17) ?_
     refine pu_ (i := 1) (N := some 18) ?_
     refine pu_ (i := 2) (N := some 19) ?_
     refine pu_ (i := 4) (N := some 21) ?_
     refine pu_ (i := 5) (N := some 22) ?_
     refine pu_ (i := 6) (N := some 23) ?_
     refine tk_ (i := 3) (N := some 20) hHeld ?_
     refine tk_ (i := 7) (N := some 24) hHeld ?_
     refine on_ (i := 8) (N := some 25) (fun K hK => ?_)
     refine goes_ Try.func67 (by kernel_rfl) rfl #[.agg #[.slice A154_0 ((rd_T79 l0 x5_1).f0).length c154_0, .bool ((rd_T79 l0 x5_1).f1), .string ((rd_T79 l0 x5_1).f2), .int .i64 ((rd_T79 l0 x5_1).f3), .slice A154_4 ((rd_T79 l0 x5_1).f4).length c154_4], .agg #[.slice A155_0 ((rd_T79 l1 x5_1).f0).length c155_0, .bool ((rd_T79 l1 x5_1).f1), .string ((rd_T79 l1 x5_1).f2), .int .i64 ((rd_T79 l1 x5_1).f3), .slice A155_4 ((rd_T79 l1 x5_1).f4).length c155_4]] (by rfl) rfl rfl ml_ ?_
     with_reducible refine (spec_l15SameRes.calls k1 _ _ ((rd_T79 l0 x5_1).f0) ((rd_T79 l0 x5_1).f1) ((rd_T79 l0 x5_1).f2) ((rd_T79 l0 x5_1).f3) _ _ ((rd_T79 l0 x5_1).f4) _ _ ((rd_T79 l1 x5_1).f0) ((rd_T79 l1 x5_1).f1) ((rd_T79 l1 x5_1).f2) ((rd_T79 l1 x5_1).f3) _ _ ((rd_T79 l1 x5_1).f4) false _ ?s1 ?s2 ?s3 ?s4 ?s5 ?s6 ?s7 ?s8 A7.out).mono ?_
     (case s1 => exact cC_ (Kd.C_below HR154_0.out HB.out))
     (case s2 => exact HC154_0.out)
     (case s3 => exact cC_ (Kd.C_below HR154_4.out HB.out))
     (case s4 => exact HC154_4.out)
     (case s5 => exact cC_ (Kd.C_below HR155_0.out HB.out))
     (case s6 => exact HC155_0.out)
     (case s7 => exact cC_ (Kd.C_below HR155_4.out HB.out))
     (case s8 => exact HC155_4.out)
     rintro e w12 ⟨rfl, hb⟩
     refine ⟨_, rfl, ?_⟩
     replace HB := A_ (below_step bB_ hb)
     (try clear hb)
     (try clear hb2)
     (try clear hk)
     (try clear hi)
     refine hK.out _ _ ⟨(be_ hw154_0), (be_ hw154_1), (be_ hw154_2), (be_ hw154_3), (be_ hw154_4), (be_ hw155_0), (be_ hw155_1), (be_ hw155_2), (be_ hw155_3), (be_ hw155_4)⟩ (fun hHeld => ?_)
     clear hK K
     refine no_ (some 25) ?_
     refine pu_ (i := 9) (N := some 26) ?_
     refine done_ (done_of HT_.out (by kernel_rfl)) ?_
     (try clear hHeld)
     try go_wp2
     go_ret
     exact ⟨rr_, bB_⟩
def spec_l15SameLocks.l0 : Nat → List (S82) → List (S82) → Int → Option (Bool)
 | 0, _, _, _ => none
 | k + 1, x0, x1, x5 => if x5 < (x0.length : Int) then (if 0 ≤ x5 then (if x5 < (x1.length : Int) then (if ((rd_T82 x0 x5).f0) = ((rd_T82 x1 x5).f0) then ((spec_SamePath.f k ((rd_T82 x0 x5).f1) ((rd_T82 x1 x5).f1)).bind fun t161 => (if t161 = true then (if (((rd_T82 x0 x5).f2) != ((rd_T82 x1 x5).f2)) = true then (some false) else (if (((rd_T82 x0 x5).f3) != ((rd_T82 x1 x5).f3)) = true then (some false) else (if ((rd_T82 x0 x5).f4) = ((rd_T82 x1 x5).f4) then (spec_l15SameLocks.l0 k x0 x1 (wrap64 (x5 + 1))) else (some false)))) else (some false))) else (some false)) else (none)) else (none)) else (some true)
def spec_l15SameLocks.f (k : Nat) (l0 : List (S82)) (l1 : List (S82)) : Option (Bool) := if (l0.length : Int) = (l1.length : Int) then (spec_l15SameLocks.l0 k l0 l1 0) else (some false)
theorem spec_l15SameLocks.calls (k : Nat) (A0 : Option Addr) (c0 : Nat) (l0 : List (S82)) (A1 : Option Addr) (c1 : Nat) (l1 : List (S82)) (r : Bool) (w : World) (hr0 : Kd.C k82 w A0 l0.length l0) (hc0 : l0.length ≤ c0) (hr1 : Kd.C k82 w A1 l1.length l1) (hc1 : l1.length ≤ c1) (h : spec_l15SameLocks.f k l0 l1 = some r) :
 Calls Try.prog 48 #[.slice A0 l0.length c0, .slice A1 l1.length c1] w fun e w' => e = .returned (.bool r) ∧ Below w.heap.size w w' := by
 have hu82 := Try.underlying82
 have HR0 := A_ hr0
 have HC0 := A_ hc0
 clear hr0 hc0
 have HR1 := A_ hr1
 have HC1 := A_ hc1
 clear hr1 hc1
 have HB := A_ (Below.refl w.heap.size w)
 have H : (if (l0.length : Int) = (l1.length : Int) then (spec_l15SameLocks.l0 k l0 l1 0) else (some false)) = some r := h
 clear h
 by_cases c3 : (l0.length : Int) = (l1.length : Int)
 rotate_left
 · rw [if_neg c3] at H
   have c3b0 : ((l0.length : Int) == (l1.length : Int)) = false := beq_eq_false_iff_ne.mpr c3
   have c3b1 : ((l0.length : Int) != (l1.length : Int)) = true := bne_iff_ne.mpr c3
   have c3b2 : (l0.length == l1.length) = false := by first | simpa using c3 | (simp at c3 ⊢; omega)
   obtain rfl := si_ H
   go_enter Try.func48, Try.ntmps48
   go_wp2
   go_ret
   exact ⟨rr_, bB_⟩
 rw [if_pos c3] at H
 have c3b0 : ((l0.length : Int) == (l1.length : Int)) = true := beq_iff_eq.mpr c3
 have c3b1 : ((l0.length : Int) != (l1.length : Int)) = false := bne_eq_false_iff_eq.mpr c3
 have c3b2 : (l0.length == l1.length) = true := by first | simpa using c3 | (simp at c3 ⊢; omega)
 clear c3
 have H' := A_ H
 clear H
 go_enter Try.func48, Try.ntmps48
 go_wp2
 go_loopg [5] k (fun kq v5 w' => ∃ (x5_1 : Int), v5 = .int .i64 x5_1 ∧ Aside0 (spec_l15SameLocks.l0 kq l0 l1 x5_1 = some r) ∧ Aside0 (kq ≤ k) ∧ Aside0 (Below w.heap.size w w'))
 case atStart => exact ⟨(0), rs_, H', ⟨Nat.le_refl _⟩, ⟨bB_⟩⟩
 case round =>
  clear H'
  try clear c1
  try clear p2
  try clear c3
  try clear c3b0
  try clear c3b1
  try clear c3b2
  obtain ⟨x5_1, rfl, HA, HK1, HB⟩ := hrel
  cases gk with
  | zero => exact absurd HA.out (by simp [spec_l15SameLocks.l0])
  | succ k1 =>
   have H := HA.out
   clear HA
   simp only [spec_l15SameLocks.l0] at H
   by_cases c4 : x5_1 < (l0.length : Int)
   rotate_left
   · rw [if_neg c4] at H
     have c4b0 : decide (x5_1 < (l0.length : Int)) = false := decide_eq_false c4
     clear c4
     obtain rfl := si_ H
     go_wp2
     go_ret
     exact ⟨rr_, bB_⟩
   rw [if_pos c4] at H
   have c4b0 : decide (x5_1 < (l0.length : Int)) = true := decide_eq_true c4
   clear c4
   by_cases c5 : 0 ≤ x5_1
   rotate_left
   · exact absurd H (by rw [if_neg c5]; simp)
   rw [if_pos c5] at H
   have c5b0 : decide (0 ≤ x5_1) = true := decide_eq_true c5
   clear c5
   by_cases c6 : x5_1 < (l1.length : Int)
   rotate_left
   · exact absurd H (by rw [if_neg c6]; simp)
   rw [if_pos c6] at H
   have c6b0 : decide (x5_1 < (l1.length : Int)) = true := decide_eq_true c6
   clear c6
   by_cases c7 : ((rd_T82 l0 x5_1).f0) = ((rd_T82 l1 x5_1).f0)
   rotate_left
   · rw [if_neg c7] at H
     have c7b0 : (((rd_T82 l0 x5_1).f0) == ((rd_T82 l1 x5_1).f0)) = false := beq_eq_false_iff_ne.mpr c7
     have c7b1 : (((rd_T82 l0 x5_1).f0) != ((rd_T82 l1 x5_1).f0)) = true := bne_iff_ne.mpr c7
     obtain rfl := si_ H
     have p157 : 0 ≤ (x5_1 : Int) := od_
     have q157 : x5_1 < (l0.length : Int) := od_
     obtain ⟨ad157, A157_1, c157_1, e157, hx157_0, hx157_1, hx157_2, hx157_3, hx157_4, hl157_1, hi157_1⟩ := at_T82 HR0.out x5_1 p157 q157
     cases e157
     replace hx157_0 := bc_ HB.out hx157_0
     replace hx157_1 := bc_ HB.out hx157_1
     replace hx157_2 := bc_ HB.out hx157_2
     replace hx157_3 := bc_ HB.out hx157_3
     replace hx157_4 := bc_ HB.out hx157_4
     have HR157_1 := A_ hi157_1
     have HC157_1 := A_ hl157_1
     clear hi157_1 hl157_1
     replace p157 := eq_true p157
     replace q157 := eq_true q157
     go_wp2_with (first | ((with_reducible refine gd_ (N := 6) rfl ?_); refine bx_ (N := 6) (cs := #[.int .i64 0, .slice none 0 0, .bool false, .bool false, .int .i64 0]) (t := 82) ?_; intro gb158 hg w43 hbox hb; have BK158 := A_ (hbox); have GW158 := A_ (ge_ hg bB_ : w.heap.size ≤ gb158); have GE158 := A_ (ge_ hg bB_ : w.heap.size ≤ gb158); replace HB := A_ (below_step bB_ hb); clear hb hbox hg; obtain ⟨hcz44_0, hcz44_1, hcz44_2, hcz44_3, hcz44_4, hfz44_0, hfz44_1, hfz44_2, hfz44_3, hfz44_4⟩ := cz5_ BK158.out; have p159 : 0 ≤ (x5_1 : Int) := od_; have q159 : x5_1 < (l1.length : Int) := od_; obtain ⟨ad159, A159_1, c159_1, e159, hx159_0, hx159_1, hx159_2, hx159_3, hx159_4, hl159_1, hi159_1⟩ := at_T82 HR1.out x5_1 p159 q159; cases e159; have hn159_0 : ad159.block ≠ gb158 := Nat.ne_of_lt (Nat.lt_of_lt_of_le (by have := World.block_lt_of_cell? _ _ hx159_0; first | rwa [add_block] at this | exact this) GW158.out); have hn159_1 : ad159.block ≠ gb158 := Nat.ne_of_lt (Nat.lt_of_lt_of_le (by have := World.block_lt_of_cell? _ _ hx159_0; first | rwa [add_block] at this | exact this) GW158.out); have hn159_2 : ad159.block ≠ gb158 := Nat.ne_of_lt (Nat.lt_of_lt_of_le (by have := World.block_lt_of_cell? _ _ hx159_0; first | rwa [add_block] at this | exact this) GW158.out); have hn159_3 : ad159.block ≠ gb158 := Nat.ne_of_lt (Nat.lt_of_lt_of_le (by have := World.block_lt_of_cell? _ _ hx159_0; first | rwa [add_block] at this | exact this) GW158.out); have hn159_4 : ad159.block ≠ gb158 := Nat.ne_of_lt (Nat.lt_of_lt_of_le (by have := World.block_lt_of_cell? _ _ hx159_0; first | rwa [add_block] at this | exact this) GW158.out); replace hx159_0 := bc_ HB.out hx159_0; replace hx159_1 := bc_ HB.out hx159_1; replace hx159_2 := bc_ HB.out hx159_2; replace hx159_3 := bc_ HB.out hx159_3; replace hx159_4 := bc_ HB.out hx159_4; have HR159_1 := A_ hi159_1; have HC159_1 := A_ hl159_1; clear hi159_1 hl159_1; replace hx159_0 := (cell_far (p := ⟨gb158, 0, none⟩) (by first | (rw [add_block]; exact hn159_0) | (show (Addr.add _ _).block ≠ _; rw [add_block]; exact hn159_0) | exact hn159_0) (.int .i64 ((rd_T82 l0 x5_1).f0))).trans hx159_0; replace hx159_1 := (cell_far (p := ⟨gb158, 0, none⟩) (by first | (rw [add_block]; exact hn159_0) | (show (Addr.add _ _).block ≠ _; rw [add_block]; exact hn159_0) | exact hn159_0) (.int .i64 ((rd_T82 l0 x5_1).f0))).trans hx159_1; replace hx159_2 := (cell_far (p := ⟨gb158, 0, none⟩) (by first | (rw [add_block]; exact hn159_0) | (show (Addr.add _ _).block ≠ _; rw [add_block]; exact hn159_0) | exact hn159_0) (.int .i64 ((rd_T82 l0 x5_1).f0))).trans hx159_2; replace hx159_3 := (cell_far (p := ⟨gb158, 0, none⟩) (by first | (rw [add_block]; exact hn159_0) | (show (Addr.add _ _).block ≠ _; rw [add_block]; exact hn159_0) | exact hn159_0) (.int .i64 ((rd_T82 l0 x5_1).f0))).trans hx159_3; replace hx159_4 := (cell_far (p := ⟨gb158, 0, none⟩) (by first | (rw [add_block]; exact hn159_0) | (show (Addr.add _ _).block ≠ _; rw [add_block]; exact hn159_0) | exact hn159_0) (.int .i64 ((rd_T82 l0 x5_1).f0))).trans hx159_4; replace hx159_0 := (cell_far (p := ⟨gb158, 1, none⟩) (by first | (rw [add_block]; exact hn159_1) | (show (Addr.add _ _).block ≠ _; rw [add_block]; exact hn159_1) | exact hn159_1) (.slice A157_1 ((rd_T82 l0 x5_1).f1).length c157_1)).trans hx159_0; replace hx159_1 := (cell_far (p := ⟨gb158, 1, none⟩) (by first | (rw [add_block]; exact hn159_1) | (show (Addr.add _ _).block ≠ _; rw [add_block]; exact hn159_1) | exact hn159_1) (.slice A157_1 ((rd_T82 l0 x5_1).f1).length c157_1)).trans hx159_1; replace hx159_2 := (cell_far (p := ⟨gb158, 1, none⟩) (by first | (rw [add_block]; exact hn159_1) | (show (Addr.add _ _).block ≠ _; rw [add_block]; exact hn159_1) | exact hn159_1) (.slice A157_1 ((rd_T82 l0 x5_1).f1).length c157_1)).trans hx159_2; replace hx159_3 := (cell_far (p := ⟨gb158, 1, none⟩) (by first | (rw [add_block]; exact hn159_1) | (show (Addr.add _ _).block ≠ _; rw [add_block]; exact hn159_1) | exact hn159_1) (.slice A157_1 ((rd_T82 l0 x5_1).f1).length c157_1)).trans hx159_3; replace hx159_4 := (cell_far (p := ⟨gb158, 1, none⟩) (by first | (rw [add_block]; exact hn159_1) | (show (Addr.add _ _).block ≠ _; rw [add_block]; exact hn159_1) | exact hn159_1) (.slice A157_1 ((rd_T82 l0 x5_1).f1).length c157_1)).trans hx159_4; replace hx159_0 := (cell_far (p := ⟨gb158, 2, none⟩) (by first | (rw [add_block]; exact hn159_2) | (show (Addr.add _ _).block ≠ _; rw [add_block]; exact hn159_2) | exact hn159_2) (.bool ((rd_T82 l0 x5_1).f2))).trans hx159_0; replace hx159_1 := (cell_far (p := ⟨gb158, 2, none⟩) (by first | (rw [add_block]; exact hn159_2) | (show (Addr.add _ _).block ≠ _; rw [add_block]; exact hn159_2) | exact hn159_2) (.bool ((rd_T82 l0 x5_1).f2))).trans hx159_1; replace hx159_2 := (cell_far (p := ⟨gb158, 2, none⟩) (by first | (rw [add_block]; exact hn159_2) | (show (Addr.add _ _).block ≠ _; rw [add_block]; exact hn159_2) | exact hn159_2) (.bool ((rd_T82 l0 x5_1).f2))).trans hx159_2; replace hx159_3 := (cell_far (p := ⟨gb158, 2, none⟩) (by first | (rw [add_block]; exact hn159_2) | (show (Addr.add _ _).block ≠ _; rw [add_block]; exact hn159_2) | exact hn159_2) (.bool ((rd_T82 l0 x5_1).f2))).trans hx159_3; replace hx159_4 := (cell_far (p := ⟨gb158, 2, none⟩) (by first | (rw [add_block]; exact hn159_2) | (show (Addr.add _ _).block ≠ _; rw [add_block]; exact hn159_2) | exact hn159_2) (.bool ((rd_T82 l0 x5_1).f2))).trans hx159_4; replace hx159_0 := (cell_far (p := ⟨gb158, 3, none⟩) (by first | (rw [add_block]; exact hn159_3) | (show (Addr.add _ _).block ≠ _; rw [add_block]; exact hn159_3) | exact hn159_3) (.bool ((rd_T82 l0 x5_1).f3))).trans hx159_0; replace hx159_1 := (cell_far (p := ⟨gb158, 3, none⟩) (by first | (rw [add_block]; exact hn159_3) | (show (Addr.add _ _).block ≠ _; rw [add_block]; exact hn159_3) | exact hn159_3) (.bool ((rd_T82 l0 x5_1).f3))).trans hx159_1; replace hx159_2 := (cell_far (p := ⟨gb158, 3, none⟩) (by first | (rw [add_block]; exact hn159_3) | (show (Addr.add _ _).block ≠ _; rw [add_block]; exact hn159_3) | exact hn159_3) (.bool ((rd_T82 l0 x5_1).f3))).trans hx159_2; replace hx159_3 := (cell_far (p := ⟨gb158, 3, none⟩) (by first | (rw [add_block]; exact hn159_3) | (show (Addr.add _ _).block ≠ _; rw [add_block]; exact hn159_3) | exact hn159_3) (.bool ((rd_T82 l0 x5_1).f3))).trans hx159_3; replace hx159_4 := (cell_far (p := ⟨gb158, 3, none⟩) (by first | (rw [add_block]; exact hn159_3) | (show (Addr.add _ _).block ≠ _; rw [add_block]; exact hn159_3) | exact hn159_3) (.bool ((rd_T82 l0 x5_1).f3))).trans hx159_4; replace hx159_0 := (cell_far (p := ⟨gb158, 4, none⟩) (by first | (rw [add_block]; exact hn159_4) | (show (Addr.add _ _).block ≠ _; rw [add_block]; exact hn159_4) | exact hn159_4) (.int .i64 ((rd_T82 l0 x5_1).f4))).trans hx159_0; replace hx159_1 := (cell_far (p := ⟨gb158, 4, none⟩) (by first | (rw [add_block]; exact hn159_4) | (show (Addr.add _ _).block ≠ _; rw [add_block]; exact hn159_4) | exact hn159_4) (.int .i64 ((rd_T82 l0 x5_1).f4))).trans hx159_1; replace hx159_2 := (cell_far (p := ⟨gb158, 4, none⟩) (by first | (rw [add_block]; exact hn159_4) | (show (Addr.add _ _).block ≠ _; rw [add_block]; exact hn159_4) | exact hn159_4) (.int .i64 ((rd_T82 l0 x5_1).f4))).trans hx159_2; replace hx159_3 := (cell_far (p := ⟨gb158, 4, none⟩) (by first | (rw [add_block]; exact hn159_4) | (show (Addr.add _ _).block ≠ _; rw [add_block]; exact hn159_4) | exact hn159_4) (.int .i64 ((rd_T82 l0 x5_1).f4))).trans hx159_3; replace hx159_4 := (cell_far (p := ⟨gb158, 4, none⟩) (by first | (rw [add_block]; exact hn159_4) | (show (Addr.add _ _).block ≠ _; rw [add_block]; exact hn159_4) | exact hn159_4) (.int .i64 ((rd_T82 l0 x5_1).f4))).trans hx159_4; clear hn159_0; clear hn159_1; clear hn159_2; clear hn159_3; clear hn159_4; replace p159 := eq_true p159; replace q159 := eq_true q159) | ((with_reducible refine gd_ (N := 7) rfl ?_); refine bx_ (N := 7) (cs := #[.int .i64 0, .slice none 0 0, .bool false, .bool false, .int .i64 0]) (t := 82) ?_; intro gb160 hg w45 hbox hb; have BK160 := A_ (hbox); have GW160 := A_ (ge_ hg (bG_ GE158.out) : w.heap.size ≤ gb160); have GE160 := A_ (ge_ hg (bG_ GE158.out) : w.heap.size ≤ gb160); replace HB := A_ (below_step (bG_ GE158.out) hb); have NB158_160 := A_ ((by rw [hg]; exact Nat.ne_of_lt (blk_lt (g := gb158) (o := .cells #[.int .i64 ((rd_T82 l0 x5_1).f0), .slice A157_1 ((rd_T82 l0 x5_1).f1).length c157_1, .bool ((rd_T82 l0 x5_1).f2), .bool ((rd_T82 l0 x5_1).f3), .int .i64 ((rd_T82 l0 x5_1).f4)] 82 (0, 0)) (by (with_reducible repeat (first | refine blk_drewN ?_ _ | refine blk_drew ?_ | refine blk_alloc ?_ _)); refine blk_put (cs := #[.int .i64 ((rd_T82 l0 x5_1).f0), .slice A157_1 ((rd_T82 l0 x5_1).f1).length c157_1, .bool ((rd_T82 l0 x5_1).f2), .bool ((rd_T82 l0 x5_1).f3), .int .i64 0]) ?_ 4 _ rfl; (with_reducible repeat (first | refine blk_drewN ?_ _ | refine blk_drew ?_ | refine blk_alloc ?_ _)); refine blk_put (cs := #[.int .i64 ((rd_T82 l0 x5_1).f0), .slice A157_1 ((rd_T82 l0 x5_1).f1).length c157_1, .bool ((rd_T82 l0 x5_1).f2), .bool false, .int .i64 0]) ?_ 3 _ rfl; (with_reducible repeat (first | refine blk_drewN ?_ _ | refine blk_drew ?_ | refine blk_alloc ?_ _)); refine blk_put (cs := #[.int .i64 ((rd_T82 l0 x5_1).f0), .slice A157_1 ((rd_T82 l0 x5_1).f1).length c157_1, .bool false, .bool false, .int .i64 0]) ?_ 2 _ rfl; (with_reducible repeat (first | refine blk_drewN ?_ _ | refine blk_drew ?_ | refine blk_alloc ?_ _)); refine blk_put (cs := #[.int .i64 ((rd_T82 l0 x5_1).f0), .slice none 0 0, .bool false, .bool false, .int .i64 0]) ?_ 1 _ rfl; (with_reducible repeat (first | refine blk_drewN ?_ _ | refine blk_drew ?_ | refine blk_alloc ?_ _)); refine blk_put (cs := #[.int .i64 0, .slice none 0 0, .bool false, .bool false, .int .i64 0]) ?_ 0 _ rfl; (with_reducible repeat (first | refine blk_drewN ?_ _ | refine blk_drew ?_ | refine blk_alloc ?_ _)); exact BK158.out)) : gb158 ≠ gb160)); have NB160_158 := A_ ((by rw [hg]; exact Nat.ne_of_gt (blk_lt (g := gb158) (o := .cells #[.int .i64 ((rd_T82 l0 x5_1).f0), .slice A157_1 ((rd_T82 l0 x5_1).f1).length c157_1, .bool ((rd_T82 l0 x5_1).f2), .bool ((rd_T82 l0 x5_1).f3), .int .i64 ((rd_T82 l0 x5_1).f4)] 82 (0, 0)) (by (with_reducible repeat (first | refine blk_drewN ?_ _ | refine blk_drew ?_ | refine blk_alloc ?_ _)); refine blk_put (cs := #[.int .i64 ((rd_T82 l0 x5_1).f0), .slice A157_1 ((rd_T82 l0 x5_1).f1).length c157_1, .bool ((rd_T82 l0 x5_1).f2), .bool ((rd_T82 l0 x5_1).f3), .int .i64 0]) ?_ 4 _ rfl; (with_reducible repeat (first | refine blk_drewN ?_ _ | refine blk_drew ?_ | refine blk_alloc ?_ _)); refine blk_put (cs := #[.int .i64 ((rd_T82 l0 x5_1).f0), .slice A157_1 ((rd_T82 l0 x5_1).f1).length c157_1, .bool ((rd_T82 l0 x5_1).f2), .bool false, .int .i64 0]) ?_ 3 _ rfl; (with_reducible repeat (first | refine blk_drewN ?_ _ | refine blk_drew ?_ | refine blk_alloc ?_ _)); refine blk_put (cs := #[.int .i64 ((rd_T82 l0 x5_1).f0), .slice A157_1 ((rd_T82 l0 x5_1).f1).length c157_1, .bool false, .bool false, .int .i64 0]) ?_ 2 _ rfl; (with_reducible repeat (first | refine blk_drewN ?_ _ | refine blk_drew ?_ | refine blk_alloc ?_ _)); refine blk_put (cs := #[.int .i64 ((rd_T82 l0 x5_1).f0), .slice none 0 0, .bool false, .bool false, .int .i64 0]) ?_ 1 _ rfl; (with_reducible repeat (first | refine blk_drewN ?_ _ | refine blk_drew ?_ | refine blk_alloc ?_ _)); refine blk_put (cs := #[.int .i64 0, .slice none 0 0, .bool false, .bool false, .int .i64 0]) ?_ 0 _ rfl; (with_reducible repeat (first | refine blk_drewN ?_ _ | refine blk_drew ?_ | refine blk_alloc ?_ _)); exact BK158.out)) : gb160 ≠ gb158)); replace BK158 := A_ (blk_below (g := gb158) (o := .cells #[.int .i64 ((rd_T82 l0 x5_1).f0), .slice A157_1 ((rd_T82 l0 x5_1).f1).length c157_1, .bool ((rd_T82 l0 x5_1).f2), .bool ((rd_T82 l0 x5_1).f3), .int .i64 ((rd_T82 l0 x5_1).f4)] 82 (0, 0)) (by (with_reducible repeat (first | refine blk_drewN ?_ _ | refine blk_drew ?_ | refine blk_alloc ?_ _)); refine blk_put (cs := #[.int .i64 ((rd_T82 l0 x5_1).f0), .slice A157_1 ((rd_T82 l0 x5_1).f1).length c157_1, .bool ((rd_T82 l0 x5_1).f2), .bool ((rd_T82 l0 x5_1).f3), .int .i64 0]) ?_ 4 _ rfl; (with_reducible repeat (first | refine blk_drewN ?_ _ | refine blk_drew ?_ | refine blk_alloc ?_ _)); refine blk_put (cs := #[.int .i64 ((rd_T82 l0 x5_1).f0), .slice A157_1 ((rd_T82 l0 x5_1).f1).length c157_1, .bool ((rd_T82 l0 x5_1).f2), .bool false, .int .i64 0]) ?_ 3 _ rfl; (with_reducible repeat (first | refine blk_drewN ?_ _ | refine blk_drew ?_ | refine blk_alloc ?_ _)); refine blk_put (cs := #[.int .i64 ((rd_T82 l0 x5_1).f0), .slice A157_1 ((rd_T82 l0 x5_1).f1).length c157_1, .bool false, .bool false, .int .i64 0]) ?_ 2 _ rfl; (with_reducible repeat (first | refine blk_drewN ?_ _ | refine blk_drew ?_ | refine blk_alloc ?_ _)); refine blk_put (cs := #[.int .i64 ((rd_T82 l0 x5_1).f0), .slice none 0 0, .bool false, .bool false, .int .i64 0]) ?_ 1 _ rfl; (with_reducible repeat (first | refine blk_drewN ?_ _ | refine blk_drew ?_ | refine blk_alloc ?_ _)); refine blk_put (cs := #[.int .i64 0, .slice none 0 0, .bool false, .bool false, .int .i64 0]) ?_ 0 _ rfl; (with_reducible repeat (first | refine blk_drewN ?_ _ | refine blk_drew ?_ | refine blk_alloc ?_ _)); exact BK158.out) hb); clear hb hbox hg; have hnb46 := NB160_158.out; have hnc46 := NB158_160.out; obtain ⟨hcz47_0, hcz47_1, hcz47_2, hcz47_3, hcz47_4, hfz47_0, hfz47_1, hfz47_2, hfz47_3, hfz47_4⟩ := cz5_ BK160.out; obtain ⟨hcz48_0, hcz48_1, hcz48_2, hcz48_3, hcz48_4, hfz48_0, hfz48_1, hfz48_2, hfz48_3, hfz48_4⟩ := cz5_ BK158.out))
     go_ret
     exact ⟨rr_, by repeat (first | (with_reducible first | exact HB.out | apply below_alloc | apply pw_below_drewN | apply below_drew1 | refine below_set ?_ GE158.out | refine below_set ?_ GE160.out) | exact HB.out)⟩
   rw [if_pos c7] at H
   have c7b0 : (((rd_T82 l0 x5_1).f0) == ((rd_T82 l1 x5_1).f0)) = true := beq_iff_eq.mpr c7
   have c7b1 : (((rd_T82 l0 x5_1).f0) != ((rd_T82 l1 x5_1).f0)) = false := bne_eq_false_iff_eq.mpr c7
   clear c7
   obtain ⟨t161, A8, H⟩ := bo_ H
   (try dsimp only at H)
   by_cases c9 : t161 = true
   · subst c9
     rw [if_pos rfl] at H
     by_cases c10 : (((rd_T82 l0 x5_1).f2) != ((rd_T82 l1 x5_1).f2)) = true
     · rw [if_pos c10] at H
       have c10b0 : (((rd_T82 l0 x5_1).f2) != ((rd_T82 l1 x5_1).f2)) = true := c10
       (try (have c10b1 : decide (((rd_T82 l0 x5_1).f2) = ((rd_T82 l1 x5_1).f2)) = false := by simpa using c10))
       (try (have c10b2 : (((rd_T82 l0 x5_1).f2) == ((rd_T82 l1 x5_1).f2)) = false := by simpa using c10))
       (try (have c10b3 : ¬ (((rd_T82 l0 x5_1).f2) = ((rd_T82 l1 x5_1).f2)) := by simpa using c10))
       clear c10
       obtain rfl := si_ H
       have p157 : 0 ≤ (x5_1 : Int) := od_
       have q157 : x5_1 < (l0.length : Int) := od_
       obtain ⟨ad157, A157_1, c157_1, e157, hx157_0, hx157_1, hx157_2, hx157_3, hx157_4, hl157_1, hi157_1⟩ := at_T82 HR0.out x5_1 p157 q157
       cases e157
       replace hx157_0 := bc_ HB.out hx157_0
       replace hx157_1 := bc_ HB.out hx157_1
       replace hx157_2 := bc_ HB.out hx157_2
       replace hx157_3 := bc_ HB.out hx157_3
       replace hx157_4 := bc_ HB.out hx157_4
       have HR157_1 := A_ hi157_1
       have HC157_1 := A_ hl157_1
       clear hi157_1 hl157_1
       replace p157 := eq_true p157
       replace q157 := eq_true q157
       go_wp2_with (first | ((with_reducible refine gd_ (N := 6) rfl ?_); refine bx_ (N := 6) (cs := #[.int .i64 0, .slice none 0 0, .bool false, .bool false, .int .i64 0]) (t := 82) ?_; intro gb158 hg w11 hbox hb; have BK158 := A_ (hbox); have GW158 := A_ (ge_ hg bB_ : w.heap.size ≤ gb158); have GE158 := A_ (ge_ hg bB_ : w.heap.size ≤ gb158); replace HB := A_ (below_step bB_ hb); clear hb hbox hg; obtain ⟨hcz12_0, hcz12_1, hcz12_2, hcz12_3, hcz12_4, hfz12_0, hfz12_1, hfz12_2, hfz12_3, hfz12_4⟩ := cz5_ BK158.out; have p159 : 0 ≤ (x5_1 : Int) := od_; have q159 : x5_1 < (l1.length : Int) := od_; obtain ⟨ad159, A159_1, c159_1, e159, hx159_0, hx159_1, hx159_2, hx159_3, hx159_4, hl159_1, hi159_1⟩ := at_T82 HR1.out x5_1 p159 q159; cases e159; have hn159_0 : ad159.block ≠ gb158 := Nat.ne_of_lt (Nat.lt_of_lt_of_le (by have := World.block_lt_of_cell? _ _ hx159_0; first | rwa [add_block] at this | exact this) GW158.out); have hn159_1 : ad159.block ≠ gb158 := Nat.ne_of_lt (Nat.lt_of_lt_of_le (by have := World.block_lt_of_cell? _ _ hx159_0; first | rwa [add_block] at this | exact this) GW158.out); have hn159_2 : ad159.block ≠ gb158 := Nat.ne_of_lt (Nat.lt_of_lt_of_le (by have := World.block_lt_of_cell? _ _ hx159_0; first | rwa [add_block] at this | exact this) GW158.out); have hn159_3 : ad159.block ≠ gb158 := Nat.ne_of_lt (Nat.lt_of_lt_of_le (by have := World.block_lt_of_cell? _ _ hx159_0; first | rwa [add_block] at this | exact this) GW158.out); have hn159_4 : ad159.block ≠ gb158 := Nat.ne_of_lt (Nat.lt_of_lt_of_le (by have := World.block_lt_of_cell? _ _ hx159_0; first | rwa [add_block] at this | exact this) GW158.out); replace hx159_0 := bc_ HB.out hx159_0; replace hx159_1 := bc_ HB.out hx159_1; replace hx159_2 := bc_ HB.out hx159_2; replace hx159_3 := bc_ HB.out hx159_3; replace hx159_4 := bc_ HB.out hx159_4; have HR159_1 := A_ hi159_1; have HC159_1 := A_ hl159_1; clear hi159_1 hl159_1; replace hx159_0 := (cell_far (p := ⟨gb158, 0, none⟩) (by first | (rw [add_block]; exact hn159_0) | (show (Addr.add _ _).block ≠ _; rw [add_block]; exact hn159_0) | exact hn159_0) (.int .i64 ((rd_T82 l0 x5_1).f0))).trans hx159_0; replace hx159_1 := (cell_far (p := ⟨gb158, 0, none⟩) (by first | (rw [add_block]; exact hn159_0) | (show (Addr.add _ _).block ≠ _; rw [add_block]; exact hn159_0) | exact hn159_0) (.int .i64 ((rd_T82 l0 x5_1).f0))).trans hx159_1; replace hx159_2 := (cell_far (p := ⟨gb158, 0, none⟩) (by first | (rw [add_block]; exact hn159_0) | (show (Addr.add _ _).block ≠ _; rw [add_block]; exact hn159_0) | exact hn159_0) (.int .i64 ((rd_T82 l0 x5_1).f0))).trans hx159_2; replace hx159_3 := (cell_far (p := ⟨gb158, 0, none⟩) (by first | (rw [add_block]; exact hn159_0) | (show (Addr.add _ _).block ≠ _; rw [add_block]; exact hn159_0) | exact hn159_0) (.int .i64 ((rd_T82 l0 x5_1).f0))).trans hx159_3; replace hx159_4 := (cell_far (p := ⟨gb158, 0, none⟩) (by first | (rw [add_block]; exact hn159_0) | (show (Addr.add _ _).block ≠ _; rw [add_block]; exact hn159_0) | exact hn159_0) (.int .i64 ((rd_T82 l0 x5_1).f0))).trans hx159_4; replace hx159_0 := (cell_far (p := ⟨gb158, 1, none⟩) (by first | (rw [add_block]; exact hn159_1) | (show (Addr.add _ _).block ≠ _; rw [add_block]; exact hn159_1) | exact hn159_1) (.slice A157_1 ((rd_T82 l0 x5_1).f1).length c157_1)).trans hx159_0; replace hx159_1 := (cell_far (p := ⟨gb158, 1, none⟩) (by first | (rw [add_block]; exact hn159_1) | (show (Addr.add _ _).block ≠ _; rw [add_block]; exact hn159_1) | exact hn159_1) (.slice A157_1 ((rd_T82 l0 x5_1).f1).length c157_1)).trans hx159_1; replace hx159_2 := (cell_far (p := ⟨gb158, 1, none⟩) (by first | (rw [add_block]; exact hn159_1) | (show (Addr.add _ _).block ≠ _; rw [add_block]; exact hn159_1) | exact hn159_1) (.slice A157_1 ((rd_T82 l0 x5_1).f1).length c157_1)).trans hx159_2; replace hx159_3 := (cell_far (p := ⟨gb158, 1, none⟩) (by first | (rw [add_block]; exact hn159_1) | (show (Addr.add _ _).block ≠ _; rw [add_block]; exact hn159_1) | exact hn159_1) (.slice A157_1 ((rd_T82 l0 x5_1).f1).length c157_1)).trans hx159_3; replace hx159_4 := (cell_far (p := ⟨gb158, 1, none⟩) (by first | (rw [add_block]; exact hn159_1) | (show (Addr.add _ _).block ≠ _; rw [add_block]; exact hn159_1) | exact hn159_1) (.slice A157_1 ((rd_T82 l0 x5_1).f1).length c157_1)).trans hx159_4; replace hx159_0 := (cell_far (p := ⟨gb158, 2, none⟩) (by first | (rw [add_block]; exact hn159_2) | (show (Addr.add _ _).block ≠ _; rw [add_block]; exact hn159_2) | exact hn159_2) (.bool ((rd_T82 l0 x5_1).f2))).trans hx159_0; replace hx159_1 := (cell_far (p := ⟨gb158, 2, none⟩) (by first | (rw [add_block]; exact hn159_2) | (show (Addr.add _ _).block ≠ _; rw [add_block]; exact hn159_2) | exact hn159_2) (.bool ((rd_T82 l0 x5_1).f2))).trans hx159_1; replace hx159_2 := (cell_far (p := ⟨gb158, 2, none⟩) (by first | (rw [add_block]; exact hn159_2) | (show (Addr.add _ _).block ≠ _; rw [add_block]; exact hn159_2) | exact hn159_2) (.bool ((rd_T82 l0 x5_1).f2))).trans hx159_2; replace hx159_3 := (cell_far (p := ⟨gb158, 2, none⟩) (by first | (rw [add_block]; exact hn159_2) | (show (Addr.add _ _).block ≠ _; rw [add_block]; exact hn159_2) | exact hn159_2) (.bool ((rd_T82 l0 x5_1).f2))).trans hx159_3; replace hx159_4 := (cell_far (p := ⟨gb158, 2, none⟩) (by first | (rw [add_block]; exact hn159_2) | (show (Addr.add _ _).block ≠ _; rw [add_block]; exact hn159_2) | exact hn159_2) (.bool ((rd_T82 l0 x5_1).f2))).trans hx159_4; replace hx159_0 := (cell_far (p := ⟨gb158, 3, none⟩) (by first | (rw [add_block]; exact hn159_3) | (show (Addr.add _ _).block ≠ _; rw [add_block]; exact hn159_3) | exact hn159_3) (.bool ((rd_T82 l0 x5_1).f3))).trans hx159_0; replace hx159_1 := (cell_far (p := ⟨gb158, 3, none⟩) (by first | (rw [add_block]; exact hn159_3) | (show (Addr.add _ _).block ≠ _; rw [add_block]; exact hn159_3) | exact hn159_3) (.bool ((rd_T82 l0 x5_1).f3))).trans hx159_1; replace hx159_2 := (cell_far (p := ⟨gb158, 3, none⟩) (by first | (rw [add_block]; exact hn159_3) | (show (Addr.add _ _).block ≠ _; rw [add_block]; exact hn159_3) | exact hn159_3) (.bool ((rd_T82 l0 x5_1).f3))).trans hx159_2; replace hx159_3 := (cell_far (p := ⟨gb158, 3, none⟩) (by first | (rw [add_block]; exact hn159_3) | (show (Addr.add _ _).block ≠ _; rw [add_block]; exact hn159_3) | exact hn159_3) (.bool ((rd_T82 l0 x5_1).f3))).trans hx159_3; replace hx159_4 := (cell_far (p := ⟨gb158, 3, none⟩) (by first | (rw [add_block]; exact hn159_3) | (show (Addr.add _ _).block ≠ _; rw [add_block]; exact hn159_3) | exact hn159_3) (.bool ((rd_T82 l0 x5_1).f3))).trans hx159_4; replace hx159_0 := (cell_far (p := ⟨gb158, 4, none⟩) (by first | (rw [add_block]; exact hn159_4) | (show (Addr.add _ _).block ≠ _; rw [add_block]; exact hn159_4) | exact hn159_4) (.int .i64 ((rd_T82 l0 x5_1).f4))).trans hx159_0; replace hx159_1 := (cell_far (p := ⟨gb158, 4, none⟩) (by first | (rw [add_block]; exact hn159_4) | (show (Addr.add _ _).block ≠ _; rw [add_block]; exact hn159_4) | exact hn159_4) (.int .i64 ((rd_T82 l0 x5_1).f4))).trans hx159_1; replace hx159_2 := (cell_far (p := ⟨gb158, 4, none⟩) (by first | (rw [add_block]; exact hn159_4) | (show (Addr.add _ _).block ≠ _; rw [add_block]; exact hn159_4) | exact hn159_4) (.int .i64 ((rd_T82 l0 x5_1).f4))).trans hx159_2; replace hx159_3 := (cell_far (p := ⟨gb158, 4, none⟩) (by first | (rw [add_block]; exact hn159_4) | (show (Addr.add _ _).block ≠ _; rw [add_block]; exact hn159_4) | exact hn159_4) (.int .i64 ((rd_T82 l0 x5_1).f4))).trans hx159_3; replace hx159_4 := (cell_far (p := ⟨gb158, 4, none⟩) (by first | (rw [add_block]; exact hn159_4) | (show (Addr.add _ _).block ≠ _; rw [add_block]; exact hn159_4) | exact hn159_4) (.int .i64 ((rd_T82 l0 x5_1).f4))).trans hx159_4; clear hn159_0; clear hn159_1; clear hn159_2; clear hn159_3; clear hn159_4; replace p159 := eq_true p159; replace q159 := eq_true q159) | ((with_reducible refine gd_ (N := 7) rfl ?_); refine bx_ (N := 7) (cs := #[.int .i64 0, .slice none 0 0, .bool false, .bool false, .int .i64 0]) (t := 82) ?_; intro gb160 hg w13 hbox hb; have BK160 := A_ (hbox); have GW160 := A_ (ge_ hg (bG_ GE158.out) : w.heap.size ≤ gb160); have GE160 := A_ (ge_ hg (bG_ GE158.out) : w.heap.size ≤ gb160); replace HB := A_ (below_step (bG_ GE158.out) hb); have NB158_160 := A_ ((by rw [hg]; exact Nat.ne_of_lt (blk_lt (g := gb158) (o := .cells #[.int .i64 ((rd_T82 l0 x5_1).f0), .slice A157_1 ((rd_T82 l0 x5_1).f1).length c157_1, .bool ((rd_T82 l0 x5_1).f2), .bool ((rd_T82 l0 x5_1).f3), .int .i64 ((rd_T82 l0 x5_1).f4)] 82 (0, 0)) (by (with_reducible repeat (first | refine blk_drewN ?_ _ | refine blk_drew ?_ | refine blk_alloc ?_ _)); refine blk_put (cs := #[.int .i64 ((rd_T82 l0 x5_1).f0), .slice A157_1 ((rd_T82 l0 x5_1).f1).length c157_1, .bool ((rd_T82 l0 x5_1).f2), .bool ((rd_T82 l0 x5_1).f3), .int .i64 0]) ?_ 4 _ rfl; (with_reducible repeat (first | refine blk_drewN ?_ _ | refine blk_drew ?_ | refine blk_alloc ?_ _)); refine blk_put (cs := #[.int .i64 ((rd_T82 l0 x5_1).f0), .slice A157_1 ((rd_T82 l0 x5_1).f1).length c157_1, .bool ((rd_T82 l0 x5_1).f2), .bool false, .int .i64 0]) ?_ 3 _ rfl; (with_reducible repeat (first | refine blk_drewN ?_ _ | refine blk_drew ?_ | refine blk_alloc ?_ _)); refine blk_put (cs := #[.int .i64 ((rd_T82 l0 x5_1).f0), .slice A157_1 ((rd_T82 l0 x5_1).f1).length c157_1, .bool false, .bool false, .int .i64 0]) ?_ 2 _ rfl; (with_reducible repeat (first | refine blk_drewN ?_ _ | refine blk_drew ?_ | refine blk_alloc ?_ _)); refine blk_put (cs := #[.int .i64 ((rd_T82 l0 x5_1).f0), .slice none 0 0, .bool false, .bool false, .int .i64 0]) ?_ 1 _ rfl; (with_reducible repeat (first | refine blk_drewN ?_ _ | refine blk_drew ?_ | refine blk_alloc ?_ _)); refine blk_put (cs := #[.int .i64 0, .slice none 0 0, .bool false, .bool false, .int .i64 0]) ?_ 0 _ rfl; (with_reducible repeat (first | refine blk_drewN ?_ _ | refine blk_drew ?_ | refine blk_alloc ?_ _)); exact BK158.out)) : gb158 ≠ gb160)); have NB160_158 := A_ ((by rw [hg]; exact Nat.ne_of_gt (blk_lt (g := gb158) (o := .cells #[.int .i64 ((rd_T82 l0 x5_1).f0), .slice A157_1 ((rd_T82 l0 x5_1).f1).length c157_1, .bool ((rd_T82 l0 x5_1).f2), .bool ((rd_T82 l0 x5_1).f3), .int .i64 ((rd_T82 l0 x5_1).f4)] 82 (0, 0)) (by (with_reducible repeat (first | refine blk_drewN ?_ _ | refine blk_drew ?_ | refine blk_alloc ?_ _)); refine blk_put (cs := #[.int .i64 ((rd_T82 l0 x5_1).f0), .slice A157_1 ((rd_T82 l0 x5_1).f1).length c157_1, .bool ((rd_T82 l0 x5_1).f2), .bool ((rd_T82 l0 x5_1).f3), .int .i64 0]) ?_ 4 _ rfl; (with_reducible repeat (first | refine blk_drewN ?_ _ | refine blk_drew ?_ | refine blk_alloc ?_ _)); refine blk_put (cs := #[.int .i64 ((rd_T82 l0 x5_1).f0), .slice A157_1 ((rd_T82 l0 x5_1).f1).length c157_1, .bool ((rd_T82 l0 x5_1).f2), .bool false, .int .i64 0]) ?_ 3 _ rfl; (with_reducible repeat (first | refine blk_drewN ?_ _ | refine blk_drew ?_ | refine blk_alloc ?_ _)); refine blk_put (cs := #[.int .i64 ((rd_T82 l0 x5_1).f0), .slice A157_1 ((rd_T82 l0 x5_1).f1).length c157_1, .bool false, .bool false, .int .i64 0]) ?_ 2 _ rfl; (with_reducible repeat (first | refine blk_drewN ?_ _ | refine blk_drew ?_ | refine blk_alloc ?_ _)); refine blk_put (cs := #[.int .i64 ((rd_T82 l0 x5_1).f0), .slice none 0 0, .bool false, .bool false, .int .i64 0]) ?_ 1 _ rfl; (with_reducible repeat (first | refine blk_drewN ?_ _ | refine blk_drew ?_ | refine blk_alloc ?_ _)); refine blk_put (cs := #[.int .i64 0, .slice none 0 0, .bool false, .bool false, .int .i64 0]) ?_ 0 _ rfl; (with_reducible repeat (first | refine blk_drewN ?_ _ | refine blk_drew ?_ | refine blk_alloc ?_ _)); exact BK158.out)) : gb160 ≠ gb158)); replace BK158 := A_ (blk_below (g := gb158) (o := .cells #[.int .i64 ((rd_T82 l0 x5_1).f0), .slice A157_1 ((rd_T82 l0 x5_1).f1).length c157_1, .bool ((rd_T82 l0 x5_1).f2), .bool ((rd_T82 l0 x5_1).f3), .int .i64 ((rd_T82 l0 x5_1).f4)] 82 (0, 0)) (by (with_reducible repeat (first | refine blk_drewN ?_ _ | refine blk_drew ?_ | refine blk_alloc ?_ _)); refine blk_put (cs := #[.int .i64 ((rd_T82 l0 x5_1).f0), .slice A157_1 ((rd_T82 l0 x5_1).f1).length c157_1, .bool ((rd_T82 l0 x5_1).f2), .bool ((rd_T82 l0 x5_1).f3), .int .i64 0]) ?_ 4 _ rfl; (with_reducible repeat (first | refine blk_drewN ?_ _ | refine blk_drew ?_ | refine blk_alloc ?_ _)); refine blk_put (cs := #[.int .i64 ((rd_T82 l0 x5_1).f0), .slice A157_1 ((rd_T82 l0 x5_1).f1).length c157_1, .bool ((rd_T82 l0 x5_1).f2), .bool false, .int .i64 0]) ?_ 3 _ rfl; (with_reducible repeat (first | refine blk_drewN ?_ _ | refine blk_drew ?_ | refine blk_alloc ?_ _)); refine blk_put (cs := #[.int .i64 ((rd_T82 l0 x5_1).f0), .slice A157_1 ((rd_T82 l0 x5_1).f1).length c157_1, .bool false, .bool false, .int .i64 0]) ?_ 2 _ rfl; (with_reducible repeat (first | refine blk_drewN ?_ _ | refine blk_drew ?_ | refine blk_alloc ?_ _)); refine blk_put (cs := #[.int .i64 ((rd_T82 l0 x5_1).f0), .slice none 0 0, .bool false, .bool false, .int .i64 0]) ?_ 1 _ rfl; (with_reducible repeat (first | refine blk_drewN ?_ _ | refine blk_drew ?_ | refine blk_alloc ?_ _)); refine blk_put (cs := #[.int .i64 0, .slice none 0 0, .bool false, .bool false, .int .i64 0]) ?_ 0 _ rfl; (with_reducible repeat (first | refine blk_drewN ?_ _ | refine blk_drew ?_ | refine blk_alloc ?_ _)); exact BK158.out) hb); clear hb hbox hg; have hnb14 := NB160_158.out; have hnc14 := NB158_160.out; obtain ⟨hcz15_0, hcz15_1, hcz15_2, hcz15_3, hcz15_4, hfz15_0, hfz15_1, hfz15_2, hfz15_3, hfz15_4⟩ := cz5_ BK160.out; obtain ⟨hcz16_0, hcz16_1, hcz16_2, hcz16_3, hcz16_4, hfz16_0, hfz16_1, hfz16_2, hfz16_3, hfz16_4⟩ := cz5_ BK158.out) | (go_at_call 68; (with_reducible refine (spec_SamePath.calls k1 _ _ ((rd_T82 l0 x5_1).f1) _ _ ((rd_T82 l1 x5_1).f1) true _ ?s1 ?s2 ?s3 ?s4 A8.out).mono ?_); (case s1 => exact Kd.C_below HR157_1.out (by repeat (first | (with_reducible first | exact HB.out | apply below_alloc | apply pw_below_drewN | apply below_drew1 | refine below_set ?_ GE158.out | refine below_set ?_ GE160.out) | exact HB.out))); (case s2 => exact HC157_1.out); (case s3 => exact Kd.C_below HR159_1.out (by repeat (first | (with_reducible first | exact HB.out | apply below_alloc | apply pw_below_drewN | apply below_drew1 | refine below_set ?_ GE158.out | refine below_set ?_ GE160.out) | exact HB.out))); (case s4 => exact HC159_1.out); rintro e w' ⟨rfl, ⟨nd, rfl⟩⟩))
       go_ret
       exact ⟨rr_, by repeat (first | (with_reducible first | exact HB.out | apply below_alloc | apply pw_below_drewN | apply below_drew1 | refine below_set ?_ GE158.out | refine below_set ?_ GE160.out) | exact HB.out)⟩
     rw [if_neg c10] at H
     have c10b0 : (((rd_T82 l0 x5_1).f2) != ((rd_T82 l1 x5_1).f2)) = false := by simpa using c10
     (try (have c10b1 : decide (((rd_T82 l0 x5_1).f2) = ((rd_T82 l1 x5_1).f2)) = true := by simpa using c10))
     (try (have c10b2 : (((rd_T82 l0 x5_1).f2) == ((rd_T82 l1 x5_1).f2)) = true := by simpa using c10))
     clear c10
     by_cases c17 : (((rd_T82 l0 x5_1).f3) != ((rd_T82 l1 x5_1).f3)) = true
     · rw [if_pos c17] at H
       have c17b0 : (((rd_T82 l0 x5_1).f3) != ((rd_T82 l1 x5_1).f3)) = true := c17
       (try (have c17b1 : decide (((rd_T82 l0 x5_1).f3) = ((rd_T82 l1 x5_1).f3)) = false := by simpa using c17))
       (try (have c17b2 : (((rd_T82 l0 x5_1).f3) == ((rd_T82 l1 x5_1).f3)) = false := by simpa using c17))
       (try (have c17b3 : ¬ (((rd_T82 l0 x5_1).f3) = ((rd_T82 l1 x5_1).f3)) := by simpa using c17))
       clear c17
       obtain rfl := si_ H
       have p157 : 0 ≤ (x5_1 : Int) := od_
       have q157 : x5_1 < (l0.length : Int) := od_
       obtain ⟨ad157, A157_1, c157_1, e157, hx157_0, hx157_1, hx157_2, hx157_3, hx157_4, hl157_1, hi157_1⟩ := at_T82 HR0.out x5_1 p157 q157
       cases e157
       replace hx157_0 := bc_ HB.out hx157_0
       replace hx157_1 := bc_ HB.out hx157_1
       replace hx157_2 := bc_ HB.out hx157_2
       replace hx157_3 := bc_ HB.out hx157_3
       replace hx157_4 := bc_ HB.out hx157_4
       have HR157_1 := A_ hi157_1
       have HC157_1 := A_ hl157_1
       clear hi157_1 hl157_1
       replace p157 := eq_true p157
       replace q157 := eq_true q157
       go_wp2_with (first | ((with_reducible refine gd_ (N := 6) rfl ?_); refine bx_ (N := 6) (cs := #[.int .i64 0, .slice none 0 0, .bool false, .bool false, .int .i64 0]) (t := 82) ?_; intro gb158 hg w18 hbox hb; have BK158 := A_ (hbox); have GW158 := A_ (ge_ hg bB_ : w.heap.size ≤ gb158); have GE158 := A_ (ge_ hg bB_ : w.heap.size ≤ gb158); replace HB := A_ (below_step bB_ hb); clear hb hbox hg; obtain ⟨hcz19_0, hcz19_1, hcz19_2, hcz19_3, hcz19_4, hfz19_0, hfz19_1, hfz19_2, hfz19_3, hfz19_4⟩ := cz5_ BK158.out; have p159 : 0 ≤ (x5_1 : Int) := od_; have q159 : x5_1 < (l1.length : Int) := od_; obtain ⟨ad159, A159_1, c159_1, e159, hx159_0, hx159_1, hx159_2, hx159_3, hx159_4, hl159_1, hi159_1⟩ := at_T82 HR1.out x5_1 p159 q159; cases e159; have hn159_0 : ad159.block ≠ gb158 := Nat.ne_of_lt (Nat.lt_of_lt_of_le (by have := World.block_lt_of_cell? _ _ hx159_0; first | rwa [add_block] at this | exact this) GW158.out); have hn159_1 : ad159.block ≠ gb158 := Nat.ne_of_lt (Nat.lt_of_lt_of_le (by have := World.block_lt_of_cell? _ _ hx159_0; first | rwa [add_block] at this | exact this) GW158.out); have hn159_2 : ad159.block ≠ gb158 := Nat.ne_of_lt (Nat.lt_of_lt_of_le (by have := World.block_lt_of_cell? _ _ hx159_0; first | rwa [add_block] at this | exact this) GW158.out); have hn159_3 : ad159.block ≠ gb158 := Nat.ne_of_lt (Nat.lt_of_lt_of_le (by have := World.block_lt_of_cell? _ _ hx159_0; first | rwa [add_block] at this | exact this) GW158.out); have hn159_4 : ad159.block ≠ gb158 := Nat.ne_of_lt (Nat.lt_of_lt_of_le (by have := World.block_lt_of_cell? _ _ hx159_0; first | rwa [add_block] at this | exact this) GW158.out); replace hx159_0 := bc_ HB.out hx159_0; replace hx159_1 := bc_ HB.out hx159_1; replace hx159_2 := bc_ HB.out hx159_2; replace hx159_3 := bc_ HB.out hx159_3; replace hx159_4 := bc_ HB.out hx159_4; have HR159_1 := A_ hi159_1; have HC159_1 := A_ hl159_1; clear hi159_1 hl159_1; replace hx159_0 := (cell_far (p := ⟨gb158, 0, none⟩) (by first | (rw [add_block]; exact hn159_0) | (show (Addr.add _ _).block ≠ _; rw [add_block]; exact hn159_0) | exact hn159_0) (.int .i64 ((rd_T82 l0 x5_1).f0))).trans hx159_0; replace hx159_1 := (cell_far (p := ⟨gb158, 0, none⟩) (by first | (rw [add_block]; exact hn159_0) | (show (Addr.add _ _).block ≠ _; rw [add_block]; exact hn159_0) | exact hn159_0) (.int .i64 ((rd_T82 l0 x5_1).f0))).trans hx159_1; replace hx159_2 := (cell_far (p := ⟨gb158, 0, none⟩) (by first | (rw [add_block]; exact hn159_0) | (show (Addr.add _ _).block ≠ _; rw [add_block]; exact hn159_0) | exact hn159_0) (.int .i64 ((rd_T82 l0 x5_1).f0))).trans hx159_2; replace hx159_3 := (cell_far (p := ⟨gb158, 0, none⟩) (by first | (rw [add_block]; exact hn159_0) | (show (Addr.add _ _).block ≠ _; rw [add_block]; exact hn159_0) | exact hn159_0) (.int .i64 ((rd_T82 l0 x5_1).f0))).trans hx159_3; replace hx159_4 := (cell_far (p := ⟨gb158, 0, none⟩) (by first | (rw [add_block]; exact hn159_0) | (show (Addr.add _ _).block ≠ _; rw [add_block]; exact hn159_0) | exact hn159_0) (.int .i64 ((rd_T82 l0 x5_1).f0))).trans hx159_4; replace hx159_0 := (cell_far (p := ⟨gb158, 1, none⟩) (by first | (rw [add_block]; exact hn159_1) | (show (Addr.add _ _).block ≠ _; rw [add_block]; exact hn159_1) | exact hn159_1) (.slice A157_1 ((rd_T82 l0 x5_1).f1).length c157_1)).trans hx159_0; replace hx159_1 := (cell_far (p := ⟨gb158, 1, none⟩) (by first | (rw [add_block]; exact hn159_1) | (show (Addr.add _ _).block ≠ _; rw [add_block]; exact hn159_1) | exact hn159_1) (.slice A157_1 ((rd_T82 l0 x5_1).f1).length c157_1)).trans hx159_1; replace hx159_2 := (cell_far (p := ⟨gb158, 1, none⟩) (by first | (rw [add_block]; exact hn159_1) | (show (Addr.add _ _).block ≠ _; rw [add_block]; exact hn159_1) | exact hn159_1) (.slice A157_1 ((rd_T82 l0 x5_1).f1).length c157_1)).trans hx159_2; replace hx159_3 := (cell_far (p := ⟨gb158, 1, none⟩) (by first | (rw [add_block]; exact hn159_1) | (show (Addr.add _ _).block ≠ _; rw [add_block]; exact hn159_1) | exact hn159_1) (.slice A157_1 ((rd_T82 l0 x5_1).f1).length c157_1)).trans hx159_3; replace hx159_4 := (cell_far (p := ⟨gb158, 1, none⟩) (by first | (rw [add_block]; exact hn159_1) | (show (Addr.add _ _).block ≠ _; rw [add_block]; exact hn159_1) | exact hn159_1) (.slice A157_1 ((rd_T82 l0 x5_1).f1).length c157_1)).trans hx159_4; replace hx159_0 := (cell_far (p := ⟨gb158, 2, none⟩) (by first | (rw [add_block]; exact hn159_2) | (show (Addr.add _ _).block ≠ _; rw [add_block]; exact hn159_2) | exact hn159_2) (.bool ((rd_T82 l0 x5_1).f2))).trans hx159_0; replace hx159_1 := (cell_far (p := ⟨gb158, 2, none⟩) (by first | (rw [add_block]; exact hn159_2) | (show (Addr.add _ _).block ≠ _; rw [add_block]; exact hn159_2) | exact hn159_2) (.bool ((rd_T82 l0 x5_1).f2))).trans hx159_1; replace hx159_2 := (cell_far (p := ⟨gb158, 2, none⟩) (by first | (rw [add_block]; exact hn159_2) | (show (Addr.add _ _).block ≠ _; rw [add_block]; exact hn159_2) | exact hn159_2) (.bool ((rd_T82 l0 x5_1).f2))).trans hx159_2; replace hx159_3 := (cell_far (p := ⟨gb158, 2, none⟩) (by first | (rw [add_block]; exact hn159_2) | (show (Addr.add _ _).block ≠ _; rw [add_block]; exact hn159_2) | exact hn159_2) (.bool ((rd_T82 l0 x5_1).f2))).trans hx159_3; replace hx159_4 := (cell_far (p := ⟨gb158, 2, none⟩) (by first | (rw [add_block]; exact hn159_2) | (show (Addr.add _ _).block ≠ _; rw [add_block]; exact hn159_2) | exact hn159_2) (.bool ((rd_T82 l0 x5_1).f2))).trans hx159_4; replace hx159_0 := (cell_far (p := ⟨gb158, 3, none⟩) (by first | (rw [add_block]; exact hn159_3) | (show (Addr.add _ _).block ≠ _; rw [add_block]; exact hn159_3) | exact hn159_3) (.bool ((rd_T82 l0 x5_1).f3))).trans hx159_0; replace hx159_1 := (cell_far (p := ⟨gb158, 3, none⟩) (by first | (rw [add_block]; exact hn159_3) | (show (Addr.add _ _).block ≠ _; rw [add_block]; exact hn159_3) | exact hn159_3) (.bool ((rd_T82 l0 x5_1).f3))).trans hx159_1; replace hx159_2 := (cell_far (p := ⟨gb158, 3, none⟩) (by first | (rw [add_block]; exact hn159_3) | (show (Addr.add _ _).block ≠ _; rw [add_block]; exact hn159_3) | exact hn159_3) (.bool ((rd_T82 l0 x5_1).f3))).trans hx159_2; replace hx159_3 := (cell_far (p := ⟨gb158, 3, none⟩) (by first | (rw [add_block]; exact hn159_3) | (show (Addr.add _ _).block ≠ _; rw [add_block]; exact hn159_3) | exact hn159_3) (.bool ((rd_T82 l0 x5_1).f3))).trans hx159_3; replace hx159_4 := (cell_far (p := ⟨gb158, 3, none⟩) (by first | (rw [add_block]; exact hn159_3) | (show (Addr.add _ _).block ≠ _; rw [add_block]; exact hn159_3) | exact hn159_3) (.bool ((rd_T82 l0 x5_1).f3))).trans hx159_4; replace hx159_0 := (cell_far (p := ⟨gb158, 4, none⟩) (by first | (rw [add_block]; exact hn159_4) | (show (Addr.add _ _).block ≠ _; rw [add_block]; exact hn159_4) | exact hn159_4) (.int .i64 ((rd_T82 l0 x5_1).f4))).trans hx159_0; replace hx159_1 := (cell_far (p := ⟨gb158, 4, none⟩) (by first | (rw [add_block]; exact hn159_4) | (show (Addr.add _ _).block ≠ _; rw [add_block]; exact hn159_4) | exact hn159_4) (.int .i64 ((rd_T82 l0 x5_1).f4))).trans hx159_1; replace hx159_2 := (cell_far (p := ⟨gb158, 4, none⟩) (by first | (rw [add_block]; exact hn159_4) | (show (Addr.add _ _).block ≠ _; rw [add_block]; exact hn159_4) | exact hn159_4) (.int .i64 ((rd_T82 l0 x5_1).f4))).trans hx159_2; replace hx159_3 := (cell_far (p := ⟨gb158, 4, none⟩) (by first | (rw [add_block]; exact hn159_4) | (show (Addr.add _ _).block ≠ _; rw [add_block]; exact hn159_4) | exact hn159_4) (.int .i64 ((rd_T82 l0 x5_1).f4))).trans hx159_3; replace hx159_4 := (cell_far (p := ⟨gb158, 4, none⟩) (by first | (rw [add_block]; exact hn159_4) | (show (Addr.add _ _).block ≠ _; rw [add_block]; exact hn159_4) | exact hn159_4) (.int .i64 ((rd_T82 l0 x5_1).f4))).trans hx159_4; clear hn159_0; clear hn159_1; clear hn159_2; clear hn159_3; clear hn159_4; replace p159 := eq_true p159; replace q159 := eq_true q159) | ((with_reducible refine gd_ (N := 7) rfl ?_); refine bx_ (N := 7) (cs := #[.int .i64 0, .slice none 0 0, .bool false, .bool false, .int .i64 0]) (t := 82) ?_; intro gb160 hg w20 hbox hb; have BK160 := A_ (hbox); have GW160 := A_ (ge_ hg (bG_ GE158.out) : w.heap.size ≤ gb160); have GE160 := A_ (ge_ hg (bG_ GE158.out) : w.heap.size ≤ gb160); replace HB := A_ (below_step (bG_ GE158.out) hb); have NB158_160 := A_ ((by rw [hg]; exact Nat.ne_of_lt (blk_lt (g := gb158) (o := .cells #[.int .i64 ((rd_T82 l0 x5_1).f0), .slice A157_1 ((rd_T82 l0 x5_1).f1).length c157_1, .bool ((rd_T82 l0 x5_1).f2), .bool ((rd_T82 l0 x5_1).f3), .int .i64 ((rd_T82 l0 x5_1).f4)] 82 (0, 0)) (by (with_reducible repeat (first | refine blk_drewN ?_ _ | refine blk_drew ?_ | refine blk_alloc ?_ _)); refine blk_put (cs := #[.int .i64 ((rd_T82 l0 x5_1).f0), .slice A157_1 ((rd_T82 l0 x5_1).f1).length c157_1, .bool ((rd_T82 l0 x5_1).f2), .bool ((rd_T82 l0 x5_1).f3), .int .i64 0]) ?_ 4 _ rfl; (with_reducible repeat (first | refine blk_drewN ?_ _ | refine blk_drew ?_ | refine blk_alloc ?_ _)); refine blk_put (cs := #[.int .i64 ((rd_T82 l0 x5_1).f0), .slice A157_1 ((rd_T82 l0 x5_1).f1).length c157_1, .bool ((rd_T82 l0 x5_1).f2), .bool false, .int .i64 0]) ?_ 3 _ rfl; (with_reducible repeat (first | refine blk_drewN ?_ _ | refine blk_drew ?_ | refine blk_alloc ?_ _)); refine blk_put (cs := #[.int .i64 ((rd_T82 l0 x5_1).f0), .slice A157_1 ((rd_T82 l0 x5_1).f1).length c157_1, .bool false, .bool false, .int .i64 0]) ?_ 2 _ rfl; (with_reducible repeat (first | refine blk_drewN ?_ _ | refine blk_drew ?_ | refine blk_alloc ?_ _)); refine blk_put (cs := #[.int .i64 ((rd_T82 l0 x5_1).f0), .slice none 0 0, .bool false, .bool false, .int .i64 0]) ?_ 1 _ rfl; (with_reducible repeat (first | refine blk_drewN ?_ _ | refine blk_drew ?_ | refine blk_alloc ?_ _)); refine blk_put (cs := #[.int .i64 0, .slice none 0 0, .bool false, .bool false, .int .i64 0]) ?_ 0 _ rfl; (with_reducible repeat (first | refine blk_drewN ?_ _ | refine blk_drew ?_ | refine blk_alloc ?_ _)); exact BK158.out)) : gb158 ≠ gb160)); have NB160_158 := A_ ((by rw [hg]; exact Nat.ne_of_gt (blk_lt (g := gb158) (o := .cells #[.int .i64 ((rd_T82 l0 x5_1).f0), .slice A157_1 ((rd_T82 l0 x5_1).f1).length c157_1, .bool ((rd_T82 l0 x5_1).f2), .bool ((rd_T82 l0 x5_1).f3), .int .i64 ((rd_T82 l0 x5_1).f4)] 82 (0, 0)) (by (with_reducible repeat (first | refine blk_drewN ?_ _ | refine blk_drew ?_ | refine blk_alloc ?_ _)); refine blk_put (cs := #[.int .i64 ((rd_T82 l0 x5_1).f0), .slice A157_1 ((rd_T82 l0 x5_1).f1).length c157_1, .bool ((rd_T82 l0 x5_1).f2), .bool ((rd_T82 l0 x5_1).f3), .int .i64 0]) ?_ 4 _ rfl; (with_reducible repeat (first | refine blk_drewN ?_ _ | refine blk_drew ?_ | refine blk_alloc ?_ _)); refine blk_put (cs := #[.int .i64 ((rd_T82 l0 x5_1).f0), .slice A157_1 ((rd_T82 l0 x5_1).f1).length c157_1, .bool ((rd_T82 l0 x5_1).f2), .bool false, .int .i64 0]) ?_ 3 _ rfl; (with_reducible repeat (first | refine blk_drewN ?_ _ | refine blk_drew ?_ | refine blk_alloc ?_ _)); refine blk_put (cs := #[.int .i64 ((rd_T82 l0 x5_1).f0), .slice A157_1 ((rd_T82 l0 x5_1).f1).length c157_1, .bool false, .bool false, .int .i64 0]) ?_ 2 _ rfl; (with_reducible repeat (first | refine blk_drewN ?_ _ | refine blk_drew ?_ | refine blk_alloc ?_ _)); refine blk_put (cs := #[.int .i64 ((rd_T82 l0 x5_1).f0), .slice none 0 0, .bool false, .bool false, .int .i64 0]) ?_ 1 _ rfl; (with_reducible repeat (first | refine blk_drewN ?_ _ | refine blk_drew ?_ | refine blk_alloc ?_ _)); refine blk_put (cs := #[.int .i64 0, .slice none 0 0, .bool false, .bool false, .int .i64 0]) ?_ 0 _ rfl; (with_reducible repeat (first | refine blk_drewN ?_ _ | refine blk_drew ?_ | refine blk_alloc ?_ _)); exact BK158.out)) : gb160 ≠ gb158)); replace BK158 := A_ (blk_below (g := gb158) (o := .cells #[.int .i64 ((rd_T82 l0 x5_1).f0), .slice A157_1 ((rd_T82 l0 x5_1).f1).length c157_1, .bool ((rd_T82 l0 x5_1).f2), .bool ((rd_T82 l0 x5_1).f3), .int .i64 ((rd_T82 l0 x5_1).f4)] 82 (0, 0)) (by (with_reducible repeat (first | refine blk_drewN ?_ _ | refine blk_drew ?_ | refine blk_alloc ?_ _)); refine blk_put (cs := #[.int .i64 ((rd_T82 l0 x5_1).f0), .slice A157_1 ((rd_T82 l0 x5_1).f1).length c157_1, .bool ((rd_T82 l0 x5_1).f2), .bool ((rd_T82 l0 x5_1).f3), .int .i64 0]) ?_ 4 _ rfl; (with_reducible repeat (first | refine blk_drewN ?_ _ | refine blk_drew ?_ | refine blk_alloc ?_ _)); refine blk_put (cs := #[.int .i64 ((rd_T82 l0 x5_1).f0), .slice A157_1 ((rd_T82 l0 x5_1).f1).length c157_1, .bool ((rd_T82 l0 x5_1).f2), .bool false, .int .i64 0]) ?_ 3 _ rfl; (with_reducible repeat (first | refine blk_drewN ?_ _ | refine blk_drew ?_ | refine blk_alloc ?_ _)); refine blk_put (cs := #[.int .i64 ((rd_T82 l0 x5_1).f0), .slice A157_1 ((rd_T82 l0 x5_1).f1).length c157_1, .bool false, .bool false, .int .i64 0]) ?_ 2 _ rfl; (with_reducible repeat (first | refine blk_drewN ?_ _ | refine blk_drew ?_ | refine blk_alloc ?_ _)); refine blk_put (cs := #[.int .i64 ((rd_T82 l0 x5_1).f0), .slice none 0 0, .bool false, .bool false, .int .i64 0]) ?_ 1 _ rfl; (with_reducible repeat (first | refine blk_drewN ?_ _ | refine blk_drew ?_ | refine blk_alloc ?_ _)); refine blk_put (cs := #[.int .i64 0, .slice none 0 0, .bool false, .bool false, .int .i64 0]) ?_ 0 _ rfl; (with_reducible repeat (first | refine blk_drewN ?_ _ | refine blk_drew ?_ | refine blk_alloc ?_ _)); exact BK158.out) hb); clear hb hbox hg; have hnb21 := NB160_158.out; have hnc21 := NB158_160.out; obtain ⟨hcz22_0, hcz22_1, hcz22_2, hcz22_3, hcz22_4, hfz22_0, hfz22_1, hfz22_2, hfz22_3, hfz22_4⟩ := cz5_ BK160.out; obtain ⟨hcz23_0, hcz23_1, hcz23_2, hcz23_3, hcz23_4, hfz23_0, hfz23_1, hfz23_2, hfz23_3, hfz23_4⟩ := cz5_ BK158.out) | (go_at_call 68; (with_reducible refine (spec_SamePath.calls k1 _ _ ((rd_T82 l0 x5_1).f1) _ _ ((rd_T82 l1 x5_1).f1) true _ ?s1 ?s2 ?s3 ?s4 A8.out).mono ?_); (case s1 => exact Kd.C_below HR157_1.out (by repeat (first | (with_reducible first | exact HB.out | apply below_alloc | apply pw_below_drewN | apply below_drew1 | refine below_set ?_ GE158.out | refine below_set ?_ GE160.out) | exact HB.out))); (case s2 => exact HC157_1.out); (case s3 => exact Kd.C_below HR159_1.out (by repeat (first | (with_reducible first | exact HB.out | apply below_alloc | apply pw_below_drewN | apply below_drew1 | refine below_set ?_ GE158.out | refine below_set ?_ GE160.out) | exact HB.out))); (case s4 => exact HC159_1.out); rintro e w' ⟨rfl, ⟨nd, rfl⟩⟩))
       go_ret
       exact ⟨rr_, by repeat (first | (with_reducible first | exact HB.out | apply below_alloc | apply pw_below_drewN | apply below_drew1 | refine below_set ?_ GE158.out | refine below_set ?_ GE160.out) | exact HB.out)⟩
     rw [if_neg c17] at H
     have c17b0 : (((rd_T82 l0 x5_1).f3) != ((rd_T82 l1 x5_1).f3)) = false := by simpa using c17
     (try (have c17b1 : decide (((rd_T82 l0 x5_1).f3) = ((rd_T82 l1 x5_1).f3)) = true := by simpa using c17))
     (try (have c17b2 : (((rd_T82 l0 x5_1).f3) == ((rd_T82 l1 x5_1).f3)) = true := by simpa using c17))
     clear c17
     by_cases c24 : ((rd_T82 l0 x5_1).f4) = ((rd_T82 l1 x5_1).f4)
     rotate_left
     · rw [if_neg c24] at H
       have c24b0 : (((rd_T82 l0 x5_1).f4) == ((rd_T82 l1 x5_1).f4)) = false := beq_eq_false_iff_ne.mpr c24
       have c24b1 : (((rd_T82 l0 x5_1).f4) != ((rd_T82 l1 x5_1).f4)) = true := bne_iff_ne.mpr c24
       obtain rfl := si_ H
       have p157 : 0 ≤ (x5_1 : Int) := od_
       have q157 : x5_1 < (l0.length : Int) := od_
       obtain ⟨ad157, A157_1, c157_1, e157, hx157_0, hx157_1, hx157_2, hx157_3, hx157_4, hl157_1, hi157_1⟩ := at_T82 HR0.out x5_1 p157 q157
       cases e157
       replace hx157_0 := bc_ HB.out hx157_0
       replace hx157_1 := bc_ HB.out hx157_1
       replace hx157_2 := bc_ HB.out hx157_2
       replace hx157_3 := bc_ HB.out hx157_3
       replace hx157_4 := bc_ HB.out hx157_4
       have HR157_1 := A_ hi157_1
       have HC157_1 := A_ hl157_1
       clear hi157_1 hl157_1
       replace p157 := eq_true p157
       replace q157 := eq_true q157
       go_wp2_with (first | ((with_reducible refine gd_ (N := 6) rfl ?_); refine bx_ (N := 6) (cs := #[.int .i64 0, .slice none 0 0, .bool false, .bool false, .int .i64 0]) (t := 82) ?_; intro gb158 hg w31 hbox hb; have BK158 := A_ (hbox); have GW158 := A_ (ge_ hg bB_ : w.heap.size ≤ gb158); have GE158 := A_ (ge_ hg bB_ : w.heap.size ≤ gb158); replace HB := A_ (below_step bB_ hb); clear hb hbox hg; obtain ⟨hcz32_0, hcz32_1, hcz32_2, hcz32_3, hcz32_4, hfz32_0, hfz32_1, hfz32_2, hfz32_3, hfz32_4⟩ := cz5_ BK158.out; have p159 : 0 ≤ (x5_1 : Int) := od_; have q159 : x5_1 < (l1.length : Int) := od_; obtain ⟨ad159, A159_1, c159_1, e159, hx159_0, hx159_1, hx159_2, hx159_3, hx159_4, hl159_1, hi159_1⟩ := at_T82 HR1.out x5_1 p159 q159; cases e159; have hn159_0 : ad159.block ≠ gb158 := Nat.ne_of_lt (Nat.lt_of_lt_of_le (by have := World.block_lt_of_cell? _ _ hx159_0; first | rwa [add_block] at this | exact this) GW158.out); have hn159_1 : ad159.block ≠ gb158 := Nat.ne_of_lt (Nat.lt_of_lt_of_le (by have := World.block_lt_of_cell? _ _ hx159_0; first | rwa [add_block] at this | exact this) GW158.out); have hn159_2 : ad159.block ≠ gb158 := Nat.ne_of_lt (Nat.lt_of_lt_of_le (by have := World.block_lt_of_cell? _ _ hx159_0; first | rwa [add_block] at this | exact this) GW158.out); have hn159_3 : ad159.block ≠ gb158 := Nat.ne_of_lt (Nat.lt_of_lt_of_le (by have := World.block_lt_of_cell? _ _ hx159_0; first | rwa [add_block] at this | exact this) GW158.out); have hn159_4 : ad159.block ≠ gb158 := Nat.ne_of_lt (Nat.lt_of_lt_of_le (by have := World.block_lt_of_cell? _ _ hx159_0; first | rwa [add_block] at this | exact this) GW158.out); replace hx159_0 := bc_ HB.out hx159_0; replace hx159_1 := bc_ HB.out hx159_1; replace hx159_2 := bc_ HB.out hx159_2; replace hx159_3 := bc_ HB.out hx159_3; replace hx159_4 := bc_ HB.out hx159_4; have HR159_1 := A_ hi159_1; have HC159_1 := A_ hl159_1; clear hi159_1 hl159_1; replace hx159_0 := (cell_far (p := ⟨gb158, 0, none⟩) (by first | (rw [add_block]; exact hn159_0) | (show (Addr.add _ _).block ≠ _; rw [add_block]; exact hn159_0) | exact hn159_0) (.int .i64 ((rd_T82 l0 x5_1).f0))).trans hx159_0; replace hx159_1 := (cell_far (p := ⟨gb158, 0, none⟩) (by first | (rw [add_block]; exact hn159_0) | (show (Addr.add _ _).block ≠ _; rw [add_block]; exact hn159_0) | exact hn159_0) (.int .i64 ((rd_T82 l0 x5_1).f0))).trans hx159_1; replace hx159_2 := (cell_far (p := ⟨gb158, 0, none⟩) (by first | (rw [add_block]; exact hn159_0) | (show (Addr.add _ _).block ≠ _; rw [add_block]; exact hn159_0) | exact hn159_0) (.int .i64 ((rd_T82 l0 x5_1).f0))).trans hx159_2; replace hx159_3 := (cell_far (p := ⟨gb158, 0, none⟩) (by first | (rw [add_block]; exact hn159_0) | (show (Addr.add _ _).block ≠ _; rw [add_block]; exact hn159_0) | exact hn159_0) (.int .i64 ((rd_T82 l0 x5_1).f0))).trans hx159_3; replace hx159_4 := (cell_far (p := ⟨gb158, 0, none⟩) (by first | (rw [add_block]; exact hn159_0) | (show (Addr.add _ _).block ≠ _; rw [add_block]; exact hn159_0) | exact hn159_0) (.int .i64 ((rd_T82 l0 x5_1).f0))).trans hx159_4; replace hx159_0 := (cell_far (p := ⟨gb158, 1, none⟩) (by first | (rw [add_block]; exact hn159_1) | (show (Addr.add _ _).block ≠ _; rw [add_block]; exact hn159_1) | exact hn159_1) (.slice A157_1 ((rd_T82 l0 x5_1).f1).length c157_1)).trans hx159_0; replace hx159_1 := (cell_far (p := ⟨gb158, 1, none⟩) (by first | (rw [add_block]; exact hn159_1) | (show (Addr.add _ _).block ≠ _; rw [add_block]; exact hn159_1) | exact hn159_1) (.slice A157_1 ((rd_T82 l0 x5_1).f1).length c157_1)).trans hx159_1; replace hx159_2 := (cell_far (p := ⟨gb158, 1, none⟩) (by first | (rw [add_block]; exact hn159_1) | (show (Addr.add _ _).block ≠ _; rw [add_block]; exact hn159_1) | exact hn159_1) (.slice A157_1 ((rd_T82 l0 x5_1).f1).length c157_1)).trans hx159_2; replace hx159_3 := (cell_far (p := ⟨gb158, 1, none⟩) (by first | (rw [add_block]; exact hn159_1) | (show (Addr.add _ _).block ≠ _; rw [add_block]; exact hn159_1) | exact hn159_1) (.slice A157_1 ((rd_T82 l0 x5_1).f1).length c157_1)).trans hx159_3; replace hx159_4 := (cell_far (p := ⟨gb158, 1, none⟩) (by first | (rw [add_block]; exact hn159_1) | (show (Addr.add _ _).block ≠ _; rw [add_block]; exact hn159_1) | exact hn159_1) (.slice A157_1 ((rd_T82 l0 x5_1).f1).length c157_1)).trans hx159_4; replace hx159_0 := (cell_far (p := ⟨gb158, 2, none⟩) (by first | (rw [add_block]; exact hn159_2) | (show (Addr.add _ _).block ≠ _; rw [add_block]; exact hn159_2) | exact hn159_2) (.bool ((rd_T82 l0 x5_1).f2))).trans hx159_0; replace hx159_1 := (cell_far (p := ⟨gb158, 2, none⟩) (by first | (rw [add_block]; exact hn159_2) | (show (Addr.add _ _).block ≠ _; rw [add_block]; exact hn159_2) | exact hn159_2) (.bool ((rd_T82 l0 x5_1).f2))).trans hx159_1; replace hx159_2 := (cell_far (p := ⟨gb158, 2, none⟩) (by first | (rw [add_block]; exact hn159_2) | (show (Addr.add _ _).block ≠ _; rw [add_block]; exact hn159_2) | exact hn159_2) (.bool ((rd_T82 l0 x5_1).f2))).trans hx159_2; replace hx159_3 := (cell_far (p := ⟨gb158, 2, none⟩) (by first | (rw [add_block]; exact hn159_2) | (show (Addr.add _ _).block ≠ _; rw [add_block]; exact hn159_2) | exact hn159_2) (.bool ((rd_T82 l0 x5_1).f2))).trans hx159_3; replace hx159_4 := (cell_far (p := ⟨gb158, 2, none⟩) (by first | (rw [add_block]; exact hn159_2) | (show (Addr.add _ _).block ≠ _; rw [add_block]; exact hn159_2) | exact hn159_2) (.bool ((rd_T82 l0 x5_1).f2))).trans hx159_4; replace hx159_0 := (cell_far (p := ⟨gb158, 3, none⟩) (by first | (rw [add_block]; exact hn159_3) | (show (Addr.add _ _).block ≠ _; rw [add_block]; exact hn159_3) | exact hn159_3) (.bool ((rd_T82 l0 x5_1).f3))).trans hx159_0; replace hx159_1 := (cell_far (p := ⟨gb158, 3, none⟩) (by first | (rw [add_block]; exact hn159_3) | (show (Addr.add _ _).block ≠ _; rw [add_block]; exact hn159_3) | exact hn159_3) (.bool ((rd_T82 l0 x5_1).f3))).trans hx159_1; replace hx159_2 := (cell_far (p := ⟨gb158, 3, none⟩) (by first | (rw [add_block]; exact hn159_3) | (show (Addr.add _ _).block ≠ _; rw [add_block]; exact hn159_3) | exact hn159_3) (.bool ((rd_T82 l0 x5_1).f3))).trans hx159_2; replace hx159_3 := (cell_far (p := ⟨gb158, 3, none⟩) (by first | (rw [add_block]; exact hn159_3) | (show (Addr.add _ _).block ≠ _; rw [add_block]; exact hn159_3) | exact hn159_3) (.bool ((rd_T82 l0 x5_1).f3))).trans hx159_3; replace hx159_4 := (cell_far (p := ⟨gb158, 3, none⟩) (by first | (rw [add_block]; exact hn159_3) | (show (Addr.add _ _).block ≠ _; rw [add_block]; exact hn159_3) | exact hn159_3) (.bool ((rd_T82 l0 x5_1).f3))).trans hx159_4; replace hx159_0 := (cell_far (p := ⟨gb158, 4, none⟩) (by first | (rw [add_block]; exact hn159_4) | (show (Addr.add _ _).block ≠ _; rw [add_block]; exact hn159_4) | exact hn159_4) (.int .i64 ((rd_T82 l0 x5_1).f4))).trans hx159_0; replace hx159_1 := (cell_far (p := ⟨gb158, 4, none⟩) (by first | (rw [add_block]; exact hn159_4) | (show (Addr.add _ _).block ≠ _; rw [add_block]; exact hn159_4) | exact hn159_4) (.int .i64 ((rd_T82 l0 x5_1).f4))).trans hx159_1; replace hx159_2 := (cell_far (p := ⟨gb158, 4, none⟩) (by first | (rw [add_block]; exact hn159_4) | (show (Addr.add _ _).block ≠ _; rw [add_block]; exact hn159_4) | exact hn159_4) (.int .i64 ((rd_T82 l0 x5_1).f4))).trans hx159_2; replace hx159_3 := (cell_far (p := ⟨gb158, 4, none⟩) (by first | (rw [add_block]; exact hn159_4) | (show (Addr.add _ _).block ≠ _; rw [add_block]; exact hn159_4) | exact hn159_4) (.int .i64 ((rd_T82 l0 x5_1).f4))).trans hx159_3; replace hx159_4 := (cell_far (p := ⟨gb158, 4, none⟩) (by first | (rw [add_block]; exact hn159_4) | (show (Addr.add _ _).block ≠ _; rw [add_block]; exact hn159_4) | exact hn159_4) (.int .i64 ((rd_T82 l0 x5_1).f4))).trans hx159_4; clear hn159_0; clear hn159_1; clear hn159_2; clear hn159_3; clear hn159_4; replace p159 := eq_true p159; replace q159 := eq_true q159) | ((with_reducible refine gd_ (N := 7) rfl ?_); refine bx_ (N := 7) (cs := #[.int .i64 0, .slice none 0 0, .bool false, .bool false, .int .i64 0]) (t := 82) ?_; intro gb160 hg w33 hbox hb; have BK160 := A_ (hbox); have GW160 := A_ (ge_ hg (bG_ GE158.out) : w.heap.size ≤ gb160); have GE160 := A_ (ge_ hg (bG_ GE158.out) : w.heap.size ≤ gb160); replace HB := A_ (below_step (bG_ GE158.out) hb); have NB158_160 := A_ ((by rw [hg]; exact Nat.ne_of_lt (blk_lt (g := gb158) (o := .cells #[.int .i64 ((rd_T82 l0 x5_1).f0), .slice A157_1 ((rd_T82 l0 x5_1).f1).length c157_1, .bool ((rd_T82 l0 x5_1).f2), .bool ((rd_T82 l0 x5_1).f3), .int .i64 ((rd_T82 l0 x5_1).f4)] 82 (0, 0)) (by (with_reducible repeat (first | refine blk_drewN ?_ _ | refine blk_drew ?_ | refine blk_alloc ?_ _)); refine blk_put (cs := #[.int .i64 ((rd_T82 l0 x5_1).f0), .slice A157_1 ((rd_T82 l0 x5_1).f1).length c157_1, .bool ((rd_T82 l0 x5_1).f2), .bool ((rd_T82 l0 x5_1).f3), .int .i64 0]) ?_ 4 _ rfl; (with_reducible repeat (first | refine blk_drewN ?_ _ | refine blk_drew ?_ | refine blk_alloc ?_ _)); refine blk_put (cs := #[.int .i64 ((rd_T82 l0 x5_1).f0), .slice A157_1 ((rd_T82 l0 x5_1).f1).length c157_1, .bool ((rd_T82 l0 x5_1).f2), .bool false, .int .i64 0]) ?_ 3 _ rfl; (with_reducible repeat (first | refine blk_drewN ?_ _ | refine blk_drew ?_ | refine blk_alloc ?_ _)); refine blk_put (cs := #[.int .i64 ((rd_T82 l0 x5_1).f0), .slice A157_1 ((rd_T82 l0 x5_1).f1).length c157_1, .bool false, .bool false, .int .i64 0]) ?_ 2 _ rfl; (with_reducible repeat (first | refine blk_drewN ?_ _ | refine blk_drew ?_ | refine blk_alloc ?_ _)); refine blk_put (cs := #[.int .i64 ((rd_T82 l0 x5_1).f0), .slice none 0 0, .bool false, .bool false, .int .i64 0]) ?_ 1 _ rfl; (with_reducible repeat (first | refine blk_drewN ?_ _ | refine blk_drew ?_ | refine blk_alloc ?_ _)); refine blk_put (cs := #[.int .i64 0, .slice none 0 0, .bool false, .bool false, .int .i64 0]) ?_ 0 _ rfl; (with_reducible repeat (first | refine blk_drewN ?_ _ | refine blk_drew ?_ | refine blk_alloc ?_ _)); exact BK158.out)) : gb158 ≠ gb160)); have NB160_158 := A_ ((by rw [hg]; exact Nat.ne_of_gt (blk_lt (g := gb158) (o := .cells #[.int .i64 ((rd_T82 l0 x5_1).f0), .slice A157_1 ((rd_T82 l0 x5_1).f1).length c157_1, .bool ((rd_T82 l0 x5_1).f2), .bool ((rd_T82 l0 x5_1).f3), .int .i64 ((rd_T82 l0 x5_1).f4)] 82 (0, 0)) (by (with_reducible repeat (first | refine blk_drewN ?_ _ | refine blk_drew ?_ | refine blk_alloc ?_ _)); refine blk_put (cs := #[.int .i64 ((rd_T82 l0 x5_1).f0), .slice A157_1 ((rd_T82 l0 x5_1).f1).length c157_1, .bool ((rd_T82 l0 x5_1).f2), .bool ((rd_T82 l0 x5_1).f3), .int .i64 0]) ?_ 4 _ rfl; (with_reducible repeat (first | refine blk_drewN ?_ _ | refine blk_drew ?_ | refine blk_alloc ?_ _)); refine blk_put (cs := #[.int .i64 ((rd_T82 l0 x5_1).f0), .slice A157_1 ((rd_T82 l0 x5_1).f1).length c157_1, .bool ((rd_T82 l0 x5_1).f2), .bool false, .int .i64 0]) ?_ 3 _ rfl; (with_reducible repeat (first | refine blk_drewN ?_ _ | refine blk_drew ?_ | refine blk_alloc ?_ _)); refine blk_put (cs := #[.int .i64 ((rd_T82 l0 x5_1).f0), .slice A157_1 ((rd_T82 l0 x5_1).f1).length c157_1, .bool false, .bool false, .int .i64 0]) ?_ 2 _ rfl; (with_reducible repeat (first | refine blk_drewN ?_ _ | refine blk_drew ?_ | refine blk_alloc ?_ _)); refine blk_put (cs := #[.int .i64 ((rd_T82 l0 x5_1).f0), .slice none 0 0, .bool false, .bool false, .int .i64 0]) ?_ 1 _ rfl; (with_reducible repeat (first | refine blk_drewN ?_ _ | refine blk_drew ?_ | refine blk_alloc ?_ _)); refine blk_put (cs := #[.int .i64 0, .slice none 0 0, .bool false, .bool false, .int .i64 0]) ?_ 0 _ rfl; (with_reducible repeat (first | refine blk_drewN ?_ _ | refine blk_drew ?_ | refine blk_alloc ?_ _)); exact BK158.out)) : gb160 ≠ gb158)); replace BK158 := A_ (blk_below (g := gb158) (o := .cells #[.int .i64 ((rd_T82 l0 x5_1).f0), .slice A157_1 ((rd_T82 l0 x5_1).f1).length c157_1, .bool ((rd_T82 l0 x5_1).f2), .bool ((rd_T82 l0 x5_1).f3), .int .i64 ((rd_T82 l0 x5_1).f4)] 82 (0, 0)) (by (with_reducible repeat (first | refine blk_drewN ?_ _ | refine blk_drew ?_ | refine blk_alloc ?_ _)); refine blk_put (cs := #[.int .i64 ((rd_T82 l0 x5_1).f0), .slice A157_1 ((rd_T82 l0 x5_1).f1).length c157_1, .bool ((rd_T82 l0 x5_1).f2), .bool ((rd_T82 l0 x5_1).f3), .int .i64 0]) ?_ 4 _ rfl; (with_reducible repeat (first | refine blk_drewN ?_ _ | refine blk_drew ?_ | refine blk_alloc ?_ _)); refine blk_put (cs := #[.int .i64 ((rd_T82 l0 x5_1).f0), .slice A157_1 ((rd_T82 l0 x5_1).f1).length c157_1, .bool ((rd_T82 l0 x5_1).f2), .bool false, .int .i64 0]) ?_ 3 _ rfl; (with_reducible repeat (first | refine blk_drewN ?_ _ | refine blk_drew ?_ | refine blk_alloc ?_ _)); refine blk_put (cs := #[.int .i64 ((rd_T82 l0 x5_1).f0), .slice A157_1 ((rd_T82 l0 x5_1).f1).length c157_1, .bool false, .bool false, .int .i64 0]) ?_ 2 _ rfl; (with_reducible repeat (first | refine blk_drewN ?_ _ | refine blk_drew ?_ | refine blk_alloc ?_ _)); refine blk_put (cs := #[.int .i64 ((rd_T82 l0 x5_1).f0), .slice none 0 0, .bool false, .bool false, .int .i64 0]) ?_ 1 _ rfl; (with_reducible repeat (first | refine blk_drewN ?_ _ | refine blk_drew ?_ | refine blk_alloc ?_ _)); refine blk_put (cs := #[.int .i64 0, .slice none 0 0, .bool false, .bool false, .int .i64 0]) ?_ 0 _ rfl; (with_reducible repeat (first | refine blk_drewN ?_ _ | refine blk_drew ?_ | refine blk_alloc ?_ _)); exact BK158.out) hb); clear hb hbox hg; have hnb34 := NB160_158.out; have hnc34 := NB158_160.out; obtain ⟨hcz35_0, hcz35_1, hcz35_2, hcz35_3, hcz35_4, hfz35_0, hfz35_1, hfz35_2, hfz35_3, hfz35_4⟩ := cz5_ BK160.out; obtain ⟨hcz36_0, hcz36_1, hcz36_2, hcz36_3, hcz36_4, hfz36_0, hfz36_1, hfz36_2, hfz36_3, hfz36_4⟩ := cz5_ BK158.out) | (go_at_call 68; (with_reducible refine (spec_SamePath.calls k1 _ _ ((rd_T82 l0 x5_1).f1) _ _ ((rd_T82 l1 x5_1).f1) true _ ?s1 ?s2 ?s3 ?s4 A8.out).mono ?_); (case s1 => exact Kd.C_below HR157_1.out (by repeat (first | (with_reducible first | exact HB.out | apply below_alloc | apply pw_below_drewN | apply below_drew1 | refine below_set ?_ GE158.out | refine below_set ?_ GE160.out) | exact HB.out))); (case s2 => exact HC157_1.out); (case s3 => exact Kd.C_below HR159_1.out (by repeat (first | (with_reducible first | exact HB.out | apply below_alloc | apply pw_below_drewN | apply below_drew1 | refine below_set ?_ GE158.out | refine below_set ?_ GE160.out) | exact HB.out))); (case s4 => exact HC159_1.out); rintro e w' ⟨rfl, ⟨nd, rfl⟩⟩))
       go_ret
       exact ⟨rr_, by repeat (first | (with_reducible first | exact HB.out | apply below_alloc | apply pw_below_drewN | apply below_drew1 | refine below_set ?_ GE158.out | refine below_set ?_ GE160.out) | exact HB.out)⟩
     rw [if_pos c24] at H
     have c24b0 : (((rd_T82 l0 x5_1).f4) == ((rd_T82 l1 x5_1).f4)) = true := beq_iff_eq.mpr c24
     have c24b1 : (((rd_T82 l0 x5_1).f4) != ((rd_T82 l1 x5_1).f4)) = false := bne_eq_false_iff_eq.mpr c24
     clear c24
     have H' := A_ H
     clear H
     have p157 : 0 ≤ (x5_1 : Int) := od_
     have q157 : x5_1 < (l0.length : Int) := od_
     obtain ⟨ad157, A157_1, c157_1, e157, hx157_0, hx157_1, hx157_2, hx157_3, hx157_4, hl157_1, hi157_1⟩ := at_T82 HR0.out x5_1 p157 q157
     cases e157
     replace hx157_0 := bc_ HB.out hx157_0
     replace hx157_1 := bc_ HB.out hx157_1
     replace hx157_2 := bc_ HB.out hx157_2
     replace hx157_3 := bc_ HB.out hx157_3
     replace hx157_4 := bc_ HB.out hx157_4
     have HR157_1 := A_ hi157_1
     have HC157_1 := A_ hl157_1
     clear hi157_1 hl157_1
     replace p157 := eq_true p157
     replace q157 := eq_true q157
     go_wp2_with (first | ((with_reducible refine gd_ (N := 6) rfl ?_); refine bx_ (N := 6) (cs := #[.int .i64 0, .slice none 0 0, .bool false, .bool false, .int .i64 0]) (t := 82) ?_; intro gb158 hg w25 hbox hb; have BK158 := A_ (hbox); have GW158 := A_ (ge_ hg bB_ : w.heap.size ≤ gb158); have GE158 := A_ (ge_ hg bB_ : w.heap.size ≤ gb158); replace HB := A_ (below_step bB_ hb); clear hb hbox hg; obtain ⟨hcz26_0, hcz26_1, hcz26_2, hcz26_3, hcz26_4, hfz26_0, hfz26_1, hfz26_2, hfz26_3, hfz26_4⟩ := cz5_ BK158.out; have p159 : 0 ≤ (x5_1 : Int) := od_; have q159 : x5_1 < (l1.length : Int) := od_; obtain ⟨ad159, A159_1, c159_1, e159, hx159_0, hx159_1, hx159_2, hx159_3, hx159_4, hl159_1, hi159_1⟩ := at_T82 HR1.out x5_1 p159 q159; cases e159; have hn159_0 : ad159.block ≠ gb158 := Nat.ne_of_lt (Nat.lt_of_lt_of_le (by have := World.block_lt_of_cell? _ _ hx159_0; first | rwa [add_block] at this | exact this) GW158.out); have hn159_1 : ad159.block ≠ gb158 := Nat.ne_of_lt (Nat.lt_of_lt_of_le (by have := World.block_lt_of_cell? _ _ hx159_0; first | rwa [add_block] at this | exact this) GW158.out); have hn159_2 : ad159.block ≠ gb158 := Nat.ne_of_lt (Nat.lt_of_lt_of_le (by have := World.block_lt_of_cell? _ _ hx159_0; first | rwa [add_block] at this | exact this) GW158.out); have hn159_3 : ad159.block ≠ gb158 := Nat.ne_of_lt (Nat.lt_of_lt_of_le (by have := World.block_lt_of_cell? _ _ hx159_0; first | rwa [add_block] at this | exact this) GW158.out); have hn159_4 : ad159.block ≠ gb158 := Nat.ne_of_lt (Nat.lt_of_lt_of_le (by have := World.block_lt_of_cell? _ _ hx159_0; first | rwa [add_block] at this | exact this) GW158.out); replace hx159_0 := bc_ HB.out hx159_0; replace hx159_1 := bc_ HB.out hx159_1; replace hx159_2 := bc_ HB.out hx159_2; replace hx159_3 := bc_ HB.out hx159_3; replace hx159_4 := bc_ HB.out hx159_4; have HR159_1 := A_ hi159_1; have HC159_1 := A_ hl159_1; clear hi159_1 hl159_1; replace hx159_0 := (cell_far (p := ⟨gb158, 0, none⟩) (by first | (rw [add_block]; exact hn159_0) | (show (Addr.add _ _).block ≠ _; rw [add_block]; exact hn159_0) | exact hn159_0) (.int .i64 ((rd_T82 l0 x5_1).f0))).trans hx159_0; replace hx159_1 := (cell_far (p := ⟨gb158, 0, none⟩) (by first | (rw [add_block]; exact hn159_0) | (show (Addr.add _ _).block ≠ _; rw [add_block]; exact hn159_0) | exact hn159_0) (.int .i64 ((rd_T82 l0 x5_1).f0))).trans hx159_1; replace hx159_2 := (cell_far (p := ⟨gb158, 0, none⟩) (by first | (rw [add_block]; exact hn159_0) | (show (Addr.add _ _).block ≠ _; rw [add_block]; exact hn159_0) | exact hn159_0) (.int .i64 ((rd_T82 l0 x5_1).f0))).trans hx159_2; replace hx159_3 := (cell_far (p := ⟨gb158, 0, none⟩) (by first | (rw [add_block]; exact hn159_0) | (show (Addr.add _ _).block ≠ _; rw [add_block]; exact hn159_0) | exact hn159_0) (.int .i64 ((rd_T82 l0 x5_1).f0))).trans hx159_3; replace hx159_4 := (cell_far (p := ⟨gb158, 0, none⟩) (by first | (rw [add_block]; exact hn159_0) | (show (Addr.add _ _).block ≠ _; rw [add_block]; exact hn159_0) | exact hn159_0) (.int .i64 ((rd_T82 l0 x5_1).f0))).trans hx159_4; replace hx159_0 := (cell_far (p := ⟨gb158, 1, none⟩) (by first | (rw [add_block]; exact hn159_1) | (show (Addr.add _ _).block ≠ _; rw [add_block]; exact hn159_1) | exact hn159_1) (.slice A157_1 ((rd_T82 l0 x5_1).f1).length c157_1)).trans hx159_0; replace hx159_1 := (cell_far (p := ⟨gb158, 1, none⟩) (by first | (rw [add_block]; exact hn159_1) | (show (Addr.add _ _).block ≠ _; rw [add_block]; exact hn159_1) | exact hn159_1) (.slice A157_1 ((rd_T82 l0 x5_1).f1).length c157_1)).trans hx159_1; replace hx159_2 := (cell_far (p := ⟨gb158, 1, none⟩) (by first | (rw [add_block]; exact hn159_1) | (show (Addr.add _ _).block ≠ _; rw [add_block]; exact hn159_1) | exact hn159_1) (.slice A157_1 ((rd_T82 l0 x5_1).f1).length c157_1)).trans hx159_2; replace hx159_3 := (cell_far (p := ⟨gb158, 1, none⟩) (by first | (rw [add_block]; exact hn159_1) | (show (Addr.add _ _).block ≠ _; rw [add_block]; exact hn159_1) | exact hn159_1) (.slice A157_1 ((rd_T82 l0 x5_1).f1).length c157_1)).trans hx159_3; replace hx159_4 := (cell_far (p := ⟨gb158, 1, none⟩) (by first | (rw [add_block]; exact hn159_1) | (show (Addr.add _ _).block ≠ _; rw [add_block]; exact hn159_1) | exact hn159_1) (.slice A157_1 ((rd_T82 l0 x5_1).f1).length c157_1)).trans hx159_4; replace hx159_0 := (cell_far (p := ⟨gb158, 2, none⟩) (by first | (rw [add_block]; exact hn159_2) | (show (Addr.add _ _).block ≠ _; rw [add_block]; exact hn159_2) | exact hn159_2) (.bool ((rd_T82 l0 x5_1).f2))).trans hx159_0; replace hx159_1 := (cell_far (p := ⟨gb158, 2, none⟩) (by first | (rw [add_block]; exact hn159_2) | (show (Addr.add _ _).block ≠ _; rw [add_block]; exact hn159_2) | exact hn159_2) (.bool ((rd_T82 l0 x5_1).f2))).trans hx159_1; replace hx159_2 := (cell_far (p := ⟨gb158, 2, none⟩) (by first | (rw [add_block]; exact hn159_2) | (show (Addr.add _ _).block ≠ _; rw [add_block]; exact hn159_2) | exact hn159_2) (.bool ((rd_T82 l0 x5_1).f2))).trans hx159_2; replace hx159_3 := (cell_far (p := ⟨gb158, 2, none⟩) (by first | (rw [add_block]; exact hn159_2) | (show (Addr.add _ _).block ≠ _; rw [add_block]; exact hn159_2) | exact hn159_2) (.bool ((rd_T82 l0 x5_1).f2))).trans hx159_3; replace hx159_4 := (cell_far (p := ⟨gb158, 2, none⟩) (by first | (rw [add_block]; exact hn159_2) | (show (Addr.add _ _).block ≠ _; rw [add_block]; exact hn159_2) | exact hn159_2) (.bool ((rd_T82 l0 x5_1).f2))).trans hx159_4; replace hx159_0 := (cell_far (p := ⟨gb158, 3, none⟩) (by first | (rw [add_block]; exact hn159_3) | (show (Addr.add _ _).block ≠ _; rw [add_block]; exact hn159_3) | exact hn159_3) (.bool ((rd_T82 l0 x5_1).f3))).trans hx159_0; replace hx159_1 := (cell_far (p := ⟨gb158, 3, none⟩) (by first | (rw [add_block]; exact hn159_3) | (show (Addr.add _ _).block ≠ _; rw [add_block]; exact hn159_3) | exact hn159_3) (.bool ((rd_T82 l0 x5_1).f3))).trans hx159_1; replace hx159_2 := (cell_far (p := ⟨gb158, 3, none⟩) (by first | (rw [add_block]; exact hn159_3) | (show (Addr.add _ _).block ≠ _; rw [add_block]; exact hn159_3) | exact hn159_3) (.bool ((rd_T82 l0 x5_1).f3))).trans hx159_2; replace hx159_3 := (cell_far (p := ⟨gb158, 3, none⟩) (by first | (rw [add_block]; exact hn159_3) | (show (Addr.add _ _).block ≠ _; rw [add_block]; exact hn159_3) | exact hn159_3) (.bool ((rd_T82 l0 x5_1).f3))).trans hx159_3; replace hx159_4 := (cell_far (p := ⟨gb158, 3, none⟩) (by first | (rw [add_block]; exact hn159_3) | (show (Addr.add _ _).block ≠ _; rw [add_block]; exact hn159_3) | exact hn159_3) (.bool ((rd_T82 l0 x5_1).f3))).trans hx159_4; replace hx159_0 := (cell_far (p := ⟨gb158, 4, none⟩) (by first | (rw [add_block]; exact hn159_4) | (show (Addr.add _ _).block ≠ _; rw [add_block]; exact hn159_4) | exact hn159_4) (.int .i64 ((rd_T82 l0 x5_1).f4))).trans hx159_0; replace hx159_1 := (cell_far (p := ⟨gb158, 4, none⟩) (by first | (rw [add_block]; exact hn159_4) | (show (Addr.add _ _).block ≠ _; rw [add_block]; exact hn159_4) | exact hn159_4) (.int .i64 ((rd_T82 l0 x5_1).f4))).trans hx159_1; replace hx159_2 := (cell_far (p := ⟨gb158, 4, none⟩) (by first | (rw [add_block]; exact hn159_4) | (show (Addr.add _ _).block ≠ _; rw [add_block]; exact hn159_4) | exact hn159_4) (.int .i64 ((rd_T82 l0 x5_1).f4))).trans hx159_2; replace hx159_3 := (cell_far (p := ⟨gb158, 4, none⟩) (by first | (rw [add_block]; exact hn159_4) | (show (Addr.add _ _).block ≠ _; rw [add_block]; exact hn159_4) | exact hn159_4) (.int .i64 ((rd_T82 l0 x5_1).f4))).trans hx159_3; replace hx159_4 := (cell_far (p := ⟨gb158, 4, none⟩) (by first | (rw [add_block]; exact hn159_4) | (show (Addr.add _ _).block ≠ _; rw [add_block]; exact hn159_4) | exact hn159_4) (.int .i64 ((rd_T82 l0 x5_1).f4))).trans hx159_4; clear hn159_0; clear hn159_1; clear hn159_2; clear hn159_3; clear hn159_4; replace p159 := eq_true p159; replace q159 := eq_true q159) | ((with_reducible refine gd_ (N := 7) rfl ?_); refine bx_ (N := 7) (cs := #[.int .i64 0, .slice none 0 0, .bool false, .bool false, .int .i64 0]) (t := 82) ?_; intro gb160 hg w27 hbox hb; have BK160 := A_ (hbox); have GW160 := A_ (ge_ hg (bG_ GE158.out) : w.heap.size ≤ gb160); have GE160 := A_ (ge_ hg (bG_ GE158.out) : w.heap.size ≤ gb160); replace HB := A_ (below_step (bG_ GE158.out) hb); have NB158_160 := A_ ((by rw [hg]; exact Nat.ne_of_lt (blk_lt (g := gb158) (o := .cells #[.int .i64 ((rd_T82 l0 x5_1).f0), .slice A157_1 ((rd_T82 l0 x5_1).f1).length c157_1, .bool ((rd_T82 l0 x5_1).f2), .bool ((rd_T82 l0 x5_1).f3), .int .i64 ((rd_T82 l0 x5_1).f4)] 82 (0, 0)) (by (with_reducible repeat (first | refine blk_drewN ?_ _ | refine blk_drew ?_ | refine blk_alloc ?_ _)); refine blk_put (cs := #[.int .i64 ((rd_T82 l0 x5_1).f0), .slice A157_1 ((rd_T82 l0 x5_1).f1).length c157_1, .bool ((rd_T82 l0 x5_1).f2), .bool ((rd_T82 l0 x5_1).f3), .int .i64 0]) ?_ 4 _ rfl; (with_reducible repeat (first | refine blk_drewN ?_ _ | refine blk_drew ?_ | refine blk_alloc ?_ _)); refine blk_put (cs := #[.int .i64 ((rd_T82 l0 x5_1).f0), .slice A157_1 ((rd_T82 l0 x5_1).f1).length c157_1, .bool ((rd_T82 l0 x5_1).f2), .bool false, .int .i64 0]) ?_ 3 _ rfl; (with_reducible repeat (first | refine blk_drewN ?_ _ | refine blk_drew ?_ | refine blk_alloc ?_ _)); refine blk_put (cs := #[.int .i64 ((rd_T82 l0 x5_1).f0), .slice A157_1 ((rd_T82 l0 x5_1).f1).length c157_1, .bool false, .bool false, .int .i64 0]) ?_ 2 _ rfl; (with_reducible repeat (first | refine blk_drewN ?_ _ | refine blk_drew ?_ | refine blk_alloc ?_ _)); refine blk_put (cs := #[.int .i64 ((rd_T82 l0 x5_1).f0), .slice none 0 0, .bool false, .bool false, .int .i64 0]) ?_ 1 _ rfl; (with_reducible repeat (first | refine blk_drewN ?_ _ | refine blk_drew ?_ | refine blk_alloc ?_ _)); refine blk_put (cs := #[.int .i64 0, .slice none 0 0, .bool false, .bool false, .int .i64 0]) ?_ 0 _ rfl; (with_reducible repeat (first | refine blk_drewN ?_ _ | refine blk_drew ?_ | refine blk_alloc ?_ _)); exact BK158.out)) : gb158 ≠ gb160)); have NB160_158 := A_ ((by rw [hg]; exact Nat.ne_of_gt (blk_lt (g := gb158) (o := .cells #[.int .i64 ((rd_T82 l0 x5_1).f0), .slice A157_1 ((rd_T82 l0 x5_1).f1).length c157_1, .bool ((rd_T82 l0 x5_1).f2), .bool ((rd_T82 l0 x5_1).f3), .int .i64 ((rd_T82 l0 x5_1).f4)] 82 (0, 0)) (by (with_reducible repeat (first | refine blk_drewN ?_ _ | refine blk_drew ?_ | refine blk_alloc ?_ _)); refine blk_put (cs := #[.int .i64 ((rd_T82 l0 x5_1).f0), .slice A157_1 ((rd_T82 l0 x5_1).f1).length c157_1, .bool ((rd_T82 l0 x5_1).f2), .bool ((rd_T82 l0 x5_1).f3), .int .i64 0]) ?_ 4 _ rfl; (with_reducible repeat (first | refine blk_drewN ?_ _ | refine blk_drew ?_ | refine blk_alloc ?_ _)); refine blk_put (cs := #[.int .i64 ((rd_T82 l0 x5_1).f0), .slice A157_1 ((rd_T82 l0 x5_1).f1).length c157_1, .bool ((rd_T82 l0 x5_1).f2), .bool false, .int .i64 0]) ?_ 3 _ rfl; (with_reducible repeat (first | refine blk_drewN ?_ _ | refine blk_drew ?_ | refine blk_alloc ?_ _)); refine blk_put (cs := #[.int .i64 ((rd_T82 l0 x5_1).f0), .slice A157_1 ((rd_T82 l0 x5_1).f1).length c157_1, .bool false, .bool false, .int .i64 0]) ?_ 2 _ rfl; (with_reducible repeat (first | refine blk_drewN ?_ _ | refine blk_drew ?_ | refine blk_alloc ?_ _)); refine blk_put (cs := #[.int .i64 ((rd_T82 l0 x5_1).f0), .slice none 0 0, .bool false, .bool false, .int .i64 0]) ?_ 1 _ rfl; (with_reducible repeat (first | refine blk_drewN ?_ _ | refine blk_drew ?_ | refine blk_alloc ?_ _)); refine blk_put (cs := #[.int .i64 0, .slice none 0 0, .bool false, .bool false, .int .i64 0]) ?_ 0 _ rfl; (with_reducible repeat (first | refine blk_drewN ?_ _ | refine blk_drew ?_ | refine blk_alloc ?_ _)); exact BK158.out)) : gb160 ≠ gb158)); replace BK158 := A_ (blk_below (g := gb158) (o := .cells #[.int .i64 ((rd_T82 l0 x5_1).f0), .slice A157_1 ((rd_T82 l0 x5_1).f1).length c157_1, .bool ((rd_T82 l0 x5_1).f2), .bool ((rd_T82 l0 x5_1).f3), .int .i64 ((rd_T82 l0 x5_1).f4)] 82 (0, 0)) (by (with_reducible repeat (first | refine blk_drewN ?_ _ | refine blk_drew ?_ | refine blk_alloc ?_ _)); refine blk_put (cs := #[.int .i64 ((rd_T82 l0 x5_1).f0), .slice A157_1 ((rd_T82 l0 x5_1).f1).length c157_1, .bool ((rd_T82 l0 x5_1).f2), .bool ((rd_T82 l0 x5_1).f3), .int .i64 0]) ?_ 4 _ rfl; (with_reducible repeat (first | refine blk_drewN ?_ _ | refine blk_drew ?_ | refine blk_alloc ?_ _)); refine blk_put (cs := #[.int .i64 ((rd_T82 l0 x5_1).f0), .slice A157_1 ((rd_T82 l0 x5_1).f1).length c157_1, .bool ((rd_T82 l0 x5_1).f2), .bool false, .int .i64 0]) ?_ 3 _ rfl; (with_reducible repeat (first | refine blk_drewN ?_ _ | refine blk_drew ?_ | refine blk_alloc ?_ _)); refine blk_put (cs := #[.int .i64 ((rd_T82 l0 x5_1).f0), .slice A157_1 ((rd_T82 l0 x5_1).f1).length c157_1, .bool false, .bool false, .int .i64 0]) ?_ 2 _ rfl; (with_reducible repeat (first | refine blk_drewN ?_ _ | refine blk_drew ?_ | refine blk_alloc ?_ _)); refine blk_put (cs := #[.int .i64 ((rd_T82 l0 x5_1).f0), .slice none 0 0, .bool false, .bool false, .int .i64 0]) ?_ 1 _ rfl; (with_reducible repeat (first | refine blk_drewN ?_ _ | refine blk_drew ?_ | refine blk_alloc ?_ _)); refine blk_put (cs := #[.int .i64 0, .slice none 0 0, .bool false, .bool false, .int .i64 0]) ?_ 0 _ rfl; (with_reducible repeat (first | refine blk_drewN ?_ _ | refine blk_drew ?_ | refine blk_alloc ?_ _)); exact BK158.out) hb); clear hb hbox hg; have hnb28 := NB160_158.out; have hnc28 := NB158_160.out; obtain ⟨hcz29_0, hcz29_1, hcz29_2, hcz29_3, hcz29_4, hfz29_0, hfz29_1, hfz29_2, hfz29_3, hfz29_4⟩ := cz5_ BK160.out; obtain ⟨hcz30_0, hcz30_1, hcz30_2, hcz30_3, hcz30_4, hfz30_0, hfz30_1, hfz30_2, hfz30_3, hfz30_4⟩ := cz5_ BK158.out) | (go_at_call 68; (with_reducible refine (spec_SamePath.calls k1 _ _ ((rd_T82 l0 x5_1).f1) _ _ ((rd_T82 l1 x5_1).f1) true _ ?s1 ?s2 ?s3 ?s4 A8.out).mono ?_); (case s1 => exact Kd.C_below HR157_1.out (by repeat (first | (with_reducible first | exact HB.out | apply below_alloc | apply pw_below_drewN | apply below_drew1 | refine below_set ?_ GE158.out | refine below_set ?_ GE160.out) | exact HB.out))); (case s2 => exact HC157_1.out); (case s3 => exact Kd.C_below HR159_1.out (by repeat (first | (with_reducible first | exact HB.out | apply below_alloc | apply pw_below_drewN | apply below_drew1 | refine below_set ?_ GE158.out | refine below_set ?_ GE160.out) | exact HB.out))); (case s4 => exact HC159_1.out); rintro e w' ⟨rfl, ⟨nd, rfl⟩⟩))
     go_roundg k1
     case measure => have := HK1.out; omega
     case rel => exact ⟨(wrap64 (x5_1 + 1)), rs_, H', ⟨by have := HK1.out; omega⟩, ⟨by repeat (first | (with_reducible first | exact HB.out | apply below_alloc | apply pw_below_drewN | apply below_drew1 | refine below_set ?_ GE158.out | refine below_set ?_ GE160.out) | exact HB.out)⟩⟩
   · replace c9 := Bool.eq_false_iff.mpr c9
     subst c9
     rw [if_neg nf_] at H
     obtain rfl := si_ H
     have p157 : 0 ≤ (x5_1 : Int) := od_
     have q157 : x5_1 < (l0.length : Int) := od_
     obtain ⟨ad157, A157_1, c157_1, e157, hx157_0, hx157_1, hx157_2, hx157_3, hx157_4, hl157_1, hi157_1⟩ := at_T82 HR0.out x5_1 p157 q157
     cases e157
     replace hx157_0 := bc_ HB.out hx157_0
     replace hx157_1 := bc_ HB.out hx157_1
     replace hx157_2 := bc_ HB.out hx157_2
     replace hx157_3 := bc_ HB.out hx157_3
     replace hx157_4 := bc_ HB.out hx157_4
     have HR157_1 := A_ hi157_1
     have HC157_1 := A_ hl157_1
     clear hi157_1 hl157_1
     replace p157 := eq_true p157
     replace q157 := eq_true q157
     go_wp2_with (first | ((with_reducible refine gd_ (N := 6) rfl ?_); refine bx_ (N := 6) (cs := #[.int .i64 0, .slice none 0 0, .bool false, .bool false, .int .i64 0]) (t := 82) ?_; intro gb158 hg w37 hbox hb; have BK158 := A_ (hbox); have GW158 := A_ (ge_ hg bB_ : w.heap.size ≤ gb158); have GE158 := A_ (ge_ hg bB_ : w.heap.size ≤ gb158); replace HB := A_ (below_step bB_ hb); clear hb hbox hg; obtain ⟨hcz38_0, hcz38_1, hcz38_2, hcz38_3, hcz38_4, hfz38_0, hfz38_1, hfz38_2, hfz38_3, hfz38_4⟩ := cz5_ BK158.out; have p159 : 0 ≤ (x5_1 : Int) := od_; have q159 : x5_1 < (l1.length : Int) := od_; obtain ⟨ad159, A159_1, c159_1, e159, hx159_0, hx159_1, hx159_2, hx159_3, hx159_4, hl159_1, hi159_1⟩ := at_T82 HR1.out x5_1 p159 q159; cases e159; have hn159_0 : ad159.block ≠ gb158 := Nat.ne_of_lt (Nat.lt_of_lt_of_le (by have := World.block_lt_of_cell? _ _ hx159_0; first | rwa [add_block] at this | exact this) GW158.out); have hn159_1 : ad159.block ≠ gb158 := Nat.ne_of_lt (Nat.lt_of_lt_of_le (by have := World.block_lt_of_cell? _ _ hx159_0; first | rwa [add_block] at this | exact this) GW158.out); have hn159_2 : ad159.block ≠ gb158 := Nat.ne_of_lt (Nat.lt_of_lt_of_le (by have := World.block_lt_of_cell? _ _ hx159_0; first | rwa [add_block] at this | exact this) GW158.out); have hn159_3 : ad159.block ≠ gb158 := Nat.ne_of_lt (Nat.lt_of_lt_of_le (by have := World.block_lt_of_cell? _ _ hx159_0; first | rwa [add_block] at this | exact this) GW158.out); have hn159_4 : ad159.block ≠ gb158 := Nat.ne_of_lt (Nat.lt_of_lt_of_le (by have := World.block_lt_of_cell? _ _ hx159_0; first | rwa [add_block] at this | exact this) GW158.out); replace hx159_0 := bc_ HB.out hx159_0; replace hx159_1 := bc_ HB.out hx159_1; replace hx159_2 := bc_ HB.out hx159_2; replace hx159_3 := bc_ HB.out hx159_3; replace hx159_4 := bc_ HB.out hx159_4; have HR159_1 := A_ hi159_1; have HC159_1 := A_ hl159_1; clear hi159_1 hl159_1; replace hx159_0 := (cell_far (p := ⟨gb158, 0, none⟩) (by first | (rw [add_block]; exact hn159_0) | (show (Addr.add _ _).block ≠ _; rw [add_block]; exact hn159_0) | exact hn159_0) (.int .i64 ((rd_T82 l0 x5_1).f0))).trans hx159_0; replace hx159_1 := (cell_far (p := ⟨gb158, 0, none⟩) (by first | (rw [add_block]; exact hn159_0) | (show (Addr.add _ _).block ≠ _; rw [add_block]; exact hn159_0) | exact hn159_0) (.int .i64 ((rd_T82 l0 x5_1).f0))).trans hx159_1; replace hx159_2 := (cell_far (p := ⟨gb158, 0, none⟩) (by first | (rw [add_block]; exact hn159_0) | (show (Addr.add _ _).block ≠ _; rw [add_block]; exact hn159_0) | exact hn159_0) (.int .i64 ((rd_T82 l0 x5_1).f0))).trans hx159_2; replace hx159_3 := (cell_far (p := ⟨gb158, 0, none⟩) (by first | (rw [add_block]; exact hn159_0) | (show (Addr.add _ _).block ≠ _; rw [add_block]; exact hn159_0) | exact hn159_0) (.int .i64 ((rd_T82 l0 x5_1).f0))).trans hx159_3; replace hx159_4 := (cell_far (p := ⟨gb158, 0, none⟩) (by first | (rw [add_block]; exact hn159_0) | (show (Addr.add _ _).block ≠ _; rw [add_block]; exact hn159_0) | exact hn159_0) (.int .i64 ((rd_T82 l0 x5_1).f0))).trans hx159_4; replace hx159_0 := (cell_far (p := ⟨gb158, 1, none⟩) (by first | (rw [add_block]; exact hn159_1) | (show (Addr.add _ _).block ≠ _; rw [add_block]; exact hn159_1) | exact hn159_1) (.slice A157_1 ((rd_T82 l0 x5_1).f1).length c157_1)).trans hx159_0; replace hx159_1 := (cell_far (p := ⟨gb158, 1, none⟩) (by first | (rw [add_block]; exact hn159_1) | (show (Addr.add _ _).block ≠ _; rw [add_block]; exact hn159_1) | exact hn159_1) (.slice A157_1 ((rd_T82 l0 x5_1).f1).length c157_1)).trans hx159_1; replace hx159_2 := (cell_far (p := ⟨gb158, 1, none⟩) (by first | (rw [add_block]; exact hn159_1) | (show (Addr.add _ _).block ≠ _; rw [add_block]; exact hn159_1) | exact hn159_1) (.slice A157_1 ((rd_T82 l0 x5_1).f1).length c157_1)).trans hx159_2; replace hx159_3 := (cell_far (p := ⟨gb158, 1, none⟩) (by first | (rw [add_block]; exact hn159_1) | (show (Addr.add _ _).block ≠ _; rw [add_block]; exact hn159_1) | exact hn159_1) (.slice A157_1 ((rd_T82 l0 x5_1).f1).length c157_1)).trans hx159_3; replace hx159_4 := (cell_far (p := ⟨gb158, 1, none⟩) (by first | (rw [add_block]; exact hn159_1) | (show (Addr.add _ _).block ≠ _; rw [add_block]; exact hn159_1) | exact hn159_1) (.slice A157_1 ((rd_T82 l0 x5_1).f1).length c157_1)).trans hx159_4; replace hx159_0 := (cell_far (p := ⟨gb158, 2, none⟩) (by first | (rw [add_block]; exact hn159_2) | (show (Addr.add _ _).block ≠ _; rw [add_block]; exact hn159_2) | exact hn159_2) (.bool ((rd_T82 l0 x5_1).f2))).trans hx159_0; replace hx159_1 := (cell_far (p := ⟨gb158, 2, none⟩) (by first | (rw [add_block]; exact hn159_2) | (show (Addr.add _ _).block ≠ _; rw [add_block]; exact hn159_2) | exact hn159_2) (.bool ((rd_T82 l0 x5_1).f2))).trans hx159_1; replace hx159_2 := (cell_far (p := ⟨gb158, 2, none⟩) (by first | (rw [add_block]; exact hn159_2) | (show (Addr.add _ _).block ≠ _; rw [add_block]; exact hn159_2) | exact hn159_2) (.bool ((rd_T82 l0 x5_1).f2))).trans hx159_2; replace hx159_3 := (cell_far (p := ⟨gb158, 2, none⟩) (by first | (rw [add_block]; exact hn159_2) | (show (Addr.add _ _).block ≠ _; rw [add_block]; exact hn159_2) | exact hn159_2) (.bool ((rd_T82 l0 x5_1).f2))).trans hx159_3; replace hx159_4 := (cell_far (p := ⟨gb158, 2, none⟩) (by first | (rw [add_block]; exact hn159_2) | (show (Addr.add _ _).block ≠ _; rw [add_block]; exact hn159_2) | exact hn159_2) (.bool ((rd_T82 l0 x5_1).f2))).trans hx159_4; replace hx159_0 := (cell_far (p := ⟨gb158, 3, none⟩) (by first | (rw [add_block]; exact hn159_3) | (show (Addr.add _ _).block ≠ _; rw [add_block]; exact hn159_3) | exact hn159_3) (.bool ((rd_T82 l0 x5_1).f3))).trans hx159_0; replace hx159_1 := (cell_far (p := ⟨gb158, 3, none⟩) (by first | (rw [add_block]; exact hn159_3) | (show (Addr.add _ _).block ≠ _; rw [add_block]; exact hn159_3) | exact hn159_3) (.bool ((rd_T82 l0 x5_1).f3))).trans hx159_1; replace hx159_2 := (cell_far (p := ⟨gb158, 3, none⟩) (by first | (rw [add_block]; exact hn159_3) | (show (Addr.add _ _).block ≠ _; rw [add_block]; exact hn159_3) | exact hn159_3) (.bool ((rd_T82 l0 x5_1).f3))).trans hx159_2; replace hx159_3 := (cell_far (p := ⟨gb158, 3, none⟩) (by first | (rw [add_block]; exact hn159_3) | (show (Addr.add _ _).block ≠ _; rw [add_block]; exact hn159_3) | exact hn159_3) (.bool ((rd_T82 l0 x5_1).f3))).trans hx159_3; replace hx159_4 := (cell_far (p := ⟨gb158, 3, none⟩) (by first | (rw [add_block]; exact hn159_3) | (show (Addr.add _ _).block ≠ _; rw [add_block]; exact hn159_3) | exact hn159_3) (.bool ((rd_T82 l0 x5_1).f3))).trans hx159_4; replace hx159_0 := (cell_far (p := ⟨gb158, 4, none⟩) (by first | (rw [add_block]; exact hn159_4) | (show (Addr.add _ _).block ≠ _; rw [add_block]; exact hn159_4) | exact hn159_4) (.int .i64 ((rd_T82 l0 x5_1).f4))).trans hx159_0; replace hx159_1 := (cell_far (p := ⟨gb158, 4, none⟩) (by first | (rw [add_block]; exact hn159_4) | (show (Addr.add _ _).block ≠ _; rw [add_block]; exact hn159_4) | exact hn159_4) (.int .i64 ((rd_T82 l0 x5_1).f4))).trans hx159_1; replace hx159_2 := (cell_far (p := ⟨gb158, 4, none⟩) (by first | (rw [add_block]; exact hn159_4) | (show (Addr.add _ _).block ≠ _; rw [add_block]; exact hn159_4) | exact hn159_4) (.int .i64 ((rd_T82 l0 x5_1).f4))).trans hx159_2; replace hx159_3 := (cell_far (p := ⟨gb158, 4, none⟩) (by first | (rw [add_block]; exact hn159_4) | (show (Addr.add _ _).block ≠ _; rw [add_block]; exact hn159_4) | exact hn159_4) (.int .i64 ((rd_T82 l0 x5_1).f4))).trans hx159_3; replace hx159_4 := (cell_far (p := ⟨gb158, 4, none⟩) (by first | (rw [add_block]; exact hn159_4) | (show (Addr.add _ _).block ≠ _; rw [add_block]; exact hn159_4) | exact hn159_4) (.int .i64 ((rd_T82 l0 x5_1).f4))).trans hx159_4; clear hn159_0; clear hn159_1; clear hn159_2; clear hn159_3; clear hn159_4; replace p159 := eq_true p159; replace q159 := eq_true q159) | ((with_reducible refine gd_ (N := 7) rfl ?_); refine bx_ (N := 7) (cs := #[.int .i64 0, .slice none 0 0, .bool false, .bool false, .int .i64 0]) (t := 82) ?_; intro gb160 hg w39 hbox hb; have BK160 := A_ (hbox); have GW160 := A_ (ge_ hg (bG_ GE158.out) : w.heap.size ≤ gb160); have GE160 := A_ (ge_ hg (bG_ GE158.out) : w.heap.size ≤ gb160); replace HB := A_ (below_step (bG_ GE158.out) hb); have NB158_160 := A_ ((by rw [hg]; exact Nat.ne_of_lt (blk_lt (g := gb158) (o := .cells #[.int .i64 ((rd_T82 l0 x5_1).f0), .slice A157_1 ((rd_T82 l0 x5_1).f1).length c157_1, .bool ((rd_T82 l0 x5_1).f2), .bool ((rd_T82 l0 x5_1).f3), .int .i64 ((rd_T82 l0 x5_1).f4)] 82 (0, 0)) (by (with_reducible repeat (first | refine blk_drewN ?_ _ | refine blk_drew ?_ | refine blk_alloc ?_ _)); refine blk_put (cs := #[.int .i64 ((rd_T82 l0 x5_1).f0), .slice A157_1 ((rd_T82 l0 x5_1).f1).length c157_1, .bool ((rd_T82 l0 x5_1).f2), .bool ((rd_T82 l0 x5_1).f3), .int .i64 0]) ?_ 4 _ rfl; (with_reducible repeat (first | refine blk_drewN ?_ _ | refine blk_drew ?_ | refine blk_alloc ?_ _)); refine blk_put (cs := #[.int .i64 ((rd_T82 l0 x5_1).f0), .slice A157_1 ((rd_T82 l0 x5_1).f1).length c157_1, .bool ((rd_T82 l0 x5_1).f2), .bool false, .int .i64 0]) ?_ 3 _ rfl; (with_reducible repeat (first | refine blk_drewN ?_ _ | refine blk_drew ?_ | refine blk_alloc ?_ _)); refine blk_put (cs := #[.int .i64 ((rd_T82 l0 x5_1).f0), .slice A157_1 ((rd_T82 l0 x5_1).f1).length c157_1, .bool false, .bool false, .int .i64 0]) ?_ 2 _ rfl; (with_reducible repeat (first | refine blk_drewN ?_ _ | refine blk_drew ?_ | refine blk_alloc ?_ _)); refine blk_put (cs := #[.int .i64 ((rd_T82 l0 x5_1).f0), .slice none 0 0, .bool false, .bool false, .int .i64 0]) ?_ 1 _ rfl; (with_reducible repeat (first | refine blk_drewN ?_ _ | refine blk_drew ?_ | refine blk_alloc ?_ _)); refine blk_put (cs := #[.int .i64 0, .slice none 0 0, .bool false, .bool false, .int .i64 0]) ?_ 0 _ rfl; (with_reducible repeat (first | refine blk_drewN ?_ _ | refine blk_drew ?_ | refine blk_alloc ?_ _)); exact BK158.out)) : gb158 ≠ gb160)); have NB160_158 := A_ ((by rw [hg]; exact Nat.ne_of_gt (blk_lt (g := gb158) (o := .cells #[.int .i64 ((rd_T82 l0 x5_1).f0), .slice A157_1 ((rd_T82 l0 x5_1).f1).length c157_1, .bool ((rd_T82 l0 x5_1).f2), .bool ((rd_T82 l0 x5_1).f3), .int .i64 ((rd_T82 l0 x5_1).f4)] 82 (0, 0)) (by (with_reducible repeat (first | refine blk_drewN ?_ _ | refine blk_drew ?_ | refine blk_alloc ?_ _)); refine blk_put (cs := #[.int .i64 ((rd_T82 l0 x5_1).f0), .slice A157_1 ((rd_T82 l0 x5_1).f1).length c157_1, .bool ((rd_T82 l0 x5_1).f2), .bool ((rd_T82 l0 x5_1).f3), .int .i64 0]) ?_ 4 _ rfl; (with_reducible repeat (first | refine blk_drewN ?_ _ | refine blk_drew ?_ | refine blk_alloc ?_ _)); refine blk_put (cs := #[.int .i64 ((rd_T82 l0 x5_1).f0), .slice A157_1 ((rd_T82 l0 x5_1).f1).length c157_1, .bool ((rd_T82 l0 x5_1).f2), .bool false, .int .i64 0]) ?_ 3 _ rfl; (with_reducible repeat (first | refine blk_drewN ?_ _ | refine blk_drew ?_ | refine blk_alloc ?_ _)); refine blk_put (cs := #[.int .i64 ((rd_T82 l0 x5_1).f0), .slice A157_1 ((rd_T82 l0 x5_1).f1).length c157_1, .bool false, .bool false, .int .i64 0]) ?_ 2 _ rfl; (with_reducible repeat (first | refine blk_drewN ?_ _ | refine blk_drew ?_ | refine blk_alloc ?_ _)); refine blk_put (cs := #[.int .i64 ((rd_T82 l0 x5_1).f0), .slice none 0 0, .bool false, .bool false, .int .i64 0]) ?_ 1 _ rfl; (with_reducible repeat (first | refine blk_drewN ?_ _ | refine blk_drew ?_ | refine blk_alloc ?_ _)); refine blk_put (cs := #[.int .i64 0, .slice none 0 0, .bool false, .bool false, .int .i64 0]) ?_ 0 _ rfl; (with_reducible repeat (first | refine blk_drewN ?_ _ | refine blk_drew ?_ | refine blk_alloc ?_ _)); exact BK158.out)) : gb160 ≠ gb158)); replace BK158 := A_ (blk_below (g := gb158) (o := .cells #[.int .i64 ((rd_T82 l0 x5_1).f0), .slice A157_1 ((rd_T82 l0 x5_1).f1).length c157_1, .bool ((rd_T82 l0 x5_1).f2), .bool ((rd_T82 l0 x5_1).f3), .int .i64 ((rd_T82 l0 x5_1).f4)] 82 (0, 0)) (by (with_reducible repeat (first | refine blk_drewN ?_ _ | refine blk_drew ?_ | refine blk_alloc ?_ _)); refine blk_put (cs := #[.int .i64 ((rd_T82 l0 x5_1).f0), .slice A157_1 ((rd_T82 l0 x5_1).f1).length c157_1, .bool ((rd_T82 l0 x5_1).f2), .bool ((rd_T82 l0 x5_1).f3), .int .i64 0]) ?_ 4 _ rfl; (with_reducible repeat (first | refine blk_drewN ?_ _ | refine blk_drew ?_ | refine blk_alloc ?_ _)); refine blk_put (cs := #[.int .i64 ((rd_T82 l0 x5_1).f0), .slice A157_1 ((rd_T82 l0 x5_1).f1).length c157_1, .bool ((rd_T82 l0 x5_1).f2), .bool false, .int .i64 0]) ?_ 3 _ rfl; (with_reducible repeat (first | refine blk_drewN ?_ _ | refine blk_drew ?_ | refine blk_alloc ?_ _)); refine blk_put (cs := #[.int .i64 ((rd_T82 l0 x5_1).f0), .slice A157_1 ((rd_T82 l0 x5_1).f1).length c157_1, .bool false, .bool false, .int .i64 0]) ?_ 2 _ rfl; (with_reducible repeat (first | refine blk_drewN ?_ _ | refine blk_drew ?_ | refine blk_alloc ?_ _)); refine blk_put (cs := #[.int .i64 ((rd_T82 l0 x5_1).f0), .slice none 0 0, .bool false, .bool false, .int .i64 0]) ?_ 1 _ rfl; (with_reducible repeat (first | refine blk_drewN ?_ _ | refine blk_drew ?_ | refine blk_alloc ?_ _)); refine blk_put (cs := #[.int .i64 0, .slice none 0 0, .bool false, .bool false, .int .i64 0]) ?_ 0 _ rfl; (with_reducible repeat (first | refine blk_drewN ?_ _ | refine blk_drew ?_ | refine blk_alloc ?_ _)); exact BK158.out) hb); clear hb hbox hg; have hnb40 := NB160_158.out; have hnc40 := NB158_160.out; obtain ⟨hcz41_0, hcz41_1, hcz41_2, hcz41_3, hcz41_4, hfz41_0, hfz41_1, hfz41_2, hfz41_3, hfz41_4⟩ := cz5_ BK160.out; obtain ⟨hcz42_0, hcz42_1, hcz42_2, hcz42_3, hcz42_4, hfz42_0, hfz42_1, hfz42_2, hfz42_3, hfz42_4⟩ := cz5_ BK158.out) | (go_at_call 68; (with_reducible refine (spec_SamePath.calls k1 _ _ ((rd_T82 l0 x5_1).f1) _ _ ((rd_T82 l1 x5_1).f1) false _ ?s1 ?s2 ?s3 ?s4 A8.out).mono ?_); (case s1 => exact Kd.C_below HR157_1.out (by repeat (first | (with_reducible first | exact HB.out | apply below_alloc | apply pw_below_drewN | apply below_drew1 | refine below_set ?_ GE158.out | refine below_set ?_ GE160.out) | exact HB.out))); (case s2 => exact HC157_1.out); (case s3 => exact Kd.C_below HR159_1.out (by repeat (first | (with_reducible first | exact HB.out | apply below_alloc | apply pw_below_drewN | apply below_drew1 | refine below_set ?_ GE158.out | refine below_set ?_ GE160.out) | exact HB.out))); (case s4 => exact HC159_1.out); rintro e w' ⟨rfl, ⟨nd, rfl⟩⟩))
     go_ret
     exact ⟨rr_, by repeat (first | (with_reducible first | exact HB.out | apply below_alloc | apply pw_below_drewN | apply below_drew1 | refine below_set ?_ GE158.out | refine below_set ?_ GE160.out) | exact HB.out)⟩
def spec_l15SameInts.l0 : Nat → List Int → List Int → Int → Option (Bool)
 | 0, _, _, _ => none
 | k + 1, x0, x1, x5 => if x5 < (x0.length : Int) then (if 0 ≤ x5 then (if x5 < (x1.length : Int) then (if (rd x0 x5) = (rd x1 x5) then (spec_l15SameInts.l0 k x0 x1 (wrap64 (x5 + 1))) else (some false)) else (none)) else (none)) else (some true)
def spec_l15SameInts.f (k : Nat) (l0 : List Int) (l1 : List Int) : Option (Bool) := if (l0.length : Int) = (l1.length : Int) then (spec_l15SameInts.l0 k l0 l1 0) else (some false)
theorem spec_l15SameInts.calls (k : Nat) (A0 : Option Addr) (c0 : Nat) (l0 : List Int) (A1 : Option Addr) (c1 : Nat) (l1 : List Int) (r : Bool) (w : World) (hr0 : Kd.C (Kd.int .i64) w A0 l0.length l0) (hc0 : l0.length ≤ c0) (hr1 : Kd.C (Kd.int .i64) w A1 l1.length l1) (hc1 : l1.length ≤ c1) (h : spec_l15SameInts.f k l0 l1 = some r) :
 Calls Try.prog 49 #[.slice A0 l0.length c0, .slice A1 l1.length c1] w fun e w' => e = .returned (.bool r) ∧ Drawn0 w w' := by
 have HR0 := A_ hr0
 have HC0 := A_ hc0
 clear hr0 hc0
 have HR1 := A_ hr1
 have HC1 := A_ hc1
 clear hr1 hc1
 have H : (if (l0.length : Int) = (l1.length : Int) then (spec_l15SameInts.l0 k l0 l1 0) else (some false)) = some r := h
 clear h
 by_cases c3 : (l0.length : Int) = (l1.length : Int)
 rotate_left
 · rw [if_neg c3] at H
   have c3b0 : ((l0.length : Int) == (l1.length : Int)) = false := beq_eq_false_iff_ne.mpr c3
   have c3b1 : ((l0.length : Int) != (l1.length : Int)) = true := bne_iff_ne.mpr c3
   have c3b2 : (l0.length == l1.length) = false := by first | simpa using c3 | (simp at c3 ⊢; omega)
   obtain rfl := si_ H
   go_enter Try.func49, Try.ntmps49
   go_wp2
   repeat (go_quiet (fail); try go_wp2)
   go_ret
   exact ⟨rs_, dr_⟩
 rw [if_pos c3] at H
 have c3b0 : ((l0.length : Int) == (l1.length : Int)) = true := beq_iff_eq.mpr c3
 have c3b1 : ((l0.length : Int) != (l1.length : Int)) = false := bne_eq_false_iff_eq.mpr c3
 have c3b2 : (l0.length == l1.length) = true := by first | simpa using c3 | (simp at c3 ⊢; omega)
 clear c3
 have H' := A_ H
 clear H
 go_enter Try.func49, Try.ntmps49
 go_wp2
 repeat (go_quiet (fail); try go_wp2)
 go_loopg [5] k (fun kq v5 w' => ∃ (x5_1 : Int), v5 = .int .i64 x5_1 ∧ Aside0 (spec_l15SameInts.l0 kq l0 l1 x5_1 = some r) ∧ Aside0 (kq ≤ k) ∧ Drawn0 w w')
 case atStart => exact ⟨(0), rs_, H', ⟨Nat.le_refl _⟩, dr_⟩
 case round =>
  clear H'
  try clear c1
  try clear p2
  try clear c3
  try clear c3b0
  try clear c3b1
  try clear c3b2
  obtain ⟨x5_1, rfl, HA, HK1, ⟨m1, rfl⟩⟩ := hrel
  cases gk with
  | zero => exact absurd HA.out (by simp [spec_l15SameInts.l0])
  | succ k1 =>
   have H := HA.out
   clear HA
   simp only [spec_l15SameInts.l0] at H
   by_cases c4 : x5_1 < (l0.length : Int)
   rotate_left
   · rw [if_neg c4] at H
     have c4b0 : decide (x5_1 < (l0.length : Int)) = false := decide_eq_false c4
     clear c4
     obtain rfl := si_ H
     go_wp2
     repeat (go_quiet (fail); try go_wp2)
     go_ret
     exact ⟨rs_, dr_⟩
   rw [if_pos c4] at H
   have c4b0 : decide (x5_1 < (l0.length : Int)) = true := decide_eq_true c4
   clear c4
   by_cases c5 : 0 ≤ x5_1
   rotate_left
   · exact absurd H (by rw [if_neg c5]; simp)
   rw [if_pos c5] at H
   have c5b0 : decide (0 ≤ x5_1) = true := decide_eq_true c5
   clear c5
   by_cases c6 : x5_1 < (l1.length : Int)
   rotate_left
   · exact absurd H (by rw [if_neg c6]; simp)
   rw [if_pos c6] at H
   have c6b0 : decide (x5_1 < (l1.length : Int)) = true := decide_eq_true c6
   clear c6
   by_cases c7 : (rd l0 x5_1) = (rd l1 x5_1)
   rotate_left
   · rw [if_neg c7] at H
     have c7b0 : ((rd l0 x5_1) == (rd l1 x5_1)) = false := beq_eq_false_iff_ne.mpr c7
     have c7b1 : ((rd l0 x5_1) != (rd l1 x5_1)) = true := bne_iff_ne.mpr c7
     obtain rfl := si_ H
     have p162 : 0 ≤ (x5_1 : Int) := od_
     have q162 : x5_1 < (l0.length : Int) := od_
     obtain ⟨ad162, e162, hx162_0⟩ := Kd.at_int HR0.out x5_1 p162 q162
     cases e162
     replace p162 := eq_true p162
     replace q162 := eq_true q162
     have p163 : 0 ≤ (x5_1 : Int) := od_
     have q163 : x5_1 < (l1.length : Int) := od_
     obtain ⟨ad163, e163, hx163_0⟩ := Kd.at_int HR1.out x5_1 p163 q163
     cases e163
     replace p163 := eq_true p163
     replace q163 := eq_true q163
     go_wp2
     repeat (go_quiet (fail); try go_wp2)
     go_ret
     exact ⟨rs_, dr_⟩
   rw [if_pos c7] at H
   have c7b0 : ((rd l0 x5_1) == (rd l1 x5_1)) = true := beq_iff_eq.mpr c7
   have c7b1 : ((rd l0 x5_1) != (rd l1 x5_1)) = false := bne_eq_false_iff_eq.mpr c7
   clear c7
   have H' := A_ H
   clear H
   have p162 : 0 ≤ (x5_1 : Int) := od_
   have q162 : x5_1 < (l0.length : Int) := od_
   obtain ⟨ad162, e162, hx162_0⟩ := Kd.at_int HR0.out x5_1 p162 q162
   cases e162
   replace p162 := eq_true p162
   replace q162 := eq_true q162
   have p163 : 0 ≤ (x5_1 : Int) := od_
   have q163 : x5_1 < (l1.length : Int) := od_
   obtain ⟨ad163, e163, hx163_0⟩ := Kd.at_int HR1.out x5_1 p163 q163
   cases e163
   replace p163 := eq_true p163
   replace q163 := eq_true q163
   go_wp2
   repeat (go_quiet (fail); try go_wp2)
   go_roundg k1
   case measure => have := HK1.out; omega
   case rel => exact ⟨(wrap64 (x5_1 + 1)), rs_, H', ⟨by have := HK1.out; omega⟩, dr_⟩
end Go.Proofs.Ytigoeooelfeopaa.Q
